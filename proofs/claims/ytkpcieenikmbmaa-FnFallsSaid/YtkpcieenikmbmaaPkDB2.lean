/- Texts of this seat's claims, put together: EvG, EvH, EvI, EvJ, EvK, EvL, EvM -/
import Derived.Test.YtkpcieenikmbmaaPkDB1
/- Each operation comes to what is told of it: stores, appends, rows made. -/
namespace Go.Proofs.Ytkpcieenikmbmaa.E
open Go Go.RowKit Go.Proofs.YtkpcieenikmbmaaW.PrintWords
set_option linter.unusedVariables false
set_option linter.unusedSimpArgs false

section
variable {E : Env} {h : List Blk} {K : Kont}

theorem putL_length {α : Type} (cs vs : List α) (o : Nat) (hl : o + vs.length ≤ cs.length) : (putL cs o vs).length = cs.length := by
  simp only [putL, List.length_append, List.length_take, List.length_drop]
  omega

theorem RepsL.put_list {G : Gh} {w : World} {cs ds : List PV} {vs us : List Value} (o : Nat) (h1 : RepsL G w cs vs) (h2 : RepsL G w ds us) : RepsL G w (putL cs o ds) (vs.take o ++ us ++ vs.drop (o + us.length)) := by
  unfold putL
  rw [h2.length]
  exact ((h1.take o).append h2).append (h1.drop _)

theorem run_store {w : World} {b o t : Nat} {i : TI} {vs : Array Value} {ty : TypeId} {x : Value} (hf : TyFact E.P t i) (hs : x.cells.size = i.size) (hb : w.heap[b]? = some (.cells vs ty (0, 0))) (hl : o + i.size ≤ vs.size) (h1 : ∀ u ∈ x.cells.toList, u.oneCell' = true) :
    (do Instr.storeAt t (.pointer (some ⟨b, o, none⟩)) x; pure undef : Sem Value).run E.P w = .ok undef (w.setRow b (vs.toList.take o ++ x.cells.toList ++ vs.toList.drop (o + x.cells.toList.length)).toArray) := by
  have hc := run_storeCells_at E.P b o ty x.cells.toList 0 vs w hb (by simp; omega) h1
  simp only [Nat.add_zero] at hc
  simp [Instr.storeAt, Instr.sureAddr, storeVar, hf.sizeOf w, hs, hc]

theorem store_ok {t : Nat} {p x : PV} (hk : aStore E h t p x K) : Step E.P h (fun G w m => ∃ v u, Reps G w p v ∧ Reps G w x u ∧ m = (do Instr.storeAt t v u; pure undef)) K := by
  unfold aStore at hk
  cases hl : look E.T t with
  | none => rw [hl] at hk; exact hk.elim
  | some i =>
    cases hc : pcells x with
    | none => rw [hl, hc] at hk; exact hk.elim
    | some cs =>
      rw [hl, hc] at hk
      simp only at hk
      have hf := Env.fact hl
      cases p with
      | ptr id o =>
        simp only at hk
        cases hb : nthB h id with
        | none => rw [hb] at hk; exact hk.elim
        | some B =>
          rw [hb] at hk
          cases B with
          | arr sz ty fz els => exact hk.elim
          | box ty ds =>
            simp only at hk
            obtain ⟨k1, k2, hk⟩ := hk
            refine ⟨_, _, _, _, hk, fun j hj => nthB_putB_ne h id j _ (by simpa using hj), by rw [len_putB]; exact Nat.le_refl _, fun G w m hi hm hr => ?_⟩
            obtain ⟨v, u, hv, hu, rfl⟩ := hm
            have r := hr id (by simp)
            rw [hb] at r
            obtain ⟨b, vs, rfl, h1, h2, h3, h4⟩ := r.box_at hv
            obtain ⟨h5, h6⟩ := pcells_ok hc hu
            have h7 := h5.length
            have h8 := h4.length
            rw [Array.length_toList] at h8 h7
            have hrun := run_store (w := w) (o := o) hf (by omega) h2 (by omega) h6
            have hsz : (vs.toList.take o ++ u.cells.toList ++ vs.toList.drop (o + u.cells.toList.length)).toArray.size = vs.size := by
              simp only [List.size_toArray, List.length_append, List.length_take, List.length_drop, Array.length_toList]
              omega
            have hb' := setRow_heap w b vs (vs.toList.take o ++ u.cells.toList ++ vs.toList.drop (o + u.cells.toList.length)).toArray ty (0, 0) h2
            have X := ext_written (w' := w.setRow b (vs.toList.take o ++ u.cells.toList ++ vs.toList.drop (o + u.cells.toList.length)).toArray) hi h1 r.1 h2 hb' hsz (by simp [World.setRow]) (fun k hk' => setRow_other w b k _ hk') rfl rfl rfl
            refine ⟨_, _, G, hrun, X, by simp [Reps], fun j hj => ?_⟩
            simp only [List.mem_singleton] at hj
            subst hj
            rw [nthB_putB_same _ hb]
            have hlen : (putL ds o cs).length = ds.length := putL_length ds cs o (by omega)
            refine ⟨by rw [hlen]; exact r.1, r.2.1, b, _, h1, hb', ?_, ?_⟩
            · intro z hz
              simp only [List.mem_append] at hz
              rcases hz with (hz | hz) | hz
              · exact h3 z (List.mem_of_mem_take hz)
              · exact h6 z hz
              · exact h3 z (List.mem_of_mem_drop hz)
            · exact RepsL.ext X hi _ _ (h4.put_list o h5)
      | eptr id n e o =>
        simp only at hk
        cases hb : nthB h id with
        | none => rw [hb] at hk; exact hk.elim
        | some B =>
          rw [hb] at hk
          cases B with
          | box ty ds => exact hk.elim
          | arr sz ty fz els =>
            cases fz with
            | true => exact hk.elim
            | false =>
              simp only at hk
              obtain ⟨cvs, f, ⟨k1, k2, k3, el, k4, k5, els', rfl, hk⟩, f1, f2, f3⟩ := toCs_ok hk
              have hnf : id ∉ f := by simpa using k2
              have hbf : nthB (frz f h) id = some (.arr sz ty false els) := by rw [nthB_frz, if_neg hnf, hb]
              refine ⟨_, _, _, _, hk, fun j hj => ?_, by rw [len_putB, len_frz]; exact Nat.le_refl _, fun G w m hi hm hr => ?_⟩
              · simp only [List.mem_cons, not_or] at hj
                rw [nthB_putB_ne _ _ _ _ hj.1, nthB_frz, if_neg hj.2]
              obtain ⟨v, u, hv, hu, rfl⟩ := hm
              have r := hr id (by simp)
              rw [hb] at r
              have hlt : e < n := by rw [k3]; exact (List.getElem?_eq_some_iff.1 k4).1
              obtain ⟨b, vs, rfl, h1, h2, h3, h4⟩ := r.arr_at k3 hlt hv
              obtain ⟨h5, h6⟩ := pcells_ok hc hu
              have h7 := h5.length
              rw [Array.length_toList] at h7
              have he : e * sz + sz ≤ els.length * sz := by rw [← Nat.succ_mul]; exact Nat.mul_le_mul_right _ (by omega)
              have hrun := run_store (w := w) (o := e * sz + o) hf (by omega) h2 (by omega) h6
              have hsz : (vs.toList.take (e * sz + o) ++ u.cells.toList ++ vs.toList.drop (e * sz + o + u.cells.toList.length)).toArray.size = vs.size := by
                simp only [List.size_toArray, List.length_append, List.length_take, List.length_drop, Array.length_toList]
                omega
              have hb' := setRow_heap w b vs (vs.toList.take (e * sz + o) ++ u.cells.toList ++ vs.toList.drop (e * sz + o + u.cells.toList.length)).toArray ty (0, 0) h2
              have hrf : ∀ j ∈ f, RelB G w j (nthB h j) := fun j hj => hr j (by simp [hj])
              have X0 := ext_frz hi f
              have hi0 := hi.ext X0
              have hinf : (G.frz f).inf id = some (sz, els.length, false) := by
                simp only [Gh.frz]
                rw [if_neg hnf]
                exact r.1
              have X1 := ext_written (G := G.frz f) (w' := w.setRow b (vs.toList.take (e * sz + o) ++ u.cells.toList ++ vs.toList.drop (e * sz + o + u.cells.toList.length)).toArray) hi0 h1 hinf h2 hb' hsz (by simp [World.setRow]) (fun k hk' => setRow_other w b k _ hk') rfl rfl rfl
              have X := Ext.mono (ids2 := id :: f) (Ext.trans hi X0 X1) (fun j hj => by
                simp only [List.mem_append, List.mem_singleton] at hj
                rcases hj with hj | hj <;> simp [hj])
              refine ⟨_, _, G.frz f, hrun, X, by simp [Reps], fun j hj => ?_⟩
              have hfr := frz_rel hi hrf f1
              by_cases hj' : j = id
              · subst hj'
                rw [nthB_putB_same _ hbf]
                have hI := RepE.mono (imm_old X0 hi) sz els _ h4
                have hcv := f3 G w _ f hi h5 hrf (fun j hj => hj)
                refine ⟨by rw [List.length_set]; exact hinf, r.2.1, r.2.2.1, .inr ⟨b, _, h1, hb', by rw [List.length_set, hsz]; exact h3, ?_⟩⟩
                refine RepE.mono (imm_old X1 hi0) sz _ _ (RepE.mk fun q y hy => ?_)
                rw [List.getElem?_set] at hy
                have hul : u.cells.toList.length = cs.length := by rw [Array.length_toList]; exact h7
                split at hy
                · rename_i heq
                  subst heq
                  split at hy
                  · injection hy with hy
                    subst hy
                    obtain ⟨a1, a2⟩ := hI.at e el k4
                    refine ⟨by rw [putL_length _ _ _ (by omega)]; exact a1, ?_⟩
                    have e1 : (vs.toList.take (e * sz + o) ++ u.cells.toList ++ vs.toList.drop (e * sz + o + u.cells.toList.length)).drop (e * sz) = ((vs.toList.drop (e * sz)).take o ++ u.cells.toList) ++ (vs.toList.drop (e * sz)).drop (o + u.cells.toList.length) := by
                      rw [List.drop_append_of_le_length (by simp; omega), List.drop_append_of_le_length (by simp; omega), List.drop_take, List.drop_drop, Nat.add_sub_cancel_left, Nat.add_assoc]
                    show RepP _ w _ ((vs.toList.take (e * sz + o) ++ u.cells.toList ++ vs.toList.drop (e * sz + o + u.cells.toList.length)).drop (e * sz))
                    rw [e1]
                    unfold putL
                    refine RepP.append (RepP.append (RepP.take o a2) ?_ hcv) ?_ ?_
                    · rw [List.length_take, List.length_take, List.length_drop, Array.length_toList]
                      omega
                    · simp only [List.length_append, List.length_take, List.length_drop, Array.length_toList]
                      omega
                    · rw [hul, f2]
                      exact RepP.drop _ a2
                  · cases hy
                · rename_i hne
                  obtain ⟨a1, a2⟩ := hI.at q y hy
                  refine ⟨a1, ?_⟩
                  show RepP _ w _ ((vs.toList.take (e * sz + o) ++ u.cells.toList ++ vs.toList.drop (e * sz + o + u.cells.toList.length)).drop (q * sz))
                  have a3 := RepP.take y.length a2
                  rw [List.take_length] at a3
                  have hq : q < els.length := (List.getElem?_eq_some_iff.1 hy).1
                  have hqs : q * sz + sz ≤ els.length * sz := by rw [← Nat.succ_mul]; exact Nat.mul_le_mul_right _ (by omega)
                  have e1 : ((vs.toList.take (e * sz + o) ++ u.cells.toList ++ vs.toList.drop (e * sz + o + u.cells.toList.length)).drop (q * sz)).take y.length = (vs.toList.drop (q * sz)).take y.length := by
                    rw [a1]
                    apply List.ext_getElem?
                    intro z
                    rw [List.getElem?_take, List.getElem?_take]
                    split
                    · rename_i hz
                      rw [List.getElem?_drop, List.getElem?_drop]
                      rcases Nat.lt_or_gt_of_ne (Ne.symm hne) with hlt' | hgt
                      · have : q * sz + sz ≤ e * sz := by rw [← Nat.succ_mul]; exact Nat.mul_le_mul_right _ hlt'
                        rw [List.getElem?_append_left (by simp; omega), List.getElem?_append_left (by simp; omega), List.getElem?_take, if_pos (by omega)]
                      · have : e * sz + sz ≤ q * sz := by rw [← Nat.succ_mul]; exact Nat.mul_le_mul_right _ hgt
                        rw [List.getElem?_append_right (by simp; omega), List.getElem?_drop]
                        congr 1
                        simp
                        omega
                    · rfl
                  rw [← e1] at a3
                  exact a3.of_take _
              · have hjf : j ∈ f := by
                  rcases List.mem_cons.1 hj with hj | hj
                  · exact absurd hj hj'
                  · exact hj
                rw [nthB_putB_ne _ _ _ _ hj']
                exact RelB.ext X1 hi0 (by simpa using hj') (hfr j hjf)
      | _ => exact hk.elim
end
end Go.Proofs.Ytkpcieenikmbmaa.E

/- Each operation comes to what is told of it: appends, and rows made whole. -/
namespace Go.Proofs.Ytkpcieenikmbmaa.E
open Go Go.RowKit Go.Proofs.YtkpcieenikmbmaaW.PrintWords
set_option linter.unusedVariables false
set_option linter.unusedSimpArgs false

section
variable {E : Env} {h : List Blk} {K : Kont}

def Gh.regrow (G : Gh) (id : Nat) (g : Option Nat) (r : Nat × Nat × Bool) : Gh :=
  { G with own := fun x => if some x = g then some id else if G.own x = some id then none else G.own x, inf := fun x => if x = id then some r else G.inf x }

theorem ext_regrow {G : Gh} {w w' : World} (hi : Inv G w) {id sz n m : Nat} {row g : Option Nat} (hinf : G.inf id = some (sz, n, false)) (hm : 0 < m) (hg : w.grownBy w' row) (hrow : ∀ b, row = some b → G.own b = some id)
    (hgn : ∀ b, g = some b → b < w'.heap.size ∧ (G.own b = some id ∨ w.heap.size ≤ b)) : Ext [id] G w (G.regrow id g (sz, n + m, false)) w' where
  os := hg.os
  tape := hg.tape
  output := hg.output
  size := hg.size
  base := rfl
  old := rfl
  nn := fun b hb h0 => by
    have hne : some b ≠ g := fun e => by
      rcases (hgn b e.symm).2 with a | a
      · rw [h0] at a; cases a
      · omega
    refine ⟨?_, hg.block b hb (fun e => by have := hrow b e.symm; rw [h0] at this; cases this)⟩
    simp only [Gh.regrow]
    rw [if_neg hne, h0]
    rfl
  sm := fun b j h0 => by
    by_cases e : j = id
    · subst e
      refine ⟨fun hn => absurd (by simp) hn, ?_⟩
      simp only [Gh.regrow]
      split
      · exact .inl rfl
      · first
        | exact .inr rfl
        | exact .inr (if_pos h0)
    · have hne : some b ≠ g := fun e' => by
        rcases (hgn b e'.symm).2 with a | a
        · rw [h0] at a
          injection a with a
          exact e a
        · exact absurd (hi.own b j h0) (by omega)
      have h1 : (G.regrow id g (sz, n + m, false)).own b = some j := by
        simp only [Gh.regrow]
        rw [if_neg hne, if_neg (fun e' => e (by rw [h0] at e'; injection e'))]
        exact h0
      exact ⟨fun _ => ⟨h1, hg.block b (hi.own b j h0) (fun e' => by have := hrow b e'.symm; rw [h0] at this; injection this with this; exact e this)⟩, .inl h1⟩
  same := fun b j cs ty h0 h1 h2 hc => by
    by_cases e : j = id
    · subst e
      obtain ⟨s1, n1, f1, f2, a1, a2⟩ := h2
      rw [hinf] at a1
      simp only [Gh.regrow, if_pos] at a2
      cases a1
      injection a2 with a2
      injection a2 with _ a2
      injection a2 with a2 _
      omega
    · refine ⟨cs, ?_, rfl⟩
      rw [hg.block b (hi.own b j h0) (fun e' => by have := hrow b e'.symm; rw [h0] at this; injection this with this; exact e this)]
      exact hc
  fz := fun b j s k h0 hf => by
    have e : j ≠ id := fun e => by subst e; rw [hinf] at hf; cases hf
    have hne : some b ≠ g := fun e' => by
      rcases (hgn b e'.symm).2 with a | a
      · rw [h0] at a
        injection a with a
        exact e a
      · exact absurd (hi.own b j h0) (by omega)
    refine ⟨?_, hg.block b (hi.own b j h0) (fun e' => by have := hrow b e'.symm; rw [h0] at this; injection this with this; exact e this)⟩
    simp only [Gh.regrow]
    rw [if_neg hne, if_neg (fun e' => e (by rw [h0] at e'; injection e'))]
    exact h0
  inf := fun j s k f hf => by
    by_cases e : j = id
    · subst e
      rw [hinf] at hf
      cases hf
      exact ⟨n + m, false, by simp [Gh.regrow], by omega, (fun e => by cases e), fun e => by omega⟩
    · refine ⟨k, f, by simp [Gh.regrow, e, hf], Nat.le_refl _, fun e => ⟨e, rfl⟩, fun _ b hb => ?_⟩
      have hne : some b ≠ g := fun e' => by
        rcases (hgn b e'.symm).2 with a | a
        · rw [hb] at a
          injection a with a
          exact e a
        · exact absurd (hi.own b j hb) (by omega)
      simp only [Gh.regrow]
      rw [if_neg hne, if_neg (fun e' => e (by rw [hb] at e'; injection e'))]
      exact hb
  out := fun j hn => by
    simp only [Gh.regrow]
    rw [if_neg (by simpa using hn)]
  new := fun b j hb h1 => by
    simp only [Gh.regrow] at h1
    split at h1
    · injection h1 with h1
      simp [h1]
    · split at h1
      · cases h1
      · exact absurd (hi.own b j h1) (by omega)
  keep := fun b j h1 => by
    simp only [Gh.regrow] at h1
    split at h1
    · rename_i e
      exact (hgn b e.symm).1
    · split at h1
      · cases h1
      · exact Nat.lt_of_lt_of_le (hi.own b j h1) hg.size

theorem RepE.append {I : Nat → Prop} {w : World} {sz : Nat} {l k : List (List CV)} {vs us : List Value} (h1 : RepE I w sz l vs) (hl : vs.length = l.length * sz) (h2 : RepE I w sz k us) : RepE I w sz (l ++ k) (vs ++ us) := by
  refine RepE.mk fun e el he => ?_
  by_cases hlt : e < l.length
  · rw [List.getElem?_append_left hlt] at he
    obtain ⟨a, b⟩ := h1.at e el he
    refine ⟨a, ?_⟩
    have hm : e * sz + sz ≤ vs.length := by rw [hl, ← Nat.succ_mul]; exact Nat.mul_le_mul_right _ hlt
    rw [List.drop_append_of_le_length (by omega)]
    have h3 := RepP.take el.length b
    rw [List.take_length] at h3
    have e1 : (vs.drop (e * sz)).take el.length = (vs.drop (e * sz) ++ us).take el.length := by
      rw [List.take_append_of_le_length (by rw [List.length_drop]; omega)]
    rw [e1] at h3
    exact h3.of_take _
  · rw [List.getElem?_append_right (by omega)] at he
    obtain ⟨a, b⟩ := h2.at _ el he
    refine ⟨a, ?_⟩
    have e1 : e * sz = vs.length + (e - l.length) * sz := by
      rw [hl, ← Nat.add_mul]
      congr 1
      omega
    rw [e1, ← List.drop_drop, List.drop_left]
    exact b

theorem RepP.one {I : Nat → Prop} {w : World} : ∀ {l : List CV} {vs : List Value}, RepP I w l vs → ∀ u ∈ vs.take l.length, u.oneCell' = true
  | [], vs, _, u, hu => by simp at hu
  | p :: ps, vs, h, u, hu => by
    simp only [RepP] at h
    obtain ⟨v, vs', rfl, h1, h2⟩ := h
    simp only [List.length_cons, List.take_succ_cons, List.mem_cons] at hu
    rcases hu with rfl | hu
    · cases p with
      | row l =>
        simp only [RepC] at h1
        obtain ⟨A, c, rfl, _⟩ := h1
        rfl
      | _ =>
        simp only [RepC] at h1
        subst h1
        rfl
    · exact RepP.one h2 u hu
theorem RepE.one {I : Nat → Prop} {w : World} {sz : Nat} : ∀ {l : List (List CV)} {vs : List Value}, RepE I w sz l vs → ∀ u ∈ vs.take (l.length * sz), u.oneCell' = true
  | [], vs, _, u, hu => by simp at hu
  | e :: es, vs, h, u, hu => by
    simp only [RepE] at h
    rw [List.length_cons, Nat.add_mul, Nat.one_mul, Nat.add_comm, List.take_add] at hu
    rcases List.mem_append.1 hu with hu | hu
    · have := h.2.1.one
      rw [h.1] at this
      exact this u hu
    · exact RepE.one h.2.2 u hu

theorem run_app {P : Program} {w : World} {t t2 ty e : TypeId} {i : TypeInfo} {z : Value} {d2 : TypeDesc} (ht : P.underlying t = some (.slice e)) (hi : P.info? e = some i) (hz : i.zero = some z) (hzs : z.cells.size = i.size)
    (h2 : P.underlying t2 = some d2) (hd : d2 = .slice e ∨ d2 = .string) {v : Value} {n : Nat} {xs : List Value} (hown : w.ownsRow 0 e i.size v n xs) {x : Value} {m : Nat} {news : List Value} (hl : news.length = m * i.size)
    (hlen : ∀ w' : World, (Builtin.lenOf x).run P w' = .ok m w') (hf : ∀ w' : World, w'.heap = w.heap → (Builtin.firstCells i.size m x).run P w' = .ok news.toArray w') (h1 : ∀ u ∈ news, u.oneCell' = true)
    (hm : 0 < m) (h63 : n + m ≤ maxLen) (hby : (n + m) * i.bytes ≤ 140737488355328) :
    ∃ g cap cur w', (Builtin.append_ #[t, t2] ty #[v, x]).run P w = .ok (.slice (some ⟨g, 0, none⟩) (n + m) cap) w' ∧ w'.heap[g]? = some (.cells cur e (0, 0)) ∧ cur.size = cap * i.size ∧ n + m ≤ cap ∧ cap ≤ maxLen ∧
      cur.toList.take ((n + m) * i.size) = xs ++ news ∧ w.grownBy w' v.ownBlock ∧ (v.ownBlock = some g ∨ g = w.heap.size) := by
  have hsmall : n + m ≤ 9223372036854775807 := by simp only [maxLen] at h63; omega
  have hxl : xs.length = n * i.size := hown.1
  have hz1 : ∀ w', (match (#[t, t2] : Array TypeId)[1]? with | some xType => do pure ((← underlying xType) matches .int _) | none => pure false : Sem Bool).run P w' = .ok false w' := fun w' => by
    rcases hd with rfl | rfl <;> simp [run_underlying h2]
  have grow : ∀ (A : Option Addr) (cap : Nat), cap < n + m → (∀ w' : World, w'.heap = w.heap → (Builtin.firstCells i.size n (.slice A n cap)).run P w' = .ok xs.toArray w') →
      (Builtin.append_ #[t, t2] ty #[.slice A n cap, x]).run P w = .ok (.slice (some ⟨w.heap.size, 0, none⟩) (n + m) (grownCap w (n + m) cap e)) (w.drew.alloc (.cells (xs.toArray ++ news.toArray ++ Builtin.zeroCells z.cells (grownCap w (n + m) cap e - (n + m))) e)) := by
    intro A cap hc hold
    have hn : ¬ (n + m ≤ cap) := by omega
    have h63' : ¬ (9223372036854775807 < ((n : Int) + (m : Int))) := by omega
    have h48' : ¬ (281474976710656 < Builtin.nextslicecap (n + m) cap * i.bytes) := by have := growslice_fits (by omega : cap < n + m) hby; omega
    have ho := hold w.drew rfl
    have hn' := hf w.drew rfl
    rcases hd with rfl | rfl
    all_goals
      simp [Builtin.append_, run_underlying ht, run_underlying h2, sizeOf, typeInfo, zeroValue, hi, hz, hlen, hn, h63', h48', Question.forced, hn', ho, newRow, grownCap]
      congr 2
      apply Array.ext'
      simp [List.append_assoc]
  have fin : ∀ (A : Option Addr) (cap : Nat), v = .slice A n cap → cap < n + m → (∀ w' : World, w'.heap = w.heap → (Builtin.firstCells i.size n (.slice A n cap)).run P w' = .ok xs.toArray w') →
      ∃ g cap cur w', (Builtin.append_ #[t, t2] ty #[v, x]).run P w = .ok (.slice (some ⟨g, 0, none⟩) (n + m) cap) w' ∧ w'.heap[g]? = some (.cells cur e (0, 0)) ∧ cur.size = cap * i.size ∧ n + m ≤ cap ∧ cap ≤ maxLen ∧
      cur.toList.take ((n + m) * i.size) = xs ++ news ∧ w.grownBy w' v.ownBlock ∧ (v.ownBlock = some g ∨ g = w.heap.size) := by
    intro A cap hv hc hold
    subst hv
    have hge := grownCap_ge w (n + m) cap e
    refine ⟨_, _, _, _, grow A cap hc hold, Go.heap_alloc_new w.drew _, ?_, hge, grownCap_le_maxLen w (n + m) cap e h63, ?_, ⟨rfl, rfl, rfl, by simp, fun k hk _ => Below.heap_alloc w.drew _ k hk⟩, .inr rfl⟩
    · simp only [Array.size_append, List.size_toArray, size_zeroCells, hzs, hxl, hl, ← Nat.add_mul]
      congr 1
      omega
    · have : (n + m) * i.size = (xs ++ news).length := by rw [List.length_append, hxl, hl, Nat.add_mul]
      rw [this]
      simp only [Array.toList_append, List.append_assoc]
      rw [← List.append_assoc]
      exact List.take_left
  rcases hown.2 with ⟨hv, hn0⟩ | ⟨g, cap, cur, hv, _, hg, hnc, hcm, hcs, htake⟩
  · subst hn0
    have hx : xs = [] := List.eq_nil_of_length_eq_zero (by simpa using hxl)
    subst hx
    exact fin none 0 hv (by omega) (fun w' _ => run_firstCells_none (P := P) w' _ _ _ _)
  · by_cases hroom : n + m ≤ cap
    · have hfit : n * i.size + news.length ≤ cur.size := by rw [hl, hcs, ← Nat.add_mul]; exact Nat.mul_le_mul_right _ hroom
      have hst := run_storeCells_at P g (n * i.size) e news 0 cur w hg (by simpa using hfit) h1
      simp only [Nat.add_zero] at hst
      have hn' := hf w rfl
      subst hv
      have hrun : (Builtin.append_ #[t, t2] ty #[.slice (some ⟨g, 0, none⟩) n cap, x]).run P w = .ok (.slice (some ⟨g, 0, none⟩) (n + m) cap) (w.setRow g (cur.toList.take (n * i.size) ++ news ++ cur.toList.drop (n * i.size + news.length)).toArray) := by
        rcases hd with rfl | rfl <;> simp [Builtin.append_, run_underlying ht, run_underlying h2, sizeOf, typeInfo, hi, hlen, hroom, hn', Addr.add_lit, hst]
      refine ⟨g, cap, _, _, hrun, setRow_heap w g cur _ e _ hg, ?_, hroom, hcm, ?_, ⟨rfl, rfl, rfl, by simp, fun k _ hk => setRow_other w g k _ (fun e => hk (by simp [Value.ownBlock, e]))⟩, .inl rfl⟩
      · simp only [List.size_toArray, List.length_append, List.length_take, List.length_drop, Array.length_toList]
        omega
      · have : (n + m) * i.size = (xs ++ news).length := by rw [List.length_append, hxl, hl, Nat.add_mul]
        rw [this, htake]
        exact List.take_left
    · refine fin (some ⟨g, 0, none⟩) cap hv (by omega) (fun w' hw' => ?_)
      have hg' : w'.heap[g]? = some (.cells cur e (0, 0)) := by rw [hw']; exact hg
      refine run_firstCells_some (P := P) w' i.size n ⟨g, 0, none⟩ n cap xs hxl (fun j u hu => ?_)
      rw [Addr.add_mid, Nat.zero_add, cell_of_row w' g j cur e (0, 0) hg']
      rw [← htake, List.getElem?_take] at hu
      split at hu
      · simpa using hu
      · cases hu

theorem owns_of {G : Gh} {w : World} {id n sz : Nat} {ty : TypeId} {fz : Bool} {els : List (List CV)} {v : Value} (r : RelB G w id (some (.arr sz ty fz els))) (hn : n = els.length) (p : Reps G w (.own id n) v) :
    ∃ xs, w.ownsRow 0 ty sz v n xs ∧ RepE G.imm w sz els xs ∧ (∀ b, v.ownBlock = some b → G.own b = some id) ∧ xs.length = n * sz := by
  obtain ⟨r1, r2, r3, r4⟩ := r
  simp only [Reps] at p
  obtain ⟨sz', m, f, p1, _, _, p2⟩ := p
  rw [r1] at p1
  injection p1 with p1
  injection p1 with p1 p3
  injection p3 with p3 p4
  subst p1 p3
  rcases p2 with p2 | ⟨_, p2⟩
  · omega
  · rcases p2 with ⟨rfl, p2⟩ | ⟨b, c, cs, ty', rfl, p5, p6, p7, p8, p9⟩
    · have : els = [] := List.eq_nil_of_length_eq_zero (by omega)
      subst this
      subst p2
      exact ⟨[], World.ownsRow_nil w 0 ty sz, by simp [RepE], (fun b hb => by cases hb), by simp⟩
    · rcases r4 with ⟨r5, r6⟩ | ⟨b', cs', r5, r6, r7, r8⟩
      · exact absurd p5 (r6 b)
      · have := r3 b b' p5 r5
        subst this
        rw [r6] at p6
        injection p6 with p6
        injection p6 with p6 p10
        subst p6 p10
        have hle : n * sz ≤ cs'.size := by rw [hn]; exact r7
        refine ⟨cs'.toList.take (n * sz), ⟨by rw [List.length_take, Array.length_toList]; omega, .inr ⟨b, c, cs', rfl, Nat.zero_le _, r6, p8, p9, p7, rfl⟩⟩, ?_, fun x hx => ?_, by rw [List.length_take, Array.length_toList]; omega⟩
        · exact r8.keep (n * sz) (by rw [hn]; exact Nat.le_refl _) (by rw [List.take_take, Nat.min_self])
        · simp only [Value.ownBlock, Option.some.injEq] at hx
          subst hx
          exact r5

theorem own_end {G : Gh} {w w' : World} {id n k sz g cap : Nat} {ty : TypeId} {els els2 : List (List CV)} {v : Value} {xs news : List Value} {cur : Array Value} (hi : Inv G w) (hsz : 0 < sz) (hinf : G.inf id = some (sz, n, false)) (hn : n = els.length) (hk : k = els2.length) (hk0 : 0 < k)
    (hxs : RepE G.imm w sz els xs) (hxl : xs.length = n * sz) (hne : RepE G.imm w sz els2 news) (hg' : w'.heap[g]? = some (.cells cur ty (0, 0))) (hcs : cur.size = cap * sz) (hle : n + k ≤ cap) (hcm : cap ≤ maxLen) (htk : cur.toList.take ((n + k) * sz) = xs ++ news)
    (hg : w.grownBy w' v.ownBlock) (hv : ∀ b, v.ownBlock = some b → G.own b = some id) (hgg : v.ownBlock = some g ∨ g = w.heap.size) :
    ∃ G', Ext [id] G w G' w' ∧ Reps G' w' (.own id (n + k)) (.slice (some ⟨g, 0, none⟩) (n + k) cap) ∧ RelB G' w' id (some (.arr sz ty false (els ++ els2))) := by
  have hb : g < w'.heap.size := (Array.getElem?_eq_some_iff.1 hg').1
  have X := ext_regrow (g := some g) hi hinf hk0 hg hv (fun b hb' => by
    injection hb' with hb'
    subst hb'
    refine ⟨hb, ?_⟩
    rcases hgg with a | a
    · exact .inl (hv g a)
    · exact .inr (by omega))
  have h1 : (G.regrow id (some g) (sz, n + k, false)).own g = some id := by simp [Gh.regrow]
  have h2 : (G.regrow id (some g) (sz, n + k, false)).inf id = some (sz, n + k, false) := by simp [Gh.regrow]
  have h3 : ∀ b, (G.regrow id (some g) (sz, n + k, false)).own b = some id → b = g := fun b hb' => by
    simp only [Gh.regrow] at hb'
    split at hb'
    · rename_i e
      injection e
    · split at hb'
      · cases hb'
      · rename_i e
        exact absurd hb' e
  have hm : (n + k) * sz ≤ cur.size := by rw [hcs]; exact Nat.mul_le_mul_right _ hle
  refine ⟨_, X, ?_, by rw [h2, List.length_append, hn, hk], hsz, fun b b' e e' => by rw [h3 b e, h3 b' e'], .inr ⟨g, cur, h1, hg', by rw [List.length_append, ← hn, ← hk]; exact hm, ?_⟩⟩
  · simp only [Reps]
    exact ⟨_, _, _, h2, hsz, rfl, .inr ⟨rfl, .inr ⟨g, cap, cur, ty, rfl, h1, hg', hcs, hle, hcm⟩⟩⟩
  · refine RepE.keep (vs := xs ++ news) (RepE.mono (imm_old X hi) sz _ _ (hxs.append (by rw [hxl, hn]) hne)) ((n + k) * sz) (by rw [List.length_append, ← hn, ← hk]; exact Nat.le_refl _) ?_
    have hlen : (xs ++ news).length = (n + k) * sz := by
      have := congrArg List.length htk
      rw [List.length_take, Array.length_toList] at this
      omega
    rw [htk, ← hlen, List.take_length]

/-! ### where the new elements come from -/
def SliceSrc (G : Gh) (w : World) (els : List (List CV)) (v : Value) : Prop :=
  ∃ A c, v = .slice A els.length c ∧ els.length ≤ c ∧ els.length ≤ maxLen ∧ (els = [] ∨ ∃ b o sz cs ty fr, A = some ⟨b, o, none⟩ ∧ w.heap[b]? = some (.cells cs ty fr) ∧ 0 < sz ∧ RepE G.imm w sz els (cs.toList.drop o))

theorem rowOf_ok {q : PV} {R : List (List CV) → List Nat → Prop} (hk : rowOf h q R) : ∃ els rd, R els rd ∧ ∀ (G : Gh) (w : World) (v : Value), Inv G w → Reps G w q v → (∀ id ∈ rd, RelB G w id (nthB h id)) → SliceSrc G w els v := by
  unfold rowOf at hk
  cases q with
  | v c =>
    cases c with
    | row l =>
      refine ⟨_, _, hk, fun G w v hi hr _ => ?_⟩
      simp only [Reps, RepC] at hr
      obtain ⟨A, c, h1, h2, h3, h4⟩ := hr
      refine ⟨A, c, h1, h2, h3, ?_⟩
      rcases h4 with h4 | ⟨b, o, sz, cs, ty, fr, h5, h6, h7, h8, h9⟩
      · exact .inl h4
      · exact .inr ⟨b, o, sz, cs, ty, fr, h5, h7, h8, h9⟩
    | _ => exact hk.elim
  | nil =>
    refine ⟨_, _, hk, fun G w v hi hr _ => ?_⟩
    simp only [Reps] at hr
    subst hr
    exact ⟨none, 0, rfl, by simp, by simp [maxLen], .inl rfl⟩
  | own id n =>
    simp only at hk
    cases hb : nthB h id with
    | none => rw [hb] at hk; exact hk.elim
    | some B =>
      rw [hb] at hk
      cases B with
      | box _ _ => exact hk.elim
      | arr sz ty fz els =>
        obtain ⟨hn, hk⟩ := hk
        refine ⟨_, _, hk, fun G w v hi hr hrd => ?_⟩
        have r := hrd id (by simp)
        rw [hb] at r
        obtain ⟨r1, r2, r3, r4⟩ := r
        simp only [Reps] at hr
        obtain ⟨sz', m, f, p1, _, _, p2⟩ := hr
        rw [r1] at p1
        injection p1 with p1
        injection p1 with p1 p3
        injection p3 with p3 p4
        subst p1 p3
        rcases p2 with p2 | ⟨_, p2⟩
        · omega
        · rcases p2 with ⟨rfl, p2⟩ | ⟨b, c, cs, ty', rfl, p5, p6, p7, p8, p9⟩
          · have : els = [] := List.eq_nil_of_length_eq_zero (by omega)
            subst this
            exact ⟨none, 0, rfl, by simp, by simp [maxLen], .inl rfl⟩
          · refine ⟨some ⟨b, 0, none⟩, c, by rw [hn], by omega, Nat.le_trans (by omega) p9, ?_⟩
            rcases r4 with ⟨r5, _⟩ | ⟨b', cs', r5, r6, r7, r8⟩
            · exact .inl r5
            · have := r3 b b' p5 r5
              subst this
              exact .inr ⟨b, 0, sz, cs', ty, (0, 0), rfl, r6, r2, by simpa using r8⟩
  | _ => exact hk.elim

/-- What an append reads of its second operand. -/
def SrcOk (P : Program) (G : Gh) (w : World) (t2 e sz : Nat) (els : List (List CV)) (x : Value) : Prop :=
  ∃ d2 news, P.underlying t2 = some d2 ∧ (d2 = .slice e ∨ d2 = .string) ∧ news.length = els.length * sz ∧ (∀ w' : World, (Builtin.lenOf x).run P w' = .ok els.length w') ∧
    (∀ w' : World, w'.heap = w.heap → (Builtin.firstCells sz els.length x).run P w' = .ok news.toArray w') ∧ (∀ u ∈ news, u.oneCell' = true) ∧ RepE G.imm w sz els news

theorem str_rep (I : Nat → Prop) (w : World) : ∀ l : List UInt8, RepE I w 1 ((l.map fun b => (b.toNat : Int)).map fun b => [CV.i .u8 b]) (l.map fun b => Value.int .u8 b.toNat)
  | [] => by simp [RepE]
  | b :: r => by
    simp only [List.map_cons, RepE, RepP, RepC]
    refine ⟨rfl, ⟨_, _, rfl, rfl, trivial⟩, ?_⟩
    simpa using str_rep I w r

theorem src_ok {sz t t2 e : Nat} {i2 : TI} {q : PV} {R : List (List CV) → List Nat → Prop} (hf2 : TyFact E.P t2 i2) (ht : E.P.underlying t = some (.slice e)) (hk : aSrc h sz t t2 i2.k q R) : ∃ els rd, R els rd ∧
    ((0 < sz ∧ ∀ x ∈ els, x.length = sz) → ∀ (G : Gh) (w : World) (v : Value), Inv G w → Reps G w q v → (∀ id ∈ rd, RelB G w id (nthB h id)) → SrcOk E.P G w t2 e sz els v) := by
  have h2 := hf2.2.1
  unfold aSrc at hk
  split at hk
  · rename_i k2 q2 x hk2
    rw [hk2] at h2
    obtain ⟨hs, hk⟩ := hk
    subst hs
    refine ⟨_, _, hk, fun _ G w v hi hr _ => ?_⟩
    simp only [Reps, RepC] at hr
    subst hr
    have hlen : ((bytesOf x).map fun b => [CV.i .u8 b]).length = x.size := by rw [List.length_map, bytesOf_length]
    refine ⟨.string, x.data.toList.map (fun b => Value.int .u8 b.toNat), h2, .inr rfl, ?_, fun w' => ?_, fun w' _ => ?_, ?_, ?_⟩
    · rw [hlen, List.length_map, Nat.mul_one]
      rfl
    · rw [hlen]
      simp [Builtin.lenOf]
    · rw [hlen]
      simp only [Builtin.firstCells, Sem.run_pure]
      congr 1
      apply Array.ext'
      simp
    · intro u hu
      obtain ⟨b, _, rfl⟩ := List.mem_map.1 hu
      rfl
    · exact str_rep G.imm w _
  · rename_i k2 q2 e2 q3 hk2
    obtain ⟨rfl, hk⟩ := hk
    obtain ⟨els, rd, h3, h4⟩ := rowOf_ok hk
    refine ⟨els, rd, h3, fun hsz G w v hi hr hrd => ?_⟩
    obtain ⟨A, c, rfl, h5, h6, h7⟩ := h4 G w v hi hr hrd
    rcases h7 with rfl | ⟨b, o, sz', cs, ty, fr, rfl, h8, h9, h10⟩
    · refine ⟨_, [], ht, .inl rfl, by simp, fun w' => by simp [Builtin.lenOf], fun w' _ => ?_, by simp, by simp [RepE]⟩
      cases A with
      | none => exact run_firstCells_none (P := E.P) w' _ _ _ _
      | some a => exact run_firstCells_some (P := E.P) w' _ _ a _ _ [] (by simp) (fun j u hu => by simp at hu)
    · by_cases he : els = []
      · subst he
        refine ⟨_, [], ht, .inl rfl, by simp, fun w' => by simp [Builtin.lenOf], fun w' _ => ?_, by simp, by simp [RepE]⟩
        exact run_firstCells_some (P := E.P) w' _ _ _ _ _ [] (by simp) (fun j u hu => by simp at hu)
      · obtain ⟨y, hy⟩ := List.exists_mem_of_ne_nil els he
        have e1 : sz' = sz := (h10.size y hy).symm.trans (hsz.2 y hy)
        subst e1
        have hl := h10.len h9
        rw [List.length_drop, Array.length_toList] at hl
        refine ⟨_, (cs.toList.drop o).take (els.length * sz'), ht, .inl rfl, ?_, fun w' => by simp [Builtin.lenOf], fun w' hw' => ?_, h10.one, ?_⟩
        · rw [List.length_take, List.length_drop, Array.length_toList]
          omega
        · refine run_firstCells_some (P := E.P) w' _ _ _ _ _ _ (by rw [List.length_take, List.length_drop, Array.length_toList]; omega) (fun j u hu => ?_)
          rw [Addr.add_mid]
          exact range_of (by rw [hw']; exact h8) _ j u hu
        · exact h10.keep (els.length * sz') (Nat.le_refl _) (by rw [List.take_take, Nat.min_self])
  · exact hk.elim

def Gh.name (G : Gh) (id : Nat) (r : Nat × Nat × Bool) : Gh := { G with inf := fun x => if x = id then some r else G.inf x }
theorem ext_name {G : Gh} {w : World} (hi : Inv G w) (id : Nat) (r : Nat × Nat × Bool) (h0 : RelB G w id none) : Ext [id] G w (G.name id r) w where
  os := rfl
  tape := rfl
  output := rfl
  size := Nat.le_refl _
  base := rfl
  old := rfl
  nn := fun b _ h => ⟨h, rfl⟩
  sm := fun b i h => ⟨fun _ => ⟨h, rfl⟩, .inl h⟩
  same := fun b i cs ty _ _ _ h => ⟨cs, h, rfl⟩
  fz := fun b i sz n h _ => ⟨h, rfl⟩
  inf := fun i sz n f hf => by
    refine ⟨n, f, ?_, Nat.le_refl _, fun e => ⟨e, rfl⟩, fun _ b hb => hb⟩
    simp only [Gh.name]
    rw [if_neg]
    · exact hf
    · intro e
      subst e
      rw [h0.1] at hf
      cases hf
  out := fun i hn => by
    simp only [Gh.name]
    rw [if_neg (by simpa using hn)]
  new := fun b i h1 h2 => absurd (hi.own b i h2) (by omega)
  keep := hi.own
theorem name_nil {G : Gh} {w : World} (hi : Inv G w) {id sz : Nat} (hsz : 0 < sz) (ty : TypeId) (h0 : RelB G w id none) :
    RelB (G.name id (sz, 0, false)) w id (some (.arr sz ty false [])) ∧ Reps (G.name id (sz, 0, false)) w (.own id 0) (.slice none 0 0) := by
  refine ⟨⟨by simp [Gh.name], hsz, fun b b' e => absurd e (h0.2 b), .inl ⟨rfl, h0.2⟩⟩, ?_⟩
  simp only [Reps]
  exact ⟨sz, 0, false, by simp [Gh.name], hsz, rfl, .inr ⟨rfl, .inl ⟨rfl, rfl⟩⟩⟩

theorem run_app0 {P : Program} {w : World} {t t2 ty e : TypeId} {i : TypeInfo} {d2 : TypeDesc} (ht : P.underlying t = some (.slice e)) (hi : P.info? e = some i)
    (h2 : P.underlying t2 = some d2) (hd : d2 = .slice e ∨ d2 = .string) {v : Value} {n : Nat} {xs : List Value} (hown : w.ownsRow 0 e i.size v n xs) {x : Value}
    (hlen : ∀ w' : World, (Builtin.lenOf x).run P w' = .ok 0 w') (hf : ∀ w' : World, w'.heap = w.heap → (Builtin.firstCells i.size 0 x).run P w' = .ok #[] w') :
    (Builtin.append_ #[t, t2] ty #[v, x]).run P w = .ok v w := by
  have hn' := hf w rfl
  have h3 : ∃ A c, v = .slice A n c ∧ n ≤ c := by
    rcases hown.2 with ⟨rfl, rfl⟩ | ⟨g, cap, cur, rfl, _, _, hnc, _⟩
    · exact ⟨none, 0, rfl, Nat.le_refl _⟩
    · exact ⟨_, cap, rfl, hnc⟩
  obtain ⟨A, c, rfl, hc⟩ := h3
  rcases hd with rfl | rfl <;> cases A <;> simp [Builtin.append_, run_underlying ht, run_underlying h2, sizeOf, typeInfo, hi, hlen, hc, hn', storeCells]

theorem append_core {w : World} {G : Gh} {t t2 ty id n sz : Nat} {j : TI} {e : Nat} {els els2 : List (List CV)} {v x : Value} (hi : Inv G w) (ht : E.P.underlying t = some (.slice e)) (hj : TyFact E.P e j) (hsz : sz = j.size) (hz : 0 < sz)
    (r : RelB G w id (some (.arr sz e false els))) (hn : n = els.length) (hv : Reps G w (.own id n) v) (hx : SrcOk E.P G w t2 e sz els2 x) (h63 : els.length + els2.length ≤ maxLen) (hby : (els.length + els2.length) * j.bytes ≤ 140737488355328) :
    ∃ v' w' G', (Builtin.append_ #[t, t2] ty #[v, x]).run E.P w = .ok v' w' ∧ Ext [id] G w G' w' ∧ Reps G' w' (.own id (els.length + els2.length)) v' ∧ RelB G' w' id (some (.arr sz e false (els ++ els2))) := by
  obtain ⟨inf, hi1, hi2, hi3, hi4⟩ := hj.info
  obtain ⟨xs, h1, h2, h3, h4⟩ := owns_of r hn hv
  obtain ⟨d2, news, s1, s2, s3, s4, s5, s6, s7⟩ := hx
  have hsz' : inf.size = sz := by rw [hi2, hsz]
  rw [← hsz'] at h1 s3 s5
  by_cases hm : els2 = []
  · subst hm
    have hnews : news = [] := List.eq_nil_of_length_eq_zero (by simpa using s3)
    subst hnews
    refine ⟨v, w, G, run_app0 ht hi1 s1 s2 h1 (by simpa using s4) (by simpa using s5), Ext.refl hi _, ?_, by rw [List.append_nil]; exact r⟩
    rw [List.length_nil, Nat.add_zero, ← hn]
    exact hv
  · have hm0 : 0 < els2.length := List.length_pos_iff.2 hm
    obtain ⟨g, cap, cur, w', a1, a2, a3, a4, a5, a6, a7, a8⟩ := run_app ht hi1 hi4 (by rw [hj.2.2, hi2]) s1 s2 h1 s3 s4 s5 s6 hm0 (by rw [hn]; exact h63) (by rw [hn, hi3]; exact hby)
    rw [hsz'] at a3 a6
    obtain ⟨G', b1, b2, b3⟩ := own_end hi hz (by rw [hn]; exact r.1) hn rfl hm0 h2 h4 s7 a2 a3 a4 a5 a6 a7 h3 a8
    rw [hn] at b2 a1
    exact ⟨_, w', G', a1, b1, b2, b3⟩
end
end Go.Proofs.Ytkpcieenikmbmaa.E

/- Each operation comes to what is told of it: appends, makes, literals. -/
namespace Go.Proofs.Ytkpcieenikmbmaa.E
open Go Go.RowKit Go.Proofs.YtkpcieenikmbmaaW.PrintWords
set_option linter.unusedVariables false
set_option linter.unusedSimpArgs false

section
variable {E : Env} {h : List Blk} {K : Kont}

theorem append_ok {t t2 ty : Nat} {p q : PV} (hk : aAppend E h t t2 p q K) : Step E.P h (fun G w m => ∃ v x, Reps G w p v ∧ Reps G w q x ∧ m = Builtin.append_ #[t, t2] ty #[v, x]) K := by
  unfold aAppend at hk
  cases hl : look E.T t with
  | none => rw [hl] at hk; exact hk.elim
  | some i =>
    cases hl2 : look E.T t2 with
    | none => rw [hl, hl2] at hk; exact hk.elim
    | some i2 =>
      rw [hl, hl2] at hk
      simp only at hk
      have hf := Env.fact hl
      have hf2 := Env.fact hl2
      cases hik : i.k with
      | slice e =>
        rw [hik] at hk
        simp only at hk
        have ht : E.P.underlying t = some (.slice e) := by have := hf.2.1; rw [hik] at this; exact this
        cases hle : look E.T e with
        | none => rw [hle] at hk; exact hk.elim
        | some j =>
          rw [hle] at hk
          simp only at hk
          have hj := Env.fact hle
          obtain ⟨els2, rd, ⟨hz, hel, hk⟩, hsrc⟩ := src_ok hf2 ht hk
          have hs := hsrc ⟨hz, hel⟩
          cases p with
          | own id n =>
            simp only at hk
            cases hb : nthB h id with
            | none => rw [hb] at hk; exact hk.elim
            | some B =>
              rw [hb] at hk
              cases B with
              | box _ _ => exact hk.elim
              | arr sz ty' fz els =>
                cases fz with
                | true => exact hk.elim
                | false =>
                  simp only at hk
                  obtain ⟨k1, k2, k3, els', rfl, k4, k5, hk⟩ := hk
                  subst k2 k3
                  rw [List.length_append] at k4 k5 hk
                  refine ⟨_, _, _, _, hk, fun x hx => nthB_putB_ne h id x _ (by simpa using hx), by rw [len_putB]; exact Nat.le_refl _, fun G w m hi hm hr => ?_⟩
                  obtain ⟨v, x, hv, hx, rfl⟩ := hm
                  have r := hr id (by simp)
                  rw [hb] at r
                  obtain ⟨v', w', G', a1, a2, a3, a4⟩ := append_core (ty := ty) hi ht hj rfl hz r k1 hv (hs G w x hi hx (fun id hid => hr id (.inl hid))) k5 k4
                  refine ⟨v', w', G', a1, a2, a3, fun x hx => ?_⟩
                  simp only [List.mem_singleton] at hx
                  subst hx
                  rw [nthB_putB_same _ hb]
                  exact a4
          | nil =>
            simp only at hk
            obtain ⟨k4, k5, hk⟩ := hk
            refine ⟨_, _, _, _, hk, keeps_push h _, len_push h _, fun G w m hi hm hr => ?_⟩
            obtain ⟨v, x, hv, hx, rfl⟩ := hm
            simp only [Reps] at hv
            subst hv
            have h0 := none_at h (hr (len h) (by simp))
            have X0 := ext_name hi (len h) (j.size, 0, false) h0
            have hi0 := hi.ext X0
            obtain ⟨n1, n2⟩ := name_nil hi hz e h0
            obtain ⟨d2, news, s1, s2, s3, s4, s5, s6, s7⟩ := hs G w x hi hx (fun id hid => hr id (.inl hid))
            obtain ⟨v', w', G', a1, a2, a3, a4⟩ := append_core (ty := ty) (els := []) hi0 ht hj rfl hz n1 rfl n2 ⟨d2, news, s1, s2, s3, s4, s5, s6, RepE.mono (imm_old X0 hi) _ _ _ s7⟩ (by simpa using k5) (by simpa using k4)
            simp only [List.length_nil, Nat.zero_add, List.nil_append] at a3 a4
            refine ⟨v', w', G', a1, (Ext.trans hi X0 a2).mono (fun x hx => by simpa using hx), a3, fun x hx => ?_⟩
            simp only [List.mem_singleton] at hx
            subst hx
            rw [nthB_new]
            exact a4
          | _ => exact hk.elim
      | _ => rw [hik] at hk; exact hk.elim

theorem rep_repl {I : Nat → Prop} {w : World} {cvs : List CV} {zs : List Value} (h1 : RepP I w cvs zs) (hl : zs.length = cvs.length) : ∀ (n : Nat) (vs : List Value), (∀ q, q < n * cvs.length → vs[q]? = zs[q % cvs.length]?) → RepE I w cvs.length (List.replicate n cvs) vs
  | 0, vs, _ => by simp [RepE]
  | n + 1, vs, hv => by
    simp only [List.replicate_succ, RepE]
    refine ⟨by simp, ?_, rep_repl h1 hl n _ fun q hq => ?_⟩
    · have e1 : vs.take cvs.length = zs := by
        apply List.ext_getElem?
        intro q
        rw [List.getElem?_take]
        split
        · rename_i hq
          rw [hv q (by rw [Nat.add_mul, Nat.one_mul]; omega), Nat.mod_eq_of_lt hq]
        · rw [List.getElem?_eq_none]
          omega
      rw [← e1] at h1
      exact h1.of_take _
    · rw [List.getElem?_drop, hv _ (by rw [Nat.add_mul, Nat.one_mul]; omega), Nat.add_mod_left]

theorem makeSlice_ok {t : Nat} {p q : PV} (hk : aMakeSlice E h t p q K) : Step E.P h (fun G w m => ∃ v x, Reps G w p v ∧ Reps G w q x ∧ m = Instr.makeSlice t v x) K := by
  unfold aMakeSlice at hk
  split at hk
  · rename_i i k1 n k2 c hl
    have hf := Env.fact hl
    split at hk
    · rename_i e hik
      have ht : E.P.underlying t = some (.slice e) := by have := hf.2.1; rw [hik] at this; exact this
      cases hle : look E.T e with
      | none => rw [hle] at hk; exact hk.elim
      | some j =>
        rw [hle] at hk
        simp only at hk
        have hj := Env.fact hle
        cases hc : pcells (ofV j.zero) with
        | none => rw [hc] at hk; exact hk.elim
        | some z =>
          rw [hc] at hk
          simp only at hk
          obtain ⟨cvs, f, ⟨rfl, rfl, z1, z2, z3, z4, z5, els', rfl, hk⟩, f1, f2, f3⟩ := toCs_ok hk
          rw [List.length_replicate] at hk
          refine ⟨_, _, _, _, hk, keeps_push h _, len_push h _, fun G w m hi hm hr => ?_⟩
          obtain ⟨v, x, hv, hx, rfl⟩ := hm
          simp only [Reps, RepC] at hv hx
          subst hv hx
          obtain ⟨N, rfl⟩ := Int.eq_ofNat_of_zero_le z1
          obtain ⟨inf, i1, i2, i3, i4⟩ := hj.info
          obtain ⟨q1, q2⟩ := pcells_ok hc (ofV_ok G w j.zero)
          have hz := q1.length
          rw [Array.length_toList] at hz
          have hN : N ≤ 9223372036854775807 := by omega
          have hw : IntKind.i64.wrap (N : Int) = N := by simp [IntKind.wrap, IntKind.signed, IntKind.bits]; omega
          have h0 := none_at h (hr (len h) (by simp))
          have hcv := f3 G w _ [] hi q1 (fun id hid => by cases hid) (fun id hid => by cases hid)
          have hG : G.frz [] = G := by simp [Gh.frz]
          rw [hG] at hcv
          have hrun := run_make (P := E.P) w t e inf j.zero ht i1 i4 k1 k2 (N : Int) (N : Int) z1 (Int.le_refl _) (by rw [i3]; exact z2) z3
          rw [Int.toNat_natCast, i2] at hrun
          have hcs : (madeCells j.zero.cells (N * j.size)).size = N * j.size := size_madeCells _ _
          have hrep : RepE G.imm w j.size (List.replicate N cvs) (madeCells j.zero.cells (N * j.size)).toList := by
            have := rep_repl hcv (by rw [Array.length_toList, hz, f2]) N (madeCells j.zero.cells (N * j.size)).toList (fun q hq => ?_)
            · rw [f2, ← z5] at this
              exact this
            · rw [f2, ← z5] at hq
              have h3 : 0 < j.zero.cells.size := by omega
              have hq2 : q % j.zero.cells.size < j.zero.cells.size := Nat.mod_lt _ h3
              rw [f2, ← hz, Array.getElem?_toList, Array.getElem?_toList]
              simp [madeCells, hq, hq2]
          obtain ⟨x1, x2, x3⟩ := new_arr hi z4 h0 (ty := e) hrep hcs (by rw [List.length_replicate]; exact Nat.le_refl _) (by simp only [maxLen]; omega)
          rw [List.length_replicate] at x1 x2
          refine ⟨_, _, _, hrun, x1, x2, fun y hy => ?_⟩
          simp only [List.mem_singleton] at hy
          subst hy
          rw [nthB_new]
          rw [List.length_replicate] at x3
          exact x3
    · exact hk.elim
  · exact hk.elim

theorem fold_put : ∀ (l : List Value) (k off : Nat) (cells : Array Value), off + k + l.length ≤ cells.size →
    ((l.zipIdx k).foldl (fun (cs : Array Value) (x : Value × Nat) => cs.setIfInBounds (off + x.2) x.1) cells).toList = cells.toList.take (off + k) ++ l ++ cells.toList.drop (off + k + l.length)
  | [], k, off, cells, _ => by simp
  | v :: r, k, off, cells, hl => by
    simp only [List.length_cons] at hl
    simp only [List.zipIdx_cons, List.foldl_cons]
    rw [fold_put r (k + 1) off _ (by simp; omega)]
    have h1 : (cells.setIfInBounds (off + k) v).toList = cells.toList.take (off + k) ++ v :: cells.toList.drop (off + k + 1) := by
      rw [Array.toList_setIfInBounds, List.set_eq_take_append_cons_drop, if_pos (by simp; omega)]
    rw [h1]
    have e1 : off + (k + 1) = (cells.toList.take (off + k)).length + 1 := by simp; omega
    have e2 : off + (k + 1) + r.length = (cells.toList.take (off + k)).length + (1 + r.length) := by simp; omega
    rw [e2, e1, List.take_length_add_append, List.drop_length_add_append]
    simp only [List.take_succ_cons, List.take_zero, List.length_cons]
    rw [Nat.add_comm 1 r.length, List.drop_succ_cons, List.drop_drop]
    simp only [List.append_assoc, List.cons_append, List.nil_append]
    congr 4
    omega

theorem fill_ok {G : Gh} {w : World} {pl : Nat → Option (Nat × Nat)} : ∀ {parts : List (Nat × PV)} {vs : List (Nat × Value)} {cs cs' : List PV} {cells : Array Value}, fillP pl cs parts = some cs' → RepsL G w cs cells.toList →
    (∀ u ∈ cells.toList, u.oneCell' = true) → parts.map (·.1) = vs.map (·.1) → RepsL G w (parts.map (·.2)) (vs.map (·.2)) →
    ∃ cells', Instr.fill pl cells vs = some cells' ∧ RepsL G w cs' cells'.toList ∧ cells'.size = cells.size ∧ ∀ u ∈ cells'.toList, u.oneCell' = true
  | [], vs, cs, cs', cells, hf, hr, h1, hi, hp => by
    cases vs with
    | cons v r => simp at hi
    | nil =>
      simp only [fillP, Option.some.injEq] at hf
      subst hf
      exact ⟨cells, rfl, hr, rfl, h1⟩
  | x :: parts, [], cs, cs', cells, hf, hr, h1, hi, hp => by simp at hi
  | x :: parts, v :: vs, cs, cs', cells, hf, hr, h1, hi, hp => by
    simp only [List.map_cons, List.cons.injEq] at hi
    simp only [List.map_cons, RepsL] at hp
    obtain ⟨u, us, hu, hp1, hp2⟩ := hp
    injection hu with hu1 hu2
    subst hu1 hu2
    simp only [fillP] at hf
    rw [hi.1] at hf
    cases hpl : pl v.1 with
    | none => rw [hpl] at hf; cases hf
    | some q =>
      cases hc : pcells x.2 with
      | none => rw [hpl, hc] at hf; cases hf
      | some ds =>
        rw [hpl, hc] at hf
        simp only at hf
        cases hb : (Nat.beq (len ds) q.2 && Nat.ble (q.1 + len ds) (len cs)) with
        | false => rw [hb] at hf; cases hf
        | true =>
          rw [hb, cond_true] at hf
          rw [Bool.and_eq_true] at hb
          have b1 := Nat.eq_of_beq_eq_true hb.1
          have b2 := Nat.le_of_ble_eq_true hb.2
          rw [len_eq] at b1 b2
          rw [len_eq] at b2
          obtain ⟨p1, p2⟩ := pcells_ok hc hp1
          have l1 := p1.length
          have l2 := hr.length
          rw [Array.length_toList] at l1 l2
          have hfold := fold_put v.2.cells.toList 0 q.1 cells (by rw [Array.length_toList]; omega)
          simp only [Nat.add_zero] at hfold
          let cells2 : Array Value := v.2.cells.zipIdx.foldl (fun (cs : Array Value) (x : Value × Nat) => cs.setIfInBounds (q.1 + x.2) x.1) cells
          have hc2 : cells2.toList = cells.toList.take q.1 ++ v.2.cells.toList ++ cells.toList.drop (q.1 + v.2.cells.toList.length) := by
            rw [← hfold]
            simp only [cells2]
            rw [← Array.foldl_toList, Array.toList_zipIdx]
          have hsz : cells2.size = cells.size := by
            rw [← Array.length_toList, hc2]
            simp only [List.length_append, List.length_take, List.length_drop, Array.length_toList]
            omega
          obtain ⟨cells', r1, r2, r3, r4⟩ := fill_ok (cells := cells2) hf (by rw [hc2]; exact hr.put_list q.1 p1) (fun z hz => by
            rw [hc2] at hz
            simp only [List.mem_append] at hz
            rcases hz with (hz | hz) | hz
            · exact h1 z (List.mem_of_mem_take hz)
            · exact p2 z hz
            · exact h1 z (List.mem_of_mem_drop hz)) hi.2 hp2
          refine ⟨cells', ?_, r2, r3.trans hsz, r4⟩
          obtain ⟨a, b⟩ := v
          obtain ⟨q1, q2⟩ := q
          simp only [Instr.fill]
          rw [hpl]
          simp only
          rw [if_neg]
          · exact r1
          · simp only [ne_eq, gt_iff_lt, Bool.or_eq_true, decide_eq_true_eq, not_or, Decidable.not_not, Nat.not_lt]
            simp only at l1 b1 b2
            omega

theorem nthF_eq : ∀ (fs : List (Nat × Nat)) (n : Nat), nthF fs n = fs[n]?
  | [], _ => rfl
  | _ :: _, 0 => rfl
  | _ :: r, n + 1 => by simpa [nthF] using nthF_eq r n
theorem places_of (P : Program) : ∀ (l : List Field) (fs : List (Nat × Nat)), (l.map fun f => (f.offset, f.type)).map (fun x => (x.1, (P.info? x.2).map (·.size))) = fs.map (fun x => (x.1, some x.2)) →
    l.mapM (fun f => (P.info? f.type).map fun i => (f.offset, i.size)) = some fs
  | [], [], _ => rfl
  | [], _ :: _, h => by simp at h
  | _ :: _, [], h => by simp at h
  | f :: l, y :: fs, h => by
    simp only [List.map_cons, List.cons.injEq, Prod.mk.injEq] at h
    have ih := places_of P l fs h.2
    obtain ⟨i, h1, h2⟩ := Option.map_eq_some_iff.1 h.1.2
    simp only [List.mapM_cons, ih, h1]
    simp [h.1.1, h2]

theorem build_ok {t : Nat} {parts : List (Nat × PV)} (hk : aBuild E h t parts K) : Step E.P h (fun G w m => ∃ vs : List (Nat × Value), parts.map (·.1) = vs.map (·.1) ∧ RepsL G w (parts.map (·.2)) (vs.map (·.2)) ∧ m = Instr.build t vs.toArray) K := by
  unfold aBuild at hk
  cases hl : look E.T t with
  | none => rw [hl] at hk; exact hk.elim
  | some i =>
    rw [hl] at hk
    simp only at hk
    have hf := Env.fact hl
    cases hc : pcells (ofV i.zero) with
    | none => rw [hc] at hk; exact hk.elim
    | some z =>
      rw [hc] at hk
      simp only at hk
      cases hik : i.k with
      | struct fs =>
        rw [hik] at hk
        simp only at hk
        cases hfp : fillP (nthF fs) z parts with
        | none => rw [hfp] at hk; exact hk.elim
        | some cs =>
          rw [hfp] at hk
          refine Step.pure hk fun G w m hi hm => ?_
          obtain ⟨vs, v1, v2, rfl⟩ := hm
          obtain ⟨q1, q2⟩ := pcells_ok hc (ofV_ok G w i.zero)
          obtain ⟨cells', r1, r2, r3, r4⟩ := fill_ok hfp q1 q2 v1 v2
          refine ⟨.agg cells', ?_, by simp only [Reps]; exact ⟨cells', rfl, r2⟩⟩
          obtain ⟨fields, u1, u2⟩ := hf.struct hik
          obtain ⟨inf, i1, i2, i3, i4⟩ := hf.info
          have hp := places_of E.P fields.toList fs u2
          have hfun : nthF fs = fun x => fs[x]? := funext (nthF_eq fs)
          rw [hfun] at r1
          simp [Instr.build, run_underlying u1, typeInfo, zeroValue, i1, i4, Array.mapM_eq_mapM_toList, run_places w _ _ hp, r1]
      | array n e =>
        rw [hik] at hk
        simp only at hk
        have h2 := hf.2.1
        rw [hik] at h2
        cases parts with
        | cons _ _ => exact hk.elim
        | nil =>
          cases hle : look E.T e with
          | none => rw [hle] at hk; exact hk.elim
          | some y =>
            rw [hle] at hk
            refine Step.pure hk fun G w m hi hm => ?_
            obtain ⟨vs, v1, v2, rfl⟩ := hm
            obtain rfl : vs = [] := by
              cases vs with
              | nil => rfl
              | cons _ _ => simp at v1
            obtain ⟨q1, q2⟩ := pcells_ok hc (ofV_ok G w i.zero)
            refine ⟨.agg i.zero.cells, ?_, by simp only [Reps]; exact ⟨_, rfl, q1⟩⟩
            obtain ⟨inf, i1, i2, i3, i4⟩ := hf.info
            simp [Instr.build, Instr.fill, run_underlying h2, typeInfo, zeroValue, i1, i4, (Env.fact hle).sizeOf w]
      | _ => rw [hik] at hk; exact hk.elim

theorem chunks_rep {I : Nat → Prop} {w : World} {sz : Nat} : ∀ (n : Nat) {cvs : List CV} {vs : List Value}, RepP I w cvs vs → cvs.length = n * sz → RepE I w sz (chunks sz n cvs) vs
  | 0, cvs, vs, _, _ => by simp [chunks, RepE]
  | n + 1, cvs, vs, hr, hl => by
    rw [Nat.add_mul, Nat.one_mul] at hl
    simp only [chunks, RepE]
    exact ⟨by rw [List.length_take]; omega, (RepP.take sz hr).of_take _, chunks_rep n (hr.drop sz) (by rw [List.length_drop]; omega)⟩
theorem zeros_rep {G : Gh} {w : World} {z : List PV} {zs : List Value} (hr : RepsL G w z zs) : ∀ (n : Nat) (vs : List Value), vs.length = n * zs.length → (∀ q, q < n * zs.length → vs[q]? = zs[q % zs.length]?) → RepsL G w (zeros z n) vs
  | 0, vs, hl, _ => by
    have : vs = [] := List.eq_nil_of_length_eq_zero (by simpa using hl)
    subst this
    simp [zeros, RepsL]
  | n + 1, vs, hl, hv => by
    rw [Nat.add_mul, Nat.one_mul] at hl
    simp only [zeros]
    have e1 : vs.take zs.length = zs := by
      apply List.ext_getElem?
      intro q
      rw [List.getElem?_take]
      split
      · rename_i hq
        rw [hv q (by rw [Nat.add_mul, Nat.one_mul]; omega), Nat.mod_eq_of_lt hq]
      · rw [List.getElem?_eq_none]
        omega
    have h2 := zeros_rep hr n (vs.drop zs.length) (by rw [List.length_drop]; omega) (fun q hq => by
      rw [List.getElem?_drop, hv _ (by rw [Nat.add_mul, Nat.one_mul]; omega), Nat.add_mod_left])
    have h3 := hr.append h2
    have e2 : zs ++ vs.drop zs.length = vs := by
      conv => lhs; lhs; rw [← e1]
      exact List.take_append_drop _ _
    rw [e2] at h3
    exact h3

theorem chunks_length {α : Type} (sz : Nat) : ∀ (n : Nat) (l : List α), (chunks sz n l).length = n
  | 0, _ => rfl
  | n + 1, l => by simp [chunks, chunks_length sz n]

theorem buildSlice_ok {t n : Nat} {parts : List (Nat × PV)} (hk : aBuildSlice E h t n parts K) : Step E.P h (fun G w m => ∃ vs : List (Nat × Value), parts.map (·.1) = vs.map (·.1) ∧ RepsL G w (parts.map (·.2)) (vs.map (·.2)) ∧ m = Instr.buildSlice t n vs.toArray) K := by
  unfold aBuildSlice at hk
  cases hl : look E.T t with
  | none => rw [hl] at hk; exact hk.elim
  | some i =>
    rw [hl] at hk
    simp only at hk
    have hf := Env.fact hl
    split at hk
    · rename_i e hik
      have ht : E.P.underlying t = some (.slice e) := by have := hf.2.1; rw [hik] at this; exact this
      cases hle : look E.T e with
      | none => rw [hle] at hk; exact hk.elim
      | some j =>
        rw [hle] at hk
        simp only at hk
        have hj := Env.fact hle
        cases hc : pcells (ofV j.zero) with
        | none => rw [hc] at hk; exact hk.elim
        | some z =>
          rw [hc] at hk
          simp only at hk
          cases hfp : fillP (fun q => some (q * j.size, j.size)) (zeros z n) parts with
          | none => rw [hfp] at hk; exact hk.elim
          | some cs =>
            rw [hfp] at hk
            simp only at hk
            obtain ⟨cvs, f, ⟨k1, k2, els', rfl, hk⟩, f1, f2, f3⟩ := toCs_ok hk
            rw [chunks_length] at hk
            have hfl : ∀ x ∈ f, x < len h := fun x hx => by
              have a := f1 x hx
              cases hb : nthB h x with
              | none => rw [hb] at a; exact a.elim
              | some B => exact nthB_lt hb
            refine ⟨_, _, _, _, hk, fun x hx => ?_, by rw [len_append, len_frz]; omega, fun G w m hi hm hr => ?_⟩
            · simp only [List.mem_cons, not_or] at hx
              rw [nthB_push _ _ _ (by rw [len_frz]; exact hx.1), nthB_frz, if_neg hx.2]
            obtain ⟨vs, v1, v2, rfl⟩ := hm
            obtain ⟨q1, q2⟩ := pcells_ok hc (ofV_ok G w j.zero)
            obtain ⟨inf, i1, i2, i3, i4⟩ := hj.info
            have hz := q1.length
            rw [Array.length_toList] at hz
            have hzs : j.zero.cells.size = j.size := hj.2.2
            have hzero : RepsL G w (zeros z n) (madeCells j.zero.cells (n * j.size)).toList := by
              refine zeros_rep q1 n _ ?_ fun q hq => ?_
              · rw [Array.length_toList, size_madeCells, Array.length_toList, hzs]
              · rw [Array.length_toList, hzs] at hq
                have hq2 : q % j.zero.cells.size < j.zero.cells.size := Nat.mod_lt _ (by omega)
                rw [Array.getElem?_toList, Array.getElem?_toList, Array.length_toList]
                simp [madeCells, hq, hq2]
            have hone : ∀ u ∈ (madeCells j.zero.cells (n * j.size)).toList, u.oneCell' = true := fun u hu => by
              simp only [madeCells, Array.toList_map, List.mem_map] at hu
              obtain ⟨q, hq, rfl⟩ := hu
              have hq2 : q % j.zero.cells.size < j.zero.cells.size := Nat.mod_lt _ (by omega)
              have e1 : j.zero.cells[q % j.zero.cells.size]! = j.zero.cells[q % j.zero.cells.size] := by simp [hq2]
              rw [e1]
              exact q2 _ (by simp)
            obtain ⟨cells', r1, r2, r3, r4⟩ := fill_ok hfp hzero hone v1 v2
            have hrun : (Instr.buildSlice t n vs.toArray).run E.P w = .ok (.slice (some ⟨w.heap.size, 0, none⟩) n n) (w.alloc (.cells cells' e)) := by
              have hs : ¬ 2 ^ 24 < n * inf.size := by rw [i2]; omega
              by_cases hn : n = 0
              · subst hn
                simp only [Nat.zero_mul] at r1
                have hm0 : madeCells j.zero.cells 0 = #[] := by simp [madeCells]
                rw [hm0] at r1
                have hm1 : Array.map (fun _ : Nat => (default : Value)) (Array.range 0) = #[] := by simp
                simp [Instr.buildSlice, run_underlying ht, sizeOf, typeInfo, i1, i2, hm1, r1, newRow]
              · have hnz : ¬ (n * j.size = 0) := by
                  intro e0
                  rcases Nat.mul_eq_zero.1 e0 with e0 | e0 <;> omega
                have r1' : Instr.fill (fun q => some (q * j.size, j.size)) (Array.map (fun x => j.zero.cells[x % j.zero.cells.size]!) (Array.range (n * j.size))) vs = some cells' := r1
                simp [Instr.buildSlice, run_underlying ht, sizeOf, typeInfo, zeroValue, i1, i2, i4, hnz, r1', newRow, k1]
            have X0 := ext_frz hi f
            have hi0 := hi.ext X0
            have hrf : ∀ j ∈ f, RelB G w j (nthB h j) := fun j hj => hr j (by simp [hj])
            have h0 : RelB (G.frz f) w (len h) none := RelB.ext X0 hi (fun hx => absurd (hfl _ hx) (by omega)) (none_at h (hr (len h) (by simp)))
            have hcv := f3 G w _ f hi r2 hrf (fun j hj => hj)
            have hcl := r2.length
            rw [Array.length_toList, r3, size_madeCells] at hcl
            have hlc : (chunks j.size n cvs).length = n := chunks_length j.size n cvs
            obtain ⟨x1, x2, x3⟩ := new_arr (els := chunks j.size n cvs) (cap := n) hi0 k2 h0 (ty := e) (chunks_rep n hcv (by rw [f2, ← hcl])) (by rw [r3, size_madeCells]) (by rw [hlc]; exact Nat.le_refl _) (by
              have : n ≤ n * j.size := Nat.le_mul_of_pos_right n k2
              simp only [maxLen]
              omega)
            rw [hlc] at x1 x2
            refine ⟨_, _, _, hrun, (Ext.trans hi X0 x1).mono (fun x hx => by
              simp only [List.mem_append, List.mem_singleton] at hx
              rcases hx with hx | hx <;> simp [hx]), x2, fun y hy => ?_⟩
            by_cases hy' : y = len h
            · subst hy'
              rw [show len h = len (frz f h) from (len_frz f h).symm, nthB_new, len_frz]
              rw [hlc] at x3
              exact x3
            · have hyf : y ∈ f := by
                rcases List.mem_cons.1 hy with hy | hy
                · exact absurd hy hy'
                · exact hy
              rw [nthB_push _ _ _ (by rw [len_frz]; exact hy')]
              exact RelB.ext x1 hi0 (by simpa using hy') (frz_rel hi hrf f1 y hyf)
    · exact hk.elim
end
end Go.Proofs.Ytkpcieenikmbmaa.E

/- Each operation comes to what is told of it: what only computes. -/
namespace Go.Proofs.Ytkpcieenikmbmaa.E
open Go Go.RowKit Go.Proofs.YtkpcieenikmbmaaW.PrintWords
set_option linter.unusedVariables false
set_option linter.unusedSimpArgs false

section
variable {E : Env} {h : List Blk} {K : Kont}

theorem own_val {G : Gh} {w : World} {id n : Nat} {v : Value} (r : Reps G w (.own id n) v) (hr : ∃ sz ty fz els, RelB G w id (some (.arr sz ty fz els)) ∧ n = els.length) : ∃ A c, v = .slice A n c := by
  obtain ⟨sz, ty, fz, els, r1, hn⟩ := hr
  simp only [Reps] at r
  obtain ⟨sz', m, f, p1, _, _, p2⟩ := r
  rw [r1.1] at p1
  injection p1 with p1
  injection p1 with p1 p3
  injection p3 with p3 p4
  rcases p2 with p2 | ⟨_, p2⟩
  · omega
  · rcases p2 with ⟨rfl, p2⟩ | ⟨b, c, cs, ty', rfl, _⟩
    · exact ⟨none, 0, by rw [p2]⟩
    · exact ⟨_, c, rfl⟩

theorem len_ok {t ty : Nat} {p : PV} (hk : aLen E t h p K) : Step E.P h (fun G w m => ∃ v, Reps G w p v ∧ m = Builtin.len_ #[t] ty #[v]) K := by
  unfold aLen at hk
  cases hl : look E.T t with
  | none => rw [hl] at hk; exact hk.elim
  | some i =>
    rw [hl] at hk
    simp only at hk
    have h2 := (Env.fact hl).2.1
    split at hk
    · rename_i k q e id n hik
      rw [hik] at h2
      split at hk
      rotate_left
      · exact hk.elim
      rename_i sz ty' fz els hb
      obtain ⟨hn, ⟨_, rfl, hk⟩⟩ := hk
      rw [← hn] at hk
      refine Step.reads hk fun G w m hi hm hr => ?_
      obtain ⟨v, hv, rfl⟩ := hm
      have r := hr id (by simp)
      rw [hb] at r
      obtain ⟨A, c, rfl⟩ := own_val hv ⟨sz, ty', fz, els, r, hn⟩
      exact ⟨.int .i64 (n), by simp [Builtin.len_, run_underlying h2, goInt], by simp [Reps, RepC]⟩
    · rename_i k q e l hik
      rw [hik] at h2
      obtain ⟨_, rfl, hk⟩ := hk
      refine Step.pure hk fun G w m hi hm => ?_
      obtain ⟨v, hv, rfl⟩ := hm
      simp only [Reps, RepC] at hv
      obtain ⟨A, c, rfl, _⟩ := hv
      exact ⟨.int .i64 (l.length), by simp [Builtin.len_, run_underlying h2, goInt], by simp [Reps, RepC]⟩
    · rename_i k q e hik
      rw [hik] at h2
      refine Step.pure hk fun G w m hi hm => ?_
      obtain ⟨v, hv, rfl⟩ := hm
      simp only [Reps] at hv
      subst hv
      exact ⟨.int .i64 (0), by simp [Builtin.len_, run_underlying h2, goInt], by simp [Reps, RepC]⟩
    · rename_i k q x hik
      rw [hik] at h2
      refine Step.pure hk fun G w m hi hm => ?_
      obtain ⟨v, hv, rfl⟩ := hm
      simp only [Reps, RepC] at hv
      subst hv
      exact ⟨.int .i64 (x.size), by simp [Builtin.len_, run_underlying h2, goInt], by simp [Reps, RepC]⟩
    · exact hk.elim

theorem bt_eq (y : ByteArray) (j : Int) (h0 : 0 ≤ j) (h1 : j < (y.size : Int)) : ∃ hh : j.toNat < y.size, bt y j = ((y[j.toNat]'hh).toNat : Int) := by
  have hh : j.toNat < y.size := by omega
  exact ⟨hh, by unfold bt; rw [dif_pos hh]⟩

theorem index_ok {t : Nat} {p x : PV} (hk : aIndex E h t p x K) : Step E.P h (fun G w m => ∃ v u, Reps G w p v ∧ Reps G w x u ∧ m = Instr.index t v u) K := by
  unfold aIndex at hk
  cases hl : look E.T t with
  | none => rw [hl] at hk; exact hk.elim
  | some i =>
    rw [hl] at hk
    simp only at hk
    have h2 := (Env.fact hl).2.1
    split at hk
    · rename_i k q r y k2 j hik
      rw [hik] at h2
      obtain ⟨k3, k4, hk⟩ := hk
      refine Step.pure hk fun G w m hi hm => ?_
      obtain ⟨v, u, hv, hu, rfl⟩ := hm
      simp only [Reps, RepC] at hv hu
      subst hv hu
      obtain ⟨hh, hb⟩ := bt_eq y j k3 k4
      have hg : y[j.toNat]? = some (y[j.toNat]'hh) := by simp [hh]
      exact ⟨.int .u8 ((y[j.toNat]'hh).toNat : Int), by simp [Instr.index, run_underlying h2, asIntOf, k3, hg], by simp [Reps, RepC, hb]⟩
    · exact hk.elim

theorem indexAddr_ok {t : Nat} {p x : PV} (hk : aIndexAddr E h t p x K) : Step E.P h (fun G w m => ∃ v u, Reps G w p v ∧ Reps G w x u ∧ m = Instr.indexAt t v u) K := by
  unfold aIndexAddr at hk
  split at hk
  · rename_i i k j hl
    have h2 := (Env.fact hl).2.1
    split at hk
    · rename_i e hik
      rw [hik] at h2
      cases hle : look E.T e with
      | none => rw [hle] at hk; exact hk.elim
      | some y =>
        rw [hle] at hk
        simp only at hk
        have hy := Env.fact hle
        split at hk
        · rename_i id n
          split at hk
          · rename_i sz ty fz els hb
            obtain ⟨k1, k2, k3, hn, hk⟩ := hk
            refine Step.reads hk fun G w m hi hm hr => ?_
            obtain ⟨v, u, hv, hu, rfl⟩ := hm
            have r := hr id (by simp)
            rw [hb] at r
            simp only [Reps, RepC] at hu
            subst hu
            simp only [Reps] at hv
            obtain ⟨sz', m, f, p1, _, _, p2⟩ := hv
            have p1' := p1
            rw [r.1] at p1'
            injection p1' with p1'
            injection p1' with p3 p4
            injection p4 with p4 p5
            subst p3 p4
            rcases p2 with p2 | ⟨_, p2⟩
            · omega
            · rcases p2 with ⟨rfl, p2⟩ | ⟨b, c, cs, ty', rfl, p6, p7, p8, p9, p10⟩
              · omega
              · refine ⟨.pointer (some ⟨b, j.toNat * y.size, none⟩), ?_, ?_⟩
                · have k3' : j < (n : Int) := k3
                  simp [Instr.indexAt, run_underlying h2, asIntOf, k2, k3', hy.sizeOf w, Addr.add_mid]
                · simp only [Reps]
                  exact ⟨_, _, _, p1, rfl, .inr ⟨by omega, b, by simp [k1], p6⟩⟩
          · exact hk.elim
        · rename_i l
          obtain ⟨k1, el, k2, k3, hk⟩ := hk
          refine Step.pure hk fun G w m hi hm => ?_
          obtain ⟨v, u, hv, hu, rfl⟩ := hm
          simp only [Reps, RepC] at hv hu
          subst hu
          obtain ⟨A, c, rfl, q1, q2, q3⟩ := hv
          have hlt : j.toNat < l.length := (List.getElem?_eq_some_iff.1 k2).1
          rcases q3 with rfl | ⟨b, o, sz, cs, ty, fr, rfl, q4, q5, q6, q7⟩
          · simp at k2
          · obtain ⟨a1, a2⟩ := q7.at _ el k2
            have hj : j < (l.length : Int) := by omega
            have hsz : sz = y.size := a1.symm.trans k3
            subst hsz
            refine ⟨.pointer (some ⟨b, o + j.toNat * y.size, none⟩), ?_, ?_⟩
            · have hs := hy.sizeOf w
              simp [Instr.indexAt, run_underlying h2, asIntOf, k1, hj, hs, Addr.add_mid]
            · simp only [Reps]
              rw [List.drop_drop] at a2
              exact ⟨b, _, cs, ty, fr, rfl, q4, q5, a2⟩
        · exact hk.elim
    · rename_i n e hik
      rw [hik] at h2
      split at hk
      · rename_i y id o hle
        have hy := Env.fact hle
        split at hk
        · rename_i ty cs hb
          obtain ⟨q, rfl, k2, hk⟩ := hk
          refine Step.reads hk fun G w m hi hm hr => ?_
          obtain ⟨v, u, hv, hu, rfl⟩ := hm
          have r := hr id (by simp)
          rw [hb] at r
          obtain ⟨b, vs, rfl, h3, _⟩ := r.box_at hv
          simp only [Reps, RepC] at hu
          subst hu
          refine ⟨.pointer (some ⟨b, o + q * y.size, none⟩), ?_, ?_⟩
          · have k2' : (q : Int) < (n : Int) := by omega
            simp [Instr.indexAt, run_underlying h2, asIntOf, Instr.sureAddr, k2', hy.sizeOf w, Addr.add_mid]
            omega
          · simp only [Reps]
            exact ⟨_, _, _, r.1, rfl, .inr ⟨rfl, b, by simp, h3⟩⟩
        · exact hk.elim
      · exact hk.elim
    · exact hk.elim
  · exact hk.elim

theorem run_fieldAt {w : World} {t f b o : Nat} {i : TI} {fs : List (Nat × Nat)} {q : Nat × Nat} (hf : TyFact E.P t i) (hik : i.k = .struct fs) (hq : nthF fs f = some q) (h0 : 0 < q.2) :
    (Instr.fieldAt t (.pointer (some ⟨b, o, none⟩)) f).run E.P w = .ok (.pointer (some ⟨b, o + q.1, none⟩)) w := by
  obtain ⟨fields, u1, u2⟩ := hf.struct hik
  obtain ⟨x, x1, x2, x3⟩ := nthF_map (α := Unit) E.P fs _ f q u2 hq
  rw [List.getElem?_map] at x1
  obtain ⟨fl, y1, rfl⟩ := Option.map_eq_some_iff.1 x1
  simp only at x2 x3
  obtain ⟨inf, z1, z2⟩ := Option.map_eq_some_iff.1 x3
  rw [Array.getElem?_toList] at y1
  have hne : ¬ inf.size = 0 := by omega
  simp [Instr.fieldAt, run_underlying u1, y1, Instr.sureAddr, fieldPlace, sizeOf, typeInfo, z1, hne, Addr.add_mid, x2]

theorem fieldAddr_ok {t f : Nat} {p : PV} (hk : aFieldAddr E h t p f K) : Step E.P h (fun G w m => ∃ v, Reps G w p v ∧ m = Instr.fieldAt t v f) K := by
  unfold aFieldAddr at hk
  cases hl : look E.T t with
  | none => rw [hl] at hk; exact hk.elim
  | some i =>
    rw [hl] at hk
    simp only at hk
    have hf := Env.fact hl
    split at hk
    · rename_i fs hik
      cases hq : nthF fs f with
      | none => rw [hq] at hk; exact hk.elim
      | some q =>
        rw [hq] at hk
        obtain ⟨h0, hk⟩ := hk
        split at hk
        · rename_i id o
          split at hk
          · rename_i ty cs hb
            refine Step.reads hk fun G w m hi hm hr => ?_
            obtain ⟨v, hv, rfl⟩ := hm
            have r := hr id (by simp)
            rw [hb] at r
            obtain ⟨b, vs, rfl, h3, _⟩ := r.box_at hv
            refine ⟨_, run_fieldAt hf hik hq h0, ?_⟩
            simp only [Reps]
            exact ⟨_, _, _, r.1, rfl, .inr ⟨rfl, b, by simp, h3⟩⟩
          · exact hk.elim
        · rename_i id n e o
          split at hk
          · rename_i sz ty fz els hb
            obtain ⟨hn, he, hk⟩ := hk
            refine Step.reads hk fun G w m hi hm hr => ?_
            obtain ⟨v, hv, rfl⟩ := hm
            have r := hr id (by simp)
            rw [hb] at r
            obtain ⟨b, vs, rfl, h3, _⟩ := r.arr_at hn he hv
            refine ⟨_, run_fieldAt hf hik hq h0, ?_⟩
            simp only [Reps]
            exact ⟨_, _, _, r.1, rfl, .inr ⟨hn, b, by simp [Nat.add_assoc], h3⟩⟩
          · exact hk.elim
        · rename_i cs
          refine Step.pure hk fun G w m hi hm => ?_
          obtain ⟨v, hv, rfl⟩ := hm
          simp only [Reps] at hv
          obtain ⟨b, o, vs, ty, fr, rfl, q4, q5, q6⟩ := hv
          refine ⟨_, run_fieldAt hf hik hq h0, ?_⟩
          simp only [Reps]
          refine ⟨b, _, vs, ty, fr, rfl, q4, q5, ?_⟩
          have := q6.drop q.1
          rw [List.drop_drop] at this
          exact this
        · exact hk.elim
    · exact hk.elim

theorem wr_eq (k : IntKind) (n : Int) : wr k n = k.wrap n := by
  cases k <;> simp [wr, IntKind.wrap_i64, IntKind.wrap_u8, wrap64]

theorem p2_eq (y : Int) : p2 y = 2 ^ y.toNat := by simp [p2]

theorem bin_ok {op : BinOp} {xt : Nat} {x y : Operand} {p q : PV} (hk : aBin h op p q K) : Step E.P h (fun G w m => ∃ v u, Reps G w p v ∧ Reps G w q u ∧ m = (do eqGuard op xt x y v u; binOp op xt v u)) K := by
  unfold aBin at hk
  simp only [wrK_eq] at hk
  split at hk
  · rename_i k a k' b
    have main : ∀ (r : CV), K (.v r) h [] [] → (∀ G w, ∃ u, ((do eqGuard op xt x y (.int k a) (.int k' b); binOp op xt (.int k a) (.int k' b) : Sem Value)).run E.P w = .ok u w ∧ Reps G w (.v r) u) → Step E.P h (fun G w m => ∃ v u, Reps G w (.v (.i k a)) v ∧ Reps G w (.v (.i k' b)) u ∧ m = (do eqGuard op xt x y v u; binOp op xt v u)) K := fun r hk' hr =>
      Step.pure hk' fun G w m hi hm => by
        obtain ⟨v, u, hv, hu, rfl⟩ := hm
        simp only [Reps, RepC] at hv hu
        subst hv hu
        exact hr G w
    cases op <;> simp only at hk
    case add => obtain ⟨rfl, hk⟩ := hk; exact main _ hk fun G w => ⟨_, by simp [eqGuard, binOp, Op.intArith]; rfl, by simp [Reps, RepC, wr_eq]⟩
    case sub => obtain ⟨rfl, hk⟩ := hk; exact main _ hk fun G w => ⟨_, by simp [eqGuard, binOp, Op.intArith]; rfl, by simp [Reps, RepC, wr_eq]⟩
    case mul => obtain ⟨rfl, hk⟩ := hk; exact main _ hk fun G w => ⟨_, by simp [eqGuard, binOp, Op.intArith]; rfl, by simp [Reps, RepC, wr_eq]⟩
    case quo => obtain ⟨rfl, hn, hk⟩ := hk; exact main _ hk fun G w => ⟨_, by simp [eqGuard, binOp, Op.intDiv, hn]; rfl, by simp [Reps, RepC, wr_eq]⟩
    case rem => obtain ⟨rfl, hn, hk⟩ := hk; exact main _ hk fun G w => ⟨_, by simp [eqGuard, binOp, Op.intDiv, hn]; rfl, by simp [Reps, RepC]⟩
    case and => obtain ⟨rfl, hk⟩ := hk; exact main _ hk fun G w => ⟨_, by simp [eqGuard, binOp, intBits_and]; rfl, by simp [Reps, RepC]⟩
    case or => obtain ⟨rfl, hk⟩ := hk; exact main _ hk fun G w => ⟨_, by simp [eqGuard, binOp, intBits_or]; rfl, by simp [Reps, RepC]⟩
    case xor => obtain ⟨rfl, hk⟩ := hk; exact main _ hk fun G w => ⟨_, by simp [eqGuard, binOp, intBits_xor]; rfl, by simp [Reps, RepC]⟩
    case shl => obtain ⟨h0, h1, hk⟩ := hk; exact main _ hk fun G w => ⟨_, by simp [eqGuard, binOp, shift_shl k k' a b h0 h1]; rfl, by simp [Reps, RepC, wr_eq, p2_eq]⟩
    case shr => obtain ⟨h0, h1, hk⟩ := hk; exact main _ hk fun G w => ⟨_, by simp [eqGuard, binOp, shift_shr k k' a b h0 h1]; rfl, by simp [Reps, RepC, p2_eq]⟩
    case eql => obtain ⟨rfl, hk⟩ := hk; exact main _ hk fun G w => ⟨_, by simp [eqGuard, binOp, Op.intCmp]; rfl, by simp [Reps, RepC]⟩
    case neq => obtain ⟨rfl, hk⟩ := hk; exact main _ hk fun G w => ⟨_, by simp [eqGuard, binOp, Op.intCmp]; rfl, by simp [Reps, RepC]⟩
    case lss => obtain ⟨rfl, hk⟩ := hk; exact main _ hk fun G w => ⟨_, by simp [eqGuard, binOp, Op.intCmp]; rfl, by simp [Reps, RepC]⟩
    case leq => obtain ⟨rfl, hk⟩ := hk; exact main _ hk fun G w => ⟨_, by simp [eqGuard, binOp, Op.intCmp]; rfl, by simp [Reps, RepC]⟩
    case gtr => obtain ⟨rfl, hk⟩ := hk; exact main _ hk fun G w => ⟨_, by simp [eqGuard, binOp, Op.intCmp]; rfl, by simp [Reps, RepC]⟩
    case geq => obtain ⟨rfl, hk⟩ := hk; exact main _ hk fun G w => ⟨_, by simp [eqGuard, binOp, Op.intCmp]; rfl, by simp [Reps, RepC]⟩
  · rename_i a b
    have main : ∀ (r : CV), K (.v r) h [] [] → (∀ G w, ∃ u, ((do eqGuard op xt x y (.string a) (.string b); binOp op xt (.string a) (.string b) : Sem Value)).run E.P w = .ok u w ∧ Reps G w (.v r) u) → Step E.P h (fun G w m => ∃ v u, Reps G w (.v (.s a)) v ∧ Reps G w (.v (.s b)) u ∧ m = (do eqGuard op xt x y v u; binOp op xt v u)) K := fun r hk' hr =>
      Step.pure hk' fun G w m hi hm => by
        obtain ⟨v, u, hv, hu, rfl⟩ := hm
        simp only [Reps, RepC] at hv hu
        subst hv hu
        exact hr G w
    cases op <;> simp only at hk
    case add =>
      obtain ⟨h0, hk⟩ := hk
      refine main _ hk fun G w => ⟨.string (a ++ b), ?_, by simp [Reps, RepC]⟩
      have : ¬ (((a.size + b.size : Nat) : Int) > IntKind.i64.max) := by
        have : IntKind.i64.max = 9223372036854775807 := by decide
        omega
      simp only [eqGuard, binOp, Op.stringOp]
      rw [if_neg this]
      simp
    case eql => exact main _ hk fun G w => ⟨_, by simp [eqGuard, binOp, Op.stringOp]; rfl, by simp [Reps, RepC]⟩
    case neq => exact main _ hk fun G w => ⟨_, by simp [eqGuard, binOp, Op.stringOp]; rfl, by simp [Reps, RepC]⟩
  · exact hk.elim

theorem binT_ok {op : BinOp} {t : TypeId} {x y : Operand} {p q : PV} (hk : aBinT E h op t p q K) : Step E.P h (fun G w m => ∃ v u, Reps G w p v ∧ Reps G w q u ∧ m = (do eqGuard op t x y v u; binOp op t v u)) K := by
  unfold aBinT at hk
  split at hk
  · rename_i cs ds
    unfold aEq at hk
    cases hl : lookQ E.Q t with
    | none => rw [hl] at hk; exact hk.elim
    | some f =>
      rw [hl] at hk
      simp only at hk
      cases hb : f cs ds with
      | none => rw [hb] at hk; exact hk.elim
      | some bc =>
        obtain ⟨b, c⟩ := bc
        rw [hb] at hk
        simp only at hk
        have hf := E.qok _ (lookQ_mem hl)
        obtain ⟨hne, hrun⟩ := hf.2 cs ds b c hb
        have main : ∀ (r : CV), K (.v r) h [] [] → (∀ (w : World) (xs ys : Array Value), (Op.equal t (.agg xs) (.agg ys)).run E.P w = .ok b w → ∃ u, ((do eqGuard op t x y (.agg xs) (.agg ys); binOp op t (.agg xs) (.agg ys) : Sem Value)).run E.P w = .ok u w ∧ ∀ G, Reps G w (.v r) u) →
            Step E.P h (fun G w m => ∃ v u, Reps G w (.agg cs) v ∧ Reps G w (.agg ds) u ∧ m = (do eqGuard op t x y v u; binOp op t v u)) K := fun r hk' hr =>
          Step.pure hk' fun G w m hi hm => by
            obtain ⟨v, u, hv, hu, rfl⟩ := hm
            simp only [Reps] at hv hu
            obtain ⟨xs, rfl, hx⟩ := hv
            obtain ⟨ys, rfl, hy⟩ := hu
            obtain ⟨z, z1, z2⟩ := hr w xs ys (hrun G w xs ys hx hy)
            exact ⟨z, z1, z2 G⟩
        have hg : E.P.eqGuardType E.P.depth t = false := hf.1
        cases op <;> simp only at hk
        case eql => exact main _ hk fun w xs ys he => ⟨.bool b, by simp [eqGuard, binOp, run_program, hg, he], fun G => by simp [Reps, RepC]⟩
        case neq => subst hne; exact main _ hk fun w xs ys he => ⟨.bool (!b), by simp [eqGuard, binOp, run_program, hg, he], fun G => by simp [Reps, RepC]⟩
  · rename_i a b
    cases hl : look E.T t with
    | none => rw [hl] at hk; exact hk.elim
    | some i =>
      rw [hl] at hk
      simp only at hk
      have h2 := (Env.fact hl).2.1
      have main : ∀ (r : CV), i.k = .bool → K (.v r) h [] [] → (∀ (w : World), (Op.equal t (.bool a) (.bool b)).run E.P w = .ok (a == b) w → ∃ u, ((do eqGuard op t x y (.bool a) (.bool b); binOp op t (.bool a) (.bool b) : Sem Value)).run E.P w = .ok u w ∧ ∀ G, Reps G w (.v r) u) →
          Step E.P h (fun G w m => ∃ v u, Reps G w (.v (.b a)) v ∧ Reps G w (.v (.b b)) u ∧ m = (do eqGuard op t x y v u; binOp op t v u)) K := fun r hk0 hk' hr =>
        Step.pure hk' fun G w m hi hm => by
          obtain ⟨v, u, hv, hu, rfl⟩ := hm
          simp only [Reps, RepC] at hv hu
          subst hv hu
          rw [hk0] at h2
          obtain ⟨z, z1, z2⟩ := hr w (by
            have h3 : E.P.underlying t = some .bool := h2
            have key : ∀ d, (Op.equalIn (d + 1) t (.bool a) (.bool b)).run E.P w = .ok (a == b) w := fun d => by simp [Op.equalIn, run_underlying h3]
            exact key 9999)
          exact ⟨z, z1, z2 G⟩
      split at hk
      · rename_i hik
        exact main _ hik hk fun w he => ⟨.bool (a == b), by simp [eqGuard, binOp, he], fun G => by simp [Reps, RepC]⟩
      · rename_i hik
        exact main _ hik hk fun w he => ⟨.bool (a != b), by simp [eqGuard, binOp, he, bne], fun G => by simp [Reps, RepC]⟩
      · exact hk.elim
  · exact bin_ok hk

theorem un_ok {op : UnOp} {p : PV} (hk : aUn h op p K) : Step E.P h (fun G w m => ∃ v, Reps G w p v ∧ m = Op.unary op v) K := by
  unfold aUn at hk
  simp only [wrK_eq] at hk
  split at hk
  · refine Step.pure hk fun G w m hi hm => ?_
    obtain ⟨v, hv, rfl⟩ := hm
    simp only [Reps, RepC] at hv
    subst hv
    exact ⟨_, by simp [Op.unary]; rfl, by simp [Reps, RepC]⟩
  · refine Step.pure hk fun G w m hi hm => ?_
    obtain ⟨v, hv, rfl⟩ := hm
    simp only [Reps, RepC] at hv
    subst hv
    exact ⟨_, by simp [Op.unary, Op.intArith]; rfl, by simp [Reps, RepC, wr_eq, Int.zero_sub]⟩
  · exact hk.elim

theorem pick_ok {c p q : PV} (hk : aPick h c p q K) : Step E.P h (fun G w m => ∃ v u z, Reps G w c v ∧ Reps G w p u ∧ Reps G w q z ∧ m = (do pure (if ← asBool v then u else z))) K := by
  unfold aPick at hk
  split at hk
  · rename_i x
    split at hk
    · rename_i y z
      refine Step.pure hk fun G w m hi hm => ?_
      obtain ⟨v, u, z', hv, hu, hz, rfl⟩ := hm
      simp only [Reps, RepC] at hv hu hz
      subst hv hu hz
      exact ⟨.bool (cond x y z), by cases x <;> simp [asBool], by simp [Reps, RepC]⟩
    · cases x with
      | true =>
        refine Step.pure (hk.1 rfl) fun G w m hi hm => ?_
        obtain ⟨v, u, z', hv, hu, hz, rfl⟩ := hm
        simp only [Reps, RepC] at hv
        subst hv
        exact ⟨u, by simp [asBool], hu⟩
      | false =>
        refine Step.pure (hk.2 rfl) fun G w m hi hm => ?_
        obtain ⟨v, u, z', hv, hu, hz, rfl⟩ := hm
        simp only [Reps, RepC] at hv
        subst hv
        exact ⟨z', by simp [asBool], hz⟩
  · exact hk.elim

theorem extract_ok {p : PV} {n : Nat} (hk : aExtract h p n K) : Step E.P h (fun G w m => ∃ v, Reps G w p v ∧ m = Instr.extract v n) K := by
  unfold aExtract at hk
  split at hk
  · rename_i vs
    obtain ⟨k1, hk⟩ := hk
    refine Step.pure hk fun G w m hi hm => ?_
    obtain ⟨v, hv, rfl⟩ := hm
    simp only [Reps] at hv
    obtain ⟨us, rfl, hr⟩ := hv
    obtain ⟨u, h1, h2⟩ := hr.nth n k1
    exact ⟨u, by simp [Instr.extract, Array.getElem?_toList ▸ h1], h2⟩
  · exact hk.elim
end
end Go.Proofs.Ytkpcieenikmbmaa.E

/- Each operation comes to what is told of it: conversions and cuts. -/
namespace Go.Proofs.Ytkpcieenikmbmaa.E
open Go Go.RowKit Go.Proofs.YtkpcieenikmbmaaW.PrintWords
set_option linter.unusedVariables false
set_option linter.unusedSimpArgs false

section
variable {E : Env} {h : List Blk} {K : Kont}

theorem nilCheck_ok {p : PV} (hk : aNilCheck h p K) : Step E.P h (fun G w m => ∃ v, Reps G w p v ∧ ∀ a, v = .pointer (some a) → m = pure v) K := by
  unfold aNilCheck at hk
  split at hk
  · rename_i id o
    split at hk
    · rename_i ty cs hb
      refine Step.reads hk fun G w m hi hm hr => ?_
      obtain ⟨v, hv, hm⟩ := hm
      have r := hr id (by simp)
      rw [hb] at r
      obtain ⟨b, vs, rfl, _⟩ := r.box_at hv
      rw [hm _ rfl]
      exact ⟨_, rfl, hv⟩
    · exact hk.elim
  · refine Step.pure hk fun G w m hi hm => ?_
    obtain ⟨v, hv, hm⟩ := hm
    have hv' := hv
    simp only [Reps] at hv'
    obtain ⟨b, o, vs, ty, fr, rfl, _⟩ := hv'
    rw [hm _ rfl]
    exact ⟨_, rfl, hv⟩
  · exact hk.elim

theorem reads_of {G : Gh} {w : World} {l : List Int} {v : Value} (hs : SliceSrc G w (l.map fun x => [CV.i .u8 x]) v) : ∃ A n c, v = .slice A n c ∧ ReadsInt w .u8 A n l := by
  obtain ⟨A, c, rfl, h1, h2, h3⟩ := hs
  rw [List.length_map] at h1 h2 ⊢
  refine ⟨A, l.length, c, rfl, rfl, by simp only [maxLen] at h2; omega, fun h0 => ?_⟩
  rcases h3 with h3 | ⟨b, o, sz, cs, ty, fr, rfl, h4, h5, h6⟩
  · rw [List.map_eq_nil_iff] at h3
    subst h3
    simp at h0
  · refine ⟨_, rfl, fun j hj => ?_⟩
    obtain ⟨a1, a2⟩ := h6.at j [CV.i .u8 (l.getD j 0)] (by simp [hj])
    simp only [List.length_cons, List.length_nil, Nat.zero_add] at a1
    subst a1
    simp only [RepP, RepC] at a2
    obtain ⟨u, us, a3, rfl, _⟩ := a2
    rw [Addr.add_mid, cell_of_row w b (o + j) cs ty fr h4]
    have := congrArg (fun q => q[0]?) a3
    simpa using this

theorem convert_ok {t u : Nat} {p : PV} (hk : aConvert E h t u p K) : Step E.P h (fun G w m => ∃ v, Reps G w p v ∧ m = convert t u v) K := by
  unfold aConvert at hk
  simp only [wrK_eq] at hk
  split at hk
  · rename_i i j hl hl2
    have h2 := (Env.fact hl).2.1
    have h3 := (Env.fact hl2).2.1
    split at hk
    · rename_i k1 k k3 n hik hjk
      rw [hik] at h2
      rw [hjk] at h3
      refine Step.pure hk fun G w m hi hm => ?_
      obtain ⟨v, hv, rfl⟩ := hm
      simp only [Reps, RepC] at hv
      subst hv
      exact ⟨.int k (k.wrap n), by simp [convert, run_underlying h2, run_underlying h3, Conv.intToInt], by simp [Reps, RepC, wr_eq]⟩
    · rename_i p1 p2 e hik hjk
      rw [hik] at h2
      rw [hjk] at h3
      cases hle : look E.T e with
      | none => rw [hle] at hk; exact hk.elim
      | some y =>
        rw [hle] at hk
        simp only at hk
        have hy := (Env.fact hle).2.1
        split at hk
        · rename_i hyk
          rw [hyk] at hy
          obtain ⟨els, rd, ⟨l, rfl, hk⟩, hs⟩ := rowOf_ok hk
          refine Step.reads hk fun G w m hi hm hr => ?_
          obtain ⟨v, hv, rfl⟩ := hm
          obtain ⟨A, n, c, rfl, hrd⟩ := reads_of (hs G w v hi hv (fun id hid => hr id hid))
          exact ⟨_, string_of_reads h2 hy h3 hrd, by simp [Reps, RepC]⟩
        · exact hk.elim
    · rename_i p1 p2 e x hik hjk
      rw [hik] at h2
      rw [hjk] at h3
      cases hle : look E.T e with
      | none => rw [hle] at hk; exact hk.elim
      | some y =>
        rw [hle] at hk
        simp only at hk
        have hy := (Env.fact hle).2.1
        split at hk
        · rename_i hyk
          rw [hyk] at hy
          obtain ⟨hsz, hk⟩ := hk
          refine ⟨_, _, [], [], hk, fun _ _ => rfl, Nat.le_refl _, fun G w m hi hm _ => ?_⟩
          obtain ⟨v, hv, rfl⟩ := hm
          simp only [Reps, RepC] at hv
          subst hv
          have hm : maxLen = 9223372036854775807 := by decide
          have hbl : (bytesOf x).length = x.size := by
            unfold bytesOf
            rw [List.length_map]
            rfl
          have hb : Below w.heap.size w (Lib.bytesWorld w e x) := ⟨rfl, rfl, rfl, by rw [Lib.bytesWorld_size]; omega, fun k hk => Lib.bytesWorld_at_old w e x k hk⟩
          refine ⟨_, _, G, Lib.run_convert_string_bytes w t u e x h2 h3 hy, ext_grow hi hb, ?_, fun id hid => by cases hid⟩
          simp only [Reps, RepC, List.length_map, hbl]
          refine ⟨_, _, rfl, grownCap_ge w x.size 0 e, by omega, .inr ⟨w.heap.size, 0, 1, _, _, _, rfl, .inr (.inl ⟨hi.base, ?_⟩), Lib.bytesWorld_at_new w e x, Nat.one_pos, RepE.mk fun j el hj => ?_⟩⟩
          · cases ho : G.own w.heap.size with
            | none => rfl
            | some id => exact absurd (hi.own _ id ho) (Nat.lt_irrefl _)
          · rw [List.getElem?_map] at hj
            obtain ⟨b, hb', rfl⟩ := Option.map_eq_some_iff.1 hj
            have hlt : j < x.size := by
              have := (List.getElem?_eq_some_iff.1 hb').1
              omega
            refine ⟨rfl, ?_⟩
            have hc := Lib.bytesWorld_cell w e x j hlt
            have hc' : (Lib.bytesCells w e x)[j]? = some (.int .u8 (x.data.toList.getD j 0).toNat) := by
              have h0 := Lib.bytesWorld_at_new w e x
              unfold World.cell? at hc
              simp only [h0] at hc
              simpa using hc
            have hbv : b = ((x.data.toList.getD j 0).toNat : Int) := by
              unfold bytesOf at hb'
              rw [List.getElem?_map] at hb'
              obtain ⟨c, hc1, rfl⟩ := Option.map_eq_some_iff.1 hb'
              rw [List.getD_eq_getElem?_getD, hc1]
              rfl
            have hl : (((Lib.bytesCells w e x).toList.drop 0).drop (j * 1))[0]? = some (.int .u8 b) := by
              rw [List.drop_zero, Nat.mul_one, List.getElem?_drop, Nat.add_zero, Array.getElem?_toList, hc', hbv]
            cases hd : ((Lib.bytesCells w e x).toList.drop 0).drop (j * 1) with
            | nil => rw [hd] at hl; cases hl
            | cons v0 r0 =>
              rw [hd] at hl
              injection hl with hl
              subst hl
              simp only [RepP, RepC]
              exact ⟨_, _, rfl, rfl, trivial⟩
        · exact hk.elim
    · exact hk.elim
  · exact hk.elim

def OptRep (G : Gh) (w : World) : Option PV → Option Value → Prop
  | none, none => True
  | some p, some v => Reps G w p v
  | _, _ => False

theorem run_bounds {P : Program} {G : Gh} {w : World} {b : Bool} {n c : Nat} {lo hi : Option PV} {lo' hi' : Option Value} {l r : Int} (h1 : OptRep G w lo lo') (h2 : OptRep G w hi hi') (h3 : optI lo 0 = some l) (h4 : optI hi n = some r)
    (h0 : 0 ≤ l) (hlr : l ≤ r) (hr : r ≤ (n : Int)) (hc : n ≤ c) : (Instr.sliceBounds b n c lo' hi' none).run P w = .ok (l.toNat, r.toNat, c) w := by
  have hb : ∀ (k : IntKind) (x : Int) (y : Nat) (code : BoundsCode), 0 ≤ x → x ≤ (y : Int) → (Instr.sliceBound (.int k x) y code).run P w = .ok x.toNat w := fun k x y code a1 a2 => by
    simp [Instr.sliceBound, asIntOf, a1, a2]
  have hhi : ∀ code, (match hi', (none : Option Value) with | some v, some _ => Instr.sliceBound v c .slice3B | some v, none => Instr.sliceBound v c code | none, none => pure n | none, some _ => stuck "Slice: max without high" : Sem Nat).run P w = .ok r.toNat w := fun code => by
    cases hi with
    | none =>
      cases hi' with
      | some _ => exact h2.elim
      | none =>
        simp only [optI, Option.some.injEq] at h4
        subst h4
        simp
    | some p =>
      cases hi' with
      | none => exact h2.elim
      | some v =>
        simp only [OptRep] at h2
        cases p with
        | v cv =>
          cases cv with
          | i k x =>
            simp only [optI, Option.some.injEq] at h4
            subst h4
            simp only [Reps, RepC] at h2
            subst h2
            exact hb k x c code (by omega) (by omega)
          | _ => simp [optI] at h4
        | _ => simp [optI] at h4
  have hlo : (match lo' with | some v => Instr.sliceBound v r.toNat .sliceB | none => pure 0 : Sem Nat).run P w = .ok l.toNat w := by
    cases lo with
    | none =>
      cases lo' with
      | some _ => exact h1.elim
      | none =>
        simp only [optI, Option.some.injEq] at h3
        subst h3
        simp
    | some p =>
      cases lo' with
      | none => exact h1.elim
      | some v =>
        simp only [OptRep] at h1
        cases p with
        | v cv =>
          cases cv with
          | i k x =>
            simp only [optI, Option.some.injEq] at h3
            subst h3
            simp only [Reps, RepC] at h1
            subst h1
            exact hb k x r.toNat .sliceB h0 (by omega)
          | _ => simp [optI] at h3
        | _ => simp [optI] at h3
  cases hi' <;> cases lo' <;> simp_all [Instr.sliceBounds]

theorem row_cut {I : Nat → Prop} {w : World} {xs : List (List CV)} {A : Option Addr} {n c sz l r : Nat} {v : Value} (hn : n = xs.length) (hr : RepC I w (.row xs) (.slice A n c)) (hsz : ∀ x ∈ xs, x.length = sz) (hlr : l ≤ r) (hrn : r ≤ n)
    (hv : v = .slice (if c = l then A else A.map (·.add (l * sz))) (r - l) (c - l)) : RepC I w (.row ((xs.take r).drop l)) v := by
  subst hv
  simp only [RepC] at hr ⊢
  obtain ⟨A', c', h1, h2, h3, h4⟩ := hr
  injection h1 with e1 e2 e3
  subst e1 e3
  have hlen : ((xs.take r).drop l).length = r - l := by rw [List.length_drop, List.length_take]; omega
  refine ⟨_, c - l, by rw [hlen], by rw [hlen]; omega, by omega, ?_⟩
  by_cases he : r = l
  · left
    apply List.eq_nil_of_length_eq_zero
    omega
  · rcases h4 with h4 | ⟨b, o, sz', cs, ty, fr, h5, h6, h7, h8, h9⟩
    · subst h4
      simp at hn
      omega
    · subst h5
      right
      have hne : ¬ c = l := by omega
      have hx : ∃ y, y ∈ xs := List.exists_mem_of_ne_nil xs (fun e => by subst e; simp at hn; omega)
      obtain ⟨y, hy⟩ := hx
      have e1 : sz' = sz := (h9.size y hy).symm.trans (hsz y hy)
      subst e1
      refine ⟨b, o + l * sz', sz', cs, ty, fr, by simp [hne, Addr.add_mid], h6, h7, h8, ?_⟩
      have := (h9.take r).drop l
      rw [List.drop_drop] at this
      exact this

theorem slice_ok {t : Nat} {p : PV} {lo hi : Option PV} (hk : aSlice E h t p lo hi K) : Step E.P h (fun G w m => ∃ v lo' hi', Reps G w p v ∧ OptRep G w lo lo' ∧ OptRep G w hi hi' ∧ m = Instr.sliceAt t v lo' hi' none) K := by
  unfold aSlice at hk
  cases hl : look E.T t with
  | none => rw [hl] at hk; exact hk.elim
  | some i =>
    rw [hl] at hk
    simp only at hk
    have h2 := (Env.fact hl).2.1
    split at hk
    · rename_i x hik
      rw [hik] at h2
      split at hk
      · rename_i l r hlo hhi
        obtain ⟨k1, k2, k3, hk⟩ := hk
        refine Step.pure hk fun G w m hi hm => ?_
        obtain ⟨v, lo', hi', hv, q1, q2, rfl⟩ := hm
        simp only [Reps, RepC] at hv
        subst hv
        have hb := run_bounds (P := E.P) (b := false) (c := x.size) q1 q2 hlo hhi k1 k2 k3 (Nat.le_refl _)
        refine ⟨.string (x.extract l.toNat r.toNat), ?_, by simp [Reps, RepC]⟩
        simp [Instr.sliceAt, Instr.slice, run_underlying h2, hb]
      · exact hk.elim
    · rename_i e xs hik
      rw [hik] at h2
      split at hk
      · rename_i j l r hle hlo hhi
        obtain ⟨k0, k1, k2, k3, ys, rfl, hk⟩ := hk
        have hj := Env.fact hle
        refine Step.pure hk fun G w m hi hm => ?_
        obtain ⟨v, lo', hi', hv, q1, q2, rfl⟩ := hm
        simp only [Reps] at hv ⊢
        have hv' := hv
        simp only [RepC] at hv'
        obtain ⟨A, c, rfl, hc, _⟩ := hv'
        have hb := run_bounds (P := E.P) (b := true) (c := c) q1 q2 hlo hhi k1 k2 k3 hc
        refine ⟨.slice (if c = l.toNat then A else A.map (·.add (l.toNat * j.size))) (r.toNat - l.toNat) (c - l.toNat), ?_, row_cut rfl hv k0 (by omega) (by omega) rfl⟩
        simp [Instr.sliceAt, Instr.slice, run_underlying h2, hb, hj.sizeOf w]
      · exact hk.elim
    · rename_i e id n hik
      rw [hik] at h2
      split at hk
      · rename_i j l r sz ty fz els hle hlo hhi hb
        obtain ⟨k4, k5, k1, k2, k3, ys, rfl, hk⟩ := hk
        have hj := Env.fact hle
        have f1 : ∀ x ∈ [id], IsArr (nthB h x) := fun x hx => by
          simp only [List.mem_singleton] at hx
          subst hx
          rw [hb]
          trivial
        refine ⟨_, _, _, _, hk, fun x hx => by rw [nthB_frz, if_neg hx], by rw [len_frz]; exact Nat.le_refl _, fun G w m hi hm hr => ?_⟩
        obtain ⟨v, lo', hi', hv, q1, q2, rfl⟩ := hm
        have hrf : ∀ x ∈ [id], RelB G w x (nthB h x) := fun x hx => hr x (.inr hx)
        have r0 := hr id (by simp)
        rw [hb] at r0
        have X := ext_frz hi [id]
        have hrow : RepC (G.frz [id]).imm w (.row els) v := own_row (fun b o h1 h2 => (imm_old X hi b o h1 h2).1) (fun b hb' => .inr (.inr ⟨id, sz, els.length, hb', by simp [Gh.frz, r0.1]⟩)) r0 k4 hv
        have hv' := hrow
        simp only [RepC] at hv'
        obtain ⟨A, c, rfl, hc, _⟩ := hv'
        subst k4 k5
        have hbd := run_bounds (P := E.P) (b := true) (c := c) q1 q2 hlo hhi k1 k2 k3 hc
        refine ⟨.slice (if c = l.toNat then A else A.map (·.add (l.toNat * j.size))) (r.toNat - l.toNat) (c - l.toNat), w, G.frz [id], ?_, X, ?_, frz_rel hi hrf f1⟩
        · simp [Instr.sliceAt, Instr.slice, run_underlying h2, hbd, hj.sizeOf w]
        · simp only [Reps]
          refine row_cut rfl hrow (fun x hx => ?_) (by omega) (by omega) rfl
          rcases r0.2.2.2 with ⟨r5, _⟩ | ⟨b, cs, _, _, _, r8⟩
          · subst r5
            cases hx
          · exact r8.size x hx
      · exact hk.elim
    · exact hk.elim
end
end Go.Proofs.Ytkpcieenikmbmaa.E

/- What a run of code comes to, told with values: operations in order, code, calls. -/
namespace Go.Proofs.Ytkpcieenikmbmaa.E
open Go Go.RowKit Go.Proofs.YtkpcieenikmbmaaW.PrintWords
set_option linter.unusedVariables false
set_option linter.unusedSimpArgs false

/-! ### renaming the numbers -/
def idx : List Nat → Nat → Option Nat
  | [], _ => none
  | x :: r, i => cond (Nat.beq x i) (some 0) ((idx r i).map (· + 1))
mutual
def renP (m : Nat → Option Nat) : PV → PV
  | .v c => .v c
  | .nil => .nil
  | .own i n => match m i with
    | some j => .own j n
    | none => .un
  | .ptr i o => match m i with
    | some j => .ptr j o
    | none => .un
  | .eptr i n e o => match m i with
    | some j => .eptr j n e o
    | none => .un
  | .rptr cs => .rptr cs
  | .agg cs => .agg (renL m cs)
  | .tup cs => .tup (renL m cs)
  | .un => .un
def renL (m : Nat → Option Nat) : List PV → List PV
  | [] => []
  | p :: r => renP m p :: renL m r
end
def renB (m : Nat → Option Nat) : Blk → Blk
  | .arr sz ty fz els => .arr sz ty fz els
  | .box ty cs => .box ty (renL m cs)
def pickB (m : Nat → Option Nat) (h : List Blk) : List Nat → Option (List Blk)
  | [] => some []
  | i :: r => match nthB h i, pickB m h r with
    | some B, some l => some (renB m B :: l)
    | _, _ => none
def unfz : List Blk → Bool
  | [] => true
  | .arr _ _ true _ :: _ => false
  | _ :: r => unfz r
def nodup : List Nat → Bool
  | [] => true
  | x :: r => !(r.contains x) && nodup r

/-! ### a call -/
def noRow1 : PV → Bool
  | .v (.row _) => false
  | .v _ => true
  | _ => false
def noRow2 : PV → Bool
  | .agg cs => cs.all noRow1
  | p => noRow1 p
def hasNoRow : PV → Bool
  | .tup cs => cs.all noRow2
  | p => noRow2 p

/-- What the callee is handed: what lies behind an address by its number there, other rows by what they hold. -/
def passC (h : List Blk) (rf : List Nat) : PV → (PV → List Nat → Prop) → Prop
  | .v c, K => K (.v c) []
  | .nil, K => K (.v (.row [])) []
  | .own i n, K => match idx rf i with
    | some j => K (.own j n) []
    | none => match nthB h i with
      | some (.arr _ _ _ els) => Side (n = els.length) (K (.v (.row els)) [i])
      | _ => False
  | .ptr i o, K => match idx rf i with
    | some j => K (.ptr j o) []
    | none => False
  | _, _ => False
def passCs (h : List Blk) (rf : List Nat) : List PV → (List PV → List Nat → Prop) → Prop
  | [], K => K [] []
  | p :: r, K => passC h rf p fun q f => passCs h rf r fun qs fs => K (q :: qs) (f ++ fs)
def passA (h : List Blk) (rf : List Nat) : List PV → (List PV → List Nat → Prop) → Prop
  | [], K => K [] []
  | .agg cs :: r, K => passCs h rf cs fun q f => passA h rf r fun qs fs => K (.agg q :: qs) (f ++ fs)
  | p :: r, K => passC h rf p fun q f => passA h rf r fun qs fs => K (q :: qs) (f ++ fs)

def ownsIn : List PV → List Nat
  | [] => []
  | .own i _ :: r => i :: ownsIn r
  | _ :: r => ownsIn r
def refsOf (h : List Blk) : List PV → List Nat
  | [] => []
  | .ptr i _ :: r => i :: (match nthB h i with
    | some (.box _ cs) => ownsIn cs ++ refsOf h r
    | _ => refsOf h r)
  | _ :: r => refsOf h r

/-- What a call of f comes to. -/
def Spec (P : Program) (f : FuncId) (args : List PV) (bin : List Blk) (r : PV) (bl : List Blk) : Prop :=
  (∀ (as_ : Array Value) (w : World), (callFunc f as_).run P w = .ok (.enter f as_) w) ∧
  ∀ (G : Gh) (w : World) (vals : Array Value), Inv G w → RepsL G w args vals.toList → (∀ id, RelB G w id (nthB bin id)) →
    Calls P f vals w fun e w' => ∃ v G' ids, e = .returned v ∧ Ext ids G w G' w' ∧ Reps G' w' r v ∧ ∀ id, RelB G' w' id (nthB bl id)

inductive CallAt (P : Program) (f : FuncId) (as_ : List PV) (bin : List Blk) (K : PV → List Blk → Prop) : Prop where
  | mk (r : PV) (bl : List Blk) (h : Spec P f as_ bin r bl) (k : K r bl)

def backId (rf : List Nat) (m : Nat) (j : Nat) : Option Nat :=
  match rf[j]? with
  | some i => some i
  | none => some (m + (j - len rf))
/-- A number as it is read off: so no step carries the reckoning of an earlier one along. -/
def litK (n : Nat) (k : Nat → Option Nat) : Option Nat := cond (Nat.beq n 0) (k 0) (cond (Nat.beq n 1) (k 1) (cond (Nat.beq n 2) (k 2) (cond (Nat.beq n 3) (k 3) (cond (Nat.beq n 4) (k 4) (cond (Nat.beq n 5) (k 5) (cond (Nat.beq n 6) (k 6) (cond (Nat.beq n 7) (k 7) (cond (Nat.beq n 8) (k 8) (cond (Nat.beq n 9) (k 9) (cond (Nat.beq n 10) (k 10) (cond (Nat.beq n 11) (k 11) (cond (Nat.beq n 12) (k 12) (cond (Nat.beq n 13) (k 13) (cond (Nat.beq n 14) (k 14) (cond (Nat.beq n 15) (k 15) (cond (Nat.beq n 16) (k 16) (cond (Nat.beq n 17) (k 17) (cond (Nat.beq n 18) (k 18) (cond (Nat.beq n 19) (k 19) (cond (Nat.beq n 20) (k 20) (cond (Nat.beq n 21) (k 21) (cond (Nat.beq n 22) (k 22) (cond (Nat.beq n 23) (k 23) (cond (Nat.beq n 24) (k 24) (cond (Nat.beq n 25) (k 25) (cond (Nat.beq n 26) (k 26) (cond (Nat.beq n 27) (k 27) (cond (Nat.beq n 28) (k 28) (cond (Nat.beq n 29) (k 29) (cond (Nat.beq n 30) (k 30) (cond (Nat.beq n 31) (k 31) (cond (Nat.beq n 32) (k 32) (cond (Nat.beq n 33) (k 33) (cond (Nat.beq n 34) (k 34) (cond (Nat.beq n 35) (k 35) (cond (Nat.beq n 36) (k 36) (cond (Nat.beq n 37) (k 37) (cond (Nat.beq n 38) (k 38) (cond (Nat.beq n 39) (k 39) (k n))))))))))))))))))))))))))))))))))))))))
theorem litStep {n a : Nat} {k : Nat → Option Nat} {r : Option Nat} (h : r = k n) : cond (Nat.beq n a) (k a) r = k n := by
  cases hb : Nat.beq n a with
  | false => exact h
  | true => rw [Nat.eq_of_beq_eq_true hb]; rfl
theorem litK_eq (n : Nat) (k : Nat → Option Nat) : litK n k = k n := by
  unfold litK
  repeat (refine litStep ?_)
  rfl
def backL (rf : List Nat) (m : Nat) (j : Nat) : Option Nat :=
  match rf[j]? with
  | some i => some i
  | none => litK (m + (j - len rf)) some
theorem backL_eq : backL = backId := by
  funext rf m j
  unfold backL backId
  split
  · rfl
  · rw [litK_eq]
def putBs (h : List Blk) (m : Nat → Option Nat) : List Nat → List Blk → List Blk
  | i :: r, B :: l => putBs (putB h i (renB m B)) m r l
  | _, l => h ++ l.map (renB m)
def range' (m : Nat) : Nat → List Nat
  | 0 => []
  | n + 1 => m :: range' (m + 1) n

def aGoX (E : Env) (h : List Blk) (f : FuncId) (args : List PV) (rf : List Nat) (K : Kont) : Prop :=
  match pickB (idx rf) h rf with
    | none => False
    | some bin => cond (nodup rf && unfz bin) (passA h rf args fun as_ fs => CallAt E.P f as_ bin fun r bl =>
        match cond (hasNoRow r && Nat.beq (len bl) 0) [] fs with
        | fz => cond ((fz.all fun x => !(rf.contains x)) && Nat.ble (len rf) (len bl)) (K (renP (backL rf (len h)) r) (putBs (frz fz h) (backL rf (len h)) rf bl) fs (rf ++ fz ++ range' (len h) (len bl - len rf))) False) False
/-- A call hands over what lies behind addresses; and, if it is wished, the rows of its own among its arguments, which come back with the answer. -/
inductive HandVC (A B : Prop) : Prop where
  | a (h : A)
  | b (h : B)
def ownsA : List PV → List Nat
  | [] => []
  | .own i _ :: r => i :: ownsA r
  | .agg cs :: r => ownsIn cs ++ ownsA r
  | _ :: r => ownsA r
def aGo (E : Env) (h : List Blk) (f : FuncId) (args : List PV) (K : Kont) : Prop :=
  HandVC (aGoX E h f args (refsOf h args) K) (aGoX E h f args (refsOf h args ++ ownsA args) K)

def aCall (E : Env) (h : List Blk) (s : List PV) (c : Call) (K : Kont) : Prop :=
  match c.callee, c.args.toList, c.argTypes.toList with
  | .builtin .append, [x, y], [t, t2] => aAppend E h t t2 (ev s x) (ev s y) K
  | .builtin .len, [x], [t] => aLen E t h (ev s x) K
  | .value (.func f), as_, _ => aGo E h f (as_.map (ev s)) K
  | _, _, _ => False

def aOp (E : Env) (h : List Blk) (s : List PV) (o : Op) (K : Kont) : Prop :=
  match o with
  | .move x => K (ev s x) h [] []
  | .assign x => K (ev s x) h [] []
  | .pick c a b => aPick h (ev s c) (ev s a) (ev s b) K
  | .alloc t => aAlloc E h t K
  | .box t x => aBox h t (ev s x) K
  | .build t parts => aBuild E h t (parts.toList.map fun x => (x.1, ev s x.2)) K
  | .buildSlice t n parts => aBuildSlice E h t n (parts.toList.map fun x => (x.1, ev s x.2)) K
  | .load t a => aLoad E h t (ev s a) K
  | .store t a x => aStore E h t (ev s a) (ev s x) K
  | .nilCheck x => aNilCheck h (ev s x) K
  | .binOp op t x y _ => aBinT E h op t (ev s x) (ev s y) K
  | .unOp op _ x => aUn h op (ev s x) K
  | .convert a b x => aConvert E h a b (ev s x) K
  | .makeSlice t l c => aMakeSlice E h t (ev s l) (ev s c) K
  | .slice t x lo hi none => aSlice E h t (ev s x) (lo.map (ev s)) (hi.map (ev s)) K
  | .fieldAddr t x f => aFieldAddr E h t (ev s x) f K
  | .indexAddr t x i => aIndexAddr E h t (ev s x) (ev s i) K
  | .index t x i => aIndex E h t (ev s x) (ev s i) K
  | .extract x n => aExtract h (ev s x) n K
  | .call c => aCall E h s c K
  | _ => False

/-! ### operations in order -/
def putO (s : List PV) (d : Option Tmp) (q : PV) : List PV :=
  match d with
  | some t => put s t q
  | none => s
def nthO : List Oper → Nat → Option Oper
  | [], _ => none
  | o :: _, 0 => some o
  | _ :: r, n + 1 => nthO r n
def dstAt (all : List Oper) (j : Nat) : Option Tmp :=
  match nthO all j with
  | some o => o.dst
  | none => none

def aOps (E : Env) (all : List Oper) : List Oper → List PV → List Blk → (List PV → List Blk → List (List Nat × List Nat) → Prop) → Prop
  | [], s, h, K => K s h []
  | o :: r, s, h, K => match o.guard with
    | none => aOp E h s o.op fun q h' rd wr => aOps E all r (putO s o.dst q) h' fun s2 h2 acc => K s2 h2 ((rd, wr) :: acc)
    | some (j, want) => match dstAt all j with
      | none => False
      | some t => match nth s t with
        | .v (.b x) =>
          Br2 x want (aOp E h (put s t (.v (.b want))) o.op fun q h' rd wr => aOps E all r (putO (put s t (.v (.b want))) o.dst q) h' fun s2 h2 acc => K s2 h2 ((rd, wr) :: acc))
            (aOps E all r (putO (put s t (.v (.b (!want)))) o.dst (.tup [])) h fun s2 h2 acc => K s2 h2 (([], []) :: acc))
        | .tup [] => aOps E all r (putO s o.dst (.tup [])) h fun s2 h2 acc => K s2 h2 (([], []) :: acc)
        | _ => False

/-! ### may the operations go in another order? -/
def readsT (all : List Oper) (o : Oper) : List Tmp :=
  (o.op.operands.toList.filterMap fun | .tmp t => some t | _ => none) ++ (match o.guard with
    | some (j, _) => (dstAt all j).toList
    | none => [])
def meets (xs ys : List Nat) : Bool := xs.any fun x => ys.any fun y => Nat.beq x y
def clash (all : List Oper) (o o' : Oper) (x y : List Nat × List Nat) : Bool :=
  meets x.2 y.2 || meets x.2 y.1 || meets x.1 y.2 || meets o.dst.toList o'.dst.toList || meets o.dst.toList (readsT all o') || meets (readsT all o) o'.dst.toList
def dep (all : List Oper) : Nat → Nat → Nat → Bool
  | 0, _, _ => false
  | n + 1, i, k => match nthO all k with
    | some o => o.after.toList.any fun e => Region.binds .any e && (Nat.beq e.on i || dep all n i e.on)
    | none => false
def ordFrom (all : List Oper) (n i : Nat) (o : Oper) (x : List Nat × List Nat) : Nat → List Oper → List (List Nat × List Nat) → Bool
  | _, [], _ => true
  | _, _ :: _, [] => false
  | k, o' :: r, y :: ys => (!(clash all o o' x y) || dep all n i k) && ordFrom all n i o x (k + 1) r ys
def ordOk (all : List Oper) (n : Nat) : Nat → List Oper → List (List Nat × List Nat) → Bool
  | _, [], _ => true
  | _, _ :: _, [] => false
  | i, o :: r, x :: xs => ordFrom all n i o x (i + 1) r xs && ordOk all n (i + 1) r xs
def afterOk : Nat → List Oper → Bool
  | _, [] => true
  | i, o :: r => (o.after.toList.all fun e => !(Region.binds .any e) || Nat.blt e.on i) && afterOk (i + 1) r

/-! ### code -/
def gcT (keep : List Nat) (s : List PV) : List PV := renL (idx keep) s
abbrev KontC := Exit → List PV → List Blk → Prop
def Weak0 (s : List PV) (h : List Blk) (nref : Nat) (s' : List PV) (h' : List Blk) : Prop :=
  ∃ keep : List Nat, nodup keep = true ∧ (∀ i, i < nref → keep[i]? = some i) ∧ pickB (idx keep) h keep = some h' ∧ s' = gcT keep s
def mask : List Bool → List PV → List PV
  | true :: m, p :: r => p :: mask m r
  | false :: m, _ :: r => .un :: mask m r
  | _, l => l
/-! a row that is nil becomes one that may be written -/
def upT : List (Option Nat) → List PV → List PV
  | some i :: u, .nil :: r => .own i 0 :: upT u r
  | _ :: u, p :: r => p :: upT u r
  | _, l => l
def upBs : List (List (Option Nat)) → List Blk → List Blk
  | u :: us, .box ty cs :: r => .box ty (upT u cs) :: upBs us r
  | _ :: us, B :: r => B :: upBs us r
  | _, h => h
def upIn (m n : Nat) : List (Option Nat) → Bool
  | some i :: u => Nat.ble m i && Nat.blt i n && upIn m n u
  | none :: u => upIn m n u
  | [] => true
def upIns (m n : Nat) : List (List (Option Nat)) → Bool
  | u :: us => upIn m n u && upIns m n us
  | [] => true
def posL : List (Nat × Nat) → Bool
  | x :: r => Nat.blt 0 x.1 && posL r
  | [] => true
def nils : List (Nat × Nat) → List Blk
  | x :: r => .arr x.1 x.2 false [] :: nils r
  | [] => []
def Weak (s : List PV) (h : List Blk) (nref : Nat) (s' : List PV) (h' : List Blk) : Prop :=
  ∃ ex us bs, posL ex = true ∧ upIn (len h) (len h + len ex) us = true ∧ upIns (len h) (len h + len ex) bs = true ∧
    ∃ s1, Weak0 (upT us s) (upBs bs h ++ nils ex) nref s1 h' ∧ ∃ ms, s' = mask ms s1
/-! what is still named, in order -/
mutual
def refP : PV → List Nat
  | .own i _ => [i]
  | .ptr i _ => [i]
  | .eptr i _ _ _ => [i]
  | .agg cs => refL cs
  | .tup cs => refL cs
  | _ => []
def refL : List PV → List Nat
  | [] => []
  | p :: r => refP p ++ refL r
end
def has : List Nat → Nat → Bool
  | [], _ => false
  | x :: r, i => Nat.beq x i || has r i
def uniq : List Nat → List Nat → List Nat
  | acc, [] => acc
  | acc, i :: r => cond (has acc i) (uniq acc r) (uniq (acc ++ [i]) r)
def inBoxes (h : List Blk) : List Nat → List Nat
  | [] => []
  | i :: r => match nthB h i with
    | some (.box _ cs) => refL cs ++ inBoxes h r
    | _ => inBoxes h r
def upto : Nat → Nat → List Nat
  | _, 0 => []
  | m, n + 1 => m :: upto (m + 1) n
def keepOf (nref : Nat) (h : List Blk) (s : List PV) : List Nat :=
  match uniq (upto 0 nref) (refL s) with
  | k => match uniq k (inBoxes h k) with
    | k => uniq k (inBoxes h k)
def pre : Nat → Nat → List Nat → Bool
  | _, 0, _ => true
  | m, n + 1, i :: r => Nat.beq i m && pre (m + 1) n r
  | _, _, _ => false
theorem pre_ok : ∀ (n m : Nat) (l : List Nat), pre m n l = true → ∀ i, i < n → l[i]? = some (m + i)
  | 0, _, _, _, i, hi => by omega
  | n + 1, m, [], h, _, _ => by simp [pre] at h
  | n + 1, m, x :: r, h, i, hi => by
    simp only [pre, Bool.and_eq_true] at h
    obtain ⟨h1, h2⟩ := h
    have := Nat.eq_of_beq_eq_true h1
    subst this
    cases i with
    | zero => simp
    | succ i =>
      have := pre_ok n (x + 1) r h2 i (by omega)
      simp only [List.getElem?_cons_succ]
      rw [this]
      congr 1
      omega

inductive NextVC (nref : Nat) (I : Nat → List PV → List Blk → Prop) (n : Nat) (s : List PV) (h : List Blk) : Prop where
  | mk (m : Nat) (s2 : List PV) (h2 : List Blk) (lt : m < n) (w : Weak s h nref s2 h2) (i : I m s2 h2)
inductive LoopVC (nref : Nat) (s : List PV) (h : List Blk) (B : List PV → List Blk → (List PV → List Blk → Prop) → Prop) : Prop where
  | mk (I : Nat → List PV → List Blk → Prop) (n : Nat) (s' : List PV) (h' : List Blk) (w : Weak s h nref s' h') (i : I n s' h') (r : ∀ n s h, I n s h → B s h (NextVC nref I n))

inductive SeqVC (nref : Nat) (A : (List PV → List Blk → Prop) → Prop) (B : List PV → List Blk → Prop) : Prop where
  | go (k : A B)
  | cut (J : List PV → List Blk → Prop) (a : A fun s h => ∃ s' h', Weak s h nref s' h' ∧ J s' h') (b : ∀ s h, J s h → B s h)
def setC (s : List PV) (c : Operand) (x : Bool) : List PV :=
  match c with
  | .tmp t => put s t (.v (.b x))
  | _ => s
def aCode (E : Env) (nref : Nat) : Code → List PV → List Blk → KontC → Prop
  | .skip, s, h, K => K .normal s h
  | .region _ ops draw, s, h, K => aOps E ops.toList ops.toList s h fun s' h' acc => cond (!draw || (afterOk 0 ops.toList && ordOk ops.toList (len ops.toList) 0 ops.toList acc)) (K .normal s' h') False
  | .seq a b, s, h, K => SeqVC nref (fun B => aCode E nref a s h fun e s' h' => match e with
    | .normal => B s' h'
    | e => K e s' h') fun s' h' => aCode E nref b s' h' K
  | .cond c x y, s, h, K => match ev s c with
    | .v (.b v) => Br v (aCode E nref x (setC s c true) h K) (aCode E nref y (setC s c false) h K)
    | _ => False
  | .block id c, s, h, K => aCode E nref c s h fun e s' h' => match e with
    | .exit j => cond (Nat.beq j id) (K .normal s' h') (K (.exit j) s' h')
    | e => K e s' h'
  | .loop c, s, h, K => LoopVC nref s h fun s h K' => aCode E nref c s h fun e s' h' => match e with
        | .normal => K' s' h'
        | e => K e s' h'
  | .exit id, s, h, K => K (.exit id) s h
  | .ret, s, h, K => K .ret s h
  | _, _, _, _ => False

/-! ### a function -/
def aRes (E : Env) (s : List PV) (h : List Blk) : List ResultVar → (List PV → Prop) → Prop
  | [], K => K []
  | .tmp t :: r, K => aRes E s h r fun ps => K (nth s t :: ps)
  | .cell t ty :: r, K => aLoad E h ty (nth s t) fun q h' _ _ => aRes E s h r fun ps => K (q :: ps)
mutual
def upP (m : Nat) : PV → PV × Nat
  | .nil => (.own m 0, m + 1)
  | .agg cs => match upL m cs with
    | (l, n) => (.agg l, n)
  | .tup cs => match upL m cs with
    | (l, n) => (.tup l, n)
  | p => (p, m)
def upL (m : Nat) : List PV → List PV × Nat
  | [] => ([], m)
  | p :: r => match upP m p with
    | (q, n) => match upL n r with
      | (l, k) => (q :: l, k)
end
def retOf : List PV → PV
  | [p] => p
  | ps => .tup ps
inductive Fin0 (nref : Nat) (q : PV) (h : List Blk) (r : PV) (bl : List Blk) : Prop where
  | mk (ex : List (Nat × Nat)) (keep : List Nat) (h0 : ∀ x ∈ ex, 0 < x.1) (h1 : (upP (len h) q).2 = len h + len ex) (h2 : nodup keep = true) (h3 : ∀ i, i < nref → keep[i]? = some i)
    (h4 : pickB (idx keep) (h ++ ex.map fun x => .arr x.1 x.2 false []) keep = some bl) (h5 : renP (idx keep) (upP (len h) q).1 = r)
/-- A row that was made here may be handed out as one that is read only. -/
inductive FinVC (nref : Nat) (q : PV) (h : List Blk) (r : PV) (bl : List Blk) : Prop where
  | up (k : Fin0 nref q h r bl)
  | dn (id n sz : Nat) (ty : Nat) (fz : Bool) (els : List (List CV)) (hq : q = .own id n) (hb : nthB h id = some (.arr sz ty fz els)) (hn : n = els.length) (k : Fin0 nref (.v (.row els)) (frz [id] h) r bl)
def aFin (E : Env) (nref : Nat) (rs : List ResultVar) (r : PV) (bl : List Blk) : KontC := fun e s h =>
  match e with
  | .ret => aRes E s h rs fun ps => FinVC nref (retOf ps) h r bl
  | .normal => aRes E s h rs fun ps => FinVC nref (retOf ps) h r bl
  | _ => False
end Go.Proofs.Ytkpcieenikmbmaa.E

/- A call comes to what is told of it. -/
namespace Go.Proofs.Ytkpcieenikmbmaa.E
open Go Go.RowKit Go.Proofs.YtkpcieenikmbmaaW.PrintWords
set_option linter.unusedVariables false
set_option linter.unusedSimpArgs false

theorem idx_some : ∀ {l : List Nat} {i j : Nat}, idx l i = some j → l[j]? = some i
  | [], i, j, h => by cases h
  | x :: r, i, j, h => by
    unfold idx at h
    cases hb : Nat.beq x i with
    | true =>
      rw [hb] at h
      injection h with h
      subst h
      simp [Nat.eq_of_beq_eq_true hb]
    | false =>
      rw [hb, cond_false] at h
      obtain ⟨k, h1, rfl⟩ := Option.map_eq_some_iff.1 h
      simpa using idx_some h1
theorem idx_mem : ∀ {l : List Nat} {i : Nat}, i ∈ l → ∃ j, idx l i = some j
  | [], i, h => by cases h
  | x :: r, i, h => by
    unfold idx
    cases hb : Nat.beq x i with
    | true => exact ⟨0, rfl⟩
    | false =>
      have hne : i ≠ x := fun e => by
        subst e
        rw [show Nat.beq i i = true from Nat.beq_refl i] at hb
        cases hb
      rcases List.mem_cons.1 h with h | h
      · exact absurd h hne
      · obtain ⟨j, hj⟩ := idx_mem h
        exact ⟨j + 1, by simp [hj]⟩
theorem idx_of : ∀ {l : List Nat} {i j : Nat}, nodup l = true → l[j]? = some i → idx l i = some j
  | [], i, j, _, h => by simp at h
  | x :: r, i, 0, hn, h => by
    simp at h
    subst h
    unfold idx
    rw [show Nat.beq x x = true from Nat.beq_refl x]
    rfl
  | x :: r, i, j + 1, hn, h => by
    simp only [nodup, Bool.and_eq_true, Bool.not_eq_true', List.contains_eq_mem, decide_eq_false_iff_not] at hn
    have h' : r[j]? = some i := by simpa using h
    have hne : x ≠ i := fun e => hn.1 (by subst e; exact List.mem_of_getElem? h')
    unfold idx
    cases hb : Nat.beq x i with
    | true => exact absurd (Nat.eq_of_beq_eq_true hb) hne
    | false => simp [idx_of hn.2 h']
theorem idx_lt {l : List Nat} {i j : Nat} (h : idx l i = some j) : j < l.length := (List.getElem?_eq_some_iff.1 (idx_some h)).1

theorem pickB_len {m : Nat → Option Nat} {h : List Blk} : ∀ {l : List Nat} {bin : List Blk}, pickB m h l = some bin → len bin = l.length
  | [], bin, e => by
    simp only [pickB, Option.some.injEq] at e
    subst e
    rfl
  | i :: r, bin, e => by
    unfold pickB at e
    split at e
    · rename_i B l hb hl
      injection e with e
      subst e
      simp [len, pickB_len hl]
    · cases e
theorem pickB_at {m : Nat → Option Nat} {h : List Blk} : ∀ {l : List Nat} {bin : List Blk} {j i : Nat}, pickB m h l = some bin → l[j]? = some i → ∃ B, nthB h i = some B ∧ nthB bin j = some (renB m B)
  | [], bin, j, i, e, hj => by simp at hj
  | x :: r, bin, j, i, e, hj => by
    unfold pickB at e
    split at e
    · rename_i B l hb hl
      injection e with e
      subst e
      cases j with
      | zero =>
        simp at hj
        subst hj
        exact ⟨B, hb, rfl⟩
      | succ j =>
        obtain ⟨C, h1, h2⟩ := pickB_at (j := j) hl (by simpa using hj)
        exact ⟨C, h1, by simpa [nthB] using h2⟩
    · cases e

theorem unfz_at : ∀ {bin : List Blk} {j sz ty : Nat} {els : List (List CV)}, unfz bin = true → nthB bin j = some (.arr sz ty true els) → False
  | [], _, _, _, _, _, e => by cases e
  | .arr _ _ true _ :: r, j, _, _, _, h, _ => by simp [unfz] at h
  | .arr _ _ false _ :: r, 0, _, _, _, _, e => by simp [nthB] at e
  | .arr _ _ false _ :: r, j + 1, _, _, _, h, e => unfz_at (bin := r) (j := j) (by simpa [unfz] using h) (by simpa [nthB] using e)
  | .box _ _ :: r, 0, _, _, _, _, e => by simp [nthB] at e
  | .box _ _ :: r, j + 1, _, _, _, h, e => unfz_at (bin := r) (j := j) (by simpa [unfz] using h) (by simpa [nthB] using e)

/-- A relation of numbers under which all that is told stays told. -/
structure Ren (m : Nat → Option Nat) (G G' : Gh) (w : World) : Prop where
  imm : ∀ b o, w.heap[b]? = some o → G.imm b → G'.imm b
  own : ∀ i j b, m i = some j → G.own b = some i → G'.own b = some j
  inf : ∀ i j r, m i = some j → G.inf i = some r → G'.inf j = some r

section
variable {m : Nat → Option Nat} {G G' : Gh} {w : World}
theorem Ren.immw (h : Ren m G G' w) : ∀ b o, w.heap[b]? = some o → G.imm b → G'.imm b ∧ w.heap[b]? = some o := fun b o h1 h2 => ⟨h.imm b o h1 h2, h1⟩
theorem Ren.ownV (h : Ren m G G' w) {i j n : Nat} {v : Value} (hm : m i = some j) (r : OwnV G w i n v) : OwnV G' w j n v := by
  obtain ⟨sz, k, f, h1, h2, h3, h4⟩ := r
  refine ⟨sz, k, f, h.inf i j _ hm h1, h2, h3, ?_⟩
  rcases h4 with h4 | ⟨h4, h5 | ⟨b, c, cs, ty, h6, h7, h8⟩⟩
  · exact .inl h4
  · exact .inr ⟨h4, .inl h5⟩
  · exact .inr ⟨h4, .inr ⟨b, c, cs, ty, h6, h.own i j b hm h7, h8⟩⟩
theorem Ren.eptrV (h : Ren m G G' w) {i j n e o : Nat} {v : Value} (hm : m i = some j) (r : EptrV G w i n e o v) : EptrV G' w j n e o v := by
  obtain ⟨sz, k, f, h1, h3, h4⟩ := r
  refine ⟨sz, k, f, h.inf i j _ hm h1, h3, ?_⟩
  rcases h4 with h4 | ⟨h4, b, h6, h7⟩
  · exact .inl h4
  · exact .inr ⟨h4, b, h6, h.own i j b hm h7⟩
mutual
theorem Reps.ren (h : Ren m G G' w) : ∀ (p : PV) (v : Value), Reps G w p v → Reps G' w (renP m p) v
  | .v c, v, r => by
    simp only [renP, Reps] at r ⊢
    exact RepC.mono h.immw c v r
  | .nil, v, r => by simpa only [renP, Reps] using r
  | .own i n, v, r => by
    simp only [Reps] at r
    simp only [renP]
    cases hm : m i with
    | none => simp only [Reps]
    | some j =>
      simp only [Reps]
      exact h.ownV hm r
  | .ptr i o, v, r => by
    simp only [Reps] at r
    simp only [renP]
    cases hm : m i with
    | none => simp only [Reps]
    | some j =>
      simp only [Reps]
      exact h.eptrV hm r
  | .eptr i n e o, v, r => by
    simp only [Reps] at r
    simp only [renP]
    cases hm : m i with
    | none => simp only [Reps]
    | some j =>
      simp only [Reps]
      exact h.eptrV hm r
  | .rptr cs, v, r => by
    simp only [renP, Reps] at r ⊢
    obtain ⟨b, o, vs, ty, fr, h1, h2, h3, h4⟩ := r
    exact ⟨b, o, vs, ty, fr, h1, h.imm b _ h3 h2, h3, RepP.mono h.immw cs _ h4⟩
  | .agg cs, v, r => by
    simp only [renP, Reps] at r ⊢
    obtain ⟨vs, h1, h2⟩ := r
    exact ⟨vs, h1, RepsL.ren h cs _ h2⟩
  | .tup cs, v, r => by
    simp only [renP, Reps] at r ⊢
    obtain ⟨vs, h1, h2⟩ := r
    exact ⟨vs, h1, RepsL.ren h cs _ h2⟩
  | .un, v, r => by simp only [renP, Reps]
theorem RepsL.ren (h : Ren m G G' w) : ∀ (l : List PV) (vs : List Value), RepsL G w l vs → RepsL G' w (renL m l) vs
  | [], vs, r => by simpa only [renL, RepsL] using r
  | p :: ps, vs, r => by
    simp only [renL, RepsL] at r ⊢
    obtain ⟨v, vs', h1, h2, h3⟩ := r
    exact ⟨v, vs', h1, Reps.ren h p v h2, RepsL.ren h ps vs' h3⟩
end
theorem renL_length (m : Nat → Option Nat) : ∀ l : List PV, (renL m l).length = l.length
  | [] => rfl
  | p :: r => by simp [renL, renL_length m r]
theorem RelB.ren (h : Ren m G G' w) {i j : Nat} (hm : m i = some j) (hinj : ∀ b, G'.own b = some j → G.own b = some i) : ∀ {B : Blk}, RelB G w i (some B) → RelB G' w j (some (renB m B))
  | .arr sz ty fz els, r => by
    obtain ⟨r1, r2, r3, r4⟩ := r
    refine ⟨h.inf i j _ hm r1, r2, fun b b' e e' => r3 b b' (hinj b e) (hinj b' e'), ?_⟩
    rcases r4 with ⟨a, b⟩ | ⟨b, cs, a1, a2, a3, a4⟩
    · exact .inl ⟨a, fun x e => b x (hinj x e)⟩
    · exact .inr ⟨b, cs, h.own i j b hm a1, a2, a3, RepE.mono h.immw sz els _ a4⟩
  | .box ty cs, r => by
    obtain ⟨r1, r2, b, vs, a1, a2, a3, a4⟩ := r
    refine ⟨by rw [renL_length]; exact h.inf i j _ hm r1, fun b b' e e' => r2 b b' (hinj b e) (hinj b' e'), b, vs, h.own i j b hm a1, a2, a3, RepsL.ren h cs _ a4⟩
end

/-! ### the callee's numbers and the caller's -/
def Gh.callee (G : Gh) (w : World) (rf fs : List Nat) : Gh where
  base := w.heap.size
  old := fun b => G.imm b ∨ ∃ id ∈ fs, G.own b = some id
  own := fun b => (G.own b).bind (idx rf)
  inf := fun j => (rf[j]?).bind G.inf

section
variable {G : Gh} {w : World} {rf fs : List Nat}
theorem callee_inv (hi : Inv G w) : Inv (G.callee w rf fs) w where
  base := Nat.le_refl _
  own := fun b j h => by
    simp only [Gh.callee] at h
    obtain ⟨i, h1, _⟩ := Option.bind_eq_some_iff.1 h
    exact hi.own b i h1
  gw := by
    obtain ⟨w0, g1, g2, g3⟩ := hi.gw
    exact ⟨w0, g1, g2, fun b hb => by simp only [Gh.callee, g3 b hb, Option.bind_none]⟩

theorem callee_imm (hi : Inv G w) (hf : ∀ id ∈ rf, ∀ sz n, G.inf id ≠ some (sz, n, true)) : ∀ b o, w.heap[b]? = some o → G.imm b → (G.callee w rf fs).imm b := by
  intro b o hb m
  have hlt : b < w.heap.size := (Array.getElem?_eq_some_iff.1 hb).1
  refine .inl ⟨hlt, ?_, .inl m⟩
  simp only [Gh.callee]
  rcases m with ⟨_, h, _⟩ | ⟨_, h⟩ | ⟨id, sz, n, h, h2⟩
  · rw [h]; rfl
  · rw [h]; rfl
  · rw [h, Option.bind_some]
    cases hx : idx rf id with
    | none => rfl
    | some j => exact absurd h2 (hf id (List.mem_of_getElem? (idx_some hx)) sz n)

theorem callee_ren (hi : Inv G w) (hf : ∀ id ∈ rf, ∀ sz n, G.inf id ≠ some (sz, n, true)) : Ren (idx rf) G (G.callee w rf fs) w where
  imm := callee_imm hi hf
  own := fun i j b h1 h2 => by simp only [Gh.callee]; rw [h2]; exact h1
  inf := fun i j r h1 h2 => by simp only [Gh.callee]; rw [idx_some h1]; exact h2

theorem callee_rel (hi : Inv G w) (hf : ∀ id ∈ rf, ∀ sz n, G.inf id ≠ some (sz, n, true)) (hn : nodup rf = true) {h bin : List Blk} (hp : pickB (idx rf) h rf = some bin) (hr : ∀ id ∈ rf, RelB G w id (nthB h id)) :
    ∀ j, RelB (G.callee w rf fs) w j (nthB bin j) := by
  intro j
  cases hj : rf[j]? with
  | none =>
    have hlen := pickB_len hp
    have hge : rf.length ≤ j := List.getElem?_eq_none_iff.1 hj
    rw [nthB_ge bin j (by omega)]
    refine ⟨by simp only [Gh.callee]; rw [hj]; rfl, fun b e => ?_⟩
    simp only [Gh.callee] at e
    obtain ⟨i, _, h2⟩ := Option.bind_eq_some_iff.1 e
    have := idx_some h2
    rw [hj] at this
    cases this
  | some i =>
    obtain ⟨B, h1, h2⟩ := pickB_at hp hj
    rw [h2]
    have r := hr i (List.mem_of_getElem? hj)
    rw [h1] at r
    refine RelB.ren (callee_ren hi hf) (idx_of hn hj) (fun b e => ?_) r
    simp only [Gh.callee] at e
    obtain ⟨i', h3, h4⟩ := Option.bind_eq_some_iff.1 e
    have := idx_some h4
    rw [hj] at this
    injection this with this
    subst this
    exact h3

theorem passC_ok {h : List Blk} {p : PV} {R : PV → List Nat → Prop} (hk : passC h rf p R) : ∃ q f, R q f ∧ (∀ id ∈ f, id ∉ rf ∧ IsArr (nthB h id)) ∧ ∀ (G : Gh) (w : World) (v : Value) (F : List Nat), Inv G w → (∀ id ∈ rf, ∀ sz n, G.inf id ≠ some (sz, n, true)) → Reps G w p v →
    (∀ id ∈ f, RelB G w id (nthB h id)) → (∀ id ∈ f, id ∈ F) → Reps (G.callee w rf F) w q v := by
  unfold passC at hk
  split at hk
  · rename_i c
    exact ⟨_, _, hk, (fun id hid => by cases hid), fun G w v F hi hf hr _ _ => Reps.ren (callee_ren hi hf) (.v c) v hr⟩
  · refine ⟨_, _, hk, (fun id hid => by cases hid), fun G w v F hi hf hr _ _ => ?_⟩
    simp only [Reps] at hr
    subst hr
    simp only [Reps, RepC]
    exact ⟨none, 0, by simp, by simp, by simp [maxLen], by simp⟩
  · rename_i i n
    cases hx : idx rf i with
    | some j =>
      rw [hx] at hk
      refine ⟨_, _, hk, (fun id hid => by cases hid), fun G w v F hi hf hr _ _ => ?_⟩
      have := Reps.ren (callee_ren (fs := F) hi hf) (.own i n) v hr
      simp only [renP, hx] at this
      exact this
    | none =>
      rw [hx] at hk
      simp only at hk
      split at hk
      · rename_i sz ty fz els hb
        obtain ⟨hn, hk⟩ := hk
        refine ⟨_, _, hk, fun id hid => ?_, fun G w v F hi hf hr hrel hF => ?_⟩
        · simp only [List.mem_singleton] at hid
          subst hid
          refine ⟨fun hm => ?_, by rw [hb]; trivial⟩
          obtain ⟨j, hj⟩ := idx_mem hm
          rw [hj] at hx
          cases hx
        have r := hrel i (by simp)
        rw [hb] at r
        simp only [Reps]
        refine own_row (callee_imm hi hf) (fun b hb' => ?_) r hn hr
        refine .inl ⟨hi.own b i hb', ?_, .inr ⟨i, hF i (by simp), hb'⟩⟩
        simp only [Gh.callee]
        rw [hb', Option.bind_some, hx]
      · exact hk.elim
  · rename_i i o
    cases hx : idx rf i with
    | none => rw [hx] at hk; exact hk.elim
    | some j =>
      rw [hx] at hk
      refine ⟨_, _, hk, (fun id hid => by cases hid), fun G w v F hi hf hr _ _ => ?_⟩
      have := Reps.ren (callee_ren (fs := F) hi hf) (.ptr i o) v hr
      simp only [renP, hx] at this
      exact this
  · exact hk.elim

theorem passCs_ok {h : List Blk} : ∀ {ps : List PV} {R : List PV → List Nat → Prop}, passCs h rf ps R → ∃ qs f, R qs f ∧ (∀ id ∈ f, id ∉ rf ∧ IsArr (nthB h id)) ∧ ∀ (G : Gh) (w : World) (vs : List Value) (F : List Nat), Inv G w → (∀ id ∈ rf, ∀ sz n, G.inf id ≠ some (sz, n, true)) → RepsL G w ps vs →
    (∀ id ∈ f, RelB G w id (nthB h id)) → (∀ id ∈ f, id ∈ F) → RepsL (G.callee w rf F) w qs vs
  | [], R, hk => ⟨[], [], hk, (fun id hid => by cases hid), fun G w vs F _ _ hr _ _ => by simpa only [RepsL] using hr⟩
  | p :: r, R, hk => by
    simp only [passCs] at hk
    obtain ⟨q, f, hk, g1, h1⟩ := passC_ok hk
    obtain ⟨qs, fs, hk, g2, h2⟩ := passCs_ok hk
    refine ⟨_, _, hk, (fun id hid => (List.mem_append.1 hid).elim (g1 id) (g2 id)), fun G w vs F hi hf hr hrel hF => ?_⟩
    simp only [RepsL] at hr ⊢
    obtain ⟨v, vs', rfl, h3, h4⟩ := hr
    exact ⟨v, vs', rfl, h1 G w v F hi hf h3 (fun id hid => hrel id (List.mem_append_left _ hid)) (fun id hid => hF id (List.mem_append_left _ hid)),
      h2 G w vs' F hi hf h4 (fun id hid => hrel id (List.mem_append_right _ hid)) (fun id hid => hF id (List.mem_append_right _ hid))⟩

theorem passA_ok {h : List Blk} : ∀ {ps : List PV} {R : List PV → List Nat → Prop}, passA h rf ps R → ∃ qs f, R qs f ∧ (∀ id ∈ f, id ∉ rf ∧ IsArr (nthB h id)) ∧ ∀ (G : Gh) (w : World) (vs : List Value) (F : List Nat), Inv G w → (∀ id ∈ rf, ∀ sz n, G.inf id ≠ some (sz, n, true)) → RepsL G w ps vs →
    (∀ id ∈ f, RelB G w id (nthB h id)) → (∀ id ∈ f, id ∈ F) → RepsL (G.callee w rf F) w qs vs
  | [], R, hk => ⟨[], [], hk, (fun id hid => by cases hid), fun G w vs F _ _ hr _ _ => by simpa only [RepsL] using hr⟩
  | p :: r, R, hk => by
    have one : passC h rf p (fun q f => passA h rf r fun qs fs => R (q :: qs) (f ++ fs)) → ∃ qs f, R qs f ∧ (∀ id ∈ f, id ∉ rf ∧ IsArr (nthB h id)) ∧ ∀ (G : Gh) (w : World) (vs : List Value) (F : List Nat), Inv G w → (∀ id ∈ rf, ∀ sz n, G.inf id ≠ some (sz, n, true)) → RepsL G w (p :: r) vs →
        (∀ id ∈ f, RelB G w id (nthB h id)) → (∀ id ∈ f, id ∈ F) → RepsL (G.callee w rf F) w qs vs := fun hk => by
      obtain ⟨q, f, hk, g1, h1⟩ := passC_ok hk
      obtain ⟨qs, fs, hk, g2, h2⟩ := passA_ok hk
      refine ⟨_, _, hk, (fun id hid => (List.mem_append.1 hid).elim (g1 id) (g2 id)), fun G w vs F hi hf hr hrel hF => ?_⟩
      simp only [RepsL] at hr ⊢
      obtain ⟨v, vs', rfl, h3, h4⟩ := hr
      exact ⟨v, vs', rfl, h1 G w v F hi hf h3 (fun id hid => hrel id (List.mem_append_left _ hid)) (fun id hid => hF id (List.mem_append_left _ hid)),
        h2 G w vs' F hi hf h4 (fun id hid => hrel id (List.mem_append_right _ hid)) (fun id hid => hF id (List.mem_append_right _ hid))⟩
    cases p with
    | agg cs =>
      simp only [passA] at hk
      obtain ⟨q, f, hk, g1, h1⟩ := passCs_ok hk
      obtain ⟨qs, fs, hk, g2, h2⟩ := passA_ok hk
      refine ⟨_, _, hk, (fun id hid => (List.mem_append.1 hid).elim (g1 id) (g2 id)), fun G w vs F hi hf hr hrel hF => ?_⟩
      simp only [RepsL] at hr ⊢
      obtain ⟨v, vs', rfl, h3, h4⟩ := hr
      simp only [Reps] at h3
      obtain ⟨us, rfl, h5⟩ := h3
      refine ⟨_, vs', rfl, ?_, h2 G w vs' F hi hf h4 (fun id hid => hrel id (List.mem_append_right _ hid)) (fun id hid => hF id (List.mem_append_right _ hid))⟩
      simp only [Reps]
      exact ⟨us, rfl, h1 G w _ F hi hf h5 (fun id hid => hrel id (List.mem_append_left _ hid)) (fun id hid => hF id (List.mem_append_left _ hid))⟩
    | _ =>
      simp only [passA] at hk
      exact one hk
end
end Go.Proofs.Ytkpcieenikmbmaa.E
