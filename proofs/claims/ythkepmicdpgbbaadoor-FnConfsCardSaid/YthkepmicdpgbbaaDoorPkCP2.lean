/- Texts of this seat's claims, put together: PureFnConfs, WSized -/
import Derived.SizedLaws
import Derived.ChangeSlices
import Derived.Test.YthkepmicdpgbbaaDoorPkCB4
import Derived.Test.YthkepmicdpgbbaaDoorPkCP1
/- The pure statement of the law FnConfs: a configuration is parsed from its text, and a parsed text is the text of its configuration. -/
namespace Go.Proofs.YthkepmicdpgbbaaDoor.Pure
set_option linter.unusedVariables false
set_option linter.unusedSimpArgs false
set_option linter.unusedVariables false
set_option linter.unusedSimpArgs false
open Go.RowKit Go.Proofs.YthkepmicdpgbbaaDoorW.PrintWords Go.Proofs.YthkepmicdpgbbaaDoor.P Go.Proofs.YthkepmicdpgbbaaDoor.Base Go.Proofs.YthkepmicdpgbbaaDoor.Fn
abbrev Small (L : List Db) : Prop := L.length ≤ 10 ∧ ∀ x ∈ L, x.f0.size ≤ 100
theorem small_set {L : List Db} (h : Small L) (i : Nat) {x : Db} (hx : x.f0.size ≤ 100) : Small (L.set i x) := ⟨by rw [List.length_set]; exact h.1, fun y hy => by
  rcases List.mem_or_eq_of_mem_set hy with hy | rfl
  · exact h.2 y hy
  · exact hx⟩
theorem small_at {L : List Db} (h : Small L) (i : Int) (h0 : 0 ≤ i) (h1 : i < L.length) : (rd_T55 L i).f0.size ≤ 100 := by
  obtain ⟨j, rfl⟩ := Int.eq_ofNat_of_zero_le h0
  have e : rd_T55 L (j : Int) = L[j] := getD_nat L _ (by omega)
  rw [e]
  exact h.2 _ (List.getElem_mem _)
theorem l3Any {l : List Int} {i : Int} (hc : Cur l i) (h : Int) : ∃ L i' h', Ev (fun k => spec_l3Any.f k l i h) (L, i', h') ∧ Small L ∧ Cur l i' := by
  unfold spec_l3Any.f
  obtain ⟨L, i1, h1, e1, hL, hok, hl, hc1⟩ := l3Draw hc h
  obtain ⟨q, i2, h2, e2, q0, q1, _, hc2⟩ := l1Below hc1 h1 L.length
  have q2 := q1 (by omega)
  obtain ⟨a, i3, h3, e3, a0, a1, _, hc3⟩ := l1Below hc2 h2 12
  have hs : Small L := ⟨by omega, fun x hx => by have := (dbOk_of (hok x hx)).1; omega⟩
  have hq := small_at hs q q0 q2
  by_cases k0 : a = 0
  · obtain ⟨s, i4, h4, e4, s0, hc4⟩ := l1Str hc3 h3 [(⟨#[]⟩ : ByteArray), (⟨#[77, 97, 105, 110]⟩ : ByteArray), (⟨#[110, 105, 110, 101, 99, 104, 97, 114, 115]⟩ : ByteArray), (⟨#[97, 58, 98]⟩ : ByteArray)] (by simp)
    refine ⟨_, i4, h4, Ev.bind e1 (Ev.then e2 (Ev.then e3 (Ev.pos k0 (Ev.then e4 (Ev.pos q0 (Ev.pos q2 (Ev.done rfl))))))), small_set hs _ ?_, hc4⟩
    show s.size ≤ 100
    simp only [List.mem_cons, List.not_mem_nil, or_false] at s0
    rcases s0 with rfl | rfl | rfl | rfl <;> decide
  by_cases k1 : a = 1
  · obtain ⟨s, i4, h4, e4, hc4⟩ := l1Int hc3 h3 [0, 3, 4] (by simp)
    exact ⟨_, i4, h4, Ev.bind e1 (Ev.then e2 (Ev.then e3 (Ev.neg k0 (Ev.pos k1 (Ev.then e4 (Ev.pos q0 (Ev.pos q2 (Ev.done rfl)))))))), small_set hs _ hq, hc4⟩
  by_cases k2 : a = 2
  · obtain ⟨s, i4, h4, e4, hc4⟩ := l1Int hc3 h3 [(-1), 4, 5] (by simp)
    exact ⟨_, i4, h4, Ev.bind e1 (Ev.then e2 (Ev.then e3 (Ev.neg k0 (Ev.neg k1 (Ev.pos k2 (Ev.then e4 (Ev.pos q0 (Ev.pos q2 (Ev.done rfl))))))))), small_set hs _ hq, hc4⟩
  by_cases k3 : a = 3
  · obtain ⟨s, i4, h4, e4, hc4⟩ := l1Int hc3 h3 [0, 20, 21] (by simp)
    exact ⟨_, i4, h4, Ev.bind e1 (Ev.then e2 (Ev.then e3 (Ev.neg k0 (Ev.neg k1 (Ev.neg k2 (Ev.pos k3 (Ev.then e4 (Ev.pos q0 (Ev.pos q2 (Ev.done rfl)))))))))), small_set hs _ hq, hc4⟩
  by_cases k4 : a = 4
  · obtain ⟨s, i4, h4, e4, hc4⟩ := l1Int hc3 h3 [0, 20, 21] (by simp)
    exact ⟨_, i4, h4, Ev.bind e1 (Ev.then e2 (Ev.then e3 (Ev.neg k0 (Ev.neg k1 (Ev.neg k2 (Ev.neg k3 (Ev.pos k4 (Ev.then e4 (Ev.pos q0 (Ev.pos q2 (Ev.done rfl))))))))))), small_set hs _ hq, hc4⟩
  by_cases k5 : a = 5
  · refine ⟨_, i3, h3, Ev.bind e1 (Ev.then e2 (Ev.then e3 (Ev.neg k0 (Ev.neg k1 (Ev.neg k2 (Ev.neg k3 (Ev.neg k4 (Ev.pos k5 (Ev.pos q0 (Ev.pos q2 (Ev.pos (by dsimp only; omega) (Ev.done rfl)))))))))))), ⟨by rw [List.length_append, List.length_singleton]; dsimp only; omega, fun x hx => ?_⟩, hc3⟩
    rcases List.mem_append.1 hx with hx | hx
    · exact hs.2 x hx
    · rw [List.mem_singleton.1 hx]
      exact hq
  by_cases k6 : a = 6
  · exact ⟨[], i3, h3, Ev.bind e1 (Ev.then e2 (Ev.then e3 (Ev.neg k0 (Ev.neg k1 (Ev.neg k2 (Ev.neg k3 (Ev.neg k4 (Ev.neg k5 (Ev.pos k6 (Ev.done rfl)))))))))), ⟨by simp, fun x hx => by cases hx⟩, hc3⟩
  by_cases k7 : a = 7
  · refine ⟨_, i3, h3, Ev.bind e1 (Ev.then e2 (Ev.then e3 (Ev.neg k0 (Ev.neg k1 (Ev.neg k2 (Ev.neg k3 (Ev.neg k4 (Ev.neg k5 (Ev.neg k6 (Ev.pos k7 (Ev.then rfl (Ev.pos (by simp; omega) (Ev.done rfl))))))))))))), ⟨by simp; omega, fun x hx => ?_⟩, hc3⟩
    rcases List.mem_append.1 hx with hx | hx
    · exact hs.2 x hx
    · simp only [List.mem_cons, List.not_mem_nil, or_false] at hx
      rcases hx with rfl | rfl | rfl <;> decide
  · exact ⟨L, i3, h3, Ev.bind e1 (Ev.then e2 (Ev.then e3 (Ev.neg k0 (Ev.neg k1 (Ev.neg k2 (Ev.neg k3 (Ev.neg k4 (Ev.neg k5 (Ev.neg k6 (Ev.neg k7 (Ev.done rfl))))))))))), hs, hc3⟩
theorem drawConfText (l : List Int) (hl : l.length ≤ 140737488351232) : ∃ L, Ev (fun k => spec_DrawConfText.f k l) L ∧ Small L := by
  unfold spec_DrawConfText.f
  obtain ⟨h0, e0⟩ := l1New l hl
  obtain ⟨L, i1, h1, e1, hs, _⟩ := l3Any (Cur.zero hl) h0
  exact ⟨L, Ev.bind e0 (Ev.bind e1 (Ev.done rfl)), hs⟩
theorem drawSameConf (l : List Int) (hl : l.length ≤ 140737488351232) : ∃ a b, Ev (fun k => spec_DrawSameConf.f k l) (a, b) ∧ Small a ∧ Small b := by
  unfold spec_DrawSameConf.f
  obtain ⟨h0, e0⟩ := l1New l hl
  obtain ⟨a, i1, h1, e1, hs, hc1⟩ := l3Any (Cur.zero hl) h0
  obtain ⟨o, i2, h2, e2, hc2⟩ := l1Once hc1 h1 2
  cases o with
  | true => exact ⟨a, a, Ev.bind e0 (Ev.bind e1 (Ev.then e2 (Ev.pos rfl (Ev.then rfl (Ev.pos (by have := hs.1; simp; omega) (Ev.done (by simp))))))), hs, hs⟩
  | false =>
    obtain ⟨b, i3, h3, e3, hs3, hc3⟩ := l3Any hc2 h2
    exact ⟨a, b, Ev.bind e0 (Ev.bind e1 (Ev.then e2 (Ev.neg (by simp) (Ev.bind e3 (Ev.done rfl))))), hs, hs3⟩
theorem drawParseConf (l : List Int) (hl : l.length ≤ 140737488351232) : ∃ t, Ev (fun k => spec_DrawParseConf.f k l) t ∧ t.size ≤ 1000 := by
  unfold spec_DrawParseConf.f
  obtain ⟨h0, e0⟩ := l1New l hl
  obtain ⟨s, i1, h1, e1, hs, hc1⟩ := l3Text (Cur.zero hl) h0
  obtain ⟨o, i2, h2, e2, hc2⟩ := l1Once hc1 h1 6
  cases o with
  | true =>
    have hbl : (bytesOf s).length = s.size := by
      unfold bytesOf
      rw [List.length_map]
      rfl
    obtain ⟨c, i3, h3, e3, hcb, hcl, _⟩ := l1Bend hc2 h2 (bytesOf s) (bytesOf_bytes s) (by omega)
    exact ⟨strOfNums c, Ev.bind e0 (Ev.bind e1 (Ev.then e2 (Ev.pos rfl (Ev.pos (by dsimp only; omega) (Ev.then e3 (Ev.done rfl)))))), by rw [size_strOfNums]; omega⟩
  | false => exact ⟨s, Ev.bind e0 (Ev.bind e1 (Ev.then e2 (Ev.neg (by simp) (Ev.done rfl)))), by omega⟩
/-- Where a configuration is right each database is found by its name. -/
theorem noneAt_get (l : List Db) (name : ByteArray) (e : Nat) : ∀ (j : Nat), noneAt l name j e = true → ∀ q, j ≤ q → q < j + e → (rd_T55 l (q : Int)).f0.toList ≠ name.toList := by
  induction e with
  | zero => intro j _ q h1 h2; omega
  | succ e ih =>
    intro j h q h1 h2
    unfold noneAt at h
    simp only [Bool.and_eq_true, Bool.not_eq_true', beq_eq_false_iff_ne, ne_eq] at h
    by_cases hq : q = j
    · subst hq; exact h.1
    · exact ih (j + 1) h.2 q (by omega) (by omega)
theorem conf_none (l : List Db) (d : Nat) : ∀ (i : Nat), i + d = l.length → confFrom l i d = true → ∀ (j : Nat) (hj : j < l.length), i ≤ j → noneAt l l[j].f0 0 j = true := by
  induction d with
  | zero => intro i hi h j hj hij; omega
  | succ d ih =>
    intro i hi h j hj hij
    have he : rd_T55 l (i : Int) = l[i] := getD_nat l _ (by omega)
    unfold confFrom at h
    rw [he] at h
    simp only [Bool.and_eq_true] at h
    by_cases e : i = j
    · subst e; exact h.2.1
    · exact ih (i + 1) (by omega) h.2.2 j hj (by omega)
theorem dbAt_own {l : List Db} (h : confFrom l 0 l.length = true) (j : Nat) (hj : j < l.length) : dbAt l l[j].f0 = some l[j] := by
  have hn := conf_none l l.length 0 (by omega) h j hj (by omega)
  unfold dbAt
  rw [List.find?_eq_some_iff_getElem]
  refine ⟨by simp, j, hj, rfl, fun q hq => ?_⟩
  have := noneAt_get l _ j 0 hn q (by omega) (by omega)
  have he : rd_T55 l (q : Int) = l[q] := getD_nat l _ (by omega)
  rw [he] at this
  simpa using this
theorem confs_loop {l : List Db} (hs : Small l) (h : confFrom l 0 l.length = true) (d : Nat) : ∀ (i : Nat), i + d = l.length → Ev (fun k => laws_FnConfs.l0 k l l true (i : Int)) true := by
  induction d with
  | zero =>
    intro i hi
    refine Ev.step (fun k => laws_FnConfs.l0.eq_2 _ _ _ _ k) (Ev.neg (by omega) (Ev.pos rfl (Ev.bind (impl_sameConf l l (by have := hs.1; omega)) (Ev.done (eqB_same l)))))
  | succ d ih =>
    intro i hi
    have he : rd_T55 l (i : Int) = l[i] := getD_nat l _ (by omega)
    refine Ev.step (fun k => laws_FnConfs.l0.eq_2 _ _ _ _ k) (Ev.pos (by omega) (Ev.pos (by omega) ?_))
    rw [he]
    refine Ev.then (impl_dbAt l l[i].f0) ?_
    rw [dbAt_own h i (by omega)]
    refine Ev.pos rfl (Ev.neg (by simp [dbAns]) ?_)
    rw [w64 (n := (i : Int) + 1) (by omega) (by have := hs.1; omega), cast_succ]
    exact ih (i + 1) (by omega)
theorem confText_small (l : List Db) : (confText l).size ≤ 100 := by
  by_cases h : confFrom l 0 l.length = true
  · exact (confText_size h).2
  · unfold confText
    rw [if_neg h]
    decide
theorem FnConfs : laws_FnConfs.Pure := by
  intro l hm hl hw
  refine Ev.rounds ?_
  unfold laws_FnConfs.f
  refine Ev.then (big l) ?_
  by_cases h : (l.length : Int) > 1048576
  · exact Ev.pos (by simpa using h) (Ev.done rfl)
  refine Ev.neg (by simpa using h) ?_
  obtain ⟨L, e1, hL⟩ := drawConfText l (by omega)
  obtain ⟨t, e2, ht⟩ := drawParseConf l (by omega)
  obtain ⟨a, b, e3, ha, hb⟩ := drawSameConf l (by omega)
  have hg : ∀ x ∈ L, x.f0.size ≤ 9223372036854775807 := fun x hx => by have := hL.2 x hx; omega
  have hL1 := hL.1
  have ha1 := ha.1
  have hcs := confText_small L
  refine Ev.bind e1 (Ev.bind (impl_confText L (by omega) hg) (Ev.bind (impl_parseConf (confText L) (by omega)) (Ev.bind e2 (Ev.bind (impl_parseConf t (by omega)) (Ev.bind (spec_parseConf t (by omega)) (Ev.bind e3 (Ev.bind (impl_confOk L (by omega) hg) (Ev.bind (spec_confOk L (by omega) hg) (Ev.neg (by simp) (Ev.neg (by simp) ?_))))))))))
  have j0 : Ev (fun k => laws_FnConfs.j0 k L (confText L) (parseConf (confText L)).1 (parseConf (confText L)).2 false) true := by
    refine Ev.step (fun k => laws_FnConfs.j0.eq_2 _ _ _ _ _ k) (Ev.neg (by decide) (Ev.bind (impl_confOk L (by omega) hg) ?_))
    by_cases hok : confFrom L 0 L.length = true
    · rw [parseConf_text hok]
      exact Ev.pos hok (confs_loop hL hok L.length 0 (by omega))
    · have hz : confText L = ⟨#[]⟩ := by
        unfold confText
        rw [if_neg hok]
      have hn : (⟨#[]⟩ : ByteArray).toList = [] := by unfold ByteArray.toList; unfold ByteArray.toList.loop; rfl
      rw [hz]
      refine Ev.neg hok (Ev.pos hn (Ev.done ?_))
      rcases parseConf_back ⟨#[]⟩ with hp | ⟨L', hp, hc, hx⟩
      · rw [hp]; rfl
      · have := (confText_size hc).1
        rw [hx] at this
        exact absurd this (by decide)
  have sm : Ev (fun k => (impl_SameConf.f k a b).bind fun x => ((spec_SameConf.f k a b).bind fun y => (laws_FnConfs.j0 k L (confText L) (parseConf (confText L)).1 (parseConf (confText L)).2 (x != y)))) true := by
    refine Ev.bind (impl_sameConf a b (by omega)) (Ev.bind (spec_sameConf a b (by omega)) ?_)
    rw [bne_self_eq_false]
    exact j0
  rcases parseConf_back t with hp | ⟨L', hp, hc, hx⟩
  · rw [hp]
    exact Ev.neg (by simp) sm
  · rw [hp]
    have hL' := conf_cons hc
    have hlen : L'.length ≤ 3 ∧ ∀ x ∈ L', dbOk x = true := by
      obtain ⟨x, xs, rfl, h2, h3⟩ := hL'
      exact ⟨by simp; omega, h3⟩
    refine Ev.pos rfl (Ev.bind (impl_confText L' (by omega) (db_short hlen.2)) (Ev.pos (by rw [hx]) sm))
end Go.Proofs.YthkepmicdpgbbaaDoor.Pure

-- PRINTED BY print.sh 35421559b90ae4d0a3588c463048766b98c2df88dd9212a6774a882060cdf62d: not written by this session
-- PRINTED WORDS (module Derived/Print/Sized.lean): go-gate-2's, for the rows of laws over slices: an AI agent of Go's test side, Tue Nov 17 2026; no person has read it. Lean checks it.
namespace Go.Proofs.YthkepmicdpgbbaaDoorW.PrintWords
open Go.ChangeShapes Go.WideShapes
/-- A row's slice of whole numbers is no longer than its weight allows. -/
theorem sized_ints {H : Type} {enc : TypeId × Value → H} {P : Program} {W : World} {base : Nat} {spare : Nat → Bool} {held : Bool} {t e : TypeId} {k : IntKind} {a : Option Addr} {len cap : Nat} {d : DataW H} {ps : List MemPlace} {ts : List TypeId} {ds : List (DataW H)} {j : Nat}
    (hsz : (DataW.weightsEach P ts ds).all (· ≤ reachBytes) = true) (ht : ts[j]? = some t) (hd : ds[j]? = some d) (hu : P.underlying t = some (.slice e)) (he : P.underlying e = some (.int k)) (hc : P.cellsOf e = 1) {B : Nat} (hB : P.bytesOf e = B)
    (h : DataW.Trod enc P W base spare held t (.slice a len cap) d ps) : len * B ≤ 140737488351232 := by
  obtain ⟨fuel, hf⟩ := h
  rcases open_ints hu he hc hf with ⟨hcs, _⟩ | ⟨x, l, c, zs, hcs, _, hl, _, hz, hx, _, _⟩
  · simp [Value.cells] at hcs
    obtain ⟨rfl, rfl, rfl⟩ := hcs
    simp
  · simp [Value.cells] at hcs
    obtain ⟨rfl, rfl, rfl⟩ := hcs
    obtain ⟨hx, _⟩ := Prod.mk.inj hx
    subst hx
    have z := sized_slice hsz ht hd hu
    rw [hB] at z
    have hl2 : len ≤ zs.length := by
      rw [hz]
      split
      · exact hl
      · exact Nat.le_refl _
    have h1 : (lits (H := H) k (zs.take len)).length + (lits (H := H) k (zs.drop len)).length = zs.length := by
      simp [lits]
      omega
    rw [h1] at z
    exact Nat.le_trans (Nat.mul_le_mul_right _ hl2) z
end Go.Proofs.YthkepmicdpgbbaaDoorW.PrintWords
