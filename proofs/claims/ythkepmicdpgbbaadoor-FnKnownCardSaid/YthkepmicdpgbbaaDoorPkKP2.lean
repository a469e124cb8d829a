/- Texts of this seat's claims, put together: DrawConf, RecBack, Recs, Known, PureFnKnown, WSized -/
import Derived.Lib.Bytes
import Derived.SizedLaws
import Derived.ChangeSlices
import Derived.Test.YthkepmicdpgbbaaDoorPkKB4
import Derived.Test.YthkepmicdpgbbaaDoorPkKP1
/- What the functions that draw configurations and records come to: whatever they draw is right. No memory is in sight here. -/
namespace Go.Proofs.YthkepmicdpgbbaaDoor.Fn
set_option linter.unusedVariables false
set_option linter.unusedSimpArgs false
open Go.RowKit Go.Proofs.YthkepmicdpgbbaaDoorW.PrintWords Go.Proofs.YthkepmicdpgbbaaDoor.P Go.Proofs.YthkepmicdpgbbaaDoor.Base

theorem l1IntM {l : List Int} {i : Int} (hc : Cur l i) (h : Int) (L : List Int) (h0 : L ≠ []) : ∃ r i' h', spec_l1Int.f l i h L = some (r, i', h') ∧ r ∈ L ∧ Cur l i' := by
  unfold spec_l1Int.f
  obtain ⟨r, i1, h1, e1, r0, r1, _, hc1⟩ := l1Below hc h L.length
  have hl : 0 < L.length := List.length_pos_iff.2 h0
  have hr := r1 (by omega)
  rw [e1]
  simp only [Option.bind_some]
  rw [if_pos r0, if_pos hr]
  refine ⟨_, _, _, rfl, ?_, hc1⟩
  unfold rd
  rw [List.getD_eq_getElem?_getD, List.getElem?_eq_getElem (by omega)]
  exact List.getElem_mem _
theorem emptyT_nil : emptyT (⟨#[]⟩ : ByteArray) = true := by
  have : (⟨#[]⟩ : ByteArray).toList = [] := by unfold ByteArray.toList; unfold ByteArray.toList.loop; rfl
  unfold emptyT
  rw [this]
  rfl
abbrev Apart (L : List Db) : Prop := L.Pairwise fun a b => a.f0.toList ≠ b.f0.toList
theorem noneAt_mk (l : List Db) (name : ByteArray) (e : Nat) : ∀ (j : Nat), (∀ q, j ≤ q → q < j + e → (rd_T55 l (q : Int)).f0.toList ≠ name.toList) → noneAt l name j e = true := by
  induction e with
  | zero => intro j _; rfl
  | succ e ih =>
    intro j hj
    unfold noneAt
    rw [ih (j + 1) (fun q h1 h2 => hj q (by omega) (by omega))]
    have := hj j (Nat.le_refl _) (by omega)
    simpa using this
theorem confFrom_mk (l : List Db) (h0 : 1 ≤ l.length ∧ l.length ≤ 3) (hok : ∀ x ∈ l, dbOk x = true) (hap : Apart l) (d : Nat) : ∀ (i : Nat), i + d = l.length → confFrom l i d = true := by
  induction d with
  | zero =>
    intro i hi
    unfold confFrom
    rw [decide_eq_true_eq]
    omega
  | succ d ih =>
    intro i hi
    have he : rd_T55 l (i : Int) = l[i] := getD_nat l _ (by omega)
    unfold confFrom
    rw [he, hok _ (List.getElem_mem _), ih (i + 1) (by omega), noneAt_mk l _ i 0 (fun q h1 h2 => ?_)]
    · rfl
    · have hq : rd_T55 l (q : Int) = l[q] := getD_nat l _ (by omega)
      rw [hq]
      exact (List.pairwise_iff_getElem.1 hap) q i (by omega) (by omega) (by omega)
theorem l3One {l : List Int} {i : Int} (hc : Cur l i) (h : Int) : ∃ (x : Db) (i' h' : Int), spec_l3One.f l i h = some (x.f0, x.f1, x.f2, x.f3, x.f4, i', h') ∧ dbOk x = true ∧ Cur l i' := by
  unfold spec_l3One.f
  obtain ⟨s, i1, h1, e1, hs, hc1⟩ := l1Str hc h [(⟨#[109, 97, 105, 110]⟩ : ByteArray), (⟨#[109, 97, 105, 110]⟩ : ByteArray), (⟨#[108, 111, 103, 115]⟩ : ByteArray), (⟨#[120]⟩ : ByteArray)] (by simp)
  obtain ⟨a, i2, h2, e2, a0, a1, _, hc2⟩ := l1Below hc1 h1 3
  obtain ⟨b, i3, h3, e3, b0, b1, _, hc3⟩ := l1Below hc2 h2 5
  obtain ⟨c, i4, h4, e4, c0, hc4⟩ := l1IntM hc3 h3 [1, 2, 5, 20] (by simp)
  obtain ⟨d, i5, h5, e5, d0, hc5⟩ := l1IntM hc4 h4 [1, 3, 20] (by simp)
  have a2 := a1 (by omega)
  have b2 := b1 (by omega)
  refine ⟨⟨s, 1 + a, b, c, d⟩, i5, h5, ?_, ?_, hc5⟩
  · simp only [e1, e2, e3, e4, e5, Option.bind_some, w64 (n := 1 + a) (by omega) (by omega)]
  · have hn : nameOk s = true := by
      rw [nameOk_iff]
      simp only [List.mem_cons, List.not_mem_nil, or_false] at hs
      rcases hs with rfl | rfl | rfl | rfl <;> decide
    simp only [List.mem_cons, List.not_mem_nil, or_false] at c0 d0
    unfold dbOk
    rw [hn]
    simp only [Bool.true_and, Bool.and_eq_true, decide_eq_true_eq]
    omega
theorem l3Draw_l0 {l : List Int} (d : Nat) : ∀ (i h : Int) (L : List Db), Cur l i → L.length + d ≤ 3 → (∀ x ∈ L, dbOk x = true) → Apart L → (L = [] → 1 ≤ d) →
    ∃ L' i' h', Ev (fun k => spec_l3Draw.l0 k L (d : Int) l i h) (L', i', h') ∧ (1 ≤ L'.length ∧ L'.length ≤ 3) ∧ (∀ x ∈ L', dbOk x = true) ∧ Apart L' ∧ Cur l i' := by
  induction d with
  | zero =>
    intro i h L hc hL hok hap h0
    refine ⟨L, i, h, Ev.step (fun k => spec_l3Draw.l0.eq_2 _ _ _ _ _ k) (Ev.neg (by omega) (Ev.done rfl)), ⟨?_, by omega⟩, hok, hap, hc⟩
    cases L with
    | nil => have := h0 rfl; omega
    | cons _ _ => simp
  | succ d ih =>
    intro i h L hc hL hok hap h0
    obtain ⟨x, i1, h1, e1, hx, hc1⟩ := l3One hc h
    have hw : wrap64 (((d + 1 : Nat) : Int) - 1) = (d : Int) := by rw [w64 (by omega) (by omega)]; omega
    cases hf : dbAt L x.f0 with
    | some y =>
      obtain ⟨L', i', h', e, r⟩ := ih i1 h1 L hc1 (by omega) hok hap (fun hn => by subst hn; simp [dbAt] at hf)
      refine ⟨L', i', h', Ev.step (fun k => spec_l3Draw.l0.eq_2 _ _ _ _ _ k) (Ev.pos (by omega) (Ev.then e1 (Ev.bind (spec_dbAt L x.f0 (by omega)) ?_))), r⟩
      rw [hf, hw]
      exact Ev.pos rfl e
    | none =>
      have hne : ∀ y ∈ L, y.f0.toList ≠ x.f0.toList := fun y hy => by
        have := List.find?_eq_none.1 hf y hy
        simpa using this
      obtain ⟨L', i', h', e, r⟩ := ih i1 h1 (L ++ [x]) hc1 (by simp; omega) (fun y hy => by
        rcases List.mem_append.1 hy with hy | hy
        · exact hok y hy
        · rw [List.mem_singleton.1 hy]; exact hx) (List.pairwise_append.2 ⟨hap, List.pairwise_singleton _ _, fun a ha b hb => by rw [List.mem_singleton.1 hb]; exact hne a ha⟩) (fun hn => by simp at hn)
      refine ⟨L', i', h', Ev.step (fun k => spec_l3Draw.l0.eq_2 _ _ _ _ _ k) (Ev.pos (by omega) (Ev.then e1 (Ev.bind (spec_dbAt L x.f0 (by omega)) ?_))), r⟩
      rw [hf, hw]
      exact Ev.neg (by decide) (Ev.pos (by omega) e)
theorem l3Draw {l : List Int} {i : Int} (hc : Cur l i) (h : Int) : ∃ L i' h', Ev (fun k => spec_l3Draw.f k l i h) (L, i', h') ∧ confFrom L 0 L.length = true ∧ (∀ x ∈ L, dbOk x = true) ∧ (1 ≤ L.length ∧ L.length ≤ 3) ∧ Cur l i' := by
  unfold spec_l3Draw.f
  obtain ⟨a, i1, h1, e1, a0, a1, _, hc1⟩ := l1Below hc h 3
  have a2 := a1 (by omega)
  obtain ⟨L, i', h', e, hl, hok, hap, hc'⟩ := l3Draw_l0 (1 + a).toNat i1 h1 [] hc1 (by simp; omega) (fun x hx => by cases hx) List.Pairwise.nil (fun _ => by omega)
  refine ⟨L, i', h', Ev.then e1 ?_, confFrom_mk L hl hok hap L.length 0 (by omega), hok, hl, hc'⟩
  rw [w64 (n := 1 + a) (by omega) (by omega)]
  rwa [Int.toNat_of_nonneg (by omega)] at e
theorem db_short {L : List Db} (hok : ∀ x ∈ L, dbOk x = true) : ∀ x ∈ L, x.f0.size ≤ 9223372036854775807 := fun x hx => by
  have := (dbOk_of (hok x hx)).1
  omega
theorem l3Text {l : List Int} {i : Int} (hc : Cur l i) (h : Int) : ∃ s i' h', Ev (fun k => spec_l3Text.f k l i h) (s, i', h') ∧ s.size ≤ 100 ∧ Cur l i' := by
  unfold spec_l3Text.f
  obtain ⟨o, i1, h1, e1, hc1⟩ := l1Once hc h 3
  cases o
  · obtain ⟨L, i2, h2, e2, hL, hok, hl, hc2⟩ := l3Draw hc1 h1
    exact ⟨_, i2, h2, Ev.then e1 (Ev.neg (by simp) (Ev.bind e2 (Ev.bind (spec_confText L (by omega) (db_short hok)) (Ev.done rfl)))), (confText_size hL).2, hc2⟩
  · obtain ⟨s, i2, h2, e2, hs, hc2⟩ := l1Str hc1 h1 [(⟨#[]⟩ : ByteArray), (⟨#[109, 97, 105, 110]⟩ : ByteArray), (⟨#[109, 97, 105, 110, 58, 49]⟩ : ByteArray), (⟨#[109, 97, 105, 110, 58, 49, 47, 50, 47, 51]⟩ : ByteArray), (⟨#[109, 97, 105, 110, 58, 48, 49, 47, 50, 47, 51, 47, 52]⟩ : ByteArray), (⟨#[109, 97, 105, 110, 58, 49, 47, 50, 47, 51, 47, 52, 59]⟩ : ByteArray), (⟨#[59, 109, 97, 105, 110, 58, 49, 47, 50, 47, 51, 47, 52]⟩ : ByteArray), (⟨#[109, 97, 105, 110, 58, 49, 47, 50, 47, 51, 47, 52, 59, 109, 97, 105, 110, 58, 49, 47, 49, 47, 49, 47, 49]⟩ : ByteArray), (⟨#[109, 97, 105, 110, 58, 49, 47, 50, 47, 51, 47, 52, 47, 53]⟩ : ByteArray), (⟨#[109, 97, 105, 110, 58, 52, 47, 50, 47, 51, 47, 52]⟩ : ByteArray), (⟨#[109, 97, 105, 110, 58, 49, 47, 53, 47, 51, 47, 52]⟩ : ByteArray), (⟨#[109, 97, 105, 110, 58, 49, 47, 50, 47, 48, 47, 52]⟩ : ByteArray), (⟨#[109, 97, 105, 110, 58, 49, 47, 50, 47, 51, 47, 49, 48, 48]⟩ : ByteArray), (⟨#[77, 97, 105, 110, 58, 49, 47, 50, 47, 51, 47, 52]⟩ : ByteArray), (⟨#[109, 97, 105, 110, 58, 49, 47, 50, 47, 51, 47, 52, 32]⟩ : ByteArray), (⟨#[58, 49, 47, 50, 47, 51, 47, 52]⟩ : ByteArray), (⟨#[97, 58, 49, 47, 48, 47, 49, 47, 49, 59, 98, 58, 49, 47, 48, 47, 49, 47, 49, 59, 99, 58, 49, 47, 48, 47, 49, 47, 49, 59, 100, 58, 49, 47, 48, 47, 49, 47, 49]⟩ : ByteArray), (⟨#[97, 58, 98, 58, 49, 47, 50, 47, 51, 47, 52]⟩ : ByteArray)] (by simp)
    refine ⟨s, i2, h2, Ev.then e1 (Ev.pos rfl (Ev.then e2 (Ev.done rfl))), ?_, hc2⟩
    simp only [List.mem_cons, List.not_mem_nil, or_false] at hs
    rcases hs with rfl | rfl | rfl | rfl | rfl | rfl | rfl | rfl | rfl | rfl | rfl | rfl | rfl | rfl | rfl | rfl | rfl | rfl <;> decide
theorem recOk_prep {n : Int} {L : List Db} (hn : 1 ≤ n ∧ n ≤ 60000) (hL : confFrom L 0 L.length = true) : recOk 1 n 0 (confText L) = true := by
  unfold recOk confB
  rw [decide_eq_true hn, parseConf_text hL]
  rfl
theorem l4Draw {l : List Int} {i : Int} (hc : Cur l i) (h : Int) : ∃ kind n owner text i' h', Ev (fun k => spec_l4Draw.f k l i h) (kind, n, owner, text, i', h') ∧ recOk kind n owner text = true ∧ (1 ≤ kind ∧ kind ≤ 3) ∧ (1 ≤ n ∧ n ≤ 6) ∧ (kind = 1 → ∃ L, confFrom L 0 L.length = true ∧ text = confText L) ∧ (kind ≠ 1 → text = ⟨#[]⟩) ∧ (kind ≠ 3 → owner = 0) ∧ (0 ≤ owner ∧ owner ≤ 1) ∧ text.size ≤ 100 ∧ Cur l i' := by
  unfold spec_l4Draw.f
  obtain ⟨a, i1, h1, e1, a0, a1, _, hc1⟩ := l1Below hc h 3
  obtain ⟨b, i2, h2, e2, b0, b1, _, hc2⟩ := l1Below hc1 h1 6
  have a2 := a1 (by omega)
  have b2 := b1 (by omega)
  have wa : wrap64 (1 + a) = 1 + a := w64 (by omega) (by omega)
  have wb : wrap64 (1 + b) = 1 + b := w64 (by omega) (by omega)
  by_cases hk : a = 0
  · subst hk
    obtain ⟨L, i3, h3, e3, hL, hok, hl, hc3⟩ := l3Draw hc2 h2
    refine ⟨1, 1 + b, 0, confText L, i3, h3, Ev.then e1 (Ev.then e2 ?_), recOk_prep (by omega) hL, by omega, by omega, fun _ => ⟨L, hL, rfl⟩, fun hx => absurd rfl hx, fun _ => rfl, by omega, (confText_size hL).2, hc3⟩
    simp only [wa, wb]
    exact Ev.pos (by omega) (Ev.bind e3 (Ev.bind (spec_confText L (by omega) (db_short hok)) (Ev.neg (by omega) (Ev.done (by simp)))))
  · have et : (⟨#[]⟩ : ByteArray).size ≤ 100 := by decide
    by_cases h3 : a = 2
    · subst h3
      obtain ⟨o, i3, h3, e3, o0, o1, _, hc3⟩ := l1Below hc2 h2 2
      have o2 := o1 (by omega)
      refine ⟨3, 1 + b, o, ⟨#[]⟩, i3, h3, Ev.then e1 (Ev.then e2 ?_), ?_, by omega, by omega, fun hx => by omega, fun _ => rfl, fun hx => absurd rfl hx, by omega, et, hc3⟩
      · simp only [wa, wb]
        exact Ev.neg (by omega) (Ev.pos (by omega) (Ev.then e3 (Ev.done (by simp))))
      · unfold recOk
        rw [decide_eq_true (by omega), emptyT_nil, decide_eq_true (show 0 ≤ o ∧ o ≤ 1 by omega)]
        rfl
    · obtain rfl : a = 1 := by omega
      refine ⟨2, 1 + b, 0, ⟨#[]⟩, i2, h2, Ev.then e1 (Ev.then e2 ?_), ?_, by omega, by omega, fun hx => by omega, fun _ => rfl, fun _ => rfl, by omega, et, hc2⟩
      · simp only [wa, wb]
        exact Ev.neg (by omega) (Ev.neg (by omega) (Ev.done (by simp)))
      · unfold recOk
        rw [decide_eq_true (by omega), emptyT_nil]
        rfl
theorem l4Any {l : List Int} {i : Int} (hc : Cur l i) (h : Int) : ∃ kind n owner text i' h', Ev (fun k => spec_l4Any.f k l i h) (kind, n, owner, text, i', h') ∧ text.size ≤ 100 ∧ Cur l i' := by
  unfold spec_l4Any.f
  obtain ⟨kind, n, owner, text, i1, h1, e1, _, _, _, _, _, _, _, ht, hc1⟩ := l4Draw hc h
  obtain ⟨a, i2, h2, e2, a0, a1, _, hc2⟩ := l1Below hc1 h1 12
  by_cases k0 : a = 0
  · obtain ⟨x, i3, h3, e3, hc3⟩ := l1Int hc2 h2 [0, 1, 2, 4] (by simp)
    exact ⟨x, n, owner, text, i3, h3, Ev.bind e1 (Ev.then e2 (Ev.pos k0 (Ev.then e3 (Ev.done rfl)))), ht, hc3⟩
  by_cases k1 : a = 1
  · obtain ⟨x, i3, h3, e3, hc3⟩ := l1Int hc2 h2 [0, 60000, 60001, (-1)] (by simp)
    exact ⟨kind, x, owner, text, i3, h3, Ev.bind e1 (Ev.then e2 (Ev.neg k0 (Ev.pos k1 (Ev.then e3 (Ev.done rfl))))), ht, hc3⟩
  by_cases k2 : a = 2
  · obtain ⟨x, i3, h3, e3, hc3⟩ := l1Int hc2 h2 [(-1), 1, 2] (by simp)
    exact ⟨kind, n, x, text, i3, h3, Ev.bind e1 (Ev.then e2 (Ev.neg k0 (Ev.neg k1 (Ev.pos k2 (Ev.then e3 (Ev.done rfl)))))), ht, hc3⟩
  by_cases k3 : a = 3
  · obtain ⟨x, i3, h3, e3, hx, hc3⟩ := l3Text hc2 h2
    exact ⟨kind, n, owner, x, i3, h3, Ev.bind e1 (Ev.then e2 (Ev.neg k0 (Ev.neg k1 (Ev.neg k2 (Ev.pos k3 (Ev.bind e3 (Ev.done rfl))))))), hx, hc3⟩
  · exact ⟨kind, n, owner, text, i2, h2, Ev.bind e1 (Ev.then e2 (Ev.neg k0 (Ev.neg k1 (Ev.neg k2 (Ev.neg k3 (Ev.done rfl)))))), ht, hc2⟩
end Go.Proofs.YthkepmicdpgbbaaDoor.Fn

/- A record comes back of its bytes, and not of bytes with one turned. No memory is in sight here. -/
namespace Go.Proofs.YthkepmicdpgbbaaDoor.Fn
set_option linter.unusedVariables false
set_option linter.unusedSimpArgs false
open Go.RowKit Go.Proofs.YthkepmicdpgbbaaDoorW.PrintWords Go.Proofs.YthkepmicdpgbbaaDoor.P Go.Proofs.YthkepmicdpgbbaaDoor.Base

/-! ### the text of a configuration is a text -/
theorem textOk_ba {L : List UInt8} (hl : L.length ≤ 100) (h : ∀ c ∈ L, 32 ≤ c.toNat ∧ c.toNat ≤ 126) : textOk (ba L) = true := by
  rw [textOk_iff]
  refine ⟨by rw [ba_size]; omega, fun i hi => ?_⟩
  rw [ba_size] at hi
  rw [bt_ba L i hi]
  have := h _ (List.getElem_mem hi)
  omega
theorem itoa_chars {n : Int} (h : 0 ≤ n) : ∀ c ∈ Lib.itoa n, 48 ≤ c.toNat ∧ c.toNat ≤ 57 := by
  intro c hc
  by_cases hx : 48 ≤ c.toNat ∧ c.toNat ≤ 57
  · exact hx
  · exact absurd hc (num_free n h c (by omega))
theorem itemL_chars {x : Db} (h : dbOk x = true) : ∀ c ∈ itemL x, 32 ≤ c.toNat ∧ c.toNat ≤ 126 := by
  intro c hc
  have hp := dbOk_pos h
  have hn : nameOk x.f0 = true := by
    unfold dbOk at h
    simp only [Bool.and_eq_true] at h
    exact h.1
  unfold itemL at hc
  simp only [List.mem_append, List.mem_singleton] at hc
  rcases hc with (((((((hc | rfl) | hc) | rfl) | hc) | rfl) | hc) | rfl) | hc
  · have := name_bytes hn c hc; omega
  · decide
  · have := itoa_chars hp.1 c hc; omega
  · decide
  · have := itoa_chars hp.2.1 c hc; omega
  · decide
  · have := itoa_chars hp.2.2.1 c hc; omega
  · decide
  · have := itoa_chars hp.2.2.2 c hc; omega
theorem confText_textOk {l : List Db} (h : confFrom l 0 l.length = true) : textOk (confText l) = true := by
  obtain ⟨x, xs, rfl, _, hall⟩ := conf_cons h
  have hs := (confText_size h).2
  rw [confText_join x xs h] at hs ⊢
  rw [ba_size] at hs
  refine textOk_ba hs fun c hc => ?_
  unfold joinA at hc
  rcases List.mem_append.1 hc with hc | hc
  · exact itemL_chars (hall x (by simp)) c hc
  · obtain ⟨y, hy, hc⟩ := List.mem_flatMap.1 hc
    obtain ⟨z, hz, rfl⟩ := List.mem_map.1 hy
    rcases List.mem_cons.1 hc with rfl | hc
    · decide
    · exact itemL_chars (hall z (List.mem_cons_of_mem _ hz)) c hc
theorem emptyT_eq {s : ByteArray} (h : emptyT s = true) : s = ⟨#[]⟩ := by
  unfold emptyT at h
  have h1 : s.toList = [] := by simpa using h
  have h2 : (⟨#[]⟩ : ByteArray).toList = [] := by unfold ByteArray.toList; unfold ByteArray.toList.loop; rfl
  exact text_inj (h1.trans h2.symm)
/-- What a record that is right bears. -/
theorem recOk_parts {kind n owner : Int} {s : ByteArray} (h : recOk kind n owner s = true) : (1 ≤ n ∧ n ≤ 60000) ∧ (1 ≤ kind ∧ kind ≤ 3) ∧ (0 ≤ owner ∧ owner ≤ 1) ∧ textOk s = true ∧ s.size ≤ 100 := by
  have he : textOk (⟨#[]⟩ : ByteArray) = true := by
    rw [textOk_iff]
    exact ⟨by decide, fun i hi => absurd hi (Nat.not_lt_zero _)⟩
  unfold recOk at h
  simp only [Bool.and_eq_true, decide_eq_true_eq] at h
  obtain ⟨hn, h⟩ := h
  have key : (1 ≤ kind ∧ kind ≤ 3) ∧ (0 ≤ owner ∧ owner ≤ 1) ∧ textOk s = true := by
    split at h
    · rename_i hk
      simp only [Bool.and_eq_true, decide_eq_true_eq] at h
      refine ⟨by omega, by omega, ?_⟩
      have hc : (parseConf s).2 = true := h.2
      rcases parseConf_back s with hb | ⟨l, hb, hl, rfl⟩
      · rw [hb] at hc; cases hc
      · exact confText_textOk hl
    · split at h
      · simp only [Bool.and_eq_true, decide_eq_true_eq] at h
        rw [emptyT_eq h.2]
        exact ⟨by omega, by omega, he⟩
      · split at h
        · simp only [Bool.and_eq_true, decide_eq_true_eq] at h
          rw [emptyT_eq h.2]
          exact ⟨by omega, by omega, he⟩
        · cases h
  exact ⟨hn, key.1, key.2.1, key.2.2, textOk_size key.2.2⟩

/-! ### the record's bytes, place by place -/
end Go.Proofs.YthkepmicdpgbbaaDoor.Fn

/- What the printed functions on lists of records come to. No memory is in sight here. -/
namespace Go.Proofs.YthkepmicdpgbbaaDoor.Fn
set_option linter.unusedVariables false
set_option linter.unusedSimpArgs false
open Go.RowKit Go.Proofs.YthkepmicdpgbbaaDoorW.PrintWords Go.Proofs.YthkepmicdpgbbaaDoor.P Go.Proofs.YthkepmicdpgbbaaDoor.Base

abbrev Rec := S38
/-! ### comparisons -/
def recsOf (gen : Int) (text : ByteArray) (pgen : Int) (ptext : ByteArray) (epoch owner : Int) : List Rec :=
  (if gen = 0 then [] else [⟨1, gen, 0, text⟩, ⟨2, gen, 0, ⟨#[]⟩⟩]) ++ (if pgen = 0 then [] else [⟨1, pgen, 0, ptext⟩]) ++ (if epoch = 0 then [] else [⟨3, epoch, owner, ⟨#[]⟩⟩])
theorem recsOf_length (gen : Int) (text : ByteArray) (pgen : Int) (ptext : ByteArray) (epoch owner : Int) : (recsOf gen text pgen ptext epoch owner).length ≤ 4 := by
  unfold recsOf
  simp only [List.length_append]
  repeat' split
  all_goals simp
theorem impl_recsOf (gen : Int) (text : ByteArray) (pgen : Int) (ptext : ByteArray) (epoch owner : Int) : Ev (fun k => impl_RecsOf.f k gen text pgen ptext epoch owner) (recsOf gen text pgen ptext epoch owner) := by
  unfold impl_RecsOf.f recsOf
  have tail : ∀ (l : List Rec), l.length ≤ 2 → Ev (fun k => impl_RecsOf.j0 k l gen text pgen ptext epoch owner) (l ++ (if pgen = 0 then [] else [⟨1, pgen, 0, ptext⟩]) ++ (if epoch = 0 then [] else [⟨3, epoch, owner, ⟨#[]⟩⟩])) := by
    intro l hl
    refine Ev.step (fun k => impl_RecsOf.j0.eq_2 _ _ _ _ _ _ _ k) ?_
    by_cases hp : pgen = 0
    · refine Ev.pos hp ?_
      by_cases he : epoch = 0
      · exact Ev.pos he (Ev.done (by simp [hp, he]))
      · exact Ev.neg he (Ev.pos (by omega) (Ev.done (by simp [hp, he])))
    · refine Ev.neg hp (Ev.pos (by omega) (Ev.then rfl ?_))
      by_cases he : epoch = 0
      · exact Ev.pos he (Ev.done (by simp [hp, he]))
      · exact Ev.neg he (Ev.pos (by simp; omega) (Ev.done (by simp [hp, he])))
  refine Ev.then rfl ?_
  by_cases hg : gen = 0
  · refine Ev.pos hg (Ev.eq (tail [] (by simp)) (by simp [hg]))
  · refine Ev.neg hg (Ev.then rfl (Ev.pos (by simp) (Ev.eq (tail _ (by simp)) (by simp [hg]))))
end Go.Proofs.YthkepmicdpgbbaaDoor.Fn

/- What is known stays right, whatever is applied; what draws it. No memory is in sight here. -/
namespace Go.Proofs.YthkepmicdpgbbaaDoor.Fn
set_option linter.unusedVariables false
set_option linter.unusedSimpArgs false
open Go.RowKit Go.Proofs.YthkepmicdpgbbaaDoorW.PrintWords Go.Proofs.YthkepmicdpgbbaaDoor.P Go.Proofs.YthkepmicdpgbbaaDoor.Base

theorem known_parts {g : Int} {t : ByteArray} {pg : Int} {pt : ByteArray} {e o : Int} (h : knownOk g t pg pt e o = true) : genOk g t = true ∧ genOk pg pt = true ∧ (0 ≤ e ∧ e ≤ 60000) ∧ (0 ≤ o ∧ o ≤ 1) ∧ (0 < e ∨ o = 0) ∧ (pg = 0 ∨ g < pg) := by
  unfold knownOk at h
  simpa only [Bool.and_eq_true, decide_eq_true_eq] using h
theorem known_mk {g : Int} {t : ByteArray} {pg : Int} {pt : ByteArray} {e o : Int} (h : genOk g t = true ∧ genOk pg pt = true ∧ (0 ≤ e ∧ e ≤ 60000) ∧ (0 ≤ o ∧ o ≤ 1) ∧ (0 < e ∨ o = 0) ∧ (pg = 0 ∨ g < pg)) : knownOk g t pg pt e o = true := by
  unfold knownOk
  simpa only [Bool.and_eq_true, decide_eq_true_eq] using h
theorem genOk_nil : genOk 0 (⟨#[]⟩ : ByteArray) = true := by
  unfold genOk
  rw [if_pos rfl]
  exact emptyT_nil
theorem genOk_mk {n : Int} {s : ByteArray} (h : 1 ≤ n ∧ n ≤ 60000) (hs : confB s = true) : genOk n s = true := by
  unfold genOk
  rw [if_neg (by omega), decide_eq_true h, hs]
  rfl
theorem genOk_conf {n : Int} {s : ByteArray} (h : genOk n s = true) (h0 : n ≠ 0) : (1 ≤ n ∧ n ≤ 60000) ∧ confB s = true := by
  unfold genOk at h
  rw [if_neg h0] at h
  simpa only [Bool.and_eq_true, decide_eq_true_eq] using h
theorem genOk_zero {s : ByteArray} (h : genOk 0 s = true) : s = ⟨#[]⟩ := by
  unfold genOk at h
  rw [if_pos rfl] at h
  exact emptyT_eq h
theorem confB_size {s : ByteArray} (h : confB s = true) : s.size ≤ 100 := by
  rcases parseConf_back s with hb | ⟨l, hb, hl, rfl⟩
  · unfold confB at h
    rw [hb] at h
    cases h
  · exact (confText_size hl).2
theorem genOk_size {n : Int} {s : ByteArray} (h : genOk n s = true) : s.size ≤ 100 := by
  by_cases h0 : n = 0
  · subst h0
    rw [genOk_zero h]
    decide
  · exact confB_size (genOk_conf h h0).2
theorem known_zero : knownOk 0 (⟨#[]⟩ : ByteArray) 0 (⟨#[]⟩ : ByteArray) 0 0 = true := known_mk ⟨genOk_nil, genOk_nil, by omega, by omega, by omega, by omega⟩
/-- What a record does, kind by kind. -/
theorem apply_prep {g : Int} {t : ByteArray} {pg : Int} {pt : ByteArray} {e o n ow : Int} {s : ByteArray} (h : knownOk g t pg pt e o = true) (hr : recOk 1 n ow s = true) (hn : g < n) : applyK g t pg pt e o 1 n ow s = (g, t, n, s, e, o, true) := by
  unfold applyK
  rw [if_pos h, if_pos hr, if_pos ⟨rfl, hn⟩]
theorem apply_commit {g : Int} {t : ByteArray} {pg : Int} {pt : ByteArray} {e o ow : Int} {s : ByteArray} (h : knownOk g t pg pt e o = true) (hr : recOk 2 pg ow s = true) : applyK g t pg pt e o 2 pg ow s = (pg, pt, 0, ⟨#[]⟩, e, o, true) := by
  unfold applyK
  rw [if_pos h, if_pos hr, if_neg (by omega), if_pos ⟨rfl, rfl⟩]
theorem apply_epoch {g : Int} {t : ByteArray} {pg : Int} {pt : ByteArray} {e o n ow : Int} {s : ByteArray} (h : knownOk g t pg pt e o = true) (hr : recOk 3 n ow s = true) (hn : e < n) : applyK g t pg pt e o 3 n ow s = (g, t, pg, pt, n, ow, true) := by
  unfold applyK
  rw [if_pos h, if_pos hr, if_neg (by omega), if_neg (by omega), if_pos ⟨rfl, hn⟩]
theorem recOk_one {n ow : Int} {s : ByteArray} (h : recOk 1 n ow s = true) : (1 ≤ n ∧ n ≤ 60000) ∧ ow = 0 ∧ confB s = true := by
  unfold recOk at h
  rw [if_pos rfl] at h
  simpa only [Bool.and_eq_true, decide_eq_true_eq] using h
theorem recOk_two {n ow : Int} {s : ByteArray} (h : recOk 2 n ow s = true) : (1 ≤ n ∧ n ≤ 60000) ∧ ow = 0 ∧ emptyT s = true := by
  unfold recOk at h
  rw [if_neg (by decide), if_pos rfl] at h
  simpa only [Bool.and_eq_true, decide_eq_true_eq] using h
theorem recOk_three {n ow : Int} {s : ByteArray} (h : recOk 3 n ow s = true) : (1 ≤ n ∧ n ≤ 60000) ∧ (0 ≤ ow ∧ ow ≤ 1) ∧ emptyT s = true := by
  unfold recOk at h
  rw [if_neg (by decide), if_neg (by decide), if_pos rfl] at h
  simpa only [Bool.and_eq_true, decide_eq_true_eq] using h
theorem recOk_commit {n : Int} (h : 1 ≤ n ∧ n ≤ 60000) : recOk 2 n 0 (⟨#[]⟩ : ByteArray) = true := by
  unfold recOk
  rw [decide_eq_true h, if_neg (by decide), if_pos rfl, emptyT_nil]
  rfl
theorem recOk_epoch {n ow : Int} (h : 1 ≤ n ∧ n ≤ 60000) (ho : 0 ≤ ow ∧ ow ≤ 1) : recOk 3 n ow (⟨#[]⟩ : ByteArray) = true := by
  unfold recOk
  rw [decide_eq_true h, if_neg (by decide), if_neg (by decide), if_pos rfl, decide_eq_true ho, emptyT_nil]
  rfl
theorem recOk_conf {n : Int} {s : ByteArray} (h : 1 ≤ n ∧ n ≤ 60000) (hs : confB s = true) : recOk 1 n 0 s = true := by
  unfold recOk
  rw [decide_eq_true h, if_pos rfl, hs]
  rfl
/-- All that an application may come to. -/
theorem apply_cases {g : Int} {t : ByteArray} {pg : Int} {pt : ByteArray} {e o kind n ow : Int} {s : ByteArray} :
    (applyK g t pg pt e o kind n ow s = (g, t, pg, pt, e, o, false)) ∨
    (knownOk g t pg pt e o = true ∧ recOk kind n ow s = true ∧ (kind = 1 ∧ g < n ∧ applyK g t pg pt e o kind n ow s = (g, t, n, s, e, o, true) ∨ kind = 2 ∧ n = pg ∧ applyK g t pg pt e o kind n ow s = (n, pt, 0, ⟨#[]⟩, e, o, true) ∨ kind = 3 ∧ e < n ∧ applyK g t pg pt e o kind n ow s = (g, t, pg, pt, n, ow, true))) := by
  unfold applyK
  split
  · rename_i h
    split
    · rename_i hr
      split
      · rename_i hk
        exact .inr ⟨h, hr, .inl ⟨hk.1, hk.2, rfl⟩⟩
      · split
        · rename_i hk
          exact .inr ⟨h, hr, .inr (.inl ⟨hk.1, hk.2, rfl⟩)⟩
        · split
          · rename_i hk
            exact .inr ⟨h, hr, .inr (.inr ⟨hk.1, hk.2, rfl⟩)⟩
          · exact .inl rfl
    · exact .inl rfl
  · exact .inl rfl
theorem apply_known {g : Int} {t : ByteArray} {pg : Int} {pt : ByteArray} {e o kind n ow : Int} {s : ByteArray} (h : knownOk g t pg pt e o = true) :
    ∃ g' t' pg' pt' e' o' b, applyK g t pg pt e o kind n ow s = (g', t', pg', pt', e', o', b) ∧ knownOk g' t' pg' pt' e' o' = true ∧ g ≤ g' ∧ e ≤ e' := by
  rcases apply_cases (g := g) (t := t) (pg := pg) (pt := pt) (e := e) (o := o) (kind := kind) (n := n) (ow := ow) (s := s) with h1 | ⟨_, hr, h1⟩
  · exact ⟨_, _, _, _, _, _, _, h1, h, by omega, by omega⟩
  · obtain ⟨p1, p2, p3, p4, p5, p6⟩ := known_parts h
    rcases h1 with ⟨rfl, hn, h1⟩ | ⟨rfl, rfl, h1⟩ | ⟨rfl, hn, h1⟩
    · have hq := recOk_one hr
      exact ⟨_, _, _, _, _, _, _, h1, known_mk ⟨p1, genOk_mk hq.1 hq.2.2, p3, p4, p5, .inr hn⟩, by omega, by omega⟩
    · have hq := recOk_two hr
      exact ⟨_, _, _, _, _, _, _, h1, known_mk ⟨p2, genOk_nil, p3, p4, p5, .inl rfl⟩, by omega, by omega⟩
    · have hq := recOk_three hr
      exact ⟨_, _, _, _, _, _, _, h1, known_mk ⟨p1, p2, by omega, hq.2.1, .inl (by omega), p6⟩, by omega, by omega⟩
theorem known_sizes {g : Int} {t : ByteArray} {pg : Int} {pt : ByteArray} {e o : Int} (h : knownOk g t pg pt e o = true) : t.size ≤ 100 ∧ pt.size ≤ 100 := by
  obtain ⟨p1, p2, _⟩ := known_parts h
  exact ⟨genOk_size p1, genOk_size p2⟩
/-! ### what draws -/
theorem l4Known_l0 {l : List Int} (d : Nat) : ∀ (i h : Int) (g : Int) (t : ByteArray) (pg : Int) (pt : ByteArray) (e o : Int), Cur l i → d ≤ 100 → knownOk g t pg pt e o = true →
    ∃ g' t' pg' pt' e' o' i' h', Ev (fun k => spec_l4Known.l0 k (d : Int) l i h g t pg pt e o) (g', t', pg', pt', e', o', i', h') ∧ knownOk g' t' pg' pt' e' o' = true ∧ Cur l i' := by
  induction d with
  | zero =>
    intro i h g t pg pt e o hc hd hk
    exact ⟨g, t, pg, pt, e, o, i, h, Ev.step (fun k => spec_l4Known.l0.eq_2 _ _ _ _ _ _ _ _ _ _ k) (Ev.neg (by omega) (Ev.done rfl)), hk, hc⟩
  | succ d ih =>
    intro i h g t pg pt e o hc hd hk
    obtain ⟨kind, n, ow, s, i1, h1, e1, _, _, _, _, _, _, _, hs, hc1⟩ := l4Draw hc h
    have hz := known_sizes hk
    have hw : wrap64 (((d + 1 : Nat) : Int) - 1) = (d : Int) := by rw [w64 (by omega) (by omega)]; omega
    have go : ∀ (n : Int) (i2 h2 : Int), Cur l i2 → ∃ g' t' pg' pt' e' o' i' h', Ev (fun k => (spec_Apply.f k g t pg pt e o kind n ow s).bind fun z => spec_l4Known.l0 k (wrap64 (((d + 1 : Nat) : Int) - 1)) l i2 h2 z.1 z.2.1 z.2.2.1 z.2.2.2.1 z.2.2.2.2.1 z.2.2.2.2.2.1) (g', t', pg', pt', e', o', i', h') ∧ knownOk g' t' pg' pt' e' o' = true ∧ Cur l i' := by
      intro n i2 h2 hc2
      obtain ⟨g1, t1, pg1, pt1, e1, o1, b, ha, hk1, _⟩ := apply_known (kind := kind) (n := n) (ow := ow) (s := s) hk
      obtain ⟨g', t', pg', pt', e', o', i', h', ev, r⟩ := ih i2 h2 g1 t1 pg1 pt1 e1 o1 hc2 (by omega) hk1
      refine ⟨g', t', pg', pt', e', o', i', h', Ev.bind (spec_apply g t pg pt e o kind n ow s (by omega) (by omega) (by omega)) ?_, r⟩
      rw [ha, hw]
      exact ev
    by_cases hk2 : kind = 2
    · obtain ⟨b, i2, h2, e2, hc2⟩ := l1Once hc1 h1 3
      cases b with
      | true =>
        obtain ⟨g', t', pg', pt', e', o', i', h', ev, r⟩ := go n i2 h2 hc2
        exact ⟨g', t', pg', pt', e', o', i', h', Ev.step (fun k => spec_l4Known.l0.eq_2 _ _ _ _ _ _ _ _ _ _ k) (Ev.pos (by omega) (Ev.bind e1 (Ev.pos hk2 (Ev.then e2 (Ev.pos rfl ev))))), r⟩
      | false =>
        obtain ⟨g', t', pg', pt', e', o', i', h', ev, r⟩ := go pg i2 h2 hc2
        exact ⟨g', t', pg', pt', e', o', i', h', Ev.step (fun k => spec_l4Known.l0.eq_2 _ _ _ _ _ _ _ _ _ _ k) (Ev.pos (by omega) (Ev.bind e1 (Ev.pos hk2 (Ev.then e2 (Ev.neg (by simp) ev))))), r⟩
    · obtain ⟨g', t', pg', pt', e', o', i', h', ev, r⟩ := go n i1 h1 hc1
      exact ⟨g', t', pg', pt', e', o', i', h', Ev.step (fun k => spec_l4Known.l0.eq_2 _ _ _ _ _ _ _ _ _ _ k) (Ev.pos (by omega) (Ev.bind e1 (Ev.neg hk2 ev))), r⟩
theorem l4Known {l : List Int} {i : Int} (hc : Cur l i) (h : Int) : ∃ g t pg pt e o i' h', Ev (fun k => spec_l4Known.f k l i h) (g, t, pg, pt, e, o, i', h') ∧ knownOk g t pg pt e o = true ∧ Cur l i' := by
  unfold spec_l4Known.f
  obtain ⟨a, i1, h1, e1, a0, a1, _, hc1⟩ := l1Below hc h 8
  have a2 := a1 (by omega)
  obtain ⟨d, rfl⟩ := Int.eq_ofNat_of_zero_le a0
  obtain ⟨g, t, pg, pt, e, o, i', h', ev, r⟩ := l4Known_l0 d i1 h1 0 ⟨#[]⟩ 0 ⟨#[]⟩ 0 0 hc1 (by omega) known_zero
  exact ⟨g, t, pg, pt, e, o, i', h', Ev.then e1 ev, r⟩
theorem drawKnown (l : List Int) (hl : l.length ≤ 140737488351232) : ∃ g t pg pt e o, Ev (fun k => spec_DrawKnown.f k l) (g, t, pg, pt, e, o) ∧ knownOk g t pg pt e o = true := by
  unfold spec_DrawKnown.f
  obtain ⟨h0, e0⟩ := l1New l hl
  obtain ⟨g, t, pg, pt, e, o, i1, h1, e1, hk, _⟩ := l4Known (Cur.zero hl) h0
  exact ⟨g, t, pg, pt, e, o, Ev.bind e0 (Ev.bind e1 (Ev.done rfl)), hk⟩
theorem l4Loose {l : List Int} {i : Int} (hc : Cur l i) (h : Int) : ∃ g t pg pt e o i' h', Ev (fun k => spec_l4Loose.f k l i h) (g, t, pg, pt, e, o, i', h') ∧ t.size ≤ 100 ∧ pt.size ≤ 100 ∧ Cur l i' := by
  unfold spec_l4Loose.f
  obtain ⟨g, t, pg, pt, e, o, i1, h1, e1, hk, hc1⟩ := l4Known hc h
  obtain ⟨hz1, hz2⟩ := known_sizes hk
  obtain ⟨a, i2, h2, e2, a0, a1, _, hc2⟩ := l1Below hc1 h1 14
  by_cases k0 : a = 0
  · obtain ⟨x, i3, h3, e3, hc3⟩ := l1Int hc2 h2 [(-1), 0, 60000, 60001] (by simp)
    exact ⟨x, t, pg, pt, e, o, i3, h3, Ev.bind e1 (Ev.then e2 (Ev.pos k0 (Ev.then e3 (Ev.done rfl)))), hz1, hz2, hc3⟩
  by_cases k1 : a = 1
  · obtain ⟨x, i3, h3, e3, hx, hc3⟩ := l3Text hc2 h2
    exact ⟨g, x, pg, pt, e, o, i3, h3, Ev.bind e1 (Ev.then e2 (Ev.neg k0 (Ev.pos k1 (Ev.bind e3 (Ev.done rfl))))), hx, hz2, hc3⟩
  by_cases k2 : a = 2
  · obtain ⟨x, i3, h3, e3, hc3⟩ := l1Int hc2 h2 [(-1), 0, 1, 60000] (by simp)
    exact ⟨g, t, x, pt, e, o, i3, h3, Ev.bind e1 (Ev.then e2 (Ev.neg k0 (Ev.neg k1 (Ev.pos k2 (Ev.then e3 (Ev.done rfl)))))), hz1, hz2, hc3⟩
  by_cases k3 : a = 3
  · obtain ⟨x, i3, h3, e3, hx, hc3⟩ := l3Text hc2 h2
    exact ⟨g, t, pg, x, e, o, i3, h3, Ev.bind e1 (Ev.then e2 (Ev.neg k0 (Ev.neg k1 (Ev.neg k2 (Ev.pos k3 (Ev.bind e3 (Ev.done rfl))))))), hz1, hx, hc3⟩
  by_cases k4 : a = 4
  · obtain ⟨x, i3, h3, e3, hc3⟩ := l1Int hc2 h2 [(-1), 0, 60000, 60001] (by simp)
    exact ⟨g, t, pg, pt, x, o, i3, h3, Ev.bind e1 (Ev.then e2 (Ev.neg k0 (Ev.neg k1 (Ev.neg k2 (Ev.neg k3 (Ev.pos k4 (Ev.then e3 (Ev.done rfl)))))))), hz1, hz2, hc3⟩
  by_cases k5 : a = 5
  · obtain ⟨x, i3, h3, e3, hc3⟩ := l1Int hc2 h2 [(-1), 1, 2] (by simp)
    exact ⟨g, t, pg, pt, e, x, i3, h3, Ev.bind e1 (Ev.then e2 (Ev.neg k0 (Ev.neg k1 (Ev.neg k2 (Ev.neg k3 (Ev.neg k4 (Ev.pos k5 (Ev.then e3 (Ev.done rfl))))))))), hz1, hz2, hc3⟩
  · exact ⟨g, t, pg, pt, e, o, i2, h2, Ev.bind e1 (Ev.then e2 (Ev.neg k0 (Ev.neg k1 (Ev.neg k2 (Ev.neg k3 (Ev.neg k4 (Ev.neg k5 (Ev.done rfl)))))))), hz1, hz2, hc2⟩
theorem drawApply (l : List Int) (hl : l.length ≤ 140737488351232) : ∃ g t pg pt e o kind n ow s, Ev (fun k => spec_DrawApply.f k l) (g, t, pg, pt, e, o, kind, n, ow, s) ∧ t.size ≤ 100 ∧ pt.size ≤ 100 ∧ s.size ≤ 100 := by
  unfold spec_DrawApply.f
  obtain ⟨h0, e0⟩ := l1New l hl
  obtain ⟨g, t, pg, pt, e, o, i1, h1, e1, hz1, hz2, hc1⟩ := l4Loose (Cur.zero hl) h0
  obtain ⟨kind, n, ow, s, i2, h2, e2, hs, hc2⟩ := l4Any hc1 h1
  by_cases hk : kind = 2
  · obtain ⟨b, i3, h3, e3, hc3⟩ := l1Once hc2 h2 3
    cases b with
    | true => exact ⟨g, t, pg, pt, e, o, kind, n, ow, s, Ev.bind e0 (Ev.bind e1 (Ev.bind e2 (Ev.pos hk (Ev.then e3 (Ev.pos rfl (Ev.done rfl)))))), hz1, hz2, hs⟩
    | false => exact ⟨g, t, pg, pt, e, o, kind, pg, ow, s, Ev.bind e0 (Ev.bind e1 (Ev.bind e2 (Ev.pos hk (Ev.then e3 (Ev.neg (by simp) (Ev.done rfl)))))), hz1, hz2, hs⟩
  · exact ⟨g, t, pg, pt, e, o, kind, n, ow, s, Ev.bind e0 (Ev.bind e1 (Ev.bind e2 (Ev.neg hk (Ev.done rfl)))), hz1, hz2, hs⟩
/-! ### its records make it again -/
def Runs : Int → ByteArray → Int → ByteArray → Int → Int → List Rec → Int → ByteArray → Int → ByteArray → Int → Int → Prop
  | g, t, pg, pt, e, o, [], g', t', pg', pt', e', o' => (g, t, pg, pt, e, o) = (g', t', pg', pt', e', o')
  | g, t, pg, pt, e, o, r :: rs, g', t', pg', pt', e', o' => recOk r.f0 r.f1 r.f2 r.f3 = true ∧ ∃ g1 t1 pg1 pt1 e1 o1, applyK g t pg pt e o r.f0 r.f1 r.f2 r.f3 = (g1, t1, pg1, pt1, e1, o1, true) ∧ knownOk g1 t1 pg1 pt1 e1 o1 = true ∧ Runs g1 t1 pg1 pt1 e1 o1 rs g' t' pg' pt' e' o'
theorem runs_append {rs qs : List Rec} {g1 : Int} {t1 : ByteArray} {pg1 : Int} {pt1 : ByteArray} {e1 o1 : Int} {g2 : Int} {t2 : ByteArray} {pg2 : Int} {pt2 : ByteArray} {e2 o2 : Int} : ∀ {g : Int} {t : ByteArray} {pg : Int} {pt : ByteArray} {e o : Int}, Runs g t pg pt e o rs g1 t1 pg1 pt1 e1 o1 → Runs g1 t1 pg1 pt1 e1 o1 qs g2 t2 pg2 pt2 e2 o2 → Runs g t pg pt e o (rs ++ qs) g2 t2 pg2 pt2 e2 o2 := by
  induction rs with
  | nil =>
    intro g t pg pt e o h k
    simp only [Runs, Prod.mk.injEq] at h
    obtain ⟨rfl, rfl, rfl, rfl, rfl, rfl⟩ := h
    exact k
  | cons r rs ih =>
    intro g t pg pt e o h k
    obtain ⟨h1, g3, t3, pg3, pt3, e3, o3, h2, h3, h4⟩ := h
    exact ⟨h1, g3, t3, pg3, pt3, e3, o3, h2, h3, ih h4 k⟩
theorem recs_run {g : Int} {t : ByteArray} {pg : Int} {pt : ByteArray} {e o : Int} (h : knownOk g t pg pt e o = true) : Runs 0 ⟨#[]⟩ 0 ⟨#[]⟩ 0 0 (recsOf g t pg pt e o) g t pg pt e o := by
  obtain ⟨p1, p2, p3, p4, p5, p6⟩ := known_parts h
  unfold recsOf
  have a1 : Runs 0 ⟨#[]⟩ 0 ⟨#[]⟩ 0 0 (if g = 0 then [] else [⟨1, g, 0, t⟩, ⟨2, g, 0, ⟨#[]⟩⟩]) g t 0 ⟨#[]⟩ 0 0 := by
    by_cases hg : g = 0
    · subst hg
      rw [if_pos rfl, genOk_zero p1]
      rfl
    · rw [if_neg hg]
      obtain ⟨q1, q2⟩ := genOk_conf p1 hg
      have k1 : knownOk 0 ⟨#[]⟩ g t 0 0 = true := known_mk ⟨genOk_nil, p1, by omega, by omega, by omega, .inr (by omega)⟩
      have k2 : knownOk g t 0 ⟨#[]⟩ 0 0 = true := known_mk ⟨p1, genOk_nil, by omega, by omega, by omega, .inl rfl⟩
      exact ⟨recOk_conf q1 q2, _, _, _, _, _, _, apply_prep (n := g) known_zero (recOk_conf q1 q2) (by omega), k1, recOk_commit q1, _, _, _, _, _, _, apply_commit k1 (recOk_commit q1), k2, rfl⟩
  have a2 : Runs g t 0 ⟨#[]⟩ 0 0 (if pg = 0 then [] else [⟨1, pg, 0, pt⟩]) g t pg pt 0 0 := by
    by_cases hp : pg = 0
    · subst hp
      rw [if_pos rfl, genOk_zero p2]
      rfl
    · rw [if_neg hp]
      obtain ⟨q1, q2⟩ := genOk_conf p2 hp
      have k2 : knownOk g t 0 ⟨#[]⟩ 0 0 = true := known_mk ⟨p1, genOk_nil, by omega, by omega, by omega, .inl rfl⟩
      have k3 : knownOk g t pg pt 0 0 = true := known_mk ⟨p1, p2, by omega, by omega, by omega, p6⟩
      exact ⟨recOk_conf q1 q2, _, _, _, _, _, _, apply_prep (n := pg) k2 (recOk_conf q1 q2) (by omega), k3, rfl⟩
  have a3 : Runs g t pg pt 0 0 (if e = 0 then [] else [⟨3, e, o, ⟨#[]⟩⟩]) g t pg pt e o := by
    by_cases he : e = 0
    · subst he
      obtain rfl : o = 0 := by omega
      rw [if_pos rfl]
      rfl
    · rw [if_neg he]
      have k3 : knownOk g t pg pt 0 0 = true := known_mk ⟨p1, p2, by omega, by omega, by omega, p6⟩
      exact ⟨recOk_epoch (n := e) (ow := o) (by omega) p4, _, _, _, _, _, _, apply_epoch (n := e) k3 (recOk_epoch (n := e) (ow := o) (by omega) p4) (by omega), h, rfl⟩
  exact runs_append (runs_append a1 a2) a3
end Go.Proofs.YthkepmicdpgbbaaDoor.Fn

/- The pure statement of the law FnKnown: what is known is what its records produce from nothing; later records count. -/
namespace Go.Proofs.YthkepmicdpgbbaaDoor.Pure
set_option linter.unusedVariables false
set_option linter.unusedSimpArgs false
set_option linter.unusedVariables false
set_option linter.unusedSimpArgs false
open Go.RowKit Go.Proofs.YthkepmicdpgbbaaDoorW.PrintWords Go.Proofs.YthkepmicdpgbbaaDoor.P Go.Proofs.YthkepmicdpgbbaaDoor.Base Go.Proofs.YthkepmicdpgbbaaDoor.Fn
/-- The law's second part. -/
theorem known_tail {l : List Int} (hl : l.length ≤ 140737488351232) {K1 : Int} {K2 : ByteArray} {K3 : Int} {K4 : ByteArray} {K5 K6 : Int} (hK : knownOk K1 K2 K3 K4 K5 K6 = true) (L : List Rec) (i : Int) (hi : ¬ i < (L.length : Int)) :
    Ev (fun k => laws_FnKnown.l0 k l L i K1 K2 K3 K4 K5 K6 K1 K2 K3 K4 K5 K6) true := by
  obtain ⟨g, t, pg, pt, e, o, kind, n, ow, s, ed, ht, hp, hs⟩ := drawApply l hl
  have hKz := known_sizes hK
  refine Ev.step (fun k => laws_FnKnown.l0.eq_2 _ _ _ _ _ _ _ _ _ _ _ _ _ _ _ k) (Ev.neg hi (Ev.bind ed (Ev.bind (impl_apply g t pg pt e o kind n ow s (by omega) (by omega) (by omega)) (Ev.bind (spec_apply g t pg pt e o kind n ow s (by omega) (by omega) (by omega)) (Ev.neg (by simp) ?_)))))
  simp only [beq_self_eq_true, Bool.not_true, Bool.or_self]
  refine Ev.step (fun k => laws_FnKnown.j1.eq_2 _ _ _ _ _ _ _ _ _ _ _ _ _ _ _ _ _ _ _ _ _ _ _ _ _ _ _ _ _ _ k) (Ev.neg (by decide) (Ev.pos (by simp) (Ev.bind (impl_knownOk K1 K2 K3 K4 K5 K6 (by omega) (by omega)) (Ev.pos hK ?_))))
  have fin : Ev (fun k => (impl_KnownOk.f k g t pg pt e o).bind fun x => ((spec_KnownOk.f k g t pg pt e o).bind fun y => (some (x == y)))) true := Ev.bind (impl_knownOk g t pg pt e o (by omega) (by omega)) (Ev.bind (spec_knownOk g t pg pt e o (by omega) (by omega)) (Ev.done (by simp)))
  rcases apply_cases (g := g) (t := t) (pg := pg) (pt := pt) (e := e) (o := o) (kind := kind) (n := n) (ow := ow) (s := s) with h1 | ⟨hk, hr, h1⟩
  · rw [h1]
    exact Ev.neg (by simp) (Ev.pos (by simp) fin)
  · obtain ⟨g', t', pg', pt', e', o', b, ha, hk', hg, he⟩ := apply_known (kind := kind) (n := n) (ow := ow) (s := s) hk
    have hb : b = true := by
      rcases h1 with ⟨_, _, h1⟩ | ⟨_, _, h1⟩ | ⟨_, _, h1⟩ <;> rw [h1] at ha <;> injections <;> simp_all
    subst hb
    have hz := known_sizes hk'
    rw [ha]
    refine Ev.pos rfl (Ev.bind (impl_knownOk g' t' pg' pt' e' o' (by omega) (by omega)) (Ev.pos hk' (Ev.pos (by simpa using hg) (Ev.pos (by simpa using he) ?_))))
    by_cases hn : (!(g' == g) || (!(t'.toList == t.toList) || (!(pg' == pg) || (!(pt'.toList == pt.toList) || (!(e' == e) || (!(o' == o))))))) = true
    · exact Ev.pos hn fin
    · refine Ev.neg hn ?_
      simp only [Bool.or_eq_true, Bool.not_eq_true', beq_eq_false_iff_ne, not_or, ne_eq, Decidable.not_not] at hn
      obtain ⟨rfl, n2, rfl, n4, rfl, rfl⟩ := hn
      have n2 := text_inj n2
      have n4 := text_inj n4
      subst n2 n4
      rcases h1 with ⟨rfl, hlt, h1⟩ | ⟨rfl, rfl, h1⟩ | ⟨rfl, hlt, h1⟩
      · rw [h1] at ha
        injection ha with _ ha
        injection ha with _ ha
        injection ha with hn' ha
        injection ha with hs' ha
        exact Ev.pos rfl (Ev.pos hn' (Ev.pos (by rw [hs']) fin))
      · rw [h1] at ha
        injection ha with _ ha
        injection ha with _ ha
        injection ha with hn' ha
        have := (recOk_two hr).1
        omega
      · rw [h1] at ha
        injection ha with _ ha
        injection ha with _ ha
        injection ha with _ ha
        injection ha with _ ha
        injection ha with hn' ha
        omega
theorem known_loop {l : List Int} (hl : l.length ≤ 140737488351232) {K1 : Int} {K2 : ByteArray} {K3 : Int} {K4 : ByteArray} {K5 K6 : Int} (hK : knownOk K1 K2 K3 K4 K5 K6 = true) (L : List Rec) (hL : L.length ≤ 100) (d : Nat) : ∀ (i : Nat) (g : Int) (t : ByteArray) (pg : Int) (pt : ByteArray) (e o : Int), i + d = L.length →
    knownOk g t pg pt e o = true → Runs g t pg pt e o (L.drop i) K1 K2 K3 K4 K5 K6 → Ev (fun k => laws_FnKnown.l0 k l L (i : Int) K1 K2 K3 K4 K5 K6 g t pg pt e o) true := by
  induction d with
  | zero =>
    intro i g t pg pt e o hi hk hr
    rw [List.drop_of_length_le (by omega)] at hr
    simp only [Runs, Prod.mk.injEq] at hr
    obtain ⟨rfl, rfl, rfl, rfl, rfl, rfl⟩ := hr
    exact known_tail hl hK L i (by omega)
  | succ d ih =>
    intro i g t pg pt e o hi hk hr
    have he : rd_T38 L (i : Int) = L[i] := getD_nat L _ (by omega)
    rw [List.drop_eq_getElem_cons (by omega)] at hr
    obtain ⟨h1, g1, t1, pg1, pt1, e1, o1, h2, h3, h4⟩ := hr
    have hz := known_sizes hk
    have hs := (recOk_parts h1).2.2.2.2
    refine Ev.step (fun k => laws_FnKnown.l0.eq_2 _ _ _ _ _ _ _ _ _ _ _ _ _ _ _ k) (Ev.pos (by omega) (Ev.pos (by omega) ?_))
    rw [he]
    refine Ev.bind (impl_apply g t pg pt e o _ _ _ _ (by omega) (by omega) (by omega)) ?_
    rw [h2]
    refine Ev.pos rfl (Ev.bind (impl_recOk _ _ _ _ (by omega)) (Ev.pos h1 ?_))
    rw [w64 (n := (i : Int) + 1) (by omega) (by omega), cast_succ]
    exact ih (i + 1) g1 t1 pg1 pt1 e1 o1 (by omega) h3 h4
theorem FnKnown : laws_FnKnown.Pure := by
  intro l hm hl hw
  refine Ev.rounds ?_
  unfold laws_FnKnown.f
  refine Ev.then (big l) ?_
  by_cases h : (l.length : Int) > 1048576
  · exact Ev.pos (by simpa using h) (Ev.done rfl)
  refine Ev.neg (by simpa using h) ?_
  obtain ⟨g, t, pg, pt, e, o, e1, hk⟩ := drawKnown l (by omega)
  refine Ev.bind e1 (Ev.bind (impl_recsOf g t pg pt e o) ?_)
  have hr := recs_run hk
  have hlen := recsOf_length g t pg pt e o
  exact known_loop (by omega) hk (recsOf g t pg pt e o) (by omega) (recsOf g t pg pt e o).length 0 0 ⟨#[]⟩ 0 ⟨#[]⟩ 0 0 (by omega) known_zero hr
end Go.Proofs.YthkepmicdpgbbaaDoor.Pure

-- PRINTED BY print.sh 35421559b90ae4d0a3588c463048766b98c2df88dd9212a6774a882060cdf62d: not written by this session
-- PRINTED WORDS (module Derived/Print/Sized.lean): go-gate-2's, for the rows of laws over slices: an AI agent of Go's test side, Tue Nov 17 2026; no person has read it. Lean checks it.
namespace Go.Proofs.YthkepmicdpgbbaaDoorW.PrintWords
open Go.ChangeShapes Go.WideShapes
/-- A row's slice of whole numbers is no longer than its weight allows. -/
theorem sized_ints {H : Type} {enc : TypeId × Value → H} {P : Program} {W : World} {base : Nat} {spare : Nat → Bool} {held : Bool} {t e : TypeId} {k : IntKind} {a : Option Addr} {len cap : Nat} {d : DataW H} {ps : List MemPlace} {ts : List TypeId} {ds : List (DataW H)} {j : Nat}
    (hsz : (DataW.weightsEach P ts ds).all (· ≤ reachBytes) = true) (ht : ts[j]? = some t) (hd : ds[j]? = some d) (hu : P.underlying t = some (.slice e)) (he : P.underlying e = some (.int k)) (hc : P.cellsOf e = 1) {B : Nat} (hB : P.bytesOf e = B)
    (h : DataW.Trod enc P W base spare held t (.slice a len cap) d ps) : len * B ≤ 140737488351232 := by
  obtain ⟨fuel, hf⟩ := h
  rcases open_ints hu he hc hf with ⟨hcs, _⟩ | ⟨x, l, c, zs, hcs, _, hl, _, hz, hx, _, _⟩
  · simp [Value.cells] at hcs
    obtain ⟨rfl, rfl, rfl⟩ := hcs
    simp
  · simp [Value.cells] at hcs
    obtain ⟨rfl, rfl, rfl⟩ := hcs
    obtain ⟨hx, _⟩ := Prod.mk.inj hx
    subst hx
    have z := sized_slice hsz ht hd hu
    rw [hB] at z
    have hl2 : len ≤ zs.length := by
      rw [hz]
      split
      · exact hl
      · exact Nat.le_refl _
    have h1 : (lits (H := H) k (zs.take len)).length + (lits (H := H) k (zs.drop len)).length = zs.length := by
      simp [lits]
      omega
    rw [h1] at z
    exact Nat.le_trans (Nat.mul_le_mul_right _ hl2) z
end Go.Proofs.YthkepmicdpgbbaaDoorW.PrintWords
