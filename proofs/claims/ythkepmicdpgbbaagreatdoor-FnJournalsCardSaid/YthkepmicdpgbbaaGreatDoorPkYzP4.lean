/- Texts of this seat's claims, put together: DrawConf, RecBack, Known, Jour, JourOpen, JourAdd, JourFall, DrawJour, WSized -/
import Derived.Lib.Bytes
import Derived.SizedLaws
import Derived.ChangeSlices
import Derived.Test.YthkepmicdpgbbaaGreatDoorPkYzP3
namespace Go.Proofs.YthkepmicdpgbbaaGreatDoor.Fn
set_option linter.unusedVariables false
set_option linter.unusedSimpArgs false
open Go.RowKit Go.Proofs.YthkepmicdpgbbaaGreatDoorW.PrintWords Go.Proofs.YthkepmicdpgbbaaGreatDoor.P Go.Proofs.YthkepmicdpgbbaaGreatDoor.Base
theorem l1IntM {l : List Int} {i : Int} (hc : Cur l i) (h : Int) (L : List Int) (h0 : L ≠ []) : ∃ r i' h', spec_l1Int.f l i h L = some (r, i', h') ∧ r ∈ L ∧ Cur l i' := by
 unfold spec_l1Int.f
 obtain ⟨r, i1, h1, e1, r0, r1, _, hc1⟩ := l1Below hc h L.length
 have hl : 0 < L.length := List.length_pos_iff.2 h0
 have hr := r1 (by omega)
 rw [e1]
 simp only [Option.bind_some]
 rw [if_pos r0, if_pos hr]
 refine ⟨_, _, _, rfl, ?_, hc1⟩
 unfold rd
 rw [List.getD_eq_getElem?_getD, List.getElem?_eq_getElem (by omega)]
 exact List.getElem_mem _
theorem emptyT_nil : emptyT (⟨#[]⟩ : ByteArray) = true := by
 have : (⟨#[]⟩ : ByteArray).toList = [] := by unfold ByteArray.toList; unfold ByteArray.toList.loop; rfl
 unfold emptyT
 rw [this]
 rfl
abbrev Apart (L : List Db) : Prop := L.Pairwise fun a b => a.f0.toList ≠ b.f0.toList
theorem noneAt_mk (l : List Db) (name : ByteArray) (e : Nat) : ∀ (j : Nat), (∀ q, j ≤ q → q < j + e → (rd_T138 l (q : Int)).f0.toList ≠ name.toList) → noneAt l name j e = true := by
 induction e with
 | zero => intro j _; rfl
 | succ e ih =>
  intro j hj
  unfold noneAt
  rw [ih (j + 1) (fun q h1 h2 => hj q (by omega) (by omega))]
  have := hj j (Nat.le_refl _) (by omega)
  simpa using this
theorem confFrom_mk (l : List Db) (h0 : 1 ≤ l.length ∧ l.length ≤ 3) (hok : ∀ x ∈ l, dbOk x = true) (hap : Apart l) (d : Nat) : ∀ (i : Nat), i + d = l.length → confFrom l i d = true := by
 induction d with
 | zero =>
  intro i hi
  unfold confFrom
  rw [decide_eq_true_eq]
  omega
 | succ d ih =>
  intro i hi
  have he : rd_T138 l (i : Int) = l[i] := getD_nat l _ (by omega)
  unfold confFrom
  rw [he, hok _ (List.getElem_mem _), ih (i + 1) (by omega), noneAt_mk l _ i 0 (fun q h1 h2 => ?_)]
  ·rfl
  ·have hq : rd_T138 l (q : Int) = l[q] := getD_nat l _ (by omega)
   rw [hq]
   exact (List.pairwise_iff_getElem.1 hap) q i (by omega) (by omega) (by omega)
theorem l3One {l : List Int} {i : Int} (hc : Cur l i) (h : Int) : ∃ (x : Db) (i' h' : Int), spec_l3One.f l i h = some (x.f0, x.f1, x.f2, x.f3, x.f4, i', h') ∧ dbOk x = true ∧ Cur l i' := by
 unfold spec_l3One.f
 obtain ⟨s, i1, h1, e1, hs, hc1⟩ := l1Str hc h [(⟨#[109, 97, 105, 110]⟩ : ByteArray), (⟨#[109, 97, 105, 110]⟩ : ByteArray), (⟨#[108, 111, 103, 115]⟩ : ByteArray), (⟨#[120]⟩ : ByteArray)] (by simp)
 obtain ⟨a, i2, h2, e2, a0, a1, _, hc2⟩ := l1Below hc1 h1 3
 obtain ⟨b, i3, h3, e3, b0, b1, _, hc3⟩ := l1Below hc2 h2 5
 obtain ⟨c, i4, h4, e4, c0, hc4⟩ := l1IntM hc3 h3 [1, 2, 5, 20] (by simp)
 obtain ⟨d, i5, h5, e5, d0, hc5⟩ := l1IntM hc4 h4 [1, 3, 20] (by simp)
 have a2 := a1 (by omega)
 have b2 := b1 (by omega)
 refine ⟨⟨s, 1 + a, b, c, d⟩, i5, h5, ?_, ?_, hc5⟩
 ·simp only [e1, e2, e3, e4, e5, Option.bind_some, w64 (n := 1 + a) (by omega) (by omega)]
 ·have hn : nameOk s = true := by
   rw [nameOk_iff]
   simp only [List.mem_cons, List.not_mem_nil, or_false] at hs
   rcases hs with rfl | rfl | rfl | rfl <;> decide
  simp only [List.mem_cons, List.not_mem_nil, or_false] at c0 d0
  unfold dbOk
  rw [hn]
  simp only [Bool.true_and, Bool.and_eq_true, decide_eq_true_eq]
  omega
theorem l3Draw_l0 {l : List Int} (d : Nat) : ∀ (i h : Int) (L : List Db), Cur l i → L.length + d ≤ 3 → (∀ x ∈ L, dbOk x = true) → Apart L → (L = [] → 1 ≤ d) →
  ∃ L' i' h', Ev (fun k => spec_l3Draw.l0 k L (d : Int) l i h) (L', i', h') ∧ (1 ≤ L'.length ∧ L'.length ≤ 3) ∧ (∀ x ∈ L', dbOk x = true) ∧ Apart L' ∧ Cur l i' := by
 induction d with
 | zero =>
  intro i h L hc hL hok hap h0
  refine ⟨L, i, h, Ev.step (fun k => spec_l3Draw.l0.eq_2 _ _ _ _ _ k) (Ev.neg (by omega) (Ev.done rfl)), ⟨?_, by omega⟩, hok, hap, hc⟩
  cases L with
  | nil => have := h0 rfl; omega
  | cons _ _ => simp
 | succ d ih =>
  intro i h L hc hL hok hap h0
  obtain ⟨x, i1, h1, e1, hx, hc1⟩ := l3One hc h
  have hw : wrap64 (((d + 1 : Nat) : Int) - 1) = (d : Int) := by rw [w64 (by omega) (by omega)]; omega
  cases hf : dbAt L x.f0 with
  | some y =>
   obtain ⟨L', i', h', e, r⟩ := ih i1 h1 L hc1 (by omega) hok hap (fun hn => by subst hn; simp [dbAt] at hf)
   refine ⟨L', i', h', Ev.step (fun k => spec_l3Draw.l0.eq_2 _ _ _ _ _ k) (Ev.pos (by omega) (Ev.then e1 (Ev.bind (spec_dbAt L x.f0 (by omega)) ?_))), r⟩
   rw [hf, hw]
   exact Ev.pos rfl e
  | none =>
   have hne : ∀ y ∈ L, y.f0.toList ≠ x.f0.toList := fun y hy => by
    have := List.find?_eq_none.1 hf y hy
    simpa using this
   obtain ⟨L', i', h', e, r⟩ := ih i1 h1 (L ++ [x]) hc1 (by simp; omega) (fun y hy => by
    rcases List.mem_append.1 hy with hy | hy
    ·exact hok y hy
    ·rw [List.mem_singleton.1 hy]; exact hx) (List.pairwise_append.2 ⟨hap, List.pairwise_singleton _ _, fun a ha b hb => by rw [List.mem_singleton.1 hb]; exact hne a ha⟩) (fun hn => by simp at hn)
   refine ⟨L', i', h', Ev.step (fun k => spec_l3Draw.l0.eq_2 _ _ _ _ _ k) (Ev.pos (by omega) (Ev.then e1 (Ev.bind (spec_dbAt L x.f0 (by omega)) ?_))), r⟩
   rw [hf, hw]
   exact Ev.neg (by decide) (Ev.pos (by omega) e)
theorem l3Draw {l : List Int} {i : Int} (hc : Cur l i) (h : Int) : ∃ L i' h', Ev (fun k => spec_l3Draw.f k l i h) (L, i', h') ∧ confFrom L 0 L.length = true ∧ (∀ x ∈ L, dbOk x = true) ∧ (1 ≤ L.length ∧ L.length ≤ 3) ∧ Cur l i' := by
 unfold spec_l3Draw.f
 obtain ⟨a, i1, h1, e1, a0, a1, _, hc1⟩ := l1Below hc h 3
 have a2 := a1 (by omega)
 obtain ⟨L, i', h', e, hl, hok, hap, hc'⟩ := l3Draw_l0 (1 + a).toNat i1 h1 [] hc1 (by simp; omega) (fun x hx => by cases hx) List.Pairwise.nil (fun _ => by omega)
 refine ⟨L, i', h', Ev.then e1 ?_, confFrom_mk L hl hok hap L.length 0 (by omega), hok, hl, hc'⟩
 rw [w64 (n := 1 + a) (by omega) (by omega)]
 rwa [Int.toNat_of_nonneg (by omega)] at e
theorem db_short {L : List Db} (hok : ∀ x ∈ L, dbOk x = true) : ∀ x ∈ L, x.f0.size ≤ 9223372036854775807 := fun x hx => by
 have := (dbOk_of (hok x hx)).1
 omega
theorem l3Text {l : List Int} {i : Int} (hc : Cur l i) (h : Int) : ∃ s i' h', Ev (fun k => spec_l3Text.f k l i h) (s, i', h') ∧ s.size ≤ 100 ∧ Cur l i' := by
 unfold spec_l3Text.f
 obtain ⟨o, i1, h1, e1, hc1⟩ := l1Once hc h 3
 cases o
 ·obtain ⟨L, i2, h2, e2, hL, hok, hl, hc2⟩ := l3Draw hc1 h1
  exact ⟨_, i2, h2, Ev.then e1 (Ev.neg (by simp) (Ev.bind e2 (Ev.bind (spec_confText L (by omega) (db_short hok)) (Ev.done rfl)))), (confText_size hL).2, hc2⟩
 ·obtain ⟨s, i2, h2, e2, hs, hc2⟩ := l1Str hc1 h1 [(⟨#[]⟩ : ByteArray), (⟨#[109, 97, 105, 110]⟩ : ByteArray), (⟨#[109, 97, 105, 110, 58, 49]⟩ : ByteArray), (⟨#[109, 97, 105, 110, 58, 49, 47, 50, 47, 51]⟩ : ByteArray), (⟨#[109, 97, 105, 110, 58, 48, 49, 47, 50, 47, 51, 47, 52]⟩ : ByteArray), (⟨#[109, 97, 105, 110, 58, 49, 47, 50, 47, 51, 47, 52, 59]⟩ : ByteArray), (⟨#[59, 109, 97, 105, 110, 58, 49, 47, 50, 47, 51, 47, 52]⟩ : ByteArray), (⟨#[109, 97, 105, 110, 58, 49, 47, 50, 47, 51, 47, 52, 59, 109, 97, 105, 110, 58, 49, 47, 49, 47, 49, 47, 49]⟩ : ByteArray), (⟨#[109, 97, 105, 110, 58, 49, 47, 50, 47, 51, 47, 52, 47, 53]⟩ : ByteArray), (⟨#[109, 97, 105, 110, 58, 52, 47, 50, 47, 51, 47, 52]⟩ : ByteArray), (⟨#[109, 97, 105, 110, 58, 49, 47, 53, 47, 51, 47, 52]⟩ : ByteArray), (⟨#[109, 97, 105, 110, 58, 49, 47, 50, 47, 48, 47, 52]⟩ : ByteArray), (⟨#[109, 97, 105, 110, 58, 49, 47, 50, 47, 51, 47, 49, 48, 48]⟩ : ByteArray), (⟨#[77, 97, 105, 110, 58, 49, 47, 50, 47, 51, 47, 52]⟩ : ByteArray), (⟨#[109, 97, 105, 110, 58, 49, 47, 50, 47, 51, 47, 52, 32]⟩ : ByteArray), (⟨#[58, 49, 47, 50, 47, 51, 47, 52]⟩ : ByteArray), (⟨#[97, 58, 49, 47, 48, 47, 49, 47, 49, 59, 98, 58, 49, 47, 48, 47, 49, 47, 49, 59, 99, 58, 49, 47, 48, 47, 49, 47, 49, 59, 100, 58, 49, 47, 48, 47, 49, 47, 49]⟩ : ByteArray), (⟨#[97, 58, 98, 58, 49, 47, 50, 47, 51, 47, 52]⟩ : ByteArray)] (by simp)
  refine ⟨s, i2, h2, Ev.then e1 (Ev.pos rfl (Ev.then e2 (Ev.done rfl))), ?_, hc2⟩
  simp only [List.mem_cons, List.not_mem_nil, or_false] at hs
  rcases hs with rfl | rfl | rfl | rfl | rfl | rfl | rfl | rfl | rfl | rfl | rfl | rfl | rfl | rfl | rfl | rfl | rfl | rfl <;> decide
theorem recOk_prep {n : Int} {L : List Db} (hn : 1 ≤ n ∧ n ≤ 60000) (hL : confFrom L 0 L.length = true) : recOk 1 n 0 (confText L) = true := by
 unfold recOk confB
 rw [decide_eq_true hn, parseConf_text hL]
 rfl
theorem l4Draw {l : List Int} {i : Int} (hc : Cur l i) (h : Int) : ∃ kind n owner text i' h', Ev (fun k => spec_l4Draw.f k l i h) (kind, n, owner, text, i', h') ∧ recOk kind n owner text = true ∧ (1 ≤ kind ∧ kind ≤ 3) ∧ (1 ≤ n ∧ n ≤ 6) ∧ (kind = 1 → ∃ L, confFrom L 0 L.length = true ∧ text = confText L) ∧ (kind ≠ 1 → text = ⟨#[]⟩) ∧ (kind ≠ 3 → owner = 0) ∧ (0 ≤ owner ∧ owner ≤ 1) ∧ text.size ≤ 100 ∧ Cur l i' := by
 unfold spec_l4Draw.f
 obtain ⟨a, i1, h1, e1, a0, a1, _, hc1⟩ := l1Below hc h 3
 obtain ⟨b, i2, h2, e2, b0, b1, _, hc2⟩ := l1Below hc1 h1 6
 have a2 := a1 (by omega)
 have b2 := b1 (by omega)
 have wa : wrap64 (1 + a) = 1 + a := w64 (by omega) (by omega)
 have wb : wrap64 (1 + b) = 1 + b := w64 (by omega) (by omega)
 by_cases hk : a = 0
 ·subst hk
  obtain ⟨L, i3, h3, e3, hL, hok, hl, hc3⟩ := l3Draw hc2 h2
  refine ⟨1, 1 + b, 0, confText L, i3, h3, Ev.then e1 (Ev.then e2 ?_), recOk_prep (by omega) hL, by omega, by omega, fun _ => ⟨L, hL, rfl⟩, fun hx => absurd rfl hx, fun _ => rfl, by omega, (confText_size hL).2, hc3⟩
  simp only [wa, wb]
  exact Ev.pos (by omega) (Ev.bind e3 (Ev.bind (spec_confText L (by omega) (db_short hok)) (Ev.neg (by omega) (Ev.done (by simp)))))
 ·have et : (⟨#[]⟩ : ByteArray).size ≤ 100 := by decide
  by_cases h3 : a = 2
  ·subst h3
   obtain ⟨o, i3, h3, e3, o0, o1, _, hc3⟩ := l1Below hc2 h2 2
   have o2 := o1 (by omega)
   refine ⟨3, 1 + b, o, ⟨#[]⟩, i3, h3, Ev.then e1 (Ev.then e2 ?_), ?_, by omega, by omega, fun hx => by omega, fun _ => rfl, fun hx => absurd rfl hx, by omega, et, hc3⟩
   ·simp only [wa, wb]
    exact Ev.neg (by omega) (Ev.pos (by omega) (Ev.then e3 (Ev.done (by simp))))
   ·unfold recOk
    rw [decide_eq_true (by omega), emptyT_nil, decide_eq_true (show 0 ≤ o ∧ o ≤ 1 by omega)]
    rfl
  ·obtain rfl : a = 1 := by omega
   refine ⟨2, 1 + b, 0, ⟨#[]⟩, i2, h2, Ev.then e1 (Ev.then e2 ?_), ?_, by omega, by omega, fun hx => by omega, fun _ => rfl, fun _ => rfl, by omega, et, hc2⟩
   ·simp only [wa, wb]
    exact Ev.neg (by omega) (Ev.neg (by omega) (Ev.done (by simp)))
   ·unfold recOk
    rw [decide_eq_true (by omega), emptyT_nil]
    rfl
theorem l4Any {l : List Int} {i : Int} (hc : Cur l i) (h : Int) : ∃ kind n owner text i' h', Ev (fun k => spec_l4Any.f k l i h) (kind, n, owner, text, i', h') ∧ text.size ≤ 100 ∧ Cur l i' := by
 unfold spec_l4Any.f
 obtain ⟨kind, n, owner, text, i1, h1, e1, _, _, _, _, _, _, _, ht, hc1⟩ := l4Draw hc h
 obtain ⟨a, i2, h2, e2, a0, a1, _, hc2⟩ := l1Below hc1 h1 12
 by_cases k0 : a = 0
 ·obtain ⟨x, i3, h3, e3, hc3⟩ := l1Int hc2 h2 [0, 1, 2, 4] (by simp)
  exact ⟨x, n, owner, text, i3, h3, Ev.bind e1 (Ev.then e2 (Ev.pos k0 (Ev.then e3 (Ev.done rfl)))), ht, hc3⟩
 by_cases k1 : a = 1
 ·obtain ⟨x, i3, h3, e3, hc3⟩ := l1Int hc2 h2 [0, 60000, 60001, (-1)] (by simp)
  exact ⟨kind, x, owner, text, i3, h3, Ev.bind e1 (Ev.then e2 (Ev.neg k0 (Ev.pos k1 (Ev.then e3 (Ev.done rfl))))), ht, hc3⟩
 by_cases k2 : a = 2
 ·obtain ⟨x, i3, h3, e3, hc3⟩ := l1Int hc2 h2 [(-1), 1, 2] (by simp)
  exact ⟨kind, n, x, text, i3, h3, Ev.bind e1 (Ev.then e2 (Ev.neg k0 (Ev.neg k1 (Ev.pos k2 (Ev.then e3 (Ev.done rfl)))))), ht, hc3⟩
 by_cases k3 : a = 3
 ·obtain ⟨x, i3, h3, e3, hx, hc3⟩ := l3Text hc2 h2
  exact ⟨kind, n, owner, x, i3, h3, Ev.bind e1 (Ev.then e2 (Ev.neg k0 (Ev.neg k1 (Ev.neg k2 (Ev.pos k3 (Ev.bind e3 (Ev.done rfl))))))), hx, hc3⟩
 ·exact ⟨kind, n, owner, text, i2, h2, Ev.bind e1 (Ev.then e2 (Ev.neg k0 (Ev.neg k1 (Ev.neg k2 (Ev.neg k3 (Ev.done rfl)))))), ht, hc2⟩
end Go.Proofs.YthkepmicdpgbbaaGreatDoor.Fn

namespace Go.Proofs.YthkepmicdpgbbaaGreatDoor.Fn
set_option linter.unusedVariables false
set_option linter.unusedSimpArgs false
open Go.RowKit Go.Proofs.YthkepmicdpgbbaaGreatDoorW.PrintWords Go.Proofs.YthkepmicdpgbbaaGreatDoor.P Go.Proofs.YthkepmicdpgbbaaGreatDoor.Base
theorem textOk_ba {L : List UInt8} (hl : L.length ≤ 100) (h : ∀ c ∈ L, 32 ≤ c.toNat ∧ c.toNat ≤ 126) : textOk (ba L) = true := by
 rw [textOk_iff]
 refine ⟨by rw [ba_size]; omega, fun i hi => ?_⟩
 rw [ba_size] at hi
 rw [bt_ba L i hi]
 have := h _ (List.getElem_mem hi)
 omega
theorem itoa_chars {n : Int} (h : 0 ≤ n) : ∀ c ∈ Lib.itoa n, 48 ≤ c.toNat ∧ c.toNat ≤ 57 := by
 intro c hc
 by_cases hx : 48 ≤ c.toNat ∧ c.toNat ≤ 57
 ·exact hx
 ·exact absurd hc (num_free n h c (by omega))
theorem itemL_chars {x : Db} (h : dbOk x = true) : ∀ c ∈ itemL x, 32 ≤ c.toNat ∧ c.toNat ≤ 126 := by
 intro c hc
 have hp := dbOk_pos h
 have hn : nameOk x.f0 = true := by
  unfold dbOk at h
  simp only [Bool.and_eq_true] at h
  exact h.1
 unfold itemL at hc
 simp only [List.mem_append, List.mem_singleton] at hc
 rcases hc with (((((((hc | rfl) | hc) | rfl) | hc) | rfl) | hc) | rfl) | hc
 ·have := name_bytes hn c hc; omega
 ·decide
 ·have := itoa_chars hp.1 c hc; omega
 ·decide
 ·have := itoa_chars hp.2.1 c hc; omega
 ·decide
 ·have := itoa_chars hp.2.2.1 c hc; omega
 ·decide
 ·have := itoa_chars hp.2.2.2 c hc; omega
theorem confText_textOk {l : List Db} (h : confFrom l 0 l.length = true) : textOk (confText l) = true := by
 obtain ⟨x, xs, rfl, _, hall⟩ := conf_cons h
 have hs := (confText_size h).2
 rw [confText_join x xs h] at hs ⊢
 rw [ba_size] at hs
 refine textOk_ba hs fun c hc => ?_
 unfold joinA at hc
 rcases List.mem_append.1 hc with hc | hc
 ·exact itemL_chars (hall x (by simp)) c hc
 ·obtain ⟨y, hy, hc⟩ := List.mem_flatMap.1 hc
  obtain ⟨z, hz, rfl⟩ := List.mem_map.1 hy
  rcases List.mem_cons.1 hc with rfl | hc
  ·decide
  ·exact itemL_chars (hall z (List.mem_cons_of_mem _ hz)) c hc
theorem emptyT_eq {s : ByteArray} (h : emptyT s = true) : s = ⟨#[]⟩ := by
 unfold emptyT at h
 have h1 : s.toList = [] := by simpa using h
 have h2 : (⟨#[]⟩ : ByteArray).toList = [] := by unfold ByteArray.toList; unfold ByteArray.toList.loop; rfl
 exact text_inj (h1.trans h2.symm)
theorem recOk_parts {kind n owner : Int} {s : ByteArray} (h : recOk kind n owner s = true) : (1 ≤ n ∧ n ≤ 60000) ∧ (1 ≤ kind ∧ kind ≤ 3) ∧ (0 ≤ owner ∧ owner ≤ 1) ∧ textOk s = true ∧ s.size ≤ 100 := by
 have he : textOk (⟨#[]⟩ : ByteArray) = true := by
  rw [textOk_iff]
  exact ⟨by decide, fun i hi => absurd hi (Nat.not_lt_zero _)⟩
 unfold recOk at h
 simp only [Bool.and_eq_true, decide_eq_true_eq] at h
 obtain ⟨hn, h⟩ := h
 have key : (1 ≤ kind ∧ kind ≤ 3) ∧ (0 ≤ owner ∧ owner ≤ 1) ∧ textOk s = true := by
  split at h
  ·rename_i hk
   simp only [Bool.and_eq_true, decide_eq_true_eq] at h
   refine ⟨by omega, by omega, ?_⟩
   have hc : (parseConf s).2 = true := h.2
   rcases parseConf_back s with hb | ⟨l, hb, hl, rfl⟩
   ·rw [hb] at hc; cases hc
   ·exact confText_textOk hl
  ·split at h
   ·simp only [Bool.and_eq_true, decide_eq_true_eq] at h
    rw [emptyT_eq h.2]
    exact ⟨by omega, by omega, he⟩
   ·split at h
    ·simp only [Bool.and_eq_true, decide_eq_true_eq] at h
     rw [emptyT_eq h.2]
     exact ⟨by omega, by omega, he⟩
    ·cases h
 exact ⟨hn, key.1, key.2.1, key.2.2, textOk_size key.2.2⟩
theorem strOfNums_bytesOf (s : ByteArray) : strOfNums (bytesOf s) = s := by
 unfold strOfNums bytesOf
 rw [List.map_map]
 have h : ((fun n : Int => UInt8.ofNat n.toNat) ∘ fun b : UInt8 => (b.toNat : Int)) = id := by funext b; simp
 rw [h, List.map_id]
theorem rd_app_left {a b : List Int} {i : Nat} (h : i < a.length) : rd (a ++ b) (i : Int) = rd a (i : Int) := by
 rw [rd_getElem (by rw [List.length_append]; omega), rd_getElem h, List.getElem_append_left h]
theorem rec_bytes {gen place kind n owner : Int} {s : ByteArray} (hg : wordIn gen) (hp : wordIn place) (h : recOk kind n owner s = true) :
  putRec gen place kind n owner s = [gen / 256 % 256, gen % 256, place / 256 % 256, place % 256, kind % 256, n / 256 % 256, n % 256, owner % 256, (s.size : Int)] ++ (bytesOf s ++ wordBytes (crc (recBody gen place kind n owner s))) := by
 obtain ⟨_, _, _, ht, _⟩ := recOk_parts h
 have e : recBody gen place kind n owner s = [gen / 256 % 256, gen % 256, place / 256 % 256, place % 256, kind % 256, n / 256 % 256, n % 256, owner % 256, (s.size : Int)] ++ bytesOf s := by
  rw [recBody, putText, if_pos ht]
  simp [recHead, wordBytes]
 rw [putRec_yes ⟨h, hg, hp⟩, ← List.append_assoc, ← e]
theorem word_two {a b : Int} {i : Nat} {l : List Int} (hl : i + 1 < l.length) (ha : rd l (i : Int) = a) (hb : rd l ((i : Int) + 1) = b) : (word l (i : Int)).1 = a * 256 + b := by
 unfold word
 rw [if_neg (by omega), ha, hb]
theorem getRec_put {gen place kind n owner : Int} {s : ByteArray} (hg : wordIn gen) (hp : wordIn place) (h : recOk kind n owner s = true) : getRec (putRec gen place kind n owner s) = (gen, place, kind, n, owner, s, true) := by
 obtain ⟨hn, hk, ho, ht, hs⟩ := recOk_parts h
 have e := rec_bytes hg hp h
 generalize hB : putRec gen place kind n owner s = B at e
 have hlen : B.length = 9 + (s.size + 2) := by
  rw [e, List.length_append, List.length_append, bytesOf_length, wordBytes_length]
  rfl
 have at_ : ∀ i : Nat, i < 9 → rd B (i : Int) = rd [gen / 256 % 256, gen % 256, place / 256 % 256, place % 256, kind % 256, n / 256 % 256, n % 256, owner % 256, (s.size : Int)] (i : Int) := fun i hi => by
  rw [e]
  exact rd_app_left (by simpa using hi)
 have w0 : (word B 0).1 = gen := by
  rw [show (0 : Int) = ((0 : Nat) : Int) from rfl, word_two (i := 0) (by omega) (at_ 0 (by omega)) (at_ 1 (by omega))]
  simp [rd]
  omega
 have w2 : (word B 2).1 = place := by
  rw [show (2 : Int) = ((2 : Nat) : Int) from rfl, word_two (i := 2) (by omega) (at_ 2 (by omega)) (at_ 3 (by omega))]
  simp [rd]
  omega
 have w5 : (word B 5).1 = n := by
  rw [show (5 : Int) = ((5 : Nat) : Int) from rfl, word_two (i := 5) (by omega) (at_ 5 (by omega)) (at_ 6 (by omega))]
  simp [rd]
  omega
 have r4 : rd B 4 = kind := by
  have := at_ 4 (by omega)
  rw [show (4 : Int) = ((4 : Nat) : Int) from rfl, this]
  simp [rd]
  omega
 have r7 : rd B 7 = owner := by
  have := at_ 7 (by omega)
  rw [show (7 : Int) = ((7 : Nat) : Int) from rfl, this]
  simp [rd]
  omega
 have r8 : rd B 8 = (s.size : Int) := by
  have := at_ 8 (by omega)
  rw [show (8 : Int) = ((8 : Nat) : Int) from rfl, this]
  simp [rd]
 have hx : textAt B 8 = s := by
  unfold textAt
  rw [r8]
  have e3 : ((B.take ((8 : Int) + 1 + (s.size : Int)).toNat).drop ((8 : Int) + 1).toNat) = bytesOf s := by
   have t1 : ((8 : Int) + 1 + (s.size : Int)).toNat = 9 + s.size := by omega
   have t2 : ((8 : Int) + 1).toNat = 9 := rfl
   rw [t1, t2, e, List.take_append, List.take_of_length_le (by simp), List.drop_append, List.drop_of_length_le (by simp)]
   simp [List.take_append, bytesOf_length, List.take_of_length_le]
  rw [e3]
  exact strOfNums_bytesOf s
 have tx : getText B 8 = (s, 8 + 1 + (s.size : Int), true) := by
  unfold getText
  rw [if_neg (by rw [r8]; omega), hx, if_pos ht, r8]
 have hrec : IsRec B := by
  refine ⟨by omega, ?_⟩
  unfold recAt
  rw [w0, w2, r4, w5, r7, tx]
  exact hB
 rw [getRec_yes hrec, w0, w2, r4, w5, r7, tx]
end Go.Proofs.YthkepmicdpgbbaaGreatDoor.Fn

namespace Go.Proofs.YthkepmicdpgbbaaGreatDoor.Fn
set_option linter.unusedVariables false
set_option linter.unusedSimpArgs false
open Go.RowKit Go.Proofs.YthkepmicdpgbbaaGreatDoorW.PrintWords Go.Proofs.YthkepmicdpgbbaaGreatDoor.P Go.Proofs.YthkepmicdpgbbaaGreatDoor.Base
theorem known_parts {g : Int} {t : ByteArray} {pg : Int} {pt : ByteArray} {e o : Int} (h : knownOk g t pg pt e o = true) : genOk g t = true ∧ genOk pg pt = true ∧ (0 ≤ e ∧ e ≤ 60000) ∧ (0 ≤ o ∧ o ≤ 1) ∧ (0 < e ∨ o = 0) ∧ (pg = 0 ∨ g < pg) := by
 unfold knownOk at h
 simpa only [Bool.and_eq_true, decide_eq_true_eq] using h
theorem known_mk {g : Int} {t : ByteArray} {pg : Int} {pt : ByteArray} {e o : Int} (h : genOk g t = true ∧ genOk pg pt = true ∧ (0 ≤ e ∧ e ≤ 60000) ∧ (0 ≤ o ∧ o ≤ 1) ∧ (0 < e ∨ o = 0) ∧ (pg = 0 ∨ g < pg)) : knownOk g t pg pt e o = true := by
 unfold knownOk
 simpa only [Bool.and_eq_true, decide_eq_true_eq] using h
theorem genOk_nil : genOk 0 (⟨#[]⟩ : ByteArray) = true := by
 unfold genOk
 rw [if_pos rfl]
 exact emptyT_nil
theorem genOk_mk {n : Int} {s : ByteArray} (h : 1 ≤ n ∧ n ≤ 60000) (hs : confB s = true) : genOk n s = true := by
 unfold genOk
 rw [if_neg (by omega), decide_eq_true h, hs]
 rfl
theorem genOk_conf {n : Int} {s : ByteArray} (h : genOk n s = true) (h0 : n ≠ 0) : (1 ≤ n ∧ n ≤ 60000) ∧ confB s = true := by
 unfold genOk at h
 rw [if_neg h0] at h
 simpa only [Bool.and_eq_true, decide_eq_true_eq] using h
theorem genOk_zero {s : ByteArray} (h : genOk 0 s = true) : s = ⟨#[]⟩ := by
 unfold genOk at h
 rw [if_pos rfl] at h
 exact emptyT_eq h
theorem known_zero : knownOk 0 (⟨#[]⟩ : ByteArray) 0 (⟨#[]⟩ : ByteArray) 0 0 = true := known_mk ⟨genOk_nil, genOk_nil, by omega, by omega, by omega, by omega⟩
theorem apply_prep {g : Int} {t : ByteArray} {pg : Int} {pt : ByteArray} {e o n ow : Int} {s : ByteArray} (h : knownOk g t pg pt e o = true) (hr : recOk 1 n ow s = true) (hn : g < n) : applyK g t pg pt e o 1 n ow s = (g, t, n, s, e, o, true) := by
 unfold applyK
 rw [if_pos h, if_pos hr, if_pos ⟨rfl, hn⟩]
theorem apply_commit {g : Int} {t : ByteArray} {pg : Int} {pt : ByteArray} {e o ow : Int} {s : ByteArray} (h : knownOk g t pg pt e o = true) (hr : recOk 2 pg ow s = true) : applyK g t pg pt e o 2 pg ow s = (pg, pt, 0, ⟨#[]⟩, e, o, true) := by
 unfold applyK
 rw [if_pos h, if_pos hr, if_neg (by omega), if_pos ⟨rfl, rfl⟩]
theorem apply_epoch {g : Int} {t : ByteArray} {pg : Int} {pt : ByteArray} {e o n ow : Int} {s : ByteArray} (h : knownOk g t pg pt e o = true) (hr : recOk 3 n ow s = true) (hn : e < n) : applyK g t pg pt e o 3 n ow s = (g, t, pg, pt, n, ow, true) := by
 unfold applyK
 rw [if_pos h, if_pos hr, if_neg (by omega), if_neg (by omega), if_pos ⟨rfl, hn⟩]
theorem recOk_one {n ow : Int} {s : ByteArray} (h : recOk 1 n ow s = true) : (1 ≤ n ∧ n ≤ 60000) ∧ ow = 0 ∧ confB s = true := by
 unfold recOk at h
 rw [if_pos rfl] at h
 simpa only [Bool.and_eq_true, decide_eq_true_eq] using h
theorem recOk_two {n ow : Int} {s : ByteArray} (h : recOk 2 n ow s = true) : (1 ≤ n ∧ n ≤ 60000) ∧ ow = 0 ∧ emptyT s = true := by
 unfold recOk at h
 rw [if_neg (by decide), if_pos rfl] at h
 simpa only [Bool.and_eq_true, decide_eq_true_eq] using h
theorem recOk_three {n ow : Int} {s : ByteArray} (h : recOk 3 n ow s = true) : (1 ≤ n ∧ n ≤ 60000) ∧ (0 ≤ ow ∧ ow ≤ 1) ∧ emptyT s = true := by
 unfold recOk at h
 rw [if_neg (by decide), if_neg (by decide), if_pos rfl] at h
 simpa only [Bool.and_eq_true, decide_eq_true_eq] using h
theorem recOk_commit {n : Int} (h : 1 ≤ n ∧ n ≤ 60000) : recOk 2 n 0 (⟨#[]⟩ : ByteArray) = true := by
 unfold recOk
 rw [decide_eq_true h, if_neg (by decide), if_pos rfl, emptyT_nil]
 rfl
theorem recOk_epoch {n ow : Int} (h : 1 ≤ n ∧ n ≤ 60000) (ho : 0 ≤ ow ∧ ow ≤ 1) : recOk 3 n ow (⟨#[]⟩ : ByteArray) = true := by
 unfold recOk
 rw [decide_eq_true h, if_neg (by decide), if_neg (by decide), if_pos rfl, decide_eq_true ho, emptyT_nil]
 rfl
theorem recOk_conf {n : Int} {s : ByteArray} (h : 1 ≤ n ∧ n ≤ 60000) (hs : confB s = true) : recOk 1 n 0 s = true := by
 unfold recOk
 rw [decide_eq_true h, if_pos rfl, hs]
 rfl
theorem apply_cases {g : Int} {t : ByteArray} {pg : Int} {pt : ByteArray} {e o kind n ow : Int} {s : ByteArray} :
  (applyK g t pg pt e o kind n ow s = (g, t, pg, pt, e, o, false)) ∨
  (knownOk g t pg pt e o = true ∧ recOk kind n ow s = true ∧ (kind = 1 ∧ g < n ∧ applyK g t pg pt e o kind n ow s = (g, t, n, s, e, o, true) ∨ kind = 2 ∧ n = pg ∧ applyK g t pg pt e o kind n ow s = (n, pt, 0, ⟨#[]⟩, e, o, true) ∨ kind = 3 ∧ e < n ∧ applyK g t pg pt e o kind n ow s = (g, t, pg, pt, n, ow, true))) := by
 unfold applyK
 split
 ·rename_i h
  split
  ·rename_i hr
   split
   ·rename_i hk
    exact .inr ⟨h, hr, .inl ⟨hk.1, hk.2, rfl⟩⟩
   ·split
    ·rename_i hk
     exact .inr ⟨h, hr, .inr (.inl ⟨hk.1, hk.2, rfl⟩)⟩
    ·split
     ·rename_i hk
      exact .inr ⟨h, hr, .inr (.inr ⟨hk.1, hk.2, rfl⟩)⟩
     ·exact .inl rfl
  ·exact .inl rfl
 ·exact .inl rfl
theorem apply_known {g : Int} {t : ByteArray} {pg : Int} {pt : ByteArray} {e o kind n ow : Int} {s : ByteArray} (h : knownOk g t pg pt e o = true) :
  ∃ g' t' pg' pt' e' o' b, applyK g t pg pt e o kind n ow s = (g', t', pg', pt', e', o', b) ∧ knownOk g' t' pg' pt' e' o' = true ∧ g ≤ g' ∧ e ≤ e' := by
 rcases apply_cases (g := g) (t := t) (pg := pg) (pt := pt) (e := e) (o := o) (kind := kind) (n := n) (ow := ow) (s := s) with h1 | ⟨_, hr, h1⟩
 ·exact ⟨_, _, _, _, _, _, _, h1, h, by omega, by omega⟩
 ·obtain ⟨p1, p2, p3, p4, p5, p6⟩ := known_parts h
  rcases h1 with ⟨rfl, hn, h1⟩ | ⟨rfl, rfl, h1⟩ | ⟨rfl, hn, h1⟩
  ·have hq := recOk_one hr
   exact ⟨_, _, _, _, _, _, _, h1, known_mk ⟨p1, genOk_mk hq.1 hq.2.2, p3, p4, p5, .inr hn⟩, by omega, by omega⟩
  ·have hq := recOk_two hr
   exact ⟨_, _, _, _, _, _, _, h1, known_mk ⟨p2, genOk_nil, p3, p4, p5, .inl rfl⟩, by omega, by omega⟩
  ·have hq := recOk_three hr
   exact ⟨_, _, _, _, _, _, _, h1, known_mk ⟨p1, p2, by omega, hq.2.1, .inl (by omega), p6⟩, by omega, by omega⟩
def Runs : Int → ByteArray → Int → ByteArray → Int → Int → List Rec → Int → ByteArray → Int → ByteArray → Int → Int → Prop
 | g, t, pg, pt, e, o, [], g', t', pg', pt', e', o' => (g, t, pg, pt, e, o) = (g', t', pg', pt', e', o')
 | g, t, pg, pt, e, o, r :: rs, g', t', pg', pt', e', o' => recOk r.f0 r.f1 r.f2 r.f3 = true ∧ ∃ g1 t1 pg1 pt1 e1 o1, applyK g t pg pt e o r.f0 r.f1 r.f2 r.f3 = (g1, t1, pg1, pt1, e1, o1, true) ∧ knownOk g1 t1 pg1 pt1 e1 o1 = true ∧ Runs g1 t1 pg1 pt1 e1 o1 rs g' t' pg' pt' e' o'
theorem runs_append {rs qs : List Rec} {g1 : Int} {t1 : ByteArray} {pg1 : Int} {pt1 : ByteArray} {e1 o1 : Int} {g2 : Int} {t2 : ByteArray} {pg2 : Int} {pt2 : ByteArray} {e2 o2 : Int} : ∀ {g : Int} {t : ByteArray} {pg : Int} {pt : ByteArray} {e o : Int}, Runs g t pg pt e o rs g1 t1 pg1 pt1 e1 o1 → Runs g1 t1 pg1 pt1 e1 o1 qs g2 t2 pg2 pt2 e2 o2 → Runs g t pg pt e o (rs ++ qs) g2 t2 pg2 pt2 e2 o2 := by
 induction rs with
 | nil =>
  intro g t pg pt e o h k
  simp only [Runs, Prod.mk.injEq] at h
  obtain ⟨rfl, rfl, rfl, rfl, rfl, rfl⟩ := h
  exact k
 | cons r rs ih =>
  intro g t pg pt e o h k
  obtain ⟨h1, g3, t3, pg3, pt3, e3, o3, h2, h3, h4⟩ := h
  exact ⟨h1, g3, t3, pg3, pt3, e3, o3, h2, h3, ih h4 k⟩
theorem recs_run {g : Int} {t : ByteArray} {pg : Int} {pt : ByteArray} {e o : Int} (h : knownOk g t pg pt e o = true) : Runs 0 ⟨#[]⟩ 0 ⟨#[]⟩ 0 0 (recsOf g t pg pt e o) g t pg pt e o := by
 obtain ⟨p1, p2, p3, p4, p5, p6⟩ := known_parts h
 unfold recsOf
 have a1 : Runs 0 ⟨#[]⟩ 0 ⟨#[]⟩ 0 0 (if g = 0 then [] else [⟨1, g, 0, t⟩, ⟨2, g, 0, ⟨#[]⟩⟩]) g t 0 ⟨#[]⟩ 0 0 := by
  by_cases hg : g = 0
  ·subst hg
   rw [if_pos rfl, genOk_zero p1]
   rfl
  ·rw [if_neg hg]
   obtain ⟨q1, q2⟩ := genOk_conf p1 hg
   have k1 : knownOk 0 ⟨#[]⟩ g t 0 0 = true := known_mk ⟨genOk_nil, p1, by omega, by omega, by omega, .inr (by omega)⟩
   have k2 : knownOk g t 0 ⟨#[]⟩ 0 0 = true := known_mk ⟨p1, genOk_nil, by omega, by omega, by omega, .inl rfl⟩
   exact ⟨recOk_conf q1 q2, _, _, _, _, _, _, apply_prep (n := g) known_zero (recOk_conf q1 q2) (by omega), k1, recOk_commit q1, _, _, _, _, _, _, apply_commit k1 (recOk_commit q1), k2, rfl⟩
 have a2 : Runs g t 0 ⟨#[]⟩ 0 0 (if pg = 0 then [] else [⟨1, pg, 0, pt⟩]) g t pg pt 0 0 := by
  by_cases hp : pg = 0
  ·subst hp
   rw [if_pos rfl, genOk_zero p2]
   rfl
  ·rw [if_neg hp]
   obtain ⟨q1, q2⟩ := genOk_conf p2 hp
   have k2 : knownOk g t 0 ⟨#[]⟩ 0 0 = true := known_mk ⟨p1, genOk_nil, by omega, by omega, by omega, .inl rfl⟩
   have k3 : knownOk g t pg pt 0 0 = true := known_mk ⟨p1, p2, by omega, by omega, by omega, p6⟩
   exact ⟨recOk_conf q1 q2, _, _, _, _, _, _, apply_prep (n := pg) k2 (recOk_conf q1 q2) (by omega), k3, rfl⟩
 have a3 : Runs g t pg pt 0 0 (if e = 0 then [] else [⟨3, e, o, ⟨#[]⟩⟩]) g t pg pt e o := by
  by_cases he : e = 0
  ·subst he
   obtain rfl : o = 0 := by omega
   rw [if_pos rfl]
   rfl
  ·rw [if_neg he]
   have k3 : knownOk g t pg pt 0 0 = true := known_mk ⟨p1, p2, by omega, by omega, by omega, p6⟩
   exact ⟨recOk_epoch (n := e) (ow := o) (by omega) p4, _, _, _, _, _, _, apply_epoch (n := e) k3 (recOk_epoch (n := e) (ow := o) (by omega) p4) (by omega), h, rfl⟩
 exact runs_append (runs_append a1 a2) a3
end Go.Proofs.YthkepmicdpgbbaaGreatDoor.Fn

namespace Go.Proofs.YthkepmicdpgbbaaGreatDoor.Fn
set_option linter.unusedVariables false
set_option linter.unusedSimpArgs false
open Go.RowKit Go.Proofs.YthkepmicdpgbbaaGreatDoorW.PrintWords Go.Proofs.YthkepmicdpgbbaaGreatDoor.P Go.Proofs.YthkepmicdpgbbaaGreatDoor.Base
theorem headOf_words {g n : Int} (hg : 1 ≤ g ∧ g ≤ 60000) (hn : 0 ≤ n ∧ n ≤ 18) : (word (headOf g n) 0).1 = g ∧ (word (headOf g n) 2).1 = n := by
 have e : headOf g n = [g / 256 % 256, g % 256, n / 256 % 256, n % 256] ++ wordBytes (crc (wordBytes g ++ wordBytes n)) := by
  unfold headOf
  rw [if_pos (by omega)]
  rfl
 rw [e]
 unfold wordBytes word rd
 refine ⟨?_, ?_⟩
 ·rw [if_neg (by simp)]
  simp
  omega
 ·rw [if_neg (by simp)]
  simp
  omega
theorem getHead_put {g n : Int} (hg : 1 ≤ g ∧ g ≤ 60000) (hn : 0 ≤ n ∧ n ≤ 18) : getHead (headOf g n) = (g, n, true) := by
 obtain ⟨h1, h2⟩ := headOf_words hg hn
 have hne : headOf g n ≠ [] := by
  unfold headOf
  rw [if_pos (by omega)]
  simp [summed, wordBytes]
 rw [getHead_yes ⟨hne, by rw [h1, h2]⟩, h1, h2]
def secAt (s : List (List Int)) (n : Int) : List Int := s.getD n.toNat []
def SecsOk (s : List (List Int)) : Prop := s.length = 38 ∧ ∀ x ∈ s, x.length ≤ 160 ∧ Bytes x
theorem SecsOk.set {s : List (List Int)} (h : SecsOk s) (n : Nat) {b : List Int} (hb : b.length ≤ 160 ∧ Bytes b) : SecsOk (s.set n b) :=
 ⟨by rw [List.length_set]; exact h.1, fun x hx => by
  rcases List.mem_or_eq_of_mem_set hx with hx | rfl
  ·exact h.2 x hx
  ·exact hb⟩
theorem secAt_same {s : List (List Int)} {n : Int} (h : 0 ≤ n ∧ n < s.length) (b : List Int) : secAt (s.set n.toNat b) n = b := by
 unfold secAt
 rw [List.getD_eq_getElem?_getD, List.getElem?_set_self (by omega)]
 rfl
theorem secAt_ne {s : List (List Int)} {n m : Int} (h : 0 ≤ n) (h' : 0 ≤ m) (hne : n ≠ m) (b : List Int) : secAt (s.set m.toNat b) n = secAt s n := by
 unfold secAt
 rw [List.getD_eq_getElem?_getD, List.getD_eq_getElem?_getD, List.getElem?_set_ne (by omega)]
noncomputable def recS (s : List (List Int)) (g : Int) (i : Nat) : RecT := getRec (secAt s (sector g (i : Int)))
noncomputable def headS (s : List (List Int)) (n : Int) : Int × Int × Bool := getHead (secAt s n)
abbrev RecT.ok (r : RecT) : Bool := r.2.2.2.2.2.2
theorem par (g : Int) (h : 0 ≤ g) : Int.tmod g 2 = g % 2 := Int.tmod_eq_emod_of_nonneg h
theorem sector_eq {g : Int} (h : 0 ≤ g) (i : Nat) : sector g (i : Int) = 2 + 18 * (g % 2) + i := by unfold sector; rw [par g h]
theorem recS_ne {s : List (List Int)} {g m : Int} {i : Nat} (hg : 0 ≤ g) (hm : 0 ≤ m) (hne : 2 + 18 * (g % 2) + i ≠ m) (b : List Int) : recS (s.set m.toNat b) g i = recS s g i := by
 unfold recS
 rw [secAt_ne (by rw [sector_eq hg]; omega) hm (by rw [sector_eq hg]; exact hne)]
theorem headS_ne {s : List (List Int)} {n m : Int} (hn : 0 ≤ n) (hm : 0 ≤ m) (hne : n ≠ m) (b : List Int) : headS (s.set m.toNat b) n = headS s n := by
 unfold headS
 rw [secAt_ne hn hm hne]
noncomputable def Kn.known (K : Kn) : Bool := knownOk K.g K.t K.pg K.pt K.e K.o
noncomputable def Kn.nextV (K : Kn) (r : RecV) : Kn := ⟨(K.app r).1, (K.app r).2.1, (K.app r).2.2.1, (K.app r).2.2.2.1, (K.app r).2.2.2.2.1, (K.app r).2.2.2.2.2.1⟩
noncomputable def Kn.can (K : Kn) (r : RecV) : Bool := (K.app r).2.2.2.2.2.2
theorem can_rec {K : Kn} {r : RecV} (h : K.can r = true) : recOk r.kind r.n r.ow r.s = true := by
 unfold Kn.can Kn.app at h
 rcases apply_cases (g := K.g) (t := K.t) (pg := K.pg) (pt := K.pt) (e := K.e) (o := K.o) (kind := r.kind) (n := r.n) (ow := r.ow) (s := r.s) with h1 | ⟨_, hr, _⟩
 ·rw [h1] at h; cases h
 ·exact hr
def Chain (s : List (List Int)) (g : Int) : Nat → Kn → Prop
 | 0, K => K = Kn.zero
 | i + 1, K' => ∃ K, Chain s g i K ∧ (recS s g i).ok = true ∧ (recS s g i).1 = g ∧ (recS s g i).2.1 = (i : Int) ∧ (K.apply (recS s g i)).2.2.2.2.2.2 = true ∧ K' = K.next (recS s g i)
theorem Chain.congr {s s' : List (List Int)} {g : Int} : ∀ {i : Nat} {K : Kn}, (∀ j : Nat, j < i → recS s' g j = recS s g j) → Chain s g i K → Chain s' g i K
 | 0, _, _, h => h
 | i + 1, _, e, ⟨K, h1, h2, h3, h4, h5, h6⟩ => by
  have e1 := e i (by omega)
  exact ⟨K, Chain.congr (fun j hj => e j (by omega)) h1, by rw [e1]; exact h2, by rw [e1]; exact h3, by rw [e1]; exact h4, by rw [e1]; exact h5, by rw [e1]; exact h6⟩
theorem Chain.put {s : List (List Int)} {g : Int} {i : Nat} {K : Kn} (h : Chain s g i K) (hg : wordIn g) (hi : wordIn (i : Int)) (r : RecV) (hc : K.can r = true) (hs : secAt s (sector g (i : Int)) = putRec g (i : Int) r.kind r.n r.ow r.s) : Chain s g (i + 1) (K.nextV r) := by
 have e : recS s g i = (g, (i : Int), r.kind, r.n, r.ow, r.s, true) := by unfold recS; rw [hs, getRec_put hg hi (can_rec hc)]
 refine ⟨K, h, ?_, ?_, ?_, ?_, ?_⟩ <;> rw [e]
 ·exact hc
 ·rfl
theorem Chain.known {s : List (List Int)} {g : Int} : ∀ {i : Nat} {K : Kn}, Chain s g i K → K.known = true
 | 0, _, h => by rw [show _ = Kn.zero from h]; exact known_zero
 | i + 1, _, ⟨K, h1, h2, h3, h4, h5, h6⟩ => by
  have hk := Chain.known h1
  obtain ⟨g', t', pg', pt', e', o', b, q1, q2, _⟩ := apply_known (kind := (recS s g i).2.2.1) (n := (recS s g i).2.2.2.1) (ow := (recS s g i).2.2.2.2.1) (s := (recS s g i).2.2.2.2.2.1) hk
  rw [h6]
  unfold Kn.next Kn.apply Kn.known
  rw [q1]
  exact q2
theorem Chain.runs {s : List (List Int)} {g : Int} (hg : wordIn g) : ∀ (L : List Rec) (i : Nat) (K : Kn), i + L.length ≤ 18 → Chain s g i K → (∀ (j : Nat) (h : j < L.length), secAt s (sector g ((i + j : Nat) : Int)) = putRec g ((i + j : Nat) : Int) L[j].f0 L[j].f1 L[j].f2 L[j].f3) →
  ∀ {g' : Int} {t' : ByteArray} {pg' : Int} {pt' : ByteArray} {e' o' : Int}, Runs K.g K.t K.pg K.pt K.e K.o L g' t' pg' pt' e' o' → Chain s g (i + L.length) ⟨g', t', pg', pt', e', o'⟩
 | [], i, K, _, h, _, _, _, _, _, _, _, hr => by
  simp only [Runs, Prod.mk.injEq] at hr
  obtain ⟨rfl, rfl, rfl, rfl, rfl, rfl⟩ := hr
  exact h
 | r :: L, i, K, hi, h, hs, _, _, _, _, _, _, hr => by
  obtain ⟨_, g1, t1, pg1, pt1, e1, o1, h2, _, h4⟩ := hr
  have hl : (r :: L).length = L.length + 1 := rfl
  have hc : K.can ⟨r.f0, r.f1, r.f2, r.f3⟩ = true := by unfold Kn.can Kn.app; rw [h2]
  have hn : K.nextV ⟨r.f0, r.f1, r.f2, r.f3⟩ = ⟨g1, t1, pg1, pt1, e1, o1⟩ := by unfold Kn.nextV Kn.app; rw [h2]
  have h0 := hs 0 (by omega)
  have hp := Chain.put h hg (show wordIn (i : Int) from by unfold wordIn; omega) ⟨r.f0, r.f1, r.f2, r.f3⟩ hc h0
  rw [hn] at hp
  have := Chain.runs hg L (i + 1) _ (by omega) hp (fun j hj => by
   have := hs (j + 1) (by omega)
   rw [show i + (j + 1) = i + 1 + j by omega] at this
   exact this) h4
  rw [hl, show i + (L.length + 1) = i + 1 + L.length by omega]
  exact this
structure Inv (s : List (List Int)) (K : Kn) (G : Int) (P : Nat) : Prop where
 secs : SecsOk s
 gen : 1 ≤ G ∧ G ≤ 60000
 place : P ≤ 18
 head : ∃ n0 : Int, n0 ≤ (P : Int) ∧ headS s (G % 2) = (G, n0, true)
 other : (headS s ((G + 1) % 2)).2.2 = true → Int.tmod (headS s ((G + 1) % 2)).1 2 = (G + 1) % 2 → (headS s ((G + 1) % 2)).1 < G
 chain : Chain s G P K
 area : ∀ i : Nat, i < 18 → (recS s G i).ok = true → (recS s G i).1 ≤ G ∧ (P ≤ i → (recS s G i).1 < G)
 beyond : ∀ i : Nat, i < 18 → (recS s (G + 1) i).ok = true → (recS s (G + 1) i).1 ≤ G ∨ (P = 18 ∧ i < (recsK K).length ∧ (recS s (G + 1) i).1 = G + 1)
theorem putRec_sec (g i a b c : Int) (s : ByteArray) : (putRec g i a b c s).length ≤ 160 ∧ Bytes (putRec g i a b c s) := ⟨by have := putRec_length g i a b c s; omega, putRec_bytes g i a b c s⟩
theorem recOk_run {g : Int} {t : ByteArray} {pg : Int} {pt : ByteArray} {e o : Int} {g' : Int} {t' : ByteArray} {pg' : Int} {pt' : ByteArray} {e' o' : Int} {L : List Rec} (h : Runs g t pg pt e o L g' t' pg' pt' e' o') : ∀ x ∈ L, recOk x.f0 x.f1 x.f2 x.f3 = true := by
 induction L generalizing g t pg pt e o with
 | nil => intro x hx; cases hx
 | cons r L ih =>
  obtain ⟨h1, _, _, _, _, _, _, _, _, h4⟩ := h
  intro x hx
  rcases List.mem_cons.1 hx with rfl | hx
  ·exact h1
  ·exact ih h4 x hx
theorem Inv.runs {s : List (List Int)} {K : Kn} {G : Int} {P : Nat} (h : Inv s K G P) : Runs 0 ⟨#[]⟩ 0 ⟨#[]⟩ 0 0 (recsK K) K.g K.t K.pg K.pt K.e K.o := recs_run (Chain.known h.chain)
theorem Inv.junk {s : List (List Int)} {K : Kn} {G : Int} (h : Inv s K G 18) (hG : G + 1 ≤ 60000) {i : Nat} (hi : i < (recsK K).length) {a b c : Int} {t : ByteArray} (hr : recOk a b c t = true) : Inv (s.set (sector (G + 1) (i : Int)).toNat (putRec (G + 1) (i : Int) a b c t)) K G 18 := by
 obtain ⟨h1, h2, h3, h4, h5, h6, h7, h8⟩ := h
 have hl := recsK_length K
 rw [sector_eq (by omega)]
 have hne : ∀ j : Nat, j < 18 → recS (s.set (2 + 18 * ((G + 1) % 2) + (i : Int)).toNat (putRec (G + 1) (i : Int) a b c t)) G j = recS s G j := fun j hj => recS_ne (by omega) (by omega) (by omega) _
 have hh : ∀ n : Int, 0 ≤ n → n < 2 → headS (s.set (2 + 18 * ((G + 1) % 2) + (i : Int)).toNat (putRec (G + 1) (i : Int) a b c t)) n = headS s n := fun n hn hn2 => headS_ne hn (by omega) (by omega) _
 refine ⟨h1.set _ (putRec_sec ..), h2, h3, ?_, ?_, ?_, ?_, ?_⟩
 ·rw [hh _ (by omega) (by omega)]; exact h4
 ·rw [hh _ (by omega) (by omega)]; exact h5
 ·exact Chain.congr hne h6
 ·intro j hj; rw [hne j hj]; exact h7 j hj
 ·intro j hj
  by_cases hij : j = i
  ·subst hij
   have e : recS (s.set (2 + 18 * ((G + 1) % 2) + (j : Int)).toNat (putRec (G + 1) (j : Int) a b c t)) (G + 1) j = (G + 1, (j : Int), a, b, c, t, true) := by
    unfold recS
    rw [sector_eq (by omega), secAt_same (by rw [h1.1]; omega), getRec_put (by unfold wordIn; omega) (by unfold wordIn; omega) hr]
   rw [e]
   exact fun _ => .inr ⟨rfl, hi, rfl⟩
  ·rw [recS_ne (by omega) (by omega) (by omega)]
   exact h8 j hj
theorem Inv.add {s : List (List Int)} {K : Kn} {G : Int} {P : Nat} (h : Inv s K G P) (hP : P < 18) (r : RecV) (hc : K.can r = true) : Inv (s.set (sector G (P : Int)).toNat (putRec G (P : Int) r.kind r.n r.ow r.s)) (K.nextV r) G (P + 1) := by
 obtain ⟨h1, h2, h3, h4, h5, h6, h7, h8⟩ := h
 rw [sector_eq (by omega)]
 have hw : wordIn G ∧ wordIn (P : Int) := by unfold wordIn; omega
 have hsec : secAt (s.set (2 + 18 * (G % 2) + (P : Int)).toNat (putRec G (P : Int) r.kind r.n r.ow r.s)) (sector G (P : Int)) = putRec G (P : Int) r.kind r.n r.ow r.s := by rw [sector_eq (by omega), secAt_same (by rw [h1.1]; omega)]
 have hne : ∀ j : Nat, j < 18 → j ≠ P → recS (s.set (2 + 18 * (G % 2) + (P : Int)).toNat (putRec G (P : Int) r.kind r.n r.ow r.s)) G j = recS s G j := fun j hj hjp => recS_ne (by omega) (by omega) (by omega) _
 have hne' : ∀ j : Nat, j < 18 → recS (s.set (2 + 18 * (G % 2) + (P : Int)).toNat (putRec G (P : Int) r.kind r.n r.ow r.s)) (G + 1) j = recS s (G + 1) j := fun j hj => recS_ne (by omega) (by omega) (by omega) _
 have hh : ∀ n : Int, 0 ≤ n → n < 2 → headS (s.set (2 + 18 * (G % 2) + (P : Int)).toNat (putRec G (P : Int) r.kind r.n r.ow r.s)) n = headS s n := fun n hn hn2 => headS_ne hn (by omega) (by omega) _
 refine ⟨h1.set _ (putRec_sec ..), h2, by omega, ?_, ?_, ?_, ?_, ?_⟩
 ·rw [hh _ (by omega) (by omega)]
  obtain ⟨n0, a1, a2⟩ := h4
  exact ⟨n0, by omega, a2⟩
 ·rw [hh _ (by omega) (by omega)]; exact h5
 ·exact Chain.put (Chain.congr (fun j hj => hne j (by omega) (by omega)) h6) hw.1 hw.2 r hc hsec
 ·intro j hj
  by_cases hjp : j = P
  ·subst hjp
   intro _
   have e : recS (s.set (2 + 18 * (G % 2) + (j : Int)).toNat (putRec G (j : Int) r.kind r.n r.ow r.s)) G j = (G, (j : Int), r.kind, r.n, r.ow, r.s, true) := by unfold recS; rw [hsec, getRec_put hw.1 hw.2 (can_rec hc)]
   rw [e]
   exact ⟨Int.le_refl _, fun hx => by omega⟩
  ·rw [hne j hj hjp]
   intro ho
   have := h7 j hj ho
   exact ⟨this.1, fun hx => this.2 (by omega)⟩
 ·intro j hj
  rw [hne' j hj]
  intro ho
  rcases h8 j hj ho with hx | ⟨hx, _⟩
  ·exact .inl hx
  ·omega
theorem Inv.turn {s : List (List Int)} {K : Kn} {G : Int} (h : Inv s K G 18) (hG : G + 1 ≤ 60000) (lay : ∀ (j : Nat) (hj : j < (recsK K).length), secAt s (sector (G + 1) (j : Int)) = putRec (G + 1) (j : Int) (recsK K)[j].f0 (recsK K)[j].f1 (recsK K)[j].f2 (recsK K)[j].f3) :
  Inv (s.set ((G + 1) % 2).toNat (headOf (G + 1) ((recsK K).length : Int))) K (G + 1) (recsK K).length := by
 have hrun := h.runs
 obtain ⟨h1, h2, h3, h4, h5, h6, h7, h8⟩ := h
 have hl := recsK_length K
 have hne : ∀ (g : Int) (j : Nat), 0 ≤ g → recS (s.set ((G + 1) % 2).toNat (headOf (G + 1) ((recsK K).length : Int))) g j = recS s g j := fun g j hg => recS_ne hg (by omega) (by omega) _
 have hs2 : ∀ j : Nat, recS s (G + 1 + 1) j = recS s G j := fun j => by
  unfold recS
  rw [sector_eq (by omega), sector_eq (by omega), show (G + 1 + 1) % 2 = G % 2 by omega]
 refine ⟨h1.set _ ⟨by have := headOf_length (G + 1) ((recsK K).length : Int); omega, headOf_bytes _ _⟩, by omega, by omega, ?_, ?_, ?_, ?_, ?_⟩
 ·refine ⟨((recsK K).length : Int), Int.le_refl _, ?_⟩
  unfold headS
  rw [secAt_same (by rw [h1.1]; omega), getHead_put (by omega) (by omega)]
 ·rw [headS_ne (by omega) (by omega) (by omega), show (G + 1 + 1) % 2 = G % 2 by omega]
  obtain ⟨n0, _, a2⟩ := h4
  rw [a2]
  intro _ _
  dsimp only
  omega
 ·have hc : Chain s (G + 1) (0 + (recsK K).length) K := Chain.runs (by unfold wordIn; omega) (recsK K) 0 Kn.zero (by omega) rfl (fun j hj => by rw [Nat.zero_add]; exact lay j hj) hrun
  rw [Nat.zero_add] at hc
  exact Chain.congr (fun j hj => hne _ j (by omega)) hc
 ·intro j hj
  rw [hne _ j (by omega)]
  intro ho
  rcases h8 j hj ho with hx | ⟨_, hx, hy⟩
  ·exact ⟨by omega, fun _ => by omega⟩
  ·exact ⟨by omega, fun hz => by omega⟩
 ·intro j hj
  rw [hne _ j (by omega), hs2]
  intro ho
  exact .inl (by have := (h7 j hj ho).1; omega)
end Go.Proofs.YthkepmicdpgbbaaGreatDoor.Fn

namespace Go.Proofs.YthkepmicdpgbbaaGreatDoor.Fn
set_option linter.unusedVariables false
set_option linter.unusedSimpArgs false
open Go.RowKit Go.Proofs.YthkepmicdpgbbaaGreatDoorW.PrintWords Go.Proofs.YthkepmicdpgbbaaGreatDoor.P Go.Proofs.YthkepmicdpgbbaaGreatDoor.Base
def Plain (d : Dk) (s : List (List Int)) : Prop := d.secs = s ∧ d.cache = [] ∧ -1 ≤ d.fuse ∧ d.fuse ≤ 1000
theorem Plain.ok {d : Dk} {s : List (List Int)} (h : Plain d s) (hs : SecsOk s) : DiskOk d ∧ d.secs.length = 38 := by
 obtain ⟨rfl, h2, h3⟩ := h
 refine ⟨⟨by rw [hs.1]; omega, by rw [h2]; simp, h3, fun x hx => (hs.2 x hx).1, fun x hx => by rw [h2] at hx; cases hx⟩, hs.1⟩
theorem Plain.read {d : Dk} {s : List (List Int)} (h : Plain d s) (hs : SecsOk s) {n : Int} (hn : 0 ≤ n ∧ n ≤ 37) : readSec d n = secAt s n := by
 have ho := h.ok hs
 rw [readSec_yes ⟨ho.1, hn.1, by omega⟩, h.2.1, h.1]
 rfl
theorem Plain.rec {d : Dk} {s : List (List Int)} (h : Plain d s) (hs : SecsOk s) {g : Int} (hg : 0 ≤ g) {i : Nat} (hi : i < 18) : recOf d g i = recS s g i := by
 unfold recOf recS
 rw [h.read hs (by rw [sector_eq hg]; omega)]
theorem Plain.head {d : Dk} {s : List (List Int)} (h : Plain d s) (hs : SecsOk s) (i : Nat) (hi : i < 2) : headAt d i = headS s (i : Int) := by
 unfold headAt headS
 rw [h.read hs (by omega)]
theorem chain_replay {d : Dk} {s : List (List Int)} (h : Plain d s) (hs : SecsOk s) {g : Int} (hg : 0 ≤ g) : ∀ (i : Nat) (K : Kn), i ≤ 18 → Chain s g i K → replayFrom d g 18 0 Kn.zero = replayFrom d g (18 - i) i K
 | 0, K, _, hc => by rw [show K = Kn.zero from hc]
 | i + 1, K, hi, ⟨K0, h1, h2, h3, h4, h5, h6⟩ => by
  rw [chain_replay h hs hg i K0 (by omega) h1, show 18 - i = (18 - (i + 1)) + 1 by omega, replayFrom, h.rec hs hg (by omega), if_pos ⟨h2, h3, h4⟩, if_pos h5, h6]
theorem replay_chain {d : Dk} {s : List (List Int)} (h : Plain d s) (hs : SecsOk s) {g : Int} (hg : 1 ≤ g ∧ g ≤ 60000) {P : Nat} {K : Kn} (hP : P ≤ 18) (hc : Chain s g P K) (hstop : P < 18 → (recS s g P).ok = true → (recS s g P).1 < g) : replay d g = (K, (P : Int)) := by
 unfold replay
 rw [if_pos hg, chain_replay h hs (by omega) P K hP hc]
 by_cases hp : P = 18
 ·subst hp
  rfl
 ·rw [show 18 - P = (17 - P) + 1 by omega, replayFrom, h.rec hs (by omega) (by omega), if_neg (fun q => by have := hstop (by omega) q.1; omega)]
theorem Inv.opens {d : Dk} {s : List (List Int)} {K : Kn} {G : Int} {P : Nat} (h : Inv s K G P) (hd : Plain d s) : openJ d = ⟨K, G, (P : Int)⟩ := by
 obtain ⟨h1, h2, h3, ⟨n0, a1, a2⟩, h5, h6, h7, h8⟩ := h
 have hr : replay d G = (K, (P : Int)) := replay_chain hd h1 h2 h3 h6 (fun hp ho => (h7 P hp ho).2 (Nat.le_refl _))
 have hpar : Int.tmod G 2 = G % 2 := par G (by omega)
 unfold openJ
 by_cases hz : G % 2 = 0
 ·have e0 : stepJ d 0 Jn.zero = ⟨K, G, (P : Int)⟩ := by
   unfold stepJ
   have hh : headAt d 0 = (G, n0, true) := by rw [hd.head h1 0 (by omega)]; rw [hz] at a2; exact a2
   rw [hh]
   dsimp only
   rw [hr, if_pos ⟨rfl, by rw [hpar]; exact hz, by show (0 : Int) < G; omega⟩, if_pos a1]
  rw [e0]
  unfold stepJ
  rw [hd.head h1 1 (by omega)]
  rw [show (G + 1) % 2 = 1 by omega] at h5
  rw [if_neg]
  rintro ⟨b1, b2, b3⟩
  have := h5 b1 b2
  exact absurd b3 (by dsimp only; exact Int.not_lt.2 (Int.le_of_lt this))
 ·have hz1 : G % 2 = 1 := by omega
  have h0 : (stepJ d 0 Jn.zero).G < G := by
   unfold stepJ
   rw [hd.head h1 0 (by omega)]
   rw [show (G + 1) % 2 = 0 by omega] at h5
   split
   ·rename_i hc
    have := h5 hc.1 hc.2.1
    split
    ·exact this
    ·show (0 : Int) < G; omega
   ·show (0 : Int) < G; omega
  have hh : headAt d 1 = (G, n0, true) := by rw [hd.head h1 1 (by omega)]; rw [hz1] at a2; exact a2
  generalize stepJ d 0 Jn.zero = J at h0
  unfold stepJ
  rw [hh]
  dsimp only
  rw [hr, if_pos ⟨rfl, by rw [hpar]; exact hz1, h0⟩, if_pos a1]
theorem Inv.jour {d : Dk} {s : List (List Int)} {K : Kn} {G : Int} {P : Nat} (h : Inv s K G P) (hd : Plain d s) : jourOf d = ⟨K, G, (P : Int)⟩ ∧ jourOk d = true := by
 have ho := hd.ok h.secs
 unfold jourOf jourOk
 rw [if_pos ho, if_pos ho, h.opens hd]
 exact ⟨rfl, decide_eq_true (by have := h.gen.1; dsimp only; omega)⟩
theorem getRec_nil : getRec [] = (0, 0, 0, 0, 0, ⟨#[]⟩, false) := getRec_no (fun h => by have := h.1; simp at this)
theorem getHead_nil : getHead [] = (0, 0, false) := getHead_no (fun h => h.1 rfl)
def newSecs : List (List Int) := (List.replicate 38 []).set 1 (headOf 1 0)
theorem newSecs_ok : SecsOk newSecs := SecsOk.set ⟨by simp, fun x hx => by rw [(List.mem_replicate.1 hx).2]; exact ⟨by simp, Bytes.nil⟩⟩ 1 ⟨by have := headOf_length 1 0; omega, headOf_bytes 1 0⟩
theorem newSecs_at (n : Int) (h : 0 ≤ n) (hn : n ≠ 1) : secAt newSecs n = [] := by
 unfold newSecs
 have := secAt_ne (s := List.replicate 38 []) (n := n) (m := 1) h (by omega) hn (headOf 1 0)
 rw [show ((1 : Int)).toNat = 1 from rfl] at this
 rw [this]
 unfold secAt
 rw [List.getD_eq_getElem?_getD]
 by_cases hl : n.toNat < 38
 ·rw [List.getElem?_replicate_of_lt hl]; rfl
 ·rw [List.getElem?_eq_none (by simp; omega)]; rfl
theorem newSecs_rec (g : Int) (hg : 0 ≤ g) (i : Nat) : recS newSecs g i = (0, 0, 0, 0, 0, ⟨#[]⟩, false) := by
 unfold recS
 rw [newSecs_at _ (by rw [sector_eq hg]; omega) (by rw [sector_eq hg]; omega), getRec_nil]
theorem new_inv : Inv newSecs Kn.zero 1 0 := by
 refine ⟨newSecs_ok, by omega, by omega, ⟨0, by omega, ?_⟩, ?_, rfl, ?_, ?_⟩
 ·show headS newSecs 1 = _
  unfold headS newSecs
  have := secAt_same (s := List.replicate 38 []) (n := 1) (by simp) (headOf 1 0)
  rw [show ((1 : Int)).toNat = 1 from rfl] at this
  rw [this, getHead_put (by omega) (by omega)]
 ·show (headS newSecs 0).2.2 = true → _
  unfold headS
  rw [newSecs_at 0 (by omega) (by omega), getHead_nil]
  intro h; cases h
 ·intro i _
  rw [newSecs_rec _ (by omega)]
  intro h; cases h
 ·intro i _
  rw [newSecs_rec _ (by omega)]
  intro h; cases h
theorem formatD_eq : formatD = ⟨newSecs, [], -1, false⟩ := by
 have hn : newDisk 38 = ⟨List.replicate 38 [], [], -1, false⟩ := by unfold newDisk; rw [if_pos (by omega)]; rfl
 have hb : (headOf 1 0).length ≤ 160 := by have := headOf_length 1 0; omega
 have hok : DiskOk ⟨List.replicate 38 [], [], -1, false⟩ := ⟨by simp, by simp, by simp, fun x hx => by rw [(List.mem_replicate.1 hx).2]; simp, fun x hx => by cases hx⟩
 have hw : writeSec (newDisk 38) 1 (headOf 1 0) = ⟨List.replicate 38 [], [⟨1, headOf 1 0⟩], -1, false⟩ := by
  rw [hn, writeSec_yes ⟨hok, rfl, by simp, hb, by simp⟩]
  rfl
 unfold formatD
 rw [hw, syncDisk_yes ⟨⟨by simp, by simp, by simp, fun x hx => by rw [(List.mem_replicate.1 hx).2]; simp, fun x hx => by rw [List.mem_singleton.1 hx]; exact ⟨by simp, hb⟩⟩, rfl⟩, if_neg (by simp)]
 rfl
end Go.Proofs.YthkepmicdpgbbaaGreatDoor.Fn

namespace Go.Proofs.YthkepmicdpgbbaaGreatDoor.Fn
set_option linter.unusedVariables false
set_option linter.unusedSimpArgs false
open Go.RowKit Go.Proofs.YthkepmicdpgbbaaGreatDoorW.PrintWords Go.Proofs.YthkepmicdpgbbaaGreatDoor.P Go.Proofs.YthkepmicdpgbbaaGreatDoor.Base
def At (Q : List (List Int) → List Wr → Prop) (live : Prop) (s : List (List Int)) (c : List Wr) (d : Dk) : Prop :=
 (¬ live ∧ ∃ s' c', Q s' c' ∧ d = ⟨s', c', -1, true⟩) ∨ ∃ f : Int, (-1 ≤ f ∧ f ≤ 1000) ∧ (live → f = -1) ∧ d = ⟨s, c, f, false⟩
def CacheOk (c : List Wr) : Prop := ∀ x ∈ c, WrOk 38 x
theorem up_ok {s : List (List Int)} {c : List Wr} {f : Int} {b : Bool} (hs : SecsOk s) (hc : CacheOk c) (hl : c.length ≤ 30) (hf : -1 ≤ f ∧ f ≤ 1000) : DiskOk ⟨s, c, f, b⟩ :=
 ⟨by rw [hs.1]; omega, hl, hf, fun x hx => (hs.2 x hx).1, fun x hx => by
  have := hc x hx
  show WrOk ((s.length : Nat) : Int) x
  rw [hs.1]
  exact this⟩
theorem fuse_range {f : Int} (hf : -1 ≤ f ∧ f ≤ 1000) : -1 ≤ fuseOf f ∧ fuseOf f ≤ 1000 := by unfold fuseOf; split <;> (try split) <;> omega
theorem At.write {Q : List (List Int) → List Wr → Prop} {live : Prop} {s : List (List Int)} {c : List Wr} {d : Dk} (h : At Q live s c d) (q : Q s c) (hs : SecsOk s) (hc : CacheOk c) (hl : c.length < 30) {n : Int} {b : List Int} (hn : 0 ≤ n ∧ n ≤ 37) (hb : b.length ≤ 160) : At Q live s (c ++ [⟨n, b⟩]) (writeSec d n b) := by
 rcases h with ⟨hv, s', c', q', rfl⟩ | ⟨f, hf, hlf, rfl⟩
 ·exact .inl ⟨hv, s', c', q', writeSec_no (fun w => by cases w.2.1)⟩
 ·have hw : CanWrite ⟨s, c, f, false⟩ n b := ⟨up_ok hs hc (by omega) hf, rfl, ⟨hn.1, by show n ≤ ((s.length : Nat) : Int) - 1; rw [hs.1]; omega⟩, hb, by show c.length ≠ 30; omega⟩
  rw [writeSec_yes hw]
  unfold wroteD
  by_cases h0 : f = 0
  ·subst h0
   exact .inl ⟨fun l => by have := hlf l; omega, s, c, q, rfl⟩
  ·refine .inr ⟨fuseOf f, fuse_range hf, fun l => by rw [hlf l]; rfl, ?_⟩
   simp [h0, downOf]
theorem At.sync {Q : List (List Int) → List Wr → Prop} {live : Prop} {s : List (List Int)} {c : List Wr} {d : Dk} (h : At Q live s c d) (q : Q s c) (hs : SecsOk s) (hc : CacheOk c) (hl : c.length ≤ 30) : At Q live (ap s c) [] (syncDisk d) := by
 rcases h with ⟨hv, s', c', q', rfl⟩ | ⟨f, hf, hlf, rfl⟩
 ·exact .inl ⟨hv, s', c', q', syncDisk_no (fun w => by cases w.2)⟩
 ·rw [syncDisk_yes ⟨up_ok hs hc hl hf, rfl⟩]
  by_cases h0 : f = 0
  ·subst h0
   exact .inl ⟨fun l => by have := hlf l; omega, s, c, q, rfl⟩
  ·refine .inr ⟨fuseOf f, fuse_range hf, fun l => by rw [hlf l]; rfl, ?_⟩
   rw [if_neg (show ¬ (⟨s, c, f, false⟩ : Dk).fuse = 0 from h0)]
theorem apb_any {Φ : List (List Int) → Prop} (k : Int) (c : List Wr) (h : ∀ w ∈ c, ∀ s, Φ s → Φ (s.set w.f0.toNat w.f1)) : ∀ (i : Nat) (s : List (List Int)), Φ s → Φ (apb k i s c) := by
 induction c with
 | nil => intro i s hs; exact hs
 | cons w ws ih =>
  intro i s hs
  refine ih (fun x hx => h x (List.mem_cons_of_mem _ hx)) _ _ ?_
  split
  ·exact h w List.mem_cons_self s hs
  ·exact hs
theorem ap_any {Φ : List (List Int) → Prop} (c : List Wr) (h : ∀ w ∈ c, ∀ s, Φ s → Φ (s.set w.f0.toNat w.f1)) : ∀ s, Φ s → Φ (ap s c) := by
 induction c with
 | nil => intro s hs; exact hs
 | cons w ws ih => intro s hs; exact ih (fun x hx => h x (List.mem_cons_of_mem _ hx)) _ (h w List.mem_cons_self s hs)
noncomputable def layW (g : Int) : List Rec → Nat → List Wr
 | [], _ => []
 | r :: rs, i => ⟨sector g (i : Int), putRec g (i : Int) r.f0 r.f1 r.f2 r.f3⟩ :: layW g rs (i + 1)
theorem layW_length (g : Int) : ∀ (L : List Rec) (i : Nat), (layW g L i).length = L.length
 | [], _ => rfl
 | _ :: rs, i => by show (layW g rs (i + 1)).length + 1 = rs.length + 1; rw [layW_length g rs]
theorem layW_mem (g : Int) : ∀ (L : List Rec) (i : Nat) (w : Wr), w ∈ layW g L i → ∃ (j : Nat) (h : j < L.length), w = ⟨sector g ((i + j : Nat) : Int), putRec g ((i + j : Nat) : Int) L[j].f0 L[j].f1 L[j].f2 L[j].f3⟩
 | r :: rs, i, w, h => by
  rcases List.mem_cons.1 h with rfl | h
  ·exact ⟨0, by simp, rfl⟩
  ·obtain ⟨j, hj, e⟩ := layW_mem g rs (i + 1) w h
   refine ⟨j + 1, by simp; omega, ?_⟩
   rw [e, show i + 1 + j = i + (j + 1) by omega]
   rfl
theorem At.lay {Q : List (List Int) → List Wr → Prop} {live : Prop} {s : List (List Int)} (A : Wr → Prop) (hA : ∀ w, A w → WrOk 38 w) (hq : ∀ c', (∀ w ∈ c', A w) → c'.length ≤ 30 → Q s c') (hs : SecsOk s) (g : Int) : ∀ (L : List Rec) (i : Nat) (c : List Wr) (D : Dk), At Q live s c D → (∀ w ∈ c, A w) → (∀ w ∈ layW g L i, A w) → c.length + L.length ≤ 30 → At Q live s (c ++ layW g L i) (layRecs g L i D)
 | [], _, c, _, h, _, _, _ => by show At Q live s (c ++ []) _; rw [List.append_nil]; exact h
 | r :: rs, i, c, D, h, hc, hl, hn => by
  have hn' : c.length + (rs.length + 1) ≤ 30 := hn
  have hw := hA _ (hl _ List.mem_cons_self)
  have h1 := At.write h (hq c hc (by omega)) hs (fun x hx => hA x (hc x hx)) (by omega) (n := sector g (i : Int)) (b := putRec g (i : Int) r.f0 r.f1 r.f2 r.f3) ⟨hw.1.1, by have := hw.1.2; dsimp only at this; omega⟩ hw.2
  have h2 := At.lay A hA hq hs g rs (i + 1) _ _ h1 (fun w hw => by
   rcases List.mem_append.1 hw with hw | hw
   ·exact hc w hw
   ·rw [List.mem_singleton.1 hw]; exact hl _ List.mem_cons_self) (fun w hw => hl w (List.mem_cons_of_mem _ hw)) (by rw [List.length_append]; show c.length + 1 + rs.length ≤ 30; omega)
  rw [List.append_assoc] at h2
  exact h2
theorem ap_far {g : Int} (hg : 0 ≤ g) : ∀ (L : List Rec) (i : Nat) (s : List (List Int)) (n : Int), 0 ≤ n → n < sector g (i : Int) → secAt (ap s (layW g L i)) n = secAt s n
 | [], _, _, _, _, _ => rfl
 | r :: rs, i, s, n, h0, h1 => by
  rw [sector_eq hg] at h1
  show secAt (ap (s.set (sector g (i : Int)).toNat _) (layW g rs (i + 1))) n = _
  rw [ap_far hg rs (i + 1) _ n h0 (by rw [sector_eq hg]; omega), secAt_ne h0 (by rw [sector_eq hg]; omega) (by rw [sector_eq hg]; omega)]
theorem ap_lay {g : Int} (hg : 0 ≤ g) : ∀ (L : List Rec) (i : Nat) (s : List (List Int)), s.length = 38 → i + L.length ≤ 18 → ∀ (j : Nat) (h : j < L.length), secAt (ap s (layW g L i)) (sector g ((i + j : Nat) : Int)) = putRec g ((i + j : Nat) : Int) L[j].f0 L[j].f1 L[j].f2 L[j].f3
 | r :: rs, i, s, hs, hi, 0, _ => by
  have hi' : i + (rs.length + 1) ≤ 18 := hi
  show secAt (ap (s.set (sector g (i : Int)).toNat _) (layW g rs (i + 1))) (sector g (i : Int)) = _
  rw [ap_far hg rs (i + 1) _ _ (by rw [sector_eq hg]; omega) (by rw [sector_eq hg, sector_eq hg]; omega), secAt_same (by rw [sector_eq hg]; omega)]
  rfl
 | r :: rs, i, s, hs, hi, j + 1, h => by
  have hi' : i + (rs.length + 1) ≤ 18 := hi
  have := ap_lay hg rs (i + 1) (s.set (sector g (i : Int)).toNat (putRec g (i : Int) r.f0 r.f1 r.f2 r.f3)) (by rw [List.length_set]; exact hs) (by omega) j (by simpa using h)
  rw [show i + (j + 1) = i + 1 + j by omega]
  exact this
def Half (K1 K2 : Kn) (B : Int) (s : List (List Int)) (c : List Wr) : Prop := (SecsOk s ∧ CacheOk c ∧ c.length ≤ 30) ∧ ∀ k : Int, ∃ K G P, Inv (apb k 0 s c) K G P ∧ (K = K1 ∨ K = K2) ∧ G ≤ B
theorem half_bare {K1 K2 K : Kn} {B : Int} {s : List (List Int)} {G : Int} {P : Nat} (h : Inv s K G P) (hk : K = K1 ∨ K = K2) (hb : G ≤ B) : Half K1 K2 B s [] :=
 ⟨⟨h.secs, fun x hx => (by cases hx), by simp⟩, fun _ => ⟨K, G, P, h, hk, hb⟩⟩
theorem add_stay {s : List (List Int)} {K : Kn} {G : Int} {P : Nat} (h : Inv s K G P) (hP : P < 18) (r : RecV) (hc : K.can r = true) {live : Prop} {K0 : Kn} (hk : K = K0) {B : Int} (hB : G ≤ B) {d : Dk} (hd : At (Half K0 (K0.nextV r) B) live s [] d) :
  At (Half K0 (K0.nextV r) B) live (s.set (sector G (P : Int)).toNat (putRec G (P : Int) r.kind r.n r.ow r.s)) [] (addAt d G (P : Int) r) := by
 subst hk
 have hg := h.gen
 have hsec : 0 ≤ sector G (P : Int) ∧ sector G (P : Int) ≤ 37 := by rw [sector_eq (by omega)]; omega
 have hb := (putRec_sec G (P : Int) r.kind r.n r.ow r.s).1
 have hw := At.write hd (half_bare h (.inl rfl) hB) h.secs (fun x hx => (by cases hx)) (by simp) hsec hb
 have hcw : CacheOk [⟨sector G (P : Int), putRec G (P : Int) r.kind r.n r.ow r.s⟩] := fun x hx => by
  rw [List.mem_singleton.1 hx]
  exact ⟨⟨hsec.1, by dsimp only; omega⟩, hb⟩
 have hn := h.add hP r hc
 have q : Half K (K.nextV r) B s [⟨sector G (P : Int), putRec G (P : Int) r.kind r.n r.ow r.s⟩] := by
  refine ⟨⟨h.secs, hcw, by simp⟩, fun k => ?_⟩
  show ∃ K2 G2 P2, Inv (apb k (0 + 1) (if Kept k 0 then _ else _) []) K2 G2 P2 ∧ _
  unfold apb
  by_cases hx : Kept k 0
  ·rw [if_pos hx]; exact ⟨_, _, _, hn, .inr rfl, hB⟩
  ·rw [if_neg hx]; exact ⟨_, _, _, h, .inl rfl, hB⟩
 exact At.sync hw q h.secs hcw (by simp)
theorem add_turn {s : List (List Int)} {K : Kn} {G : Int} (h : Inv s K G 18) (hG : G + 1 ≤ 60000) (r : RecV) (hc : K.can r = true) {live : Prop} {B : Int} (hB : G + 1 ≤ B) {d : Dk} (hd : At (Half K (K.nextV r) B) live s [] d) :
  ∃ s', Inv s' (K.nextV r) (G + 1) ((recsK K).length + 1) ∧ At (Half K (K.nextV r) B) live s' [] (addAt (layD d K (G + 1)) (G + 1) ((recsK K).length : Int) r) := by
 have hg := h.gen
 have hl := recsK_length K
 have hrun := recOk_run h.runs
 have hcl : ∀ w ∈ layW (G + 1) (recsK K) 0, ∀ s, Inv s K G 18 → Inv (s.set w.f0.toNat w.f1) K G 18 := fun w hw s hs => by
  obtain ⟨j, hj, rfl⟩ := layW_mem _ _ _ _ hw
  rw [Nat.zero_add]
  exact hs.junk hG hj (hrun _ (List.getElem_mem hj))
 have hA : ∀ w, w ∈ layW (G + 1) (recsK K) 0 → WrOk 38 w := fun w hw => by
  obtain ⟨j, hj, rfl⟩ := layW_mem _ _ _ _ hw
  rw [Nat.zero_add]
  exact ⟨by dsimp only; rw [sector_eq (by omega)]; omega, (putRec_sec ..).1⟩
 have hq : ∀ c', (∀ w ∈ c', w ∈ layW (G + 1) (recsK K) 0) → c'.length ≤ 30 → Half K (K.nextV r) B s c' := fun c' hc' hn => ⟨⟨h.secs, fun x hx => hA x (hc' x hx), hn⟩, fun k => ⟨K, G, 18, apb_any (Φ := fun s => Inv s K G 18) k c' (fun w hw => hcl w (hc' w hw)) 0 s h, .inl rfl, by omega⟩⟩
 have h1 := At.lay (· ∈ layW (G + 1) (recsK K) 0) hA hq h.secs (G + 1) (recsK K) 0 [] d hd (fun w hw => (by cases hw)) (fun w hw => hw) (by simp; omega)
 rw [List.nil_append] at h1
 have hlw := layW_length (G + 1) (recsK K) 0
 have h2 := At.sync h1 (hq _ (fun w hw => hw) (by omega)) h.secs (fun x hx => hA x hx) (by omega)
 have i2 : Inv (ap s (layW (G + 1) (recsK K) 0)) K G 18 := ap_any (Φ := fun s => Inv s K G 18) _ hcl s h
 have hlay := ap_lay (g := G + 1) (by omega) (recsK K) 0 s h.secs.1 (by omega)
 have i3 := i2.turn hG (fun j hj => by have := hlay j hj; rw [Nat.zero_add] at this; exact this)
 generalize ap s (layW (G + 1) (recsK K) 0) = s1 at h2 i2 i3
 have hb : (headOf (G + 1) ((recsK K).length : Int)).length ≤ 160 := by have := headOf_length (G + 1) ((recsK K).length : Int); omega
 have h3 := At.write h2 (half_bare i2 (.inl rfl) (by omega)) i2.secs (fun x hx => (by cases hx)) (by simp) (n := (G + 1) % 2) (by omega) hb
 have hcw : CacheOk [⟨(G + 1) % 2, headOf (G + 1) ((recsK K).length : Int)⟩] := fun x hx => by
  rw [List.mem_singleton.1 hx]
  exact ⟨by dsimp only; omega, hb⟩
 have q3 : Half K (K.nextV r) B s1 [⟨(G + 1) % 2, headOf (G + 1) ((recsK K).length : Int)⟩] := by
  refine ⟨⟨i2.secs, hcw, by simp⟩, fun k => ?_⟩
  unfold apb
  unfold apb
  by_cases hx : Kept k 0
  ·rw [if_pos hx]; exact ⟨_, _, _, i3, .inl rfl, hB⟩
  ·rw [if_neg hx]; exact ⟨_, _, _, i2, .inl rfl, by omega⟩
 have h4 := At.sync h3 q3 i2.secs hcw (by simp)
 have e : layD d K (G + 1) = syncDisk (writeSec (syncDisk (layRecs (G + 1) (recsK K) 0 d)) ((G + 1) % 2) (headOf (G + 1) ((recsK K).length : Int))) := by unfold layD; rw [par (G + 1) (by omega)]
 rw [e]
 exact ⟨_, i3.add (by omega) r hc, add_stay i3 (by omega) r hc rfl hB h4⟩
end Go.Proofs.YthkepmicdpgbbaaGreatDoor.Fn

namespace Go.Proofs.YthkepmicdpgbbaaGreatDoor.Fn
set_option linter.unusedVariables false
set_option linter.unusedSimpArgs false
open Go.RowKit Go.Proofs.YthkepmicdpgbbaaGreatDoorW.PrintWords Go.Proofs.YthkepmicdpgbbaaGreatDoor.P Go.Proofs.YthkepmicdpgbbaaGreatDoor.Base
theorem add_at {s : List (List Int)} {K : Kn} {G : Int} {P : Nat} (h : Inv s K G P) {f : Int} (hf : -1 ≤ f ∧ f ≤ 1000) (r : RecV) (hc : K.can r = true) (hG : G + 1 ≤ 60000) :
  ∃ s' G' P', Inv s' (K.nextV r) G' P' ∧ (P < 18 ∧ G' = G ∧ P' = P + 1 ∨ P = 18 ∧ G' = G + 1) ∧ CanAdd ⟨s, [], f, false⟩ r ∧ At (Half K (K.nextV r) (G + 1)) (f = -1) s' [] (addTo ⟨s, [], f, false⟩ r) := by
 obtain ⟨j1, j2⟩ := h.jour (d := ⟨s, [], f, false⟩) ⟨rfl, rfl, hf⟩
 have hd : At (Half K (K.nextV r) (G + 1)) (f = -1) s [] ⟨s, [], f, false⟩ := .inr ⟨f, hf, fun x => x, rfl⟩
 have hp := h.place
 have can : CanAdd ⟨s, [], f, false⟩ r := ⟨j2, by rw [j1]; exact hc, rfl, fun q => by have := q.2; rw [j1] at this; dsimp only at this; omega⟩
 by_cases hP : P = 18
 ·subst hP
  obtain ⟨s', i, a⟩ := add_turn h hG r hc (Int.le_refl _) hd
  refine ⟨s', G + 1, _, i, .inr ⟨rfl, rfl⟩, can, ?_⟩
  rw [addTo_lay r (by rw [j1]; rfl), j1]
  exact a
 ·have a := add_stay h (by omega) r hc rfl (by omega) hd
  refine ⟨_, G, P + 1, h.add (by omega) r hc, .inl ⟨by omega, rfl, rfl⟩, can, ?_⟩
  rw [addTo_stay r (by rw [j1]; dsimp only; omega), j1]
  exact a
theorem fall_half {K1 K2 : Kn} {B : Int} {s : List (List Int)} {c : List Wr} (h : Half K1 K2 B s c) {f : Int} (hf : -1 ≤ f ∧ f ≤ 1000) (b : Bool) (k : Int) : ∃ s' K G P, Inv s' K G P ∧ (K = K1 ∨ K = K2) ∧ G ≤ B ∧ fallDisk ⟨s, c, f, b⟩ k = ⟨s', [], -1, false⟩ := by
 obtain ⟨K, G, P, hi, hk, hb⟩ := h.2 (keepOf k)
 exact ⟨_, K, G, P, hi, hk, hb, fallDisk_yes (up_ok h.1.1 h.1.2.1 h.1.2.2 hf)⟩
theorem fall_at {K1 K2 : Kn} {B : Int} {live : Prop} {s : List (List Int)} {G : Int} {P : Nat} (hi : Inv s K2 G P) (hB : G ≤ B) {x : Dk} (h : At (Half K1 K2 B) live s [] x) (k : Int) :
  ∃ s' K G P, Inv s' K G P ∧ (K = K2 ∨ K = K1 ∧ x.down = true) ∧ G ≤ B ∧ fallDisk x k = ⟨s', [], -1, false⟩ := by
 rcases h with ⟨_, s', c', q, rfl⟩ | ⟨f, hf, _, rfl⟩
 ·obtain ⟨s2, K, G2, P2, a1, a2, a4, a3⟩ := fall_half q (f := -1) (by omega) true k
  exact ⟨s2, K, G2, P2, a1, a2.elim (fun e => .inr ⟨e, rfl⟩) .inl, a4, a3⟩
 ·obtain ⟨s2, K, G2, P2, a1, a2, a4, a3⟩ := fall_half (half_bare (K1 := K2) (K2 := K2) hi (.inl rfl) hB) hf false k
  exact ⟨s2, K, G2, P2, a1, .inl (a2.elim id id), a4, a3⟩
end Go.Proofs.YthkepmicdpgbbaaGreatDoor.Fn

namespace Go.Proofs.YthkepmicdpgbbaaGreatDoor.Fn
set_option linter.unusedVariables false
set_option linter.unusedSimpArgs false
open Go.RowKit Go.Proofs.YthkepmicdpgbbaaGreatDoorW.PrintWords Go.Proofs.YthkepmicdpgbbaaGreatDoor.P Go.Proofs.YthkepmicdpgbbaaGreatDoor.Base
def Jd (m : Nat) (d : Dk) : Prop := ∃ s K G P, d = ⟨s, [], -1, false⟩ ∧ Inv s K G P ∧ K.g ≤ m ∧ K.pg ≤ m ∧ K.e ≤ m ∧ G ≤ (m : Int) + 1
theorem fits_bare {s : List (List Int)} (h : SecsOk s) (f : Int) (b : Bool) : Fits ⟨s, [], f, b⟩ := fits_ap (c := []) ⟨by rw [h.1]; omega, fun x hx => ⟨by have := (h.2 x hx).1; omega, (h.2 x hx).2⟩⟩
theorem Jd.fits {m : Nat} {d : Dk} (h : Jd m d) : Fits d := by
 obtain ⟨s, K, G, P, rfl, hi, _⟩ := h
 exact fits_bare hi.secs _ _
theorem Jd.more {m n : Nat} {d : Dk} (h : Jd m d) (hn : m ≤ n) : Jd n d := by
 obtain ⟨s, K, G, P, e, hi, h1, h2, h3, h4⟩ := h
 exact ⟨s, K, G, P, e, hi, by omega, by omega, by omega, by omega⟩
theorem formatD_jd : Jd 0 formatD := ⟨newSecs, Kn.zero, 1, 0, formatD_eq, new_inv, by decide, by decide, by decide, by decide⟩
theorem nextV_small {K : Kn} {r : RecV} {m : Int} (h0 : 0 ≤ m) (h1 : K.g ≤ m) (h2 : K.pg ≤ m) (h3 : K.e ≤ m) (hr : r.n ≤ m) : (K.nextV r).g ≤ m ∧ (K.nextV r).pg ≤ m ∧ (K.nextV r).e ≤ m := by
 unfold Kn.nextV Kn.app
 rcases apply_cases (g := K.g) (t := K.t) (pg := K.pg) (pt := K.pt) (e := K.e) (o := K.o) (kind := r.kind) (n := r.n) (ow := r.ow) (s := r.s) with e | ⟨_, _, ⟨_, _, e⟩ | ⟨_, _, e⟩ | ⟨_, _, e⟩⟩ <;> rw [e] <;> exact ⟨by assumption, by assumption, by assumption⟩
theorem Jd.add {m : Nat} {d : Dk} (h : Jd m d) (hm : m ≤ 1000) (r : RecV) (hr : r.n ≤ (m : Int) + 1) : Jd (m + 1) (addRec d r) := by
 have h0 := h
 obtain ⟨s, K, G, P, rfl, hi, h1, h2, h3, h4⟩ := h
 by_cases hc : K.can r = true
 ·obtain ⟨s', G', P', i', hg, can, a⟩ := add_at hi (f := -1) (by omega) r hc (by omega)
  rw [addRec_yes can]
  rcases a with ⟨hv, _⟩ | ⟨f, _, hf, e⟩
  ·exact absurd rfl hv
  ·obtain rfl := hf rfl
   have hs := nextV_small (K := K) (r := r) (m := (m : Int) + 1) (by omega) (by omega) (by omega) (by omega) hr
   exact ⟨s', K.nextV r, G', P', e, i', by omega, by omega, by omega, by omega⟩
 ·have hno : ¬ CanAdd ⟨s, [], -1, false⟩ r := fun q => by
   have q2 := q.2.1
   rw [(hi.jour (d := ⟨s, [], -1, false⟩) ⟨rfl, rfl, by dsimp only; omega, by dsimp only; omega⟩).1] at q2
   exact hc q2
  rw [addRec_no hno]
  exact h0.more (by omega)
theorem spec_l5Draw_l0 {l : List Int} (n : Nat) : ∀ (m : Nat) (d : Dk) (i h : Int), Cur l i → Jd m d → m + n ≤ 100 → ∃ d' i' h', Ev (fun k => spec_l5Draw.l0 k (n : Int) l i h d.secs d.cache d.fuse d.down) (d'.secs, d'.cache, d'.fuse, d'.down, i', h') ∧ Jd (m + n) d' ∧ Cur l i' := by
 induction n with
 | zero =>
  intro m d i h hc hd _
  exact ⟨d, i, h, Ev.step (fun k => spec_l5Draw.l0.eq_2 _ _ _ _ _ _ _ _ k) (Ev.neg (by omega) (Ev.done rfl)), hd, hc⟩
 | succ n ih =>
  intro m d i h hc hd hm
  obtain ⟨kind, n0, owner, text, i1, h1, e1, _, hk, _, _, _, _, _, hsz, hc1⟩ := l4Draw hc h
  have ho := spec_openJour d hd.fits
  rw [openJour_eq] at ho
  obtain ⟨s, K, G, P, hde, hi, b1, b2, b3, b4⟩ := hd
  have hj : jourOf d = ⟨K, G, (P : Int)⟩ := by rw [hde]; exact (hi.jour (d := ⟨s, [], -1, false⟩) ⟨rfl, rfl, by dsimp only; omega, by dsimp only; omega⟩).1
  have hd0 : Jd m d := ⟨s, K, G, P, hde, hi, b1, b2, b3, b4⟩
  rw [hj] at ho
  obtain ⟨p1, p2, p3, _⟩ := known_parts (Chain.known hi.chain)
  have kg : -100 ≤ K.g := by
   by_cases hz : K.g = 0
   ·omega
   ·have := (genOk_conf p1 hz).1; omega
  have w1 : wrap64 (K.g + 1) = K.g + 1 := w64 (by omega) (by omega)
  have w3 : wrap64 (K.e + 1) = K.e + 1 := w64 (by omega) (by omega)
  have wn : wrap64 (((n + 1 : Nat) : Int) - 1) = (n : Int) := by rw [w64 (by omega) (by omega)]; omega
  have go : ∀ N : Int, N ≤ (m : Int) + 1 → ∃ d' i' h', Ev (fun k => (spec_AddRec.f k d.secs d.cache d.fuse d.down kind N owner text).bind fun q => (spec_l5Draw.l0 k (n : Int) l i1 h1 q.1 q.2.1 q.2.2.1 q.2.2.2.1)) (d'.secs, d'.cache, d'.fuse, d'.down, i', h') ∧ Jd (m + (n + 1)) d' ∧ Cur l i' := by
   intro N hN
   obtain ⟨d', i', h', e', a1, a2⟩ := ih (m + 1) (addRec d ⟨kind, N, owner, text⟩) i1 h1 hc1 (hd0.add (by omega) _ hN) (by omega)
   refine ⟨d', i', h', Ev.bind (spec_addRec d hd0.fits ⟨kind, N, owner, text⟩ (by dsimp only; omega)) e', ?_, a2⟩
   rw [show m + (n + 1) = m + 1 + n by omega]
   exact a1
  by_cases h1' : kind = 1
  ·obtain ⟨d', i', h', e', a1, a2⟩ := go (K.g + 1) (by omega)
   refine ⟨d', i', h', Ev.step (fun k => spec_l5Draw.l0.eq_2 _ _ _ _ _ _ _ _ k) (Ev.pos (by omega) (Ev.bind ho (Ev.bind e1 (Ev.pos h1' ?_)))), a1, a2⟩
   simp only [Jn.tup, w1, wn]
   exact e'
  ·by_cases h2' : kind = 2
   ·obtain ⟨d', i', h', e', a1, a2⟩ := go K.pg (by omega)
    refine ⟨d', i', h', Ev.step (fun k => spec_l5Draw.l0.eq_2 _ _ _ _ _ _ _ _ k) (Ev.pos (by omega) (Ev.bind ho (Ev.bind e1 (Ev.neg h1' (Ev.pos h2' ?_))))), a1, a2⟩
    simp only [Jn.tup, wn]
    exact e'
   ·obtain ⟨d', i', h', e', a1, a2⟩ := go (K.e + 1) (by omega)
    refine ⟨d', i', h', Ev.step (fun k => spec_l5Draw.l0.eq_2 _ _ _ _ _ _ _ _ k) (Ev.pos (by omega) (Ev.bind ho (Ev.bind e1 (Ev.neg h1' (Ev.neg h2' ?_))))), a1, a2⟩
    simp only [Jn.tup, w3, wn]
    exact e'
theorem l5Draw {l : List Int} {i : Int} (hc : Cur l i) (h : Int) (most : Int) (hm : 0 ≤ most ∧ most ≤ 100) : ∃ d i' h', Ev (fun k => spec_l5Draw.f k l i h most) (d.secs, d.cache, d.fuse, d.down, i', h') ∧ Jd 100 d ∧ Cur l i' := by
 unfold spec_l5Draw.f
 obtain ⟨r, i1, h1, e1, r0, r1, _, hc1⟩ := l1Below hc h (most + 1)
 have r2 := r1 (by omega)
 obtain ⟨n, rfl⟩ := Int.eq_ofNat_of_zero_le r0
 obtain ⟨d, i', h', e', a1, a2⟩ := spec_l5Draw_l0 n 0 formatD i1 h1 hc1 formatD_jd (by omega)
 refine ⟨d, i', h', Ev.bind spec_format ?_, a1.more (by omega), a2⟩
 rw [w64 (n := most + 1) (by omega) (by omega)]
 exact Ev.then e1 e'
theorem drawJour (l : List Int) (hl : l.length ≤ 140737488351232) : ∃ d r keep, Ev (fun k => spec_DrawJour.f k l) (d.secs, d.cache, d.fuse, d.down, RecV.kind r, RecV.n r, RecV.ow r, RecV.s r, keep) ∧ Jd 100 d ∧ (jourOf d).K.can r = true ∧ r.s.size ≤ 100 ∧ r.n ≤ 101 := by
 unfold spec_DrawJour.f
 obtain ⟨h0, e0⟩ := l1New l hl
 obtain ⟨most, i1, h1, e1, hmost, hc1⟩ := l1IntM (Cur.zero hl) h0 [8, 8, 40] (by simp)
 have hm : 0 ≤ most ∧ most ≤ 100 := by
  simp only [List.mem_cons, List.not_mem_nil, or_false] at hmost
  omega
 obtain ⟨d, i2, h2, e2, hd, hc2⟩ := l5Draw hc1 h1 most hm
 obtain ⟨kind, n0, owner, text, i3, h3, e3, _, hk, _, ht1, ht2, how, how2, hsz, hc3⟩ := l4Draw hc2 h2
 obtain ⟨keep, i4, h4, e4, _⟩ := l1Below hc3 h3 256
 have ho := spec_openJour d hd.fits
 rw [openJour_eq] at ho
 have hd0 := hd
 obtain ⟨s, K, G, P, hde, hi, b1, b2, b3, b4⟩ := hd
 have hj : jourOf d = ⟨K, G, (P : Int)⟩ := by rw [hde]; exact (hi.jour (d := ⟨s, [], -1, false⟩) ⟨rfl, rfl, by dsimp only; omega, by dsimp only; omega⟩).1
 rw [hj] at ho
 have hkn := Chain.known hi.chain
 have he : (⟨#[]⟩ : ByteArray).size ≤ 100 := by decide
 obtain ⟨p1, p2, p3, _⟩ := known_parts hkn
 have kg : 0 ≤ K.g := by
  by_cases hz : K.g = 0
  ·omega
  ·have := (genOk_conf p1 hz).1; omega
 have w1 : wrap64 (K.g + 1) = K.g + 1 := w64 (by omega) (by omega)
 have w3 : wrap64 (K.e + 1) = K.e + 1 := w64 (by omega) (by omega)
 by_cases h1' : kind = 1
 ·obtain ⟨L, hL, rfl⟩ := ht1 h1'
  refine ⟨d, ⟨kind, K.g + 1, owner, confText L⟩, keep, Ev.bind e0 (Ev.then e1 (Ev.bind e2 (Ev.bind ho (Ev.bind e3 (Ev.pos h1' (Ev.then e4 (Ev.done ?_))))))), hd0, ?_, hsz, by dsimp only; omega⟩
  ·simp only [Jn.tup, w1]
  ·obtain rfl := how (by omega)
   subst h1'
   rw [hj]
   unfold Kn.can Kn.app
   dsimp only
   rw [apply_prep hkn (recOk_prep (by omega) hL) (by omega)]
 ·obtain rfl := ht2 h1'
  by_cases h2' : kind = 2
  ·subst h2'
   by_cases hz : K.pg = 0
   ·refine ⟨d, ⟨3, K.e + 1, 0, ⟨#[]⟩⟩, keep, Ev.bind e0 (Ev.then e1 (Ev.bind e2 (Ev.bind ho (Ev.bind e3 (Ev.neg h1' (Ev.pos rfl (Ev.pos hz (Ev.then e4 (Ev.done ?_))))))))), hd0, ?_, he, by dsimp only; omega⟩
    ·simp only [Jn.tup, w3]
    ·rw [hj]
     unfold Kn.can Kn.app
     dsimp only
     rw [apply_epoch hkn (recOk_epoch (by omega) (by omega)) (by omega)]
   ·refine ⟨d, ⟨2, K.pg, owner, ⟨#[]⟩⟩, keep, Ev.bind e0 (Ev.then e1 (Ev.bind e2 (Ev.bind ho (Ev.bind e3 (Ev.neg h1' (Ev.pos rfl (Ev.neg hz (Ev.then e4 (Ev.done ?_))))))))), hd0, ?_, he, by dsimp only; omega⟩
    ·simp only [Jn.tup]
    ·obtain rfl := how (by omega)
     rw [hj]
     unfold Kn.can Kn.app
     dsimp only
     rw [apply_commit hkn (recOk_commit (genOk_conf p2 hz).1)]
  ·obtain rfl : kind = 3 := by omega
   refine ⟨d, ⟨3, K.e + 1, owner, ⟨#[]⟩⟩, keep, Ev.bind e0 (Ev.then e1 (Ev.bind e2 (Ev.bind ho (Ev.bind e3 (Ev.neg h1' (Ev.neg h2' (Ev.then e4 (Ev.done ?_)))))))), hd0, ?_, he, by dsimp only; omega⟩
   ·simp only [Jn.tup, w3]
   ·rw [hj]
    unfold Kn.can Kn.app
    dsimp only
    rw [apply_epoch hkn (recOk_epoch (by omega) how2) (by omega)]
end Go.Proofs.YthkepmicdpgbbaaGreatDoor.Fn

namespace Go.Proofs.YthkepmicdpgbbaaGreatDoorW.PrintWords
open Go.ChangeShapes Go.WideShapes
theorem sized_ints {H : Type} {enc : TypeId × Value → H} {P : Program} {W : World} {base : Nat} {spare : Nat → Bool} {held : Bool} {t e : TypeId} {k : IntKind} {a : Option Addr} {len cap : Nat} {d : DataW H} {ps : List MemPlace} {ts : List TypeId} {ds : List (DataW H)} {j : Nat}
  (hsz : (DataW.weightsEach P ts ds).all (· ≤ reachBytes) = true) (ht : ts[j]? = some t) (hd : ds[j]? = some d) (hu : P.underlying t = some (.slice e)) (he : P.underlying e = some (.int k)) (hc : P.cellsOf e = 1) {B : Nat} (hB : P.bytesOf e = B)
  (h : DataW.Trod enc P W base spare held t (.slice a len cap) d ps) : len * B ≤ 140737488351232 := by
 obtain ⟨fuel, hf⟩ := h
 rcases open_ints hu he hc hf with ⟨hcs, _⟩ | ⟨x, l, c, zs, hcs, _, hl, _, hz, hx, _, _⟩
 ·simp [Value.cells] at hcs
  obtain ⟨rfl, rfl, rfl⟩ := hcs
  simp
 ·simp [Value.cells] at hcs
  obtain ⟨rfl, rfl, rfl⟩ := hcs
  obtain ⟨hx, _⟩ := Prod.mk.inj hx
  subst hx
  have z := sized_slice hsz ht hd hu
  rw [hB] at z
  have hl2 : len ≤ zs.length := by
   rw [hz]
   split
   ·exact hl
   ·exact Nat.le_refl _
  have h1 : (lits (H := H) k (zs.take len)).length + (lits (H := H) k (zs.drop len)).length = zs.length := by
   simp [lits]
   omega
  rw [h1] at z
  exact Nat.le_trans (Nat.mul_le_mul_right _ hl2) z
end Go.Proofs.YthkepmicdpgbbaaGreatDoorW.PrintWords
