/- Texts of this seat's claims, put together: EvN, EvO, EvP, EvQ, EvR, EvS, EvT, EvW, EvU -/
import Derived.Test.YthkepmicdpgbbaaGreatDoorPkYzB3
namespace Go.Proofs.YthkepmicdpgbbaaGreatDoor.E
open Go Go.RowKit Go.Proofs.YthkepmicdpgbbaaGreatDoorW.PrintWords
set_option linter.unusedVariables false
set_option linter.unusedSimpArgs false
def Gh.back (G Gc : Gh) (w : World) (rf fz : List Nat) (m k : Nat) : Gh where
 base := G.base
 old := G.old
 own := fun b => match Gc.own b with
  | some j => backId rf m j
  | none => if b < w.heap.size ∧ (G.own b).bind (idx rf) = none then G.own b else none
 inf := fun i => match idx rf i with
  | some j => Gc.inf j
  | none => if m ≤ i ∧ i < m + k then Gc.inf (len rf + (i - m)) else if i ∈ fz then (G.inf i).map (fun r => (r.1, r.2.1, true)) else G.inf i
 top := fun b => match Gc.own b with
  | some _ => Gc.top b
  | none => G.top b
theorem mem_range' : ∀ (n m x : Nat), x ∈ range' m n ↔ m ≤ x ∧ x < m + n
 | 0, m, x => by
  simp [range']
  try omega
 | n + 1, m, x => by
  simp only [range', List.mem_cons, mem_range' n (m + 1) x]
  omega
theorem putBs_len (μ : Nat → Option Nat) : ∀ (rf : List Nat) (h bl : List Blk), rf.length ≤ bl.length → (putBs h μ rf bl).length = h.length + (bl.length - rf.length)
 | [], h, bl, _ => by cases bl <;> simp [putBs]
 | i :: r, h, [], hl => by simp at hl
 | i :: r, h, B :: l, hl => by
  simp only [putBs]
  rw [putBs_len μ r _ l (by simpa using hl)]
  have := len_putB h i (renB μ B)
  rw [len_eq, len_eq] at this
  rw [this]
  simp
theorem nthB_eq : ∀ (h : List Blk) (i : Nat), nthB h i = h[i]?
 | [], _ => rfl
 | _ :: _, 0 => rfl
 | _ :: r, n + 1 => by simpa [nthB] using nthB_eq r n
theorem putBs_out (μ : Nat → Option Nat) : ∀ (rf : List Nat) (h bl : List Blk) (x : Nat), rf.length ≤ bl.length → x ∉ rf → x < h.length → nthB (putBs h μ rf bl) x = nthB h x
 | [], h, bl, x, _, _, hx => by
  have : putBs h μ [] bl = h ++ bl.map (renB μ) := by cases bl <;> rfl
  rw [this]
  exact nthB_append h _ x (by rw [len_eq]; exact hx)
 | i :: r, h, [], x, hl, _, _ => by simp at hl
 | i :: r, h, B :: l, x, hl, hn, hx => by
  simp only [List.mem_cons, not_or] at hn
  simp only [putBs]
  have h1 := len_putB h i (renB μ B)
  rw [len_eq, len_eq] at h1
  rw [putBs_out μ r _ l x (by simpa using hl) hn.2 (by omega)]
  exact nthB_putB_ne h i x _ hn.1
theorem putBs_ref (μ : Nat → Option Nat) : ∀ (rf : List Nat) (h bl : List Blk) (j i : Nat) (B : Blk), rf.length ≤ bl.length → nodup rf = true → (∀ x ∈ rf, x < h.length) → rf[j]? = some i → nthB bl j = some B → nthB (putBs h μ rf bl) i = some (renB μ B)
 | [], h, bl, j, i, B, _, _, _, hj, _ => by simp at hj
 | x :: r, h, [], j, i, B, hl, _, _, _, _ => by simp at hl
 | x :: r, h, C :: l, 0, i, B, hl, hn, hx, hj, hB => by
  simp only [nodup, Bool.and_eq_true, Bool.not_eq_true', List.contains_eq_mem, decide_eq_false_iff_not] at hn
  simp at hj
  subst hj
  simp only [nthB, Option.some.injEq] at hB
  subst hB
  simp only [putBs]
  have h1 := len_putB h x (renB μ C)
  rw [len_eq, len_eq] at h1
  have h2 := hx x (by simp)
  rw [putBs_out μ r _ l x (by simpa using hl) hn.1 (by omega)]
  have h3 : ∃ D, nthB h x = some D := ⟨h[x], by rw [nthB_eq]; simp [h2]⟩
  obtain ⟨D, h3⟩ := h3
  exact nthB_putB_same _ h3
 | x :: r, h, C :: l, j + 1, i, B, hl, hn, hx, hj, hB => by
  simp only [nodup, Bool.and_eq_true] at hn
  simp only [putBs]
  have h1 := len_putB h x (renB μ C)
  rw [len_eq, len_eq] at h1
  exact putBs_ref μ r _ l j i B (by simpa using hl) hn.2 (fun y hy => by rw [h1]; exact hx y (by simp [hy])) (by simpa using hj) hB
theorem putBs_new (μ : Nat → Option Nat) : ∀ (rf : List Nat) (h bl : List Blk) (x : Nat) (B : Blk), rf.length ≤ bl.length → h.length ≤ x → nthB bl (rf.length + (x - h.length)) = some B → nthB (putBs h μ rf bl) x = some (renB μ B)
 | [], h, bl, x, B, _, hx, hB => by
  have : putBs h μ [] bl = h ++ bl.map (renB μ) := by cases bl <;> rfl
  rw [this, nthB_eq, List.getElem?_append_right hx, List.getElem?_map]
  rw [nthB_eq] at hB
  simp only [List.length_nil, Nat.zero_add] at hB
  rw [hB]
  rfl
 | i :: r, h, [], x, B, hl, _, _ => by simp at hl
 | i :: r, h, C :: l, x, B, hl, hx, hB => by
  simp only [putBs]
  have h1 := len_putB h i (renB μ C)
  rw [len_eq, len_eq] at h1
  refine putBs_new μ r _ l x B (by simpa using hl) (by omega) ?_
  rw [h1]
  have e : (i :: r).length + (x - h.length) = (r.length + (x - h.length)) + 1 := by simp; omega
  rw [e] at hB
  simpa [nthB] using hB
section
variable {G Gc : Gh} {w w' : World} {rf fs fz ids : List Nat} {h bin bl : List Blk} {m k : Nat}
theorem back_ext (hi : Inv G w) (hn : nodup rf = true) (hm : ∀ x ∈ rf, x < m) (hf : ∀ id ∈ rf, ∀ sz n, G.inf id ≠ some (sz, n, true)) (hfz : ∀ x ∈ fz, x ∉ rf) (hnew : ∀ i, m ≤ i → i < m + k → G.inf i = none ∧ ∀ b, G.own b ≠ some i)
  (hk : ∀ j, rf.length + k ≤ j → ∀ b, Gc.own b ≠ some j)
  (X : Ext ids (G.callee w rf fs) w Gc w') : Ext (rf ++ fz ++ range' m k) G w (G.back Gc w rf fz m k) w' := by
 have cown : ∀ b, (G.callee w rf fs).own b = (G.own b).bind (idx rf) := fun _ => rfl
 have hbk : ∀ {i j}, idx rf i = some j → backId rf m j = some i := fun {i j} hx => by
  unfold backId
  rw [idx_some hx]
 have hfar : ∀ b id, G.own b = some id → id ∉ rf → (G.callee w rf fs).own b = none := fun b id h0 hid => by
  rw [cown, h0, Option.bind_some]
  cases hx : idx rf id with
  | none => rfl
  | some j => exact absurd (List.mem_of_getElem? (idx_some hx)) hid
 have hkeep : ∀ b id, G.own b = some id → id ∉ rf → (G.back Gc w rf fz m k).own b = some id ∧ w'.heap[b]? = w.heap[b]? := fun b id h0 hid => by
  have hlt := hi.own b id h0
  have h1 := hfar b id h0 hid
  obtain ⟨h2, h3⟩ := X.nn b hlt h1
  refine ⟨?_, h3⟩
  simp only [Gh.back]
  rw [h2]
  simp only
  rw [if_pos ⟨hlt, by rw [← cown]; exact h1⟩]
  exact h0
 have hidx : ∀ {i}, i ∉ rf → idx rf i = none := fun {i} hid => by
  cases hx : idx rf i with
  | none => rfl
  | some j => exact absurd (List.mem_of_getElem? (idx_some hx)) hid
 constructor
 ·exact X.os
 ·exact X.tape
 ·exact X.output
 ·exact X.size
 ·rfl
 ·rfl
 ·intro b hb h0
  have h1 : (G.callee w rf fs).own b = none := by rw [cown, h0]; rfl
  obtain ⟨h2, h3⟩ := X.nn b hb h1
  refine ⟨?_, h3⟩
  simp only [Gh.back]
  rw [h2]
  simp only
  rw [if_pos ⟨hb, by rw [← cown]; exact h1⟩]
  exact h0
 ·intro b id h0
  by_cases hid : id ∈ rf
  ·refine ⟨fun hx => absurd (by simp [hid]) hx, ?_⟩
   obtain ⟨j, hj⟩ := idx_mem hid
   have h1 : (G.callee w rf fs).own b = some j := by rw [cown, h0]; exact hj
   rcases (X.sm b j h1).2 with h2 | h2 | ⟨_, j2, g2, g3, g4⟩
   ·left
    simp only [Gh.back]
    rw [h2]
    exact hbk hj
   ·right; left
    simp only [Gh.back]
    rw [h2]
    simp only
    rw [if_neg]
    intro hx
    rw [← cown, h1] at hx
    cases hx.2
   ·right; right
    refine ⟨by simp [hid], ?_⟩
    have e1 : (G.back Gc w rf fz m k).own b = backId rf m j2 := by simp only [Gh.back]; rw [g3]
    have e2 : ¬ (G.back Gc w rf fz m k).top b := by simp only [Gh.back]; rw [g3]; exact g4
    cases hj2 : rf[j2]? with
    | some i2 => exact ⟨i2, by simp [List.mem_of_getElem? hj2], by rw [e1]; unfold backId; rw [hj2], e2⟩
    | none =>
     have hge : rf.length ≤ j2 := List.getElem?_eq_none_iff.1 hj2
     have hjk : j2 < rf.length + k := by
      rcases Nat.lt_or_ge j2 (rf.length + k) with h' | h'
      ·exact h'
      ·exact absurd g3 (hk j2 h' b)
     refine ⟨m + (j2 - len rf), ?_, by rw [e1]; unfold backId; rw [hj2], e2⟩
     rw [len_eq]
     simp only [List.mem_append, mem_range']
     right
     omega
  ·obtain ⟨a, b⟩ := hkeep b id h0 hid
   exact ⟨fun _ => ⟨a, b⟩, .inl a⟩
 ·intro b id cs ty h0 h1 hinf hc
  by_cases hid : id ∈ rf
  ·obtain ⟨j, hj⟩ := idx_mem hid
   have h2 : (G.callee w rf fs).own b = some j := by rw [cown, h0]; exact hj
   obtain ⟨sz, n, f, f', i1, i2⟩ := hinf
   have h3 : Gc.own b = some j := by
    have q1 : (G.callee w rf fs).inf j = some (sz, n, f) := by simp only [Gh.callee]; rw [idx_some hj]; exact i1
    have q2 : Gc.inf j = some (sz, n, f') := by
     simp only [Gh.back] at i2
     rw [hj] at i2
     exact i2
    obtain ⟨n', f2, a1, a2, a3, a4⟩ := X.inf j sz n f q1
    rw [q2] at a1
    injection a1 with a1
    injection a1 with _ a1
    injection a1 with a1 _
    exact a4 a1.symm b h2
   refine X.same b j cs ty h2 h3 ⟨sz, n, f, f', ?_, ?_⟩ hc
   ·simp only [Gh.callee]
    rw [idx_some hj]
    exact i1
   ·simp only [Gh.back] at i2
    rw [hj] at i2
    exact i2
  ·exact ⟨cs, (hkeep b id h0 hid).2.trans hc, rfl⟩
 ·intro b id sz n h0 hfr
  have hid : id ∉ rf := fun hid => hf id hid sz n hfr
  exact hkeep b id h0 hid
 ·intro id sz n f hinf
  by_cases hid : id ∈ rf
  ·obtain ⟨j, hj⟩ := idx_mem hid
   have h1 : (G.callee w rf fs).inf j = some (sz, n, f) := by simp only [Gh.callee]; rw [idx_some hj]; exact hinf
   obtain ⟨n', f', a1, a2, a3, a4⟩ := X.inf j sz n f h1
   refine ⟨n', f', by simp only [Gh.back]; rw [hj]; exact a1, a2, a3, fun e b hb => ?_⟩
   have h2 : (G.callee w rf fs).own b = some j := by rw [cown, hb]; exact hj
   have h3 := a4 e b h2
   simp only [Gh.back]
   rw [h3]
   exact hbk hj
  ·by_cases hr : m ≤ id ∧ id < m + k
   ·rw [(hnew id hr.1 hr.2).1] at hinf
    cases hinf
   ·by_cases hz : id ∈ fz
    ·refine ⟨n, true, ?_, Nat.le_refl _, fun _ => ⟨rfl, rfl⟩, fun _ b hb => (hkeep b id hb hid).1⟩
     simp only [Gh.back]
     rw [hidx hid]
     simp only
     rw [if_neg hr, if_pos hz, hinf]
     rfl
    ·refine ⟨n, f, ?_, Nat.le_refl _, fun e => ⟨e, rfl⟩, fun _ b hb => (hkeep b id hb hid).1⟩
     simp only [Gh.back]
     rw [hidx hid]
     simp only
     rw [if_neg hr, if_neg hz, hinf]
 ·intro id hx
  simp only [List.mem_append, not_or, mem_range'] at hx
  simp only [Gh.back]
  rw [hidx hx.1.1]
  simp only
  rw [if_neg hx.2, if_neg hx.1.2]
 ·intro b id hb h1
  simp only [Gh.back] at h1
  cases hc : Gc.own b with
  | none =>
   rw [hc] at h1
   simp only at h1
   rw [if_neg (fun hx => by omega)] at h1
   cases h1
  | some j =>
   rw [hc] at h1
   simp only [backId] at h1
   cases hj : rf[j]? with
   | some i =>
    rw [hj] at h1
    injection h1 with h1
    subst h1
    simp [List.mem_of_getElem? hj]
   | none =>
    rw [hj] at h1
    injection h1 with h1
    subst h1
    have hge : rf.length ≤ j := List.getElem?_eq_none_iff.1 hj
    have hjk : j < rf.length + k := by
     rcases Nat.lt_or_ge j (rf.length + k) with h' | h'
     ·exact h'
     ·exact absurd hc (hk j h' b)
    rw [len_eq]
    simp only [List.mem_append, mem_range']
    right
    omega
 ·intro b id h1
  simp only [Gh.back] at h1
  cases hc : Gc.own b with
  | some j => exact X.keep b j hc
  | none =>
   rw [hc] at h1
   simp only at h1
   split at h1
   ·rename_i hx
    exact Nat.lt_of_lt_of_le hx.1 X.size
   ·cases h1
 ·intro b id h0 h1 hinf ht
  by_cases hid : id ∈ rf
  ·obtain ⟨j, hj⟩ := idx_mem hid
   have h2 : (G.callee w rf fs).own b = some j := by rw [cown, h0]; exact hj
   obtain ⟨sz, n, f, f', i1, i2⟩ := hinf
   have q1 : (G.callee w rf fs).inf j = some (sz, n, f) := by simp only [Gh.callee]; rw [idx_some hj]; exact i1
   have q2 : Gc.inf j = some (sz, n, f') := by
    simp only [Gh.back] at i2
    rw [hj] at i2
    exact i2
   have h3 : Gc.own b = some j := by
    obtain ⟨n', f2, a1, a2, a3, a4⟩ := X.inf j sz n f q1
    rw [q2] at a1
    injection a1 with a1
    injection a1 with _ a1
    injection a1 with a1 _
    exact a4 a1.symm b h2
   simp only [Gh.back]
   rw [h3]
   exact X.tp b j h2 h3 ⟨sz, n, f, f', q1, q2⟩ ht
  ·have h3 := (X.nn b (hi.own b id h0) (hfar b id h0 hid)).1
   simp only [Gh.back]
   rw [h3]
   exact ht
 ·intro b h0 ht h1
  simp only [Gh.back]
  cases hc : Gc.own b with
  | none => exact ht
  | some j =>
   simp only
   cases ho : G.own b with
   | none => exact absurd ho h0
   | some id =>
    have hlt := hi.own b id ho
    refine X.nt b (fun e => ?_) ht (by rw [hc]; simp)
    rw [(X.nn b hlt e).1] at hc
    cases hc
 ·intro b hb
  have hc : Gc.own b = none := by
   cases hc : Gc.own b with
   | none => rfl
   | some j => exact absurd (X.keep b j hc) (by omega)
  simp only [Gh.back]
  rw [hc]
  exact hi.top b (Nat.le_trans X.size hb)
theorem back_inf (hn : nodup rf = true) (hm : ∀ x ∈ rf, x < m) (hk : ∀ j, rf.length + k ≤ j → Gc.inf j = none) : ∀ j i r, backId rf m j = some i → Gc.inf j = some r → (G.back Gc w rf fz m k).inf i = some r := by
 intro j i r h1 h2
 simp only [backId] at h1
 simp only [Gh.back]
 cases hj : rf[j]? with
 | some x =>
  rw [hj] at h1
  injection h1 with h1
  subst h1
  rw [idx_of hn hj]
  exact h2
 | none =>
  rw [hj] at h1
  injection h1 with h1
  subst h1
  have hge : rf.length ≤ j := List.getElem?_eq_none_iff.1 hj
  rw [len_eq]
  have hno : idx rf (m + (j - rf.length)) = none := by
   cases hx : idx rf (m + (j - rf.length)) with
   | none => rfl
   | some q => exact absurd (hm _ (List.mem_of_getElem? (idx_some hx))) (by omega)
  have hjk : j < rf.length + k := by
   rcases Nat.lt_or_ge j (rf.length + k) with h' | h'
   ·exact h'
   ·rw [hk j h'] at h2
    cases h2
  rw [hno]
  simp only
  rw [if_pos ⟨by omega, by omega⟩, show rf.length + (m + (j - rf.length) - m) = j by omega]
  exact h2
theorem back_ren (hi : Inv G w) (hf : ∀ id ∈ rf, ∀ sz n, G.inf id ≠ some (sz, n, true)) (hn : nodup rf = true) (hm : ∀ x ∈ rf, x < m) (hfz : ∀ x ∈ fz, x ∉ rf) (hfs : ∀ x ∈ fs, x ∉ rf) (hnf : ∀ x ∈ fs, ¬ (m ≤ x ∧ x < m + k)) (hlive : ∀ x ∈ fs, ∃ r, G.inf x = some r)
  (hk : ∀ j, rf.length + k ≤ j → Gc.inf j = none) (X : Ext ids (G.callee w rf fs) w Gc w') (hXX : Ext (rf ++ fz ++ range' m k) G w (G.back Gc w rf fz m k) w') (hsub : ∀ x ∈ fs, x ∈ fz) :
  Ren (backId rf m) Gc (G.back Gc w rf fz m k) w' where
 imm := fun b o hb mm => by
  rcases mm with ⟨h1, h2, h3⟩ | ⟨h1, h2⟩ | ⟨j, sz, n, h1, h2⟩
  ·rw [X.base] at h1
   rw [X.old] at h3
   have hlt : b < w.heap.size := h1
   have hcn : (G.own b).bind (idx rf) = none := by
    cases hx : (G.callee w rf fs).own b with
    | none => exact hx
    | some j =>
     have hx' : (G.own b).bind (idx rf) = some j := hx
     obtain ⟨id, q1, q2⟩ := Option.bind_eq_some_iff.1 hx'
     rcases h3 with h3 | ⟨id, hid, h3⟩
     ·exfalso
      rcases h3 with ⟨_, h3, _⟩ | ⟨_, h3⟩ | ⟨id', sz, n, h3, h4⟩
      ·rw [h3] at q1; cases q1
      ·rw [h3] at q1; cases q1
      ·rw [h3] at q1
       injection q1 with q1
       subst q1
       exact hf _ (List.mem_of_getElem? (idx_some q2)) sz n h4
     ·exfalso
      have : (G.own b).bind (idx rf) = some j := hx
      rw [h3, Option.bind_some] at this
      exact hfs id hid (List.mem_of_getElem? (idx_some this))
   obtain ⟨a1, a2⟩ := X.nn b hlt hcn
   rcases h3 with h3 | ⟨id, hid, h3⟩
   ·exact (imm_ext hXX hi (a2 ▸ hb) h3).1
   ·refine .inr (.inr ?_)
    obtain ⟨r, hr⟩ := hlive id hid
    refine ⟨id, r.1, r.2.1, ?_, ?_⟩
    ·simp only [Gh.back]
     rw [h2]
     simp only
     rw [if_pos ⟨hlt, hcn⟩]
     exact h3
    ·simp only [Gh.back]
     have : idx rf id = none := by
      cases hx : idx rf id with
      | none => rfl
      | some j => exact absurd (List.mem_of_getElem? (idx_some hx)) (hfs id hid)
     rw [this]
     simp only
     rw [if_neg (hnf id hid), if_pos (hsub id hid), hr]
     rfl
  ·rw [X.base] at h1
   have h1' : w.heap.size ≤ b := h1
   refine .inr (.inl ⟨?_, ?_⟩)
   ·have := hi.base
    show G.base ≤ b
    omega
   ·simp only [Gh.back]
    rw [h2]
    simp only
    rw [if_neg (fun hx => by omega)]
  ·have hb' : ∃ i, backId rf m j = some i := by
    unfold backId
    cases rf[j]? <;> exact ⟨_, rfl⟩
   obtain ⟨i, hi'⟩ := hb'
   refine .inr (.inr ⟨i, sz, n, ?_, back_inf hn hm hk j i _ hi' h2⟩)
   simp only [Gh.back]
   rw [h1]
   exact hi'
 own := fun i j b h1 h2 => by
  simp only [Gh.back]
  rw [h2]
  exact h1
 inf := fun j i r h1 h2 => back_inf hn hm hk j i r h1 h2
 top := fun i j b h1 h2 => by simp only [Gh.back]; rw [h2]
theorem back_far (hi : Inv G w) (hm : ∀ x ∈ rf, x < m) {id : Nat} (hid : id ∉ rf) (hlt : id < m) (X : Ext ids (G.callee w rf fs) w Gc w') (b : Nat) : ((G.back Gc w rf fz m k).own b = some id ↔ G.own b = some id) ∧ (G.own b = some id → w'.heap[b]? = w.heap[b]?) := by
 have hcn : G.own b = some id → (G.callee w rf fs).own b = none := fun h0 => by
  show (G.own b).bind (idx rf) = none
  rw [h0, Option.bind_some]
  cases hx : idx rf id with
  | none => rfl
  | some j => exact absurd (List.mem_of_getElem? (idx_some hx)) hid
 refine ⟨⟨fun h1 => ?_, fun h0 => ?_⟩, fun h0 => (X.nn b (hi.own b id h0) (hcn h0)).2⟩
 ·simp only [Gh.back] at h1
  cases hc : Gc.own b with
  | some j =>
   rw [hc] at h1
   simp only [backId] at h1
   cases hj : rf[j]? with
   | some i =>
    rw [hj] at h1
    injection h1 with h1
    subst h1
    exact absurd (List.mem_of_getElem? hj) hid
   | none =>
    rw [hj] at h1
    injection h1 with h1
    omega
  | none =>
   rw [hc] at h1
   simp only at h1
   split at h1
   ·exact h1
   ·cases h1
 ·have hb := hi.own b id h0
  simp only [Gh.back]
  rw [(X.nn b hb (hcn h0)).1]
  simp only
  rw [if_pos ⟨hb, hcn h0⟩]
  exact h0
theorem noRow_cells {G1 G2 : Gh} {w1 w2 : World} {μ : Nat → Option Nat} {D : PV → Bool} (hD : ∀ c v, D c = true → Reps G1 w1 c v → Reps G2 w2 (renP μ c) v) : ∀ (l : List PV) (vs : List Value), l.all D = true → RepsL G1 w1 l vs → RepsL G2 w2 (renL μ l) vs
 | [], vs, _, h => by simpa only [renL, RepsL] using h
 | p :: r, vs, hb, h => by
  simp only [List.all_cons, Bool.and_eq_true] at hb
  simp only [renL, RepsL] at h ⊢
  obtain ⟨v, vs', h1, h2, h3⟩ := h
  exact ⟨v, vs', h1, hD p v hb.1 h2, noRow_cells hD r vs' hb.2 h3⟩
theorem noRow_v {G1 G2 : Gh} {w1 w2 : World} {μ : Nat → Option Nat} : ∀ (c : PV) (v : Value), noRow1 c = true → Reps G1 w1 c v → Reps G2 w2 (renP μ c) v
 | .v (.b x), v, _, h => by simpa only [renP, Reps, RepC] using h
 | .v (.i k x), v, _, h => by simpa only [renP, Reps, RepC] using h
 | .v (.s x), v, _, h => by simpa only [renP, Reps, RepC] using h
theorem noRow_2 {G1 G2 : Gh} {w1 w2 : World} {μ : Nat → Option Nat} (c : PV) (v : Value) (hb : noRow2 c = true) (h : Reps G1 w1 c v) : Reps G2 w2 (renP μ c) v := by
 cases c with
 | agg cs =>
  simp only [Reps] at h
  obtain ⟨vs, h1, h2⟩ := h
  simp only [renP, Reps]
  exact ⟨vs, h1, noRow_cells noRow_v cs _ hb h2⟩
 | _ => exact noRow_v _ v hb h
theorem noRow_rep {G1 G2 : Gh} {w1 w2 : World} {μ : Nat → Option Nat} {r : PV} {v : Value} (hb : hasNoRow r = true) (h : Reps G1 w1 r v) : Reps G2 w2 (renP μ r) v := by
 cases r with
 | tup cs =>
  simp only [Reps] at h
  obtain ⟨vs, h1, h2⟩ := h
  simp only [renP, Reps]
  exact ⟨vs, h1, noRow_cells noRow_2 cs _ hb h2⟩
 | _ => exact noRow_2 _ v hb h
end
theorem arrs_at {h : List Blk} : ∀ {l : List Nat} {id sz ty ty2 : Nat} {els : List (List CV)}, arrs h l = true → id ∈ l → nthB h id = some (.tree sz ty ty2 els) → False
 | [], _, _, _, _, _, _, hid, _ => by cases hid
 | x :: r, id, sz, ty, ty2, els, ha, hid, hb => by
  unfold arrs at ha
  rcases List.mem_cons.1 hid with rfl | hid
  ·rw [hb] at ha
   cases ha
  ·split at ha
   ·exact arrs_at ha hid hb
   ·cases ha
theorem goX_ok {E : Env} {h : List Blk} {K : Kont} {f : FuncId} {args : List PV} {rf : List Nat} (hk : aGoX E h f args rf K) : ∃ q h' rd wr, K q h' rd wr ∧ Keeps h h' wr ∧ len h ≤ len h' ∧ (∀ (as_ : Array Value) (w : World), (callFunc f as_).run E.P w = .ok (.enter f as_) w) ∧
  ∀ (G : Gh) (w : World) (vals : Array Value), Inv G w → RepsL G w args vals.toList → (∀ id, id ∈ rd ∨ id ∈ wr → RelB G w id (nthB h id)) →
   Calls E.P f vals w fun e w' => ∃ v G', e = .returned v ∧ Ext wr G w G' w' ∧ Reps G' w' q v ∧ ∀ id ∈ wr, RelB G' w' id (nthB h' id) := by
 unfold aGoX at hk
 rw [backL_eq] at hk
 split at hk
 ·exact hk.elim
 rename_i bin hp
 cases hnu : (nodup rf && unfz bin) with
 | false => rw [hnu] at hk; exact hk.elim
 | true =>
 rw [hnu, cond_true] at hk
 rw [Bool.and_eq_true] at hnu
 obtain ⟨hn, hu⟩ := hnu
 obtain ⟨as_, fs, ⟨r, bl, hS, hk⟩, hfs, hpass⟩ := passA_ok hk
 generalize hfz : cond (hasNoRow r && Nat.beq (len bl) 0) [] fs = fz at hk
 dsimp only at hk
 cases hcl : ((fz.all fun x => !(rf.contains x)) && Nat.ble (len rf) (len bl) && arrs h fz) with
 | false => rw [hcl] at hk; exact hk.elim
 | true =>
 rw [hcl, cond_true] at hk
 rw [Bool.and_eq_true, Bool.and_eq_true] at hcl
 obtain ⟨⟨hck, hlen⟩, harr⟩ := hcl
 replace hlen := Nat.le_of_ble_eq_true hlen
 rw [len_eq, len_eq] at hlen
 have hm : ∀ x ∈ rf, x < len h := fun x hx => by
  obtain ⟨j, hj⟩ := idx_mem hx
  obtain ⟨B, h1, _⟩ := pickB_at hp (idx_some hj)
  exact nthB_lt h1
 have hfr : ∀ x ∈ fz, x ∉ rf := fun x hx => by
  have := List.all_eq_true.1 hck x hx
  simpa using this
 have hsub : fz = fs ∨ (fz = [] ∧ hasNoRow r = true ∧ bl = []) := by
  cases hb : (hasNoRow r && Nat.beq (len bl) 0) with
  | false => rw [hb] at hfz; exact .inl hfz.symm
  | true =>
   rw [hb] at hfz
   rw [Bool.and_eq_true] at hb
   have := Nat.eq_of_beq_eq_true hb.2
   rw [len_eq] at this
   exact .inr ⟨hfz.symm, hb.1, List.eq_nil_of_length_eq_zero this⟩
 have hfzs : ∀ x ∈ fz, x ∈ fs := fun x hx => by
  rcases hsub with e | ⟨e, _⟩
  ·rw [← e]; exact hx
  ·rw [e] at hx; cases hx
 have hlenh : (putBs (frz fz h) (backId rf (len h)) rf bl).length = (frz fz h).length + (bl.length - rf.length) := putBs_len _ _ _ _ hlen
 have hfl : (frz fz h).length = h.length := by have := len_frz fz h; rw [len_eq, len_eq] at this; exact this
 have hfslt : ∀ x ∈ fs, x < len h := fun x hx => by
  have a := (hfs x hx).2
  cases hb : nthB h x with
  | none => rw [hb] at a; exact a.elim
  | some B => exact nthB_lt hb
 refine ⟨_, _, _, _, hk, fun x hx => ?_, by rw [len_eq (putBs _ _ _ _), hlenh, hfl, ← len_eq]; omega, hS.1, fun G w vals hi hargs hrel => ?_⟩
 ·simp only [List.mem_append, not_or, mem_range', len_eq] at hx
  rcases Nat.lt_or_ge x h.length with hlt | hge
  ·rw [putBs_out _ _ _ _ x hlen hx.1.1 (by rw [hfl]; exact hlt), nthB_frz, if_neg hx.1.2]
  ·rw [nthB_ge h x (by rw [len_eq]; exact hge), nthB_ge]
   rw [len_eq, hlenh, hfl]
   omega
 have hrr : ∀ id ∈ rf, RelB G w id (nthB h id) := fun id hid => hrel id (.inr (by simp [hid]))
 have hff : ∀ id ∈ rf, ∀ sz n, G.inf id ≠ some (sz, n, true) := fun id hid sz n e => by
  obtain ⟨j, hj⟩ := idx_mem hid
  obtain ⟨B, h1, h2⟩ := pickB_at hp (idx_some hj)
  have r := hrr id hid
  rw [h1] at r
  cases B with
  | box ty cs => rw [r.1] at e; cases e
  | tree sz' ty ty2 els => rw [r.1] at e; cases e
  | junk =>
   obtain ⟨sz', n', r⟩ := r
   rw [r] at e
   cases e
  | arr sz' ty fz' els =>
   rw [r.1] at e
   injection e with e
   injection e with _ e
   injection e with _ e
   subst e
   exact unfz_at hu h2
 have hfrel : ∀ id ∈ fs, RelB G w id (nthB h id) := fun id hid => hrel id (.inl hid)
 have hnew : ∀ i, len h ≤ i → i < len h + (len bl - len rf) → G.inf i = none ∧ ∀ b, G.own b ≠ some i := fun i h1 h2 => by
  have := hrel i (.inr (by simp only [List.mem_append, mem_range']; right; exact ⟨h1, h2⟩))
  rw [nthB_ge h i h1] at this
  exact this
 have hlive : ∀ x ∈ fs, ∃ r, G.inf x = some r := fun x hx => by
  have a := (hfs x hx).2
  have r := hfrel x hx
  cases hb : nthB h x with
  | none => rw [hb] at a; exact a.elim
  | some B =>
   rw [hb] at a r
   cases B with
   | box _ _ => exact a.elim
   | junk => exact a.elim
   | tree _ _ _ _ => exact ⟨_, r.1⟩
   | arr _ _ _ _ => exact ⟨_, r.1⟩
 have ha := hpass G w vals.toList fs hi hff hargs hfrel (fun id hid => hid)
 refine (hS.2 (G.callee w rf fs) w vals (callee_inv hi) ha (callee_rel hi hff hn hp hrr)).mono ?_
 rintro e w' ⟨v, Gc, ids, rfl, X, hv, hbl⟩
 have hkk : len bl - len rf = bl.length - rf.length := by rw [len_eq, len_eq]
 have hnone : ∀ j, rf.length + (len bl - len rf) ≤ j → Gc.inf j = none ∧ ∀ b, Gc.own b ≠ some j := fun j hj => by
  have := hbl j
  rw [nthB_ge bl j (by rw [len_eq]; omega)] at this
  exact this
 have XX := back_ext (fz := fz) (fs := fs) hi hn hm hff hfr hnew (fun j hj => (hnone j hj).2) X
 refine ⟨v, G.back Gc w rf fz (len h) (len bl - len rf), rfl, XX, ?_, ?_⟩
 ·rcases hsub with e | ⟨_, e, _⟩
  ·refine Reps.ren (back_ren hi hff hn hm hfr (fun x hx => (hfs x hx).1) (fun x hx => ?_) hlive (fun j hj => (hnone j hj).1) X XX (fun x hx => by rw [e]; exact hx)) r v hv
   have := hfslt x hx
   omega
  ·exact noRow_rep e hv
 ·intro id hid
  rcases hsub with e | ⟨e1, _, e2⟩
  ·have RR := back_ren hi hff hn hm hfr (fun x hx => (hfs x hx).1) (fun x hx => by have := hfslt x hx; omega) hlive (fun j hj => (hnone j hj).1) X XX (fun x hx => by rw [e]; exact hx)
   simp only [List.mem_append, mem_range'] at hid
   rcases hid with (hid | hid) | hid
   ·obtain ⟨j, hj⟩ := idx_mem hid
    have hj' := idx_some hj
    have hjl : j < bl.length := by have := (List.getElem?_eq_some_iff.1 hj').1; omega
    have hB : nthB bl j = some bl[j] := by rw [nthB_eq]; simp [hjl]
    rw [putBs_ref _ rf _ bl j id bl[j] hlen hn (fun x hx => by rw [hfl, ← len_eq]; exact hm x hx) hj' hB]
    have r := hbl j
    rw [hB] at r
    refine RelB.ren RR (by unfold backId; rw [hj']) (fun b hb => ?_) r
    simp only [Gh.back] at hb
    cases hc : Gc.own b with
    | some j' =>
     rw [hc] at hb
     simp only [backId] at hb
     cases hj2 : rf[j']? with
     | some i' =>
      rw [hj2] at hb
      injection hb with hb
      subst hb
      have := idx_of hn hj2
      rw [hj] at this
      injection this with this
      rw [this]
     | none =>
      rw [hj2] at hb
      injection hb with hb
      have := hm id hid
      omega
    | none =>
     rw [hc] at hb
     simp only at hb
     split at hb
     ·rename_i hx
      rw [hb, Option.bind_some, hj] at hx
      cases hx.2
     ·cases hb
   ·have hlt := hfslt id (hfzs id hid)
    have hnr := hfr id hid
    rw [putBs_out _ _ _ _ id hlen hnr (by rw [hfl, ← len_eq]; exact hlt), nthB_frz, if_pos hid]
    have r := hfrel id (hfzs id hid)
    have a := (hfs id (hfzs id hid)).2
    cases hb : nthB h id with
    | none => rw [hb] at a; exact a.elim
    | some B =>
     rw [hb] at a r
     cases B with
     | box _ _ => exact a.elim
     | junk => exact a.elim
     | tree sz ty ty2 els => exact absurd (arrs_at harr hid hb) (fun q => q)
     | arr sz ty fz0 els =>
      obtain ⟨r1, r2, r3, r4⟩ := r
      have far := fun b => back_far (fz := fz) (k := len bl - len rf) hi hm hnr hlt X b
      have hno : idx rf id = none := by
       cases hx : idx rf id with
       | none => rfl
       | some j => exact absurd (List.mem_of_getElem? (idx_some hx)) hnr
      refine ⟨?_, r2, fun b b' e e' => r3 b b' ((far b).1.1 e) ((far b').1.1 e'), ?_⟩
      ·simp only [Gh.back]
       rw [hno]
       simp only
       rw [if_neg (by omega), if_pos hid, r1]
       rfl
      ·rcases r4 with ⟨a1, a2⟩ | ⟨b, cs, a1, a2, a3, a4⟩
       ·exact .inl ⟨a1, fun b e => a2 b ((far b).1.1 e)⟩
       ·have hcn : Gc.own b = none := by
         refine (X.nn b (hi.own b id a1.1) ?_).1
         simp only [Gh.callee]
         rw [a1.1, Option.bind_some]
         exact hno
        exact .inr ⟨b, cs, ⟨(far b).1.2 a1.1, by simp only [Gh.back]; rw [hcn]; exact a1.2⟩, ((far b).2 a1.1).trans a2, a3, RepE.mono (imm_old XX hi) sz els _ a4⟩
   ·have hB : ∃ B, nthB bl (rf.length + (id - (frz fz h).length)) = some B := by
     rw [nthB_eq, hfl]
     rw [len_eq] at hid
     exact ⟨bl[rf.length + (id - h.length)]'(by omega), by simp⟩
    obtain ⟨B, hB⟩ := hB
    rw [putBs_new _ rf _ bl id B hlen (by rw [hfl, ← len_eq]; exact hid.1) hB]
    have r := hbl (rf.length + (id - (frz fz h).length))
    rw [hB] at r
    rw [hfl] at r
    refine RelB.ren RR ?_ (fun b hb => ?_) r
    ·unfold backId
     rw [List.getElem?_eq_none (by omega), len_eq, len_eq]
     rw [len_eq] at hid
     simp only
     congr 1
     omega
    ·simp only [Gh.back] at hb
     cases hc : Gc.own b with
     | some j' =>
      rw [hc] at hb
      simp only [backId] at hb
      cases hj2 : rf[j']? with
      | some i' =>
       rw [hj2] at hb
       injection hb with hb
       subst hb
       have := hm i' (List.mem_of_getElem? hj2)
       omega
      | none =>
       rw [hj2] at hb
       injection hb with hb
       have hge : rf.length ≤ j' := List.getElem?_eq_none_iff.1 hj2
       rw [len_eq, len_eq] at hb
       congr 1
       omega
     | none =>
      rw [hc] at hb
      simp only at hb
      split at hb
      ·exact absurd hb ((hnew id hid.1 hid.2).2 b)
      ·cases hb
  ·subst e2
   simp only [List.length_nil, Nat.le_zero_eq] at hlen
   have : rf = [] := List.eq_nil_of_length_eq_zero hlen
   rw [this, e1] at hid
   simp [range', len] at hid
structure RenC (m : Nat → Option Nat) (G G' : Gh) : Prop where
 own : ∀ i j b, m i = some j → G.own b = some i → G'.own b = some j
 inf : ∀ i j r, m i = some j → G.inf i = some r → G'.inf j = some r
 top : ∀ i j b, m i = some j → G.own b = some i → (G'.top b ↔ G.top b)
section
variable {m : Nat → Option Nat} {G G' : Gh} {w : World}
theorem RenC.ownV (h : RenC m G G') {i j n : Nat} {v : Value} (hm : m i = some j) (r : OwnV G w i n v) : OwnV G' w j n v := by
 obtain ⟨sz, k, f, h1, h2, h3, h4⟩ := r
 refine ⟨sz, k, f, h.inf i j _ hm h1, h2, h3, ?_⟩
 rcases h4 with h4 | ⟨h4, h5 | ⟨b, c, cs, ty, h6, h7, h8⟩⟩
 ·exact .inl h4
 ·exact .inr ⟨h4, .inl h5⟩
 ·exact .inr ⟨h4, .inr ⟨b, c, cs, ty, h6, ⟨h.own i j b hm h7.1, (h.top i j b hm h7.1).2 h7.2⟩, h8⟩⟩
theorem RenC.eptrV (h : RenC m G G') {i j n e o : Nat} {v : Value} (hm : m i = some j) (r : EptrV G w i n e o v) : EptrV G' w j n e o v := by
 obtain ⟨sz, k, f, h1, h3, h4⟩ := r
 refine ⟨sz, k, f, h.inf i j _ hm h1, h3, ?_⟩
 rcases h4 with h4 | ⟨h4, b, h6, h7⟩
 ·exact .inl h4
 ·exact .inr ⟨h4, b, h6, h.own i j b hm h7.1, (h.top i j b hm h7.1).2 h7.2⟩
mutual
theorem Reps.renC (h : RenC m G G') : ∀ (p : PV) (v : Value), cleanP p = true → Reps G w p v → Reps G' w (renP m p) v
 | .v c, v, hc, r => by
  cases c with
  | row l => simp [cleanP] at hc
  | _ => simpa only [renP, Reps, RepC] using r
 | .nil, v, _, r => by simpa only [renP, Reps] using r
 | .own i n, v, _, r => by
  simp only [Reps] at r
  simp only [renP]
  cases hm : m i with
  | none => simp only [Reps]
  | some j => simp only [Reps]; exact h.ownV hm r
 | .ptr i o, v, _, r => by
  simp only [Reps] at r
  simp only [renP]
  cases hm : m i with
  | none => simp only [Reps]
  | some j => simp only [Reps]; exact h.eptrV hm r
 | .eptr i n e o, v, _, r => by
  simp only [Reps] at r
  simp only [renP]
  cases hm : m i with
  | none => simp only [Reps]
  | some j => simp only [Reps]; exact h.eptrV hm r
 | .rptr cs, v, hc, r => by simp [cleanP] at hc
 | .agg cs, v, hc, r => by
  simp only [cleanP] at hc
  simp only [renP, Reps] at r ⊢
  obtain ⟨vs, h1, h2⟩ := r
  exact ⟨vs, h1, RepsL.renC h cs _ hc h2⟩
 | .tup cs, v, hc, r => by
  simp only [cleanP] at hc
  simp only [renP, Reps] at r ⊢
  obtain ⟨vs, h1, h2⟩ := r
  exact ⟨vs, h1, RepsL.renC h cs _ hc h2⟩
 | .un, v, _, r => by simp only [renP, Reps]
theorem RepsL.renC (h : RenC m G G') : ∀ (l : List PV) (vs : List Value), cleanL l = true → RepsL G w l vs → RepsL G' w (renL m l) vs
 | [], vs, _, r => by simpa only [renL, RepsL] using r
 | p :: ps, vs, hc, r => by
  simp only [cleanL, Bool.and_eq_true] at hc
  simp only [renL, RepsL] at r ⊢
  obtain ⟨v, vs', h1, h2, h3⟩ := r
  exact ⟨v, vs', h1, Reps.renC h p v hc.1 h2, RepsL.renC h ps vs' hc.2 h3⟩
end
def CleanB : Blk → Prop
 | .arr _ _ _ els => Flat els
 | .box _ cs => cleanL cs = true
 | _ => True
theorem cleanB_ok : ∀ {bl : List Blk} {K : Prop}, cleanB bl K → (∀ B ∈ bl, CleanB B) ∧ K
 | [], K, h => ⟨(fun B hB => by cases hB), h⟩
 | .arr _ _ _ els :: r, K, h => by
  simp only [cleanB] at h
  obtain ⟨h1, h⟩ := h
  obtain ⟨a, b⟩ := cleanB_ok h
  refine ⟨fun B hB => ?_, b⟩
  rcases List.mem_cons.1 hB with rfl | hB
  ·exact h1
  ·exact a B hB
 | .box _ cs :: r, K, h => by
  simp only [cleanB] at h
  cases hc : cleanL cs with
  | false => rw [hc] at h; exact h.elim
  | true =>
   rw [hc, cond_true] at h
   obtain ⟨a, b⟩ := cleanB_ok h
   refine ⟨fun B hB => ?_, b⟩
   rcases List.mem_cons.1 hB with rfl | hB
   ·exact hc
   ·exact a B hB
 | .tree _ _ _ _ :: r, K, h => by
  simp only [cleanB] at h
  obtain ⟨a, b⟩ := cleanB_ok h
  refine ⟨fun B hB => ?_, b⟩
  rcases List.mem_cons.1 hB with rfl | hB
  ·trivial
  ·exact a B hB
 | .junk :: r, K, h => by
  simp only [cleanB] at h
  obtain ⟨a, b⟩ := cleanB_ok h
  refine ⟨fun B hB => ?_, b⟩
  rcases List.mem_cons.1 hB with rfl | hB
  ·trivial
  ·exact a B hB
theorem RelB.renC (h : RenC m G G') {i j : Nat} (hm : m i = some j) (hinj : ∀ b, G'.own b = some j → G.own b = some i) : ∀ {B : Blk}, CleanB B → RelB G w i (some B) → RelB G' w j (some (renB m B))
 | .arr sz ty fz els, hc, r => by
  obtain ⟨r1, r2, r3, r4⟩ := r
  refine ⟨h.inf i j _ hm r1, r2, fun b b' e e' => r3 b b' (hinj b e) (hinj b' e'), ?_⟩
  rcases r4 with ⟨a, b⟩ | ⟨b, cs, a1, a2, a3, a4⟩
  ·exact .inl ⟨a, fun x e => b x (hinj x e)⟩
  ·exact .inr ⟨b, cs, ⟨h.own i j b hm a1.1, (h.top i j b hm a1.1).2 a1.2⟩, a2, a3, flat_rep hc a4⟩
 | .box ty cs, hc, r => by
  obtain ⟨r1, r2, b, vs, a1, a2, a3, a4⟩ := r
  refine ⟨by rw [renL_length]; exact h.inf i j _ hm r1, fun b b' e e' => r2 b b' (hinj b e) (hinj b' e'), b, vs, ⟨h.own i j b hm a1.1, (h.top i j b hm a1.1).2 a1.2⟩, a2, a3, RepsL.renC h cs _ hc a4⟩
 | .tree sz ty ty2 els, _, r => by
  obtain ⟨r1, r2, r3, r4⟩ := r
  have up : ∀ b, G'.own b = some j → G'.top b → G.own b = some i ∧ G.top b := fun b e1 e2 => by
   have := hinj b e1
   exact ⟨this, (h.top i j b hm this).1 e2⟩
  refine ⟨h.inf i j _ hm r1, r2, fun b b' e1 e2 e3 e4 => r3 b b' (up b e1 e2).1 (up b e1 e2).2 (up b' e3 e4).1 (up b' e3 e4).2, ?_⟩
  rcases r4 with ⟨a, b⟩ | ⟨b, cs, a1, a2, a3, a0, a4, a5⟩
  ·exact .inl ⟨a, fun x e1 e2 => b x (up x e1 e2).1 (up x e1 e2).2⟩
  ·refine .inr ⟨b, cs, ⟨h.own i j b hm a1.1, (h.top i j b hm a1.1).2 a1.2⟩, a2, a3, a0, TrP.mono (fun l v q => ?_) a4, a5⟩
   rcases q with q | ⟨b', c, cs', h1, h2, h3, h4⟩
   ·exact .inl q
   ·exact .inr ⟨b', c, cs', h1, h.own i j b' hm h2, fun ht => h3 ((h.top i j b' hm h2).1 ht), h4⟩
 | .junk, _, r => by
  obtain ⟨sz, n, r⟩ := r
  exact ⟨sz, n, h.inf i j _ hm r⟩
end
theorem goL_ok {E : Env} {h : List Blk} {K : Kont} {f : FuncId} {args : List PV} {rf : List Nat} (hk : aGoL E h f args rf K) : ∃ q h' rd wr, K q h' rd wr ∧ Keeps h h' wr ∧ len h ≤ len h' ∧ (∀ (as_ : Array Value) (w : World), (callFunc f as_).run E.P w = .ok (.enter f as_) w) ∧
  ∀ (G : Gh) (w : World) (vals : Array Value), Inv G w → RepsL G w args vals.toList → (∀ id, id ∈ rd ∨ id ∈ wr → RelB G w id (nthB h id)) →
   Calls E.P f vals w fun e w' => ∃ v G', e = .returned v ∧ Ext wr G w G' w' ∧ Reps G' w' q v ∧ ∀ id ∈ wr, RelB G' w' id (nthB h' id) := by
 unfold aGoL at hk
 rw [backL_eq] at hk
 split at hk
 ·exact hk.elim
 rename_i bin hp
 cases hnu : (nodup rf && unfz bin) with
 | false => rw [hnu] at hk; exact hk.elim
 | true =>
 rw [hnu, cond_true] at hk
 rw [Bool.and_eq_true] at hnu
 obtain ⟨hn, hu⟩ := hnu
 obtain ⟨as_, fs, ⟨r, bl, hS, hk⟩, hfs, hpass⟩ := passA_ok hk
 cases hcl : (cleanP r && Nat.ble (len rf) (len bl)) with
 | false => rw [hcl] at hk; exact hk.elim
 | true =>
 rw [hcl, cond_true] at hk
 rw [Bool.and_eq_true] at hcl
 obtain ⟨hclean, hlen⟩ := hcl
 replace hlen := Nat.le_of_ble_eq_true hlen
 rw [len_eq, len_eq] at hlen
 obtain ⟨hcb, hk⟩ := cleanB_ok hk
 have hm : ∀ x ∈ rf, x < len h := fun x hx => by
  obtain ⟨j, hj⟩ := idx_mem hx
  obtain ⟨B, h1, _⟩ := pickB_at hp (idx_some hj)
  exact nthB_lt h1
 have hlenh : (putBs h (backId rf (len h)) rf bl).length = h.length + (bl.length - rf.length) := putBs_len _ _ _ _ hlen
 refine ⟨_, _, _, _, hk, fun x hx => ?_, by rw [len_eq (putBs _ _ _ _), hlenh, len_eq]; omega, hS.1, fun G w vals hi hargs hrel => ?_⟩
 ·simp only [List.mem_append, not_or, mem_range', len_eq] at hx
  rcases Nat.lt_or_ge x h.length with hlt | hge
  ·rw [putBs_out _ _ _ _ x hlen hx.1 hlt]
  ·rw [nthB_ge h x (by rw [len_eq]; exact hge), nthB_ge]
   rw [len_eq, hlenh]
   omega
 have hrr : ∀ id ∈ rf, RelB G w id (nthB h id) := fun id hid => hrel id (.inr (by simp [hid]))
 have hff : ∀ id ∈ rf, ∀ sz n, G.inf id ≠ some (sz, n, true) := fun id hid sz n e => by
  obtain ⟨j, hj⟩ := idx_mem hid
  obtain ⟨B, h1, h2⟩ := pickB_at hp (idx_some hj)
  have r := hrr id hid
  rw [h1] at r
  cases B with
  | box ty cs => rw [r.1] at e; cases e
  | tree sz' ty ty2 els => rw [r.1] at e; cases e
  | junk =>
   obtain ⟨sz', n', r⟩ := r
   rw [r] at e
   cases e
  | arr sz' ty fz' els =>
   rw [r.1] at e
   injection e with e
   injection e with _ e
   injection e with _ e
   subst e
   exact unfz_at hu h2
 have hfrel : ∀ id ∈ fs, RelB G w id (nthB h id) := fun id hid => hrel id (.inl hid)
 have hnew : ∀ i, len h ≤ i → i < len h + (len bl - len rf) → G.inf i = none ∧ ∀ b, G.own b ≠ some i := fun i h1 h2 => by
  have := hrel i (.inr (by simp only [List.mem_append, mem_range']; right; exact ⟨h1, h2⟩))
  rw [nthB_ge h i h1] at this
  exact this
 have ha := hpass G w vals.toList fs hi hff hargs hfrel (fun id hid => hid)
 refine (hS.2 (G.callee w rf fs) w vals (callee_inv hi) ha (callee_rel hi hff hn hp hrr)).mono ?_
 rintro e w' ⟨v, Gc, ids, rfl, X, hv, hbl⟩
 have hkk : len bl - len rf = bl.length - rf.length := by rw [len_eq, len_eq]
 have hnone : ∀ j, rf.length + (len bl - len rf) ≤ j → Gc.inf j = none ∧ ∀ b, Gc.own b ≠ some j := fun j hj => by
  have := hbl j
  rw [nthB_ge bl j (by rw [len_eq]; omega)] at this
  exact this
 have XX := (back_ext (fz := []) (fs := fs) hi hn hm hff (fun x hx => by cases hx) hnew (fun j hj => (hnone j hj).2) X).mono (ids2 := rf ++ range' (len h) (len bl - len rf)) (fun x hx => by simpa using hx)
 have RR : RenC (backId rf (len h)) Gc (G.back Gc w rf [] (len h) (len bl - len rf)) :=
  {own := fun i j b h1 h2 => by simp only [Gh.back]; rw [h2]; exact h1
   inf := fun j i r h1 h2 => back_inf hn hm (fun j hj => (hnone j hj).1) j i r h1 h2
   top := fun i j b h1 h2 => by simp only [Gh.back]; rw [h2] }
 refine ⟨v, G.back Gc w rf [] (len h) (len bl - len rf), rfl, XX, Reps.renC RR r v hclean hv, fun id hid => ?_⟩
 simp only [List.mem_append, mem_range'] at hid
 rcases hid with hid | hid
 ·obtain ⟨j, hj⟩ := idx_mem hid
  have hj' := idx_some hj
  have hjl : j < bl.length := by have := (List.getElem?_eq_some_iff.1 hj').1; omega
  have hB : nthB bl j = some bl[j] := by rw [nthB_eq]; simp [hjl]
  rw [putBs_ref _ rf _ bl j id bl[j] hlen hn (fun x hx => by rw [← len_eq]; exact hm x hx) hj' hB]
  have r := hbl j
  rw [hB] at r
  refine RelB.renC RR (by unfold backId; rw [hj']) (fun b hb => ?_) (hcb _ (List.getElem_mem hjl)) r
  simp only [Gh.back] at hb
  cases hc : Gc.own b with
  | some j' =>
   rw [hc] at hb
   simp only [backId] at hb
   cases hj2 : rf[j']? with
   | some i' =>
    rw [hj2] at hb
    injection hb with hb
    subst hb
    have := idx_of hn hj2
    rw [hj] at this
    injection this with this
    rw [this]
   | none =>
    rw [hj2] at hb
    injection hb with hb
    have := hm id hid
    omega
  | none =>
   rw [hc] at hb
   simp only at hb
   split at hb
   ·rename_i hx
    rw [hb, Option.bind_some, hj] at hx
    cases hx.2
   ·cases hb
 ·have hlt : rf.length + (id - h.length) < bl.length := by rw [len_eq] at hid; omega
  have hB : nthB bl (rf.length + (id - h.length)) = some bl[rf.length + (id - h.length)] := by rw [nthB_eq]; simp [hlt]
  rw [putBs_new _ rf _ bl id bl[rf.length + (id - h.length)] hlen (by rw [← len_eq]; exact hid.1) hB]
  have r := hbl (rf.length + (id - h.length))
  rw [hB] at r
  refine RelB.renC RR ?_ (fun b hb => ?_) (hcb _ (List.getElem_mem hlt)) r
  ·unfold backId
   rw [List.getElem?_eq_none (by omega), len_eq, len_eq]
   rw [len_eq] at hid
   simp only
   congr 1
   omega
  ·simp only [Gh.back] at hb
   cases hc : Gc.own b with
   | some j' =>
    rw [hc] at hb
    simp only [backId] at hb
    cases hj2 : rf[j']? with
    | some i' =>
     rw [hj2] at hb
     injection hb with hb
     subst hb
     have := hm i' (List.mem_of_getElem? hj2)
     omega
    | none =>
     rw [hj2] at hb
     injection hb with hb
     have hge : rf.length ≤ j' := List.getElem?_eq_none_iff.1 hj2
     rw [len_eq, len_eq] at hb
     congr 1
     omega
   | none =>
    rw [hc] at hb
    simp only at hb
    split at hb
    ·exact absurd hb ((hnew id hid.1 hid.2).2 b)
    ·cases hb
theorem go_ok {E : Env} {h : List Blk} {K : Kont} {f : FuncId} {args : List PV} (hk : aGo E h f args K) : ∃ q h' rd wr, K q h' rd wr ∧ Keeps h h' wr ∧ len h ≤ len h' ∧ (∀ (as_ : Array Value) (w : World), (callFunc f as_).run E.P w = .ok (.enter f as_) w) ∧
  ∀ (G : Gh) (w : World) (vals : Array Value), Inv G w → RepsL G w args vals.toList → (∀ id, id ∈ rd ∨ id ∈ wr → RelB G w id (nthB h id)) →
   Calls E.P f vals w fun e w' => ∃ v G', e = .returned v ∧ Ext wr G w G' w' ∧ Reps G' w' q v ∧ ∀ id ∈ wr, RelB G' w' id (nthB h' id) := by
 cases hk with
 | a h => exact goX_ok h
 | b h => exact goX_ok h
 | c h => exact goL_ok h
end Go.Proofs.YthkepmicdpgbbaaGreatDoor.E

namespace Go.Proofs.YthkepmicdpgbbaaGreatDoor.E
open Go Go.RowKit Go.Proofs.YthkepmicdpgbbaaGreatDoorW.PrintWords
set_option linter.unusedVariables false
set_option linter.unusedSimpArgs false
def OpOk (P : Program) (o : Oper) (s : List PV) (h : List Blk) (q : PV) (h' : List Blk) (rd wr : List Nat) : Prop :=
 ∀ (G : Gh) (a : Act) (w : World), Inv G w → (∀ x ∈ o.op.operands, Reps G w (ev s x) (a.eval x)) → (∀ id, id ∈ rd ∨ id ∈ wr → RelB G w id (nthB h id)) →
  ∀ (J : Act → World → Prop) (Q : Exit → Act → World → Prop), (∀ v G' w', Ext wr G w G' w' → Reps G' w' q v → (∀ id ∈ wr, RelB G' w' id (nthB h' id)) → J (a.put o.dst v) w') → o.wp P a w J Q
def OpRes (P : Program) (h : List Blk) (s : List PV) (o : Oper) (K : Kont) : Prop :=
 ∃ q h' rd wr, K q h' rd wr ∧ Keeps h h' wr ∧ len h ≤ len h' ∧ OpOk P o s h q h' rd wr
section
variable {E : Env} {h : List Blk} {s : List PV} {o : Oper} {K : Kont}
theorem op_of_step {P : Program} {S : Gh → World → Sem Value → Prop} (hst : Step P h S K) (hS : ∀ (G : Gh) (a : Act) (w : World), Inv G w → (∀ x ∈ o.op.operands, Reps G w (ev s x) (a.eval x)) →
  ∃ m, S G w m ∧ ∀ u w', m.run P w = .ok u w' → (execOp a.eval o).run P w = .ok (.value u) w' ∨ ((execOp a.eval o).run P w = .ok .skip w' ∧ u = undef)) : OpRes P h s o K := by
 obtain ⟨q, h', rd, wr, hk, h1, h2, h3⟩ := hst
 refine ⟨q, h', rd, wr, hk, h1, h2, fun G a w hi hx hr J Q hJ => ?_⟩
 obtain ⟨m, hm, hrun⟩ := hS G a w hi hx
 obtain ⟨u, w', G', e1, e2, e3, e4⟩ := h3 G w m hi hm hr
 unfold Oper.wp
 rcases hrun u w' e1 with e | ⟨e, rfl⟩
 ·rw [e]
  exact hJ u G' w' e2 e3 e4
 ·rw [e]
  exact hJ undef G' w' e2 e3 e4
theorem run_value {P : Program} {m : Sem Value} {u : Value} {w w' : World} (h : m.run P w = .ok u w') : (do pure (Next.value (← m)) : Sem Next).run P w = .ok (.value u) w' := by
 rw [Sem.run_bind, h]
 rfl
theorem map_reps {G : Gh} {w : World} {a : Act} : ∀ (l : List (Nat × Operand)), (∀ x ∈ l.map (·.2), Reps G w (ev s x) (a.eval x)) → RepsL G w ((l.map fun x => (x.1, ev s x.2)).map (·.2)) ((l.map fun x => (x.1, a.eval x.2)).map (·.2))
 | [], _ => by simp [RepsL]
 | x :: r, hx => by
  simp only [List.map_cons, RepsL]
  exact ⟨_, _, rfl, hx x.2 (by simp), map_reps r (fun y hy => hx y (by simp only [List.map_cons, List.mem_cons]; exact .inr hy))⟩
theorem args_reps {G : Gh} {w : World} {a : Act} : ∀ (l : List Operand), (∀ x ∈ l, Reps G w (ev s x) (a.eval x)) → RepsL G w (l.map (ev s)) (l.map a.eval)
 | [], _ => by simp [RepsL]
 | x :: r, hx => by
  simp only [List.map_cons, RepsL]
  exact ⟨_, _, rfl, hx x (by simp), args_reps r (fun y hy => hx y (by simp [hy]))⟩
theorem opt_reps {G : Gh} {w : World} {a : Act} (x : Option Operand) (hx : ∀ y ∈ x.toList, Reps G w (ev s y) (a.eval y)) : OptRep G w (x.map (ev s)) (x.map a.eval) := by
 cases x with
 | none => trivial
 | some y => exact hx y (by simp)
theorem call_ok {c : Call} (ho : o.op = .call c) (hk : aCall E h s c K) : OpRes E.P h s o K := by
 unfold aCall at hk
 split at hk
 ·rename_i x y t t2 h1 h2 h3
  refine op_of_step (append_ok (ty := o.type) hk) fun G a w hi hx => ⟨_, ⟨_, _, hx x ?_, hx y ?_, rfl⟩, fun u w' hr => .inl ?_⟩
  ·rw [ho]
   have : c.args = #[x, y] := by apply Array.ext'; exact h2
   simp [Op.operands, Call.operands, this]
  ·rw [ho]
   have : c.args = #[x, y] := by apply Array.ext'; exact h2
   simp [Op.operands, Call.operands, this]
  ·have e2 : c.args = #[x, y] := by apply Array.ext'; exact h2
   have e3 : c.argTypes = #[t, t2] := by apply Array.ext'; exact h3
   unfold execOp
   simp [ho, resolve, h1, e2, e3, invoke, builtin, hr]
 ·rename_i x t h1 h2 h3
  refine op_of_step (len_ok (ty := o.type) hk) fun G a w hi hx => ⟨_, ⟨_, hx x ?_, rfl⟩, fun u w' hr => .inl ?_⟩
  ·rw [ho]
   have : c.args = #[x] := by apply Array.ext'; exact h2
   simp [Op.operands, Call.operands, this]
  ·have e2 : c.args = #[x] := by apply Array.ext'; exact h2
   have e3 : c.argTypes = #[t] := by apply Array.ext'; exact h3
   unfold execOp
   simp [ho, resolve, h1, e2, e3, invoke, builtin, hr]
 ·rename_i c1 l1 l2 f h1
  obtain ⟨q, h', rd, wr, hk, g1, g2, g3, g4⟩ := go_ok hk
  refine ⟨q, h', rd, wr, hk, g1, g2, fun G a w hi hx hr J Q hJ => ?_⟩
  have hops : ∀ y ∈ c.args.toList, Reps G w (ev s y) (a.eval y) := fun y hy => hx y (by
   rw [ho]
   simp only [Op.operands, Call.operands, h1]
   simp [Array.mem_toList_iff.1 hy])
  have hrun : (execOp a.eval o).run E.P w = .ok (.enter f (c.args.map a.eval)) w := by
   unfold execOp
   simp [ho, resolve, h1, Deferred.ofValue, invoke, Act.eval, g3]
  unfold Oper.wp
  rw [hrun]
  have hc := g4 G w (c.args.map a.eval) hi (by rw [Array.toList_map]; exact args_reps _ hops) hr
  refine hc.mono ?_
  rintro e w' ⟨v, G', rfl, a1, a2, a3⟩
  exact hJ v G' w' a1 a2 a3
 ·exact hk.elim
theorem op_ok (hk : aOp E h s o.op K) : OpRes E.P h s o K := by
 cases ho : o.op <;> rw [ho] at hk <;> simp only [aOp] at hk
 case move x =>
  refine op_of_step (S := fun G w m => ∃ v, Reps G w (ev s x) v ∧ m = pure v) (Step.pure hk fun G w m hi hm => ?_) fun G a w hi hx => ⟨_, ⟨_, hx x (by rw [ho]; simp [Op.operands]), rfl⟩, fun u w' hr => .inl ?_⟩
  ·obtain ⟨v, hv, rfl⟩ := hm
   exact ⟨v, rfl, hv⟩
  ·unfold execOp
   simp only [ho]
   simp at hr
   simp [hr]
 case assign x =>
  refine op_of_step (S := fun G w m => ∃ v, Reps G w (ev s x) v ∧ m = pure v) (Step.pure hk fun G w m hi hm => ?_) fun G a w hi hx => ⟨_, ⟨_, hx x (by rw [ho]; simp [Op.operands]), rfl⟩, fun u w' hr => .inl ?_⟩
  ·obtain ⟨v, hv, rfl⟩ := hm
   exact ⟨v, rfl, hv⟩
  ·unfold execOp
   simp only [ho]
   simp at hr
   simp [hr]
 case pick c x y =>
  refine op_of_step (pick_ok hk) fun G a w hi hx => ⟨_, ⟨_, _, _, hx c (by rw [ho]; simp [Op.operands]), hx x (by rw [ho]; simp [Op.operands]), hx y (by rw [ho]; simp [Op.operands]), rfl⟩, fun u w' hr => .inl ?_⟩
  unfold execOp
  simp only [ho]
  rw [Sem.run_bind] at hr ⊢
  cases hb : (asBool (a.eval c)).run E.P w with
  | halt x w2 => rw [hb] at hr; cases hr
  | ok b w2 =>
   rw [hb] at hr
   simp only [Result.andThen_ok, Sem.run_pure, Result.ok.injEq] at hr ⊢
   exact ⟨by rw [hr.1], hr.2⟩
 case alloc t => exact op_of_step (alloc_ok hk) fun G a w hi hx => ⟨_, rfl, fun u w' hr => .inl (by unfold execOp; simp only [ho]; exact run_value hr)⟩
 case box t x => exact op_of_step (box_ok hk) fun G a w hi hx => ⟨_, ⟨_, hx x (by rw [ho]; simp [Op.operands]), rfl⟩, fun u w' hr => .inl (by unfold execOp; simp only [ho]; exact run_value hr)⟩
 case build t parts =>
  refine op_of_step (build_ok hk) fun G a w hi hx => ⟨_, ⟨parts.toList.map fun x => (x.1, a.eval x.2), by simp, map_reps _ (fun x hx' => hx x (by rw [ho]; simpa [Op.operands] using hx')), rfl⟩, fun u w' hr => .inl ?_⟩
  unfold execOp
  simp only [ho]
  refine run_value ?_
  rw [← hr]
  congr 2
  apply Array.ext'
  simp
 case buildSlice t n parts =>
  cases hk with
  | a hk =>
   refine op_of_step (buildSlice_ok hk) fun G a w hi hx => ⟨_, ⟨parts.toList.map fun x => (x.1, a.eval x.2), by simp, map_reps _ (fun x hx' => hx x (by rw [ho]; simpa [Op.operands] using hx')), rfl⟩, fun u w' hr => .inl ?_⟩
   unfold execOp
   simp only [ho]
   refine run_value ?_
   rw [← hr]
   congr 2
   apply Array.ext'
   simp
  | b ty2 hk =>
   refine op_of_step (buildTree_ok hk) fun G a w hi hx => ⟨_, ⟨parts.toList.map fun x => (x.1, a.eval x.2), by simp, map_reps _ (fun x hx' => hx x (by rw [ho]; simpa [Op.operands] using hx')), rfl⟩, fun u w' hr => .inl ?_⟩
   unfold execOp
   simp only [ho]
   refine run_value ?_
   rw [← hr]
   congr 2
   apply Array.ext'
   simp
 case load t x => exact op_of_step (load_ok hk) fun G a w hi hx => ⟨_, ⟨_, hx x (by rw [ho]; simp [Op.operands]), rfl⟩, fun u w' hr => .inl (by unfold execOp; simp only [ho]; exact run_value hr)⟩
 case store t x y =>
  refine op_of_step (store_ok hk) fun G a w hi hx => ⟨_, ⟨_, _, hx x (by rw [ho]; simp [Op.operands]), hx y (by rw [ho]; simp [Op.operands]), rfl⟩, fun u w' hr => .inr ?_⟩
  unfold execOp
  simp only [ho]
  rw [Sem.run_bind] at hr ⊢
  cases hb : (Instr.storeAt t (a.eval x) (a.eval y)).run E.P w with
  | halt x w2 => rw [hb] at hr; cases hr
  | ok b w2 =>
   rw [hb] at hr
   simp only [Result.andThen_ok, Sem.run_pure, Result.ok.injEq] at hr ⊢
   exact ⟨⟨trivial, hr.2⟩, hr.1.symm⟩
 case nilCheck x =>
  refine op_of_step (nilCheck_ok hk) fun G a w hi hx => ⟨(match a.eval x with | .pointer (some p) => pure (.pointer (some p)) | _ => stuck "" : Sem Value), ⟨_, hx x (by rw [ho]; simp [Op.operands]), fun p hp => by rw [hp]⟩, fun u w' hr => .inl ?_⟩
  unfold execOp
  simp only [ho]
  cases hv : a.eval x with
  | pointer p =>
   cases p with
   | some p =>
    rw [hv] at hr
    simp only [Sem.run_pure, Result.ok.injEq] at hr ⊢
    exact ⟨by rw [hr.1], hr.2⟩
   | none => rw [hv] at hr; cases hr
  | _ => rw [hv] at hr; cases hr
 case binOp op t x y t2 => exact op_of_step (binT_ok (x := x) (y := y) hk) fun G a w hi hx => ⟨_, ⟨_, _, hx x (by rw [ho]; simp [Op.operands]), hx y (by rw [ho]; simp [Op.operands]), rfl⟩, fun u w' hr => .inl (by unfold execOp; simp only [ho]; exact run_value hr)⟩
 case unOp op t x => exact op_of_step (un_ok hk) fun G a w hi hx => ⟨_, ⟨_, hx x (by rw [ho]; simp [Op.operands]), rfl⟩, fun u w' hr => .inl (by unfold execOp; simp only [ho]; exact run_value hr)⟩
 case convert t u x => exact op_of_step (convert_ok hk) fun G a w hi hx => ⟨_, ⟨_, hx x (by rw [ho]; simp [Op.operands]), rfl⟩, fun u w' hr => .inl (by unfold execOp; simp only [ho]; exact run_value hr)⟩
 case makeSlice t x y =>
  cases hk with
  | b ty2 hk => exact op_of_step (makeTree_ok hk) fun G a w hi hx => ⟨_, ⟨_, _, hx x (by rw [ho]; simp [Op.operands]), hx y (by rw [ho]; simp [Op.operands]), rfl⟩, fun u w' hr => .inl (by unfold execOp; simp only [ho]; exact run_value hr)⟩
  | a hk => exact op_of_step (makeSlice_ok hk) fun G a w hi hx => ⟨_, ⟨_, _, hx x (by rw [ho]; simp [Op.operands]), hx y (by rw [ho]; simp [Op.operands]), rfl⟩, fun u w' hr => .inl (by unfold execOp; simp only [ho]; exact run_value hr)⟩
 case slice t x lo hi mx =>
  cases mx with
  | some _ => exact hk.elim
  | none =>
   simp only [aOp] at hk
   refine op_of_step (slice_ok hk) fun G a w hi' hx => ⟨_, ⟨_, lo.map a.eval, hi.map a.eval, hx x (by rw [ho]; simp [Op.operands]), opt_reps lo (fun y hy => hx y (by rw [ho]; cases lo <;> simp_all [Op.operands])), opt_reps hi (fun y hy => hx y (by rw [ho]; cases hi <;> simp_all [Op.operands])), rfl⟩, fun u w' hr => .inl (by unfold execOp; simp only [ho]; exact run_value hr)⟩
 case fieldAddr t x f => exact op_of_step (fieldAddr_ok hk) fun G a w hi hx => ⟨_, ⟨_, hx x (by rw [ho]; simp [Op.operands]), rfl⟩, fun u w' hr => .inl (by unfold execOp; simp only [ho]; exact run_value hr)⟩
 case indexAddr t x y => exact op_of_step (indexAddr_ok hk) fun G a w hi hx => ⟨_, ⟨_, _, hx x (by rw [ho]; simp [Op.operands]), hx y (by rw [ho]; simp [Op.operands]), rfl⟩, fun u w' hr => .inl (by unfold execOp; simp only [ho]; exact run_value hr)⟩
 case index t x y => exact op_of_step (index_ok hk) fun G a w hi hx => ⟨_, ⟨_, _, hx x (by rw [ho]; simp [Op.operands]), hx y (by rw [ho]; simp [Op.operands]), rfl⟩, fun u w' hr => .inl (by unfold execOp; simp only [ho]; exact run_value hr)⟩
 case extract x n => exact op_of_step (extract_ok hk) fun G a w hi hx => ⟨_, ⟨_, hx x (by rw [ho]; simp [Op.operands]), rfl⟩, fun u w' hr => .inl (by unfold execOp; simp only [ho]; exact run_value hr)⟩
 case call c => exact call_ok ho hk
end
end Go.Proofs.YthkepmicdpgbbaaGreatDoor.E

namespace Go.Proofs.YthkepmicdpgbbaaGreatDoor.E
open Go Go.RowKit Go.Proofs.YthkepmicdpgbbaaGreatDoorW.PrintWords
set_option linter.unusedVariables false
set_option linter.unusedSimpArgs false
theorem put_length : ∀ (s : List PV) (t : Nat) (q : PV), (put s t q).length = s.length
 | [], _, _ => rfl
 | _ :: _, 0, _ => rfl
 | _ :: r, n + 1, q => by simp [put, put_length r n q]
theorem nth_put_ne : ∀ (s : List PV) (t u : Nat) (q : PV), u ≠ t → nth (put s t q) u = nth s u
 | [], _, _, _, _ => rfl
 | _ :: _, 0, 0, _, h => absurd rfl h
 | _ :: _, 0, _ + 1, _, _ => rfl
 | _ :: _, _ + 1, 0, _, _ => rfl
 | _ :: r, t + 1, u + 1, q, h => nth_put_ne r t u q (by omega)
theorem nth_put_same : ∀ (s : List PV) (t : Nat) (q : PV), t < s.length → nth (put s t q) t = q
 | [], _, _, h => by simp at h
 | _ :: _, 0, _, _ => rfl
 | _ :: r, t + 1, q, h => nth_put_same r t q (by simpa using h)
theorem nth_ge : ∀ (s : List PV) (t : Nat), s.length ≤ t → nth s t = .un
 | [], _, _ => rfl
 | _ :: _, 0, h => by simp at h
 | _ :: r, t + 1, h => nth_ge r t (by simpa using h)
theorem put_self : ∀ (s : List PV) (t : Nat), put s t (nth s t) = s
 | [], _ => rfl
 | _ :: _, 0 => rfl
 | _ :: r, t + 1 => by simp [put, nth, put_self r t]
theorem nthO_eq : ∀ (l : List Oper) (n : Nat), nthO l n = l[n]?
 | [], _ => rfl
 | _ :: _, 0 => rfl
 | _ :: r, n + 1 => by simpa [nthO] using nthO_eq r n
section
variable {s : List PV} {h : List Blk} {G G' : Gh} {a : Act} {w w' : World}
theorem Rel.ev (r : Rel s h G a w) (x : Operand) : Reps G w (E.ev s x) (a.eval x) := by
 cases x with
 | tmp t => exact r.t t
 | const v => exact ofV_ok G w v
 | _ => simp only [E.ev, Reps]
theorem reps_put {q : PV} {v : Value} {d : Tmp} (hs : a.tmps.size = s.length) (hq : Reps G w q v) (t : Nat) (ht : t = d) : Reps G w (nth (put s d q) t) ((a.put (some d) v).tmps.getD t undef) := by
 subst ht
 by_cases hl : t < s.length
 ·rw [nth_put_same s t q hl]
  have : (a.put (some t) v).tmps.getD t undef = v := by
   simp [Act.put, Array.getElem?_setIfInBounds, hs, hl]
  rw [this]
  exact hq
 ·rw [nth_ge _ t (by rw [put_length]; omega)]
  simp only [Reps]
theorem getD_put_ne {v : Value} {d : Tmp} {t : Nat} (hne : t ≠ d) : (a.put (some d) v).tmps.getD t undef = a.tmps.getD t undef := by
 simp [Act.put, Array.getElem?_setIfInBounds_ne (Ne.symm hne)]
theorem size_put (d : Option Tmp) (v : Value) : (a.put d v).tmps.size = a.tmps.size := by cases d <;> simp [Act.put]
theorem putO_length (d : Option Tmp) (q : PV) : (putO s d q).length = s.length := by cases d <;> simp [putO, put_length]
theorem Rel.step (r : Rel s h G a w) {h' : List Blk} {wr : List Nat} {q : PV} {v : Value} (hk : Keeps h h' wr) (d : Option Tmp) (X : Ext wr G w G' w') (hq : Reps G' w' q v) (hb : ∀ id ∈ wr, RelB G' w' id (nthB h' id)) :
  Rel (putO s d q) h' G' (a.put d v) w' where
 defers := by cases d <;> exact r.defers
 size := by rw [size_put, putO_length]; exact r.size
 t := fun t => by
  cases d with
  | none => exact Reps.ext X r.inv _ _ (r.t t)
  | some d =>
   by_cases ht : t = d
   ·exact reps_put r.size hq t ht
   ·rw [getD_put_ne ht]
    simp only [putO]
    rw [nth_put_ne s d t q ht]
    exact Reps.ext X r.inv _ _ (r.t t)
 b := fun id => by
  by_cases hm : id ∈ wr
  ·exact hb id hm
  ·rw [hk id hm]
   exact RelB.ext X r.inv hm (r.b id)
 inv := r.inv.ext X
theorem reps_undef (G : Gh) (w : World) : Reps G w (.tup []) undef := by
 simp only [Reps, RepsL]
 exact ⟨#[], rfl, rfl⟩
theorem Rel.skip (r : Rel s h G a w) (d : Option Tmp) : Rel (putO s d (.tup [])) h G (a.put d undef) w :=
 r.step (wr := []) (fun _ _ => rfl) d (Ext.refl r.inv []) (reps_undef _ _) (fun id hid => by cases hid)
end
def Fr (G0 : Gh) (w0 : World) (G : Gh) (w : World) : Prop := ∃ ids, Ext ids G0 w0 G w
theorem Fr.step {G0 G G' : Gh} {w0 w w' : World} {ids : List Nat} (hi : Inv G0 w0) (f : Fr G0 w0 G w) (X : Ext ids G w G' w') : Fr G0 w0 G' w' := by
 obtain ⟨is, Y⟩ := f
 exact ⟨_, Y.trans hi X⟩
theorem dst_of {ops : Array Oper} {j : Nat} {t : Tmp} (h : dstAt ops.toList j = some t) : (ops[j]?).bind (·.dst) = some t := by
 unfold dstAt at h
 rw [nthO_eq, Array.getElem?_toList] at h
 cases ho : ops[j]? with
 | none => rw [ho] at h; cases h
 | some o => rw [ho] at h; exact h
theorem yielded_of {ops : Array Oper} {tmps : Array Value} {j : Nat} {t : Tmp} {x : Bool} (h : dstAt ops.toList j = some t) (hv : tmps.getD t undef = .bool x) : yielded ops tmps j = some x := by
 unfold yielded
 rw [dst_of h]
 cases hq : tmps[t]? with
 | none =>
  rw [Array.getD_eq_getD_getElem?, hq] at hv
  cases hv
 | some v =>
  rw [Array.getD_eq_getD_getElem?, hq] at hv
  simp only [Option.getD_some] at hv
  subst hv
  simp [hq]
theorem yielded_undef {ops : Array Oper} {tmps : Array Value} {j : Nat} {t : Tmp} (h : dstAt ops.toList j = some t) (hv : tmps.getD t undef = .tuple #[]) : yielded ops tmps j = none := by
 unfold yielded
 rw [dst_of h]
 cases hq : tmps[t]? with
 | none => simp [hq]
 | some v =>
  rw [Array.getD_eq_getD_getElem?, hq] at hv
  simp only [Option.getD_some] at hv
  subst hv
  simp [hq]
theorem undef_of {G : Gh} {w : World} {v : Value} (h : Reps G w (.tup []) v) : v = .tuple #[] := by
 simp only [Reps, RepsL] at h
 obtain ⟨vs, rfl, e⟩ := h
 rw [Array.toList_eq_nil_iff.1 e]
section
variable {E : Env} {ops : Array Oper} {G0 : Gh} {w0 : World} {Q : Exit → Act → World → Prop}
theorem ops_seq (hi0 : Inv G0 w0) : ∀ (l : List Oper) (s : List PV) (h : List Blk) (K : List PV → List Blk → List (List Nat × List Nat) → Prop), aOps E ops.toList l s h K →
  ∀ (G : Gh) (a : Act) (w : World), Rel s h G a w → Fr G0 w0 G w → (∀ s' h' acc G' a' w', K s' h' acc → Rel s' h' G' a' w' → Fr G0 w0 G' w' → Q .normal a' w') → wpList E.P ops Q l a w
 | [], s, h, K, hk, G, a, w, r, f, hQ => hQ s h [] G a w hk r f
 | o :: l, s, h, K, hk, G, a, w, r, f, hQ => by
  have run : ∀ (s : List PV), Rel s h G a w → Region.wanted o (yielded ops a.tmps) = true → aOp E h s o.op (fun q h' rd wr => aOps E ops.toList l (putO s o.dst q) h' fun s2 h2 acc => K s2 h2 ((rd, wr) :: acc)) → wpList E.P ops Q (o :: l) a w := fun s r hw hk => by
   obtain ⟨q, h', rd, wr, hk, g1, g2, g3⟩ := op_ok hk
   unfold wpList
   rw [if_pos hw]
   left
   refine g3 G a w r.inv (fun x _ => r.ev x) (fun id _ => r.b id) _ _ fun v G' w' X hq hb => ?_
   exact ops_seq hi0 l _ _ _ hk G' _ w' (r.step g1 o.dst X hq hb) (f.step hi0 X) (fun s' h' acc G2 a2 w2 hK r2 f2 => hQ s' h' _ G2 a2 w2 hK r2 f2)
  unfold aOps at hk
  cases hg : o.guard with
  | none =>
   rw [hg] at hk
   exact run s r (by simp [Region.wanted, hg]) hk
  | some jw =>
   obtain ⟨j, want⟩ := jw
   rw [hg] at hk
   simp only at hk
   cases hd : dstAt ops.toList j with
   | none => rw [hd] at hk; exact hk.elim
   | some t =>
    rw [hd] at hk
    simp only at hk
    split at hk
    ·rename_i x hx
     have hv : a.tmps.getD t undef = .bool x := by
      have := r.t t
      rw [hx] at this
      simpa only [Reps, RepC] using this
     have hy := yielded_of hd hv
     by_cases hxw : x = want
     ·subst hxw
      have hs : put s t (.v (.b x)) = s := by rw [← hx]; exact put_self s t
      rw [hs] at hk
      exact run s r (by simp [Region.wanted, hg, hy]) (hk.1 rfl)
     ·have hxn : x = (!want) := by cases x <;> cases want <;> simp_all
      have hs : put s t (.v (.b (!want))) = s := by rw [← hxn, ← hx]; exact put_self s t
      have hk2 := hk.2 hxn
      rw [hs] at hk2
      unfold wpList
      rw [if_neg (by simp [Region.wanted, hg, hy, hxw])]
      exact ops_seq hi0 l _ _ _ hk2 G _ w (r.skip o.dst) f (fun s' h' acc G2 a2 w2 hK r2 f2 => hQ s' h' _ G2 a2 w2 hK r2 f2)
    ·rename_i hx
     have hv := r.t t
     rw [hx] at hv
     have hy := yielded_undef hd (undef_of hv)
     unfold wpList
     rw [if_neg (by simp [Region.wanted, hg, hy])]
     exact ops_seq hi0 l _ _ _ hk G _ w (r.skip o.dst) f (fun s' h' acc G2 a2 w2 hK r2 f2 => hQ s' h' _ G2 a2 w2 hK r2 f2)
    ·exact hk.elim
end
end Go.Proofs.YthkepmicdpgbbaaGreatDoor.E

namespace Go.Proofs.YthkepmicdpgbbaaGreatDoor.E
open Go Go.RowKit Go.Proofs.YthkepmicdpgbbaaGreatDoorW.PrintWords
set_option linter.unusedVariables false
set_option linter.unusedSimpArgs false
def Wanted (all : List Oper) (o : Oper) (s : List PV) : Prop := o.guard = none ∨ ∃ j want t, o.guard = some (j, want) ∧ dstAt all j = some t ∧ nth s t = .v (.b want)
def NotWanted (all : List Oper) (o : Oper) (s : List PV) : Prop := ∃ j want t, o.guard = some (j, want) ∧ dstAt all j = some t ∧ (nth s t = .v (.b (!want)) ∨ nth s t = .tup [])
def StepAt (P : Program) (all : List Oper) (o : Oper) (x y : List PV × List Blk) (c : List Nat × List Nat) : Prop :=
 (Wanted all o x.1 ∧ ∃ q, y.1 = putO x.1 o.dst q ∧ Keeps x.2 y.2 c.2 ∧ OpOk P o x.1 x.2 q y.2 c.1 c.2) ∨ (NotWanted all o x.1 ∧ y.1 = putO x.1 o.dst (.tup []) ∧ y.2 = x.2 ∧ c = ([], []))
theorem chain_of {E : Env} {all : List Oper} : ∀ (l : List Oper) (s : List PV) (h : List Blk) (K : List PV → List Blk → List (List Nat × List Nat) → Prop), aOps E all l s h K →
  ∃ (S : Nat → List PV × List Blk) (acc : List (List Nat × List Nat)), acc.length = l.length ∧ S 0 = (s, h) ∧ (∀ i o, l[i]? = some o → StepAt E.P all o (S i) (S (i + 1)) (acc.getD i ([], []))) ∧ K (S l.length).1 (S l.length).2 acc
 | [], s, h, K, hk => ⟨fun _ => (s, h), [], rfl, rfl, fun i o hi => by simp at hi, hk⟩
 | o :: l, s, h, K, hk => by
  have run : Wanted all o s → aOp E h s o.op (fun q h' rd wr => aOps E all l (putO s o.dst q) h' fun s2 h2 acc => K s2 h2 ((rd, wr) :: acc)) →
    ∃ (S : Nat → List PV × List Blk) (acc : List (List Nat × List Nat)), acc.length = (o :: l).length ∧ S 0 = (s, h) ∧ (∀ i o', (o :: l)[i]? = some o' → StepAt E.P all o' (S i) (S (i + 1)) (acc.getD i ([], []))) ∧ K (S (o :: l).length).1 (S (o :: l).length).2 acc := fun hw hk => by
   obtain ⟨q, h', rd, wr, hk, g1, g2, g3⟩ := op_ok hk
   obtain ⟨S, acc, a1, a2, a3, a4⟩ := chain_of l _ _ _ hk
   refine ⟨fun i => match i with | 0 => (s, h) | i + 1 => S i, (rd, wr) :: acc, by simp [a1], rfl, fun i o' hi => ?_, a4⟩
   cases i with
   | zero =>
    simp at hi
    subst hi
    refine .inl ⟨hw, q, ?_, ?_, ?_⟩
    ·show (S 0).1 = _
     rw [a2]
    ·show Keeps h (S 0).2 wr
     rw [a2]
     exact g1
    ·show OpOk E.P o s h q (S 0).2 rd wr
     rw [a2]
     exact g3
   | succ i => exact a3 i o' (by simpa using hi)
  unfold aOps at hk
  cases hg : o.guard with
  | none =>
   rw [hg] at hk
   exact run (.inl hg) hk
  | some jw =>
   obtain ⟨j, want⟩ := jw
   rw [hg] at hk
   simp only at hk
   cases hd : dstAt all j with
   | none => rw [hd] at hk; exact hk.elim
   | some t =>
    rw [hd] at hk
    simp only at hk
    split at hk
    ·rename_i x hx
     by_cases hxw : x = want
     ·subst hxw
      have hs : put s t (.v (.b x)) = s := by rw [← hx]; exact put_self s t
      rw [hs] at hk
      exact run (.inr ⟨j, x, t, hg, hd, hx⟩) (hk.1 rfl)
     ·have hxn : x = (!want) := by cases x <;> cases want <;> simp_all
      have hs : put s t (.v (.b (!want))) = s := by rw [← hxn, ← hx]; exact put_self s t
      have hk2 := hk.2 hxn
      rw [hs] at hk2
      obtain ⟨S, acc, a1, a2, a3, a4⟩ := chain_of l _ _ _ hk2
      refine ⟨fun i => match i with | 0 => (s, h) | i + 1 => S i, ([], []) :: acc, by simp [a1], rfl, fun i o' hi => ?_, a4⟩
      cases i with
      | zero =>
       simp at hi
       subst hi
       refine .inr ⟨⟨j, want, t, hg, hd, .inl (by rw [hx, hxn])⟩, ?_, ?_, rfl⟩
       ·show (S 0).1 = _
        rw [a2]
       ·show (S 0).2 = _
        rw [a2]
      | succ i => exact a3 i o' (by simpa using hi)
    ·rename_i hx
     obtain ⟨S, acc, a1, a2, a3, a4⟩ := chain_of l _ _ _ hk
     refine ⟨fun i => match i with | 0 => (s, h) | i + 1 => S i, ([], []) :: acc, by simp [a1], rfl, fun i o' hi => ?_, a4⟩
     cases i with
     | zero =>
      simp at hi
      subst hi
      refine .inr ⟨⟨j, want, t, hg, hd, .inr hx⟩, ?_, ?_, rfl⟩
      ·show (S 0).1 = _
       rw [a2]
      ·show (S 0).2 = _
       rw [a2]
     | succ i => exact a3 i o' (by simpa using hi)
    ·exact hk.elim
def Lst (listed : Array Bool) (i : Nat) : Prop := listed.getD i false = true
def Down (all : List Oper) (listed : Array Bool) : Prop := ∀ k o, all[k]? = some o → Lst listed k → ∀ e ∈ o.after.toList, Region.binds .any e = true → Lst listed e.on
theorem dep_listed {all : List Oper} {listed : Array Bool} (hd : Down all listed) : ∀ (n i k : Nat), dep all n i k = true → Lst listed k → Lst listed i
 | 0, _, _, h, _ => by simp [dep] at h
 | n + 1, i, k, h, hl => by
  unfold dep at h
  rw [nthO_eq] at h
  cases ho : all[k]? with
  | none => rw [ho] at h; cases h
  | some o =>
   rw [ho] at h
   simp only [List.any_eq_true, Bool.and_eq_true, Bool.or_eq_true] at h
   obtain ⟨e, he, hb, h1 | h1⟩ := h
   ·rw [← Nat.eq_of_beq_eq_true h1]
    exact hd k o ho hl e he hb
   ·exact dep_listed hd n i e.on h1 (hd k o ho hl e he hb)
theorem dep_ready {all : List Oper} {listed : Array Bool} (hd : Down all listed) {n i k : Nat} {o : Oper} (h : dep all n i k = true) (ho : all[k]? = some o) (hr : ∀ e ∈ o.after.toList, Region.binds .any e = true → Lst listed e.on) : Lst listed i := by
 cases n with
 | zero => simp [dep] at h
 | succ n =>
  unfold dep at h
  rw [nthO_eq, ho] at h
  simp only [List.any_eq_true, Bool.and_eq_true, Bool.or_eq_true] at h
  obtain ⟨e, he, hb, h1 | h1⟩ := h
  ·rw [← Nat.eq_of_beq_eq_true h1]
   exact hr e he hb
  ·exact dep_listed hd n i e.on h1 (hr e he hb)
theorem ordFrom_ok {all : List Oper} {n i : Nat} {o : Oper} {x : List Nat × List Nat} : ∀ (l : List Oper) (acc : List (List Nat × List Nat)) (k : Nat), ordFrom all n i o x k l acc = true →
  ∀ j o', l[j]? = some o' → clash all o o' x (acc.getD j ([], [])) = true → dep all n i (k + j) = true
 | [], _, _, _, j, o', hj, _ => by simp at hj
 | y :: l, [], k, h, j, o', hj, _ => by simp [ordFrom] at h
 | y :: l, z :: acc, k, h, j, o', hj, hc => by
  simp only [ordFrom, Bool.and_eq_true, Bool.or_eq_true, Bool.not_eq_true'] at h
  cases j with
  | zero =>
   simp at hj
   subst hj
   simp at hc
   rcases h.1 with h1 | h1
   ·rw [hc] at h1; cases h1
   ·exact h1
  | succ j =>
   have := ordFrom_ok l acc (k + 1) h.2 j o' (by simpa using hj) (by simpa using hc)
   rw [show k + (j + 1) = k + 1 + j by omega]
   exact this
theorem ordOk_ok {all : List Oper} {n : Nat} : ∀ (l : List Oper) (acc : List (List Nat × List Nat)) (b : Nat), ordOk all n b l acc = true →
  ∀ i k o o', i < k → l[i]? = some o → l[k]? = some o' → clash all o o' (acc.getD i ([], [])) (acc.getD k ([], [])) = true → dep all n (b + i) (b + k) = true
 | [], _, _, _, i, k, o, o', _, hi, _, _ => by simp at hi
 | y :: l, [], b, h, i, k, o, o', _, hi, _, _ => by simp [ordOk] at h
 | y :: l, z :: acc, b, h, i, k, o, o', hlt, hi, hk, hc => by
  simp only [ordOk, Bool.and_eq_true] at h
  cases i with
  | zero =>
   simp at hi
   subst hi
   cases k with
   | zero => omega
   | succ k =>
    have := ordFrom_ok l acc (b + 1) h.1 k o' (by simpa using hk) (by simpa using hc)
    rw [show b + (k + 1) = b + 1 + k by omega]
    exact this
  | succ i =>
   cases k with
   | zero => omega
   | succ k =>
    have := ordOk_ok l acc (b + 1) h.2 i k o o' (by omega) (by simpa using hi) (by simpa using hk) (by simpa using hc)
    rw [show b + (i + 1) = b + 1 + i by omega, show b + (k + 1) = b + 1 + k by omega]
    exact this
theorem afterOk_ok : ∀ (l : List Oper) (b i : Nat) (o : Oper), afterOk b l = true → l[i]? = some o → ∀ e ∈ o.after.toList, Region.binds .any e = true → e.on < b + i
 | [], _, i, o, _, hi, _, _, _ => by simp at hi
 | y :: l, b, i, o, h, hi, e, he, hb => by
  simp only [afterOk, Bool.and_eq_true] at h
  cases i with
  | zero =>
   simp at hi
   subst hi
   have := List.all_eq_true.1 h.1 e he
   rw [hb] at this
   have h2 : Nat.blt e.on b = true := by simpa using this
   have := Nat.le_of_ble_eq_true h2
   omega
  | succ i =>
   have := afterOk_ok l (b + 1) i o h.2 (by simpa using hi) e he hb
   omega
theorem meets_of {xs ys : List Nat} {x : Nat} (h1 : x ∈ xs) (h2 : x ∈ ys) : meets xs ys = true := by
 unfold meets
 rw [List.any_eq_true]
 exact ⟨x, h1, by rw [List.any_eq_true]; exact ⟨x, h2, Nat.beq_refl x⟩⟩
theorem countP_lt {p q : Nat → Bool} : ∀ (l : List Nat) (x : Nat), x ∈ l → q x = true → p x = false → (∀ y, p y = true → q y = true) → l.countP p + 1 ≤ l.countP q
 | [], x, h, _, _, _ => by cases h
 | y :: r, x, h, hq, hp, hm => by
  have mono : ∀ r : List Nat, r.countP p ≤ r.countP q := fun r => List.countP_mono_left (fun z _ hz => hm z hz)
  simp only [List.countP_cons]
  rcases List.mem_cons.1 h with rfl | h
  ·rw [hq, hp]
   have := mono r
   simp
   omega
  ·have := countP_lt r x h hq hp hm
   cases hy : p y with
   | true => rw [hm y hy]; simp; omega
   | false => cases q y <;> simp <;> omega
end Go.Proofs.YthkepmicdpgbbaaGreatDoor.E

namespace Go.Proofs.YthkepmicdpgbbaaGreatDoor.E
open Go Go.RowKit Go.Proofs.YthkepmicdpgbbaaGreatDoorW.PrintWords
set_option linter.unusedVariables false
set_option linter.unusedSimpArgs false
section
variable {P : Program} {ops : Array Oper} {G0 : Gh} {w0 : World} {S : Nat → List PV × List Blk} {acc : List (List Nat × List Nat)} {len0 : Nat}
structure Mid (ops : Array Oper) (G0 : Gh) (w0 : World) (S : Nat → List PV × List Blk) (acc : List (List Nat × List Nat)) (len0 : Nat) (listed : Array Bool) (G : Gh) (a : Act) (w : World) : Prop where
 inv : Inv G w
 fr : Fr G0 w0 G w
 defers : a.defers = []
 size : a.tmps.size = len0
 lsize : listed.size = ops.size
 down : Down ops.toList listed
 t : ∀ t j, j ≤ ops.size → (∀ i o, ops.toList[i]? = some o → o.dst = some t → (Lst listed i ↔ i < j)) → Reps G w (nth (S j).1 t) (a.tmps.getD t undef)
 b : ∀ id j, j ≤ ops.size → (∀ i, i < ops.size → id ∈ (acc.getD i ([], [])).2 → (Lst listed i ↔ i < j)) → RelB G w id (nthB (S j).2 id)
theorem lst_set {listed : Array Bool} {i k : Nat} (hi : i < listed.size) : Lst (listed.setIfInBounds i true) k ↔ (k = i ∨ Lst listed k) := by
 unfold Lst
 by_cases h : k = i
 ·subst h
  simp [Array.getElem?_setIfInBounds, hi]
 ·simp [Array.getElem?_setIfInBounds_ne (Ne.symm h), h]
theorem same_t (hS : ∀ i o, ops.toList[i]? = some o → StepAt P ops.toList o (S i) (S (i + 1)) (acc.getD i ([], []))) (t : Nat) : ∀ (d j : Nat), j + d ≤ ops.size → (∀ i o, j ≤ i → i < j + d → ops.toList[i]? = some o → o.dst ≠ some t) → nth (S (j + d)).1 t = nth (S j).1 t
 | 0, j, _, _ => rfl
 | d + 1, j, hd, hn => by
  have ih := same_t hS t d j (by omega) (fun i o h1 h2 => hn i o h1 (by omega))
  have hlt : j + d < ops.toList.length := by rw [Array.length_toList]; omega
  have ho : ops.toList[j + d]? = some ops.toList[j + d] := List.getElem?_eq_getElem hlt
  have hne := hn (j + d) _ (by omega) (by omega) ho
  rw [← ih, show j + (d + 1) = j + d + 1 by omega]
  have put_far : ∀ q, nth (putO (S (j + d)).1 (ops.toList[j + d]).dst q) t = nth (S (j + d)).1 t := fun q => by
   cases hdst : (ops.toList[j + d]).dst with
   | none => rfl
   | some u => exact nth_put_ne _ u t q (fun e => hne (by rw [hdst, e]))
  rcases hS _ _ ho with ⟨_, q, h1, _⟩ | ⟨_, h1, _⟩
  ·rw [h1]; exact put_far q
  ·rw [h1]; exact put_far (.tup [])
theorem same_b (hS : ∀ i o, ops.toList[i]? = some o → StepAt P ops.toList o (S i) (S (i + 1)) (acc.getD i ([], []))) (id : Nat) : ∀ (d j : Nat), j + d ≤ ops.size → (∀ i, j ≤ i → i < j + d → id ∉ (acc.getD i ([], [])).2) → nthB (S (j + d)).2 id = nthB (S j).2 id
 | 0, j, _, _ => rfl
 | d + 1, j, hd, hn => by
  have ih := same_b hS id d j (by omega) (fun i h1 h2 => hn i h1 (by omega))
  have hlt : j + d < ops.toList.length := by rw [Array.length_toList]; omega
  have ho : ops.toList[j + d]? = some ops.toList[j + d] := List.getElem?_eq_getElem hlt
  have hne := hn (j + d) (by omega) (by omega)
  rw [← ih, show j + (d + 1) = j + d + 1 by omega]
  rcases hS _ _ ho with ⟨_, q, _, h1, _⟩ | ⟨_, _, h1, _⟩
  ·exact h1 id hne
  ·rw [h1]
theorem mid_step (hi0 : Inv G0 w0) (hS : ∀ i o, ops.toList[i]? = some o → StepAt P ops.toList o (S i) (S (i + 1)) (acc.getD i ([], [])))
  (hlen : ∀ j, (S j).1.length = len0 ∨ ops.size < j)
  (hord : ∀ i k o o', i < k → ops.toList[i]? = some o → ops.toList[k]? = some o' → clash ops.toList o o' (acc.getD i ([], [])) (acc.getD k ([], [])) = true → dep ops.toList (len ops.toList) i k = true)
  {listed : Array Bool} {G : Gh} {a : Act} {w : World} (M : Mid ops G0 w0 S acc len0 listed G a w) {i : Nat} (hr : i ∈ Region.ready .any ops listed) {J : Act → World → Prop} {Q : Exit → Act → World → Prop}
  (hJ : ∀ G' a' w', Mid ops G0 w0 S acc len0 (listed.setIfInBounds i true) G' a' w' → J a' w') : wpOp P ops Q i J a w := by
 obtain ⟨hun, o, ho, hready⟩ := mem_ready.1 hr
 have hol : ops.toList[i]? = some o := by rw [Array.getElem?_toList]; exact ho
 have hlt : i < ops.size := (Array.getElem?_eq_some_iff.1 ho).1
 have hni : ¬ Lst listed i := fun h => by
  unfold Lst at h
  have hl : i < listed.size := by rw [M.lsize]; exact hlt
  simp [hl] at hun h
  rw [hun] at h
  cases h
 have hrd : ∀ e ∈ o.after.toList, Region.binds .any e = true → Lst listed e.on := fun e he hb => hready e (Array.mem_toList_iff.1 he) hb
 have hi' : i < listed.size := by rw [M.lsize]; exact hlt
 have before : ∀ k o', k < i → ops.toList[k]? = some o' → clash ops.toList o' o (acc.getD k ([], [])) (acc.getD i ([], [])) = true → Lst listed k := fun k o' hk hok hc =>
  dep_ready M.down (hord k i o' o hk hok hol hc) hol hrd
 have behind : ∀ k o', i < k → ops.toList[k]? = some o' → clash ops.toList o o' (acc.getD i ([], [])) (acc.getD k ([], [])) = true → ¬ Lst listed k := fun k o' hk hok hc hl =>
  hni (dep_listed M.down _ i k (hord i k o o' hk hol hok hc) hl)
 have wt : ∀ t, (t ∈ readsT ops.toList o ∨ o.dst = some t) → ∀ k o', ops.toList[k]? = some o' → o'.dst = some t → (Lst listed k ↔ k < i) := fun t ht k o' hok hd => by
  rcases Nat.lt_trichotomy k i with hk | hk | hk
  ·refine ⟨fun _ => hk, fun _ => before k o' hk hok ?_⟩
   unfold clash
   rcases ht with ht | ht
   ·rw [show meets o'.dst.toList (readsT ops.toList o) = true from meets_of (x := t) (by simp [hd]) ht]
    simp
   ·rw [show meets o'.dst.toList o.dst.toList = true from meets_of (x := t) (by simp [hd]) (by simp [ht])]
    simp
  ·subst hk
   exact ⟨fun h => absurd h hni, fun h => by omega⟩
  ·refine ⟨fun h => absurd h (behind k o' hk hok ?_), fun h => by omega⟩
   unfold clash
   rcases ht with ht | ht
   ·rw [show meets (readsT ops.toList o) o'.dst.toList = true from meets_of (x := t) ht (by simp [hd])]
    simp
   ·rw [show meets o.dst.toList o'.dst.toList = true from meets_of (x := t) (by simp [ht]) (by simp [hd])]
    simp
 have wb : ∀ id, (id ∈ (acc.getD i ([], [])).1 ∨ id ∈ (acc.getD i ([], [])).2) → ∀ k, k < ops.size → id ∈ (acc.getD k ([], [])).2 → (Lst listed k ↔ k < i) := fun id hid k hks hk2 => by
  have hok : ops.toList[k]? = some (ops.toList[k]'(by rw [Array.length_toList]; exact hks)) := List.getElem?_eq_getElem _
  rcases Nat.lt_trichotomy k i with hk | hk | hk
  ·refine ⟨fun _ => hk, fun _ => before k _ hk hok ?_⟩
   unfold clash
   rcases hid with hid | hid
   ·rw [show meets (acc.getD k ([], [])).2 (acc.getD i ([], [])).1 = true from meets_of hk2 hid]
    simp
   ·rw [show meets (acc.getD k ([], [])).2 (acc.getD i ([], [])).2 = true from meets_of hk2 hid]
    simp
  ·subst hk
   exact ⟨fun h => absurd h hni, fun h => by omega⟩
  ·refine ⟨fun h => absurd h (behind k _ hk hok ?_), fun h => by omega⟩
   unfold clash
   rcases hid with hid | hid
   ·rw [show meets (acc.getD i ([], [])).1 (acc.getD k ([], [])).2 = true from meets_of hid hk2]
    simp
   ·rw [show meets (acc.getD i ([], [])).2 (acc.getD k ([], [])).2 = true from meets_of hid hk2]
    simp
 have rt : ∀ t, t ∈ readsT ops.toList o → Reps G w (nth (S i).1 t) (a.tmps.getD t undef) := fun t ht => M.t t i (by omega) (wt t (.inl ht))
 have rb : ∀ id, (id ∈ (acc.getD i ([], [])).1 ∨ id ∈ (acc.getD i ([], [])).2) → RelB G w id (nthB (S i).2 id) := fun id hid => M.b id i (by omega) (wb id hid)
 have down' : Down ops.toList (listed.setIfInBounds i true) := fun k ok hok hl e he hb => by
  rw [lst_set hi'] at hl ⊢
  rcases hl with rfl | hl
  ·rw [hol] at hok
   injection hok with hok
   subst hok
   exact .inr (hrd e he hb)
  ·exact .inr (M.down k ok hok hl e he hb)
 have fin : ∀ (q : PV) (v : Value) (G' : Gh) (w' : World), (S (i + 1)).1 = putO (S i).1 o.dst q → Ext (acc.getD i ([], [])).2 G w G' w' → Reps G' w' q v → (∀ id ∈ (acc.getD i ([], [])).2, RelB G' w' id (nthB (S (i + 1)).2 id)) →
   Mid ops G0 w0 S acc len0 (listed.setIfInBounds i true) G' (a.put o.dst v) w' := fun q v G' w' hq X hqv hb =>
  {inv := M.inv.ext X
   fr := M.fr.step hi0 X
   defers := by cases o.dst <;> exact M.defers
   size := by rw [size_put]; exact M.size
   lsize := by simp [M.lsize]
   down := down'
   t := fun t j hj hw => by
    by_cases hd : o.dst = some t
    ·have hij : i < j := (hw i o hol hd).1 ((lst_set hi').2 (.inl rfl))
     have hsame := same_t hS t (j - (i + 1)) (i + 1) (by omega) (fun k ok h1 h2 hok hkd => by
      have hl : Lst (listed.setIfInBounds i true) k := (hw k ok hok hkd).2 (by omega)
      rw [lst_set hi'] at hl
      rcases hl with rfl | hl
      ·omega
      ·have := (wt t (.inr hd) k ok hok hkd).1 hl
       omega)
     rw [show i + 1 + (j - (i + 1)) = j by omega] at hsame
     rw [hsame, hq, hd]
     refine reps_put ?_ hqv t rfl
     rcases hlen i with h | h
     ·rw [M.size, h]
     ·omega
    ·have hold := M.t t j hj (fun k ok hok hkd => by
      rw [← hw k ok hok hkd, lst_set hi']
      refine ⟨.inr, fun h => h.resolve_left ?_⟩
      rintro rfl
      rw [hol] at hok
      injection hok with hok
      subst hok
      exact hd hkd)
     have e1 : (a.put o.dst v).tmps.getD t undef = a.tmps.getD t undef := by
      cases hdst : o.dst with
      | none => rfl
      | some u => exact getD_put_ne (fun e => hd (by rw [hdst, e]))
     rw [e1]
     exact Reps.ext X M.inv _ _ hold
   b := fun id j hj hw => by
    by_cases hd : id ∈ (acc.getD i ([], [])).2
    ·have hij : i < j := (hw i hlt hd).1 ((lst_set hi').2 (.inl rfl))
     have hsame := same_b hS id (j - (i + 1)) (i + 1) (by omega) (fun k h1 h2 hk2 => by
      have hl : Lst (listed.setIfInBounds i true) k := (hw k (by omega) hk2).2 (by omega)
      rw [lst_set hi'] at hl
      rcases hl with rfl | hl
      ·omega
      ·have := (wb id (.inr hd) k (by omega) hk2).1 hl
       omega)
     rw [show i + 1 + (j - (i + 1)) = j by omega] at hsame
     rw [hsame]
     exact hb id hd
    ·have hold := M.b id j hj (fun k hks hk2 => by
      rw [← hw k hks hk2, lst_set hi']
      refine ⟨.inr, fun h => h.resolve_left ?_⟩
      rintro rfl
      exact hd hk2)
     exact RelB.ext X M.inv hd hold }
 have guard_t : ∀ j want t, o.guard = some (j, want) → dstAt ops.toList j = some t → t ∈ readsT ops.toList o := fun j want t hg hd => by
  unfold readsT
  rw [hg]
  simp [hd]
 unfold wpOp
 rw [ho]
 simp only
 rcases hS i o hol with ⟨hw, q, h1, h2, h3⟩ | ⟨hw, h1, h2, h3⟩
 ·have hwant : Region.wanted o (yielded ops a.tmps) = true := by
   rcases hw with hw | ⟨j, want, t, hg, hd, hx⟩
   ·simp [Region.wanted, hw]
   ·have hv := rt t (guard_t j want t hg hd)
    rw [hx] at hv
    simp only [Reps, RepC] at hv
    simp [Region.wanted, hg, yielded_of hd hv]
  rw [if_pos hwant]
  left
  refine h3 G a w M.inv (fun x hx => ?_) rb _ _ fun v G' w' X hq hb => hJ G' _ w' (fin q v G' w' h1 X hq hb)
  cases x with
  | tmp t =>
   refine rt t ?_
   unfold readsT
   refine List.mem_append_left _ (List.mem_filterMap.2 ⟨.tmp t, Array.mem_toList_iff.2 hx, rfl⟩)
  | const v => exact ofV_ok G w v
  | _ => simp only [E.ev, Reps]
 ·obtain ⟨j, want, t, hg, hd, hx⟩ := hw
  have hv := rt t (guard_t j want t hg hd)
  have hwant : ¬ Region.wanted o (yielded ops a.tmps) = true := by
   rcases hx with hx | hx
   ·rw [hx] at hv
    simp only [Reps, RepC] at hv
    simp [Region.wanted, hg, yielded_of hd hv]
   ·rw [hx] at hv
    simp [Region.wanted, hg, yielded_undef hd (undef_of hv)]
  rw [if_neg hwant]
  exact hJ G _ w (fin (.tup []) undef G w h1 (Ext.refl M.inv _) (reps_undef _ _) (fun id hid => by rw [h3] at hid; cases hid))
theorem mid_any (hi0 : Inv G0 w0) (hS : ∀ i o, ops.toList[i]? = some o → StepAt P ops.toList o (S i) (S (i + 1)) (acc.getD i ([], [])))
  (hlen : ∀ j, (S j).1.length = len0 ∨ ops.size < j)
  (hord : ∀ i k o o', i < k → ops.toList[i]? = some o → ops.toList[k]? = some o' → clash ops.toList o o' (acc.getD i ([], [])) (acc.getD k ([], [])) = true → dep ops.toList (len ops.toList) i k = true)
  (haft : ∀ i o, ops.toList[i]? = some o → ∀ e ∈ o.after.toList, Region.binds .any e = true → e.on < i) {Q : Exit → Act → World → Prop}
  (hQ : ∀ G a w, Rel (S ops.size).1 (S ops.size).2 G a w → Fr G0 w0 G w → Q .normal a w) : ∀ (fuel : Nat) (listed : Array Bool) (G : Gh) (a : Act) (w : World), (List.range ops.size).countP (fun i => !listed.getD i false) ≤ fuel →
   Mid ops G0 w0 S acc len0 listed G a w → wpAny P .any ops Q fuel listed a w := by
 have done : ∀ (listed : Array Bool) (G : Gh) (a : Act) (w : World), Mid ops G0 w0 S acc len0 listed G a w → Region.ready .any ops listed = [] → Q .normal a w := fun listed G a w M hr => by
  have all : ∀ n i, i < n → i < ops.size → Lst listed i := fun n => by
   induction n with
   | zero => intro i hi; omega
   | succ n ih =>
    intro i hi hio
    by_cases hl : Lst listed i
    ·exact hl
    ·exfalso
     have hol : ops.toList[i]? = some (ops.toList[i]'(by rw [Array.length_toList]; exact hio)) := List.getElem?_eq_getElem _
     have ho : ops[i]? = some (ops.toList[i]'(by rw [Array.length_toList]; exact hio)) := by rw [← Array.getElem?_toList]; exact hol
     have : i ∈ Region.ready .any ops listed := mem_ready.2 ⟨by
      have hil : i < listed.size := by rw [M.lsize]; exact hio
      unfold Lst at hl
      simp [hil] at hl ⊢
      exact hl, _, ho, fun e he hb => by
      have h1 := haft i _ hol e (Array.mem_toList_iff.2 he) hb
      exact ih e.on (by omega) (by omega)⟩
     rw [hr] at this
     cases this
  refine hQ G a w ⟨M.defers, ?_, fun t => M.t t ops.size (Nat.le_refl _) (fun i o hi _ => ?_), fun id => M.b id ops.size (Nat.le_refl _) (fun i hi _ => ⟨fun _ => hi, fun _ => all (i + 1) i (by omega) hi⟩), M.inv⟩ M.fr
  ·rcases hlen ops.size with h | h
   ·rw [M.size, h]
   ·omega
  ·have hlt : i < ops.size := by
    have := (List.getElem?_eq_some_iff.1 hi).1
    rwa [Array.length_toList] at this
   exact ⟨fun _ => hlt, fun _ => all (i + 1) i (by omega) hlt⟩
 intro fuel
 induction fuel with
 | zero =>
  intro listed G a w hc M
  have hr : Region.ready .any ops listed = [] := by
   rw [List.eq_nil_iff_forall_not_mem]
   intro i hi
   obtain ⟨hun, o, ho, _⟩ := mem_ready.1 hi
   have hlt : i < ops.size := (Array.getElem?_eq_some_iff.1 ho).1
   have : 0 < (List.range ops.size).countP (fun i => !listed.getD i false) := by
    rw [List.countP_pos_iff]
    refine ⟨i, by simpa using hlt, ?_⟩
    have hil : i < listed.size := by rw [M.lsize]; exact hlt
    simp [hil] at hun ⊢
    exact hun
   omega
  exact ⟨hr, done listed G a w M hr⟩
 | succ fuel ih =>
  intro listed G a w hc M
  refine ⟨done listed G a w M, fun i hi => mid_step hi0 hS hlen hord M hi fun G' a' w' M' => ih _ G' a' w' ?_ M'⟩
  obtain ⟨hun, o, ho, _⟩ := mem_ready.1 hi
  have hlt : i < ops.size := (Array.getElem?_eq_some_iff.1 ho).1
  have hil : i < listed.size := by rw [M.lsize]; exact hlt
  have := countP_lt (p := fun k => !(listed.setIfInBounds i true).getD k false) (q := fun k => !listed.getD k false) (List.range ops.size) i (by simpa using hlt) (by
   simp [hil] at hun ⊢
   exact hun) (by simp [Array.getElem?_setIfInBounds, hil]) (fun y hy => by
   have h1 : ¬ Lst (listed.setIfInBounds i true) y := by unfold Lst; simpa using hy
   rw [lst_set hil] at h1
   have h2 : ¬ Lst listed y := fun h => h1 (.inr h)
   unfold Lst at h2
   simpa using h2)
  omega
theorem S_len (hS : ∀ i o, ops.toList[i]? = some o → StepAt P ops.toList o (S i) (S (i + 1)) (acc.getD i ([], []))) : ∀ j, (S j).1.length = (S 0).1.length ∨ ops.size < j
 | 0 => .inl rfl
 | j + 1 => by
  rcases Nat.lt_or_ge j ops.size with h | h
  ·rcases S_len hS j with h1 | h1
   ·have hol : ops.toList[j]? = some (ops.toList[j]'(by rw [Array.length_toList]; exact h)) := List.getElem?_eq_getElem _
    left
    rcases hS j _ hol with ⟨_, q, e, _⟩ | ⟨_, e, _⟩
    ·rw [e, putO_length, h1]
    ·rw [e, putO_length, h1]
   ·omega
  ·right
   omega
end
theorem ops_draw {E : Env} {ops : Array Oper} {G0 : Gh} {w0 : World} {Q : Exit → Act → World → Prop} (hi0 : Inv G0 w0) {id : Nat} {s : List PV} {h : List Blk} {K : List PV → List Blk → List (List Nat × List Nat) → Prop} (hk : aOps E ops.toList ops.toList s h K)
  (hc : ∀ s' h' acc, K s' h' acc → afterOk 0 ops.toList = true ∧ ordOk ops.toList (len ops.toList) 0 ops.toList acc = true)
  {G : Gh} {a : Act} {w : World} (r : Rel s h G a w) (f : Fr G0 w0 G w) (hQ : ∀ s' h' acc G' a' w', K s' h' acc → Rel s' h' G' a' w' → Fr G0 w0 G' w' → Q .normal a' w') : (Code.region id ops true).wp E.P Q a w := by
 obtain ⟨S, acc, h1, h2, h3, h4⟩ := chain_of _ _ _ _ hk
 rw [Array.length_toList] at h1 h4
 obtain ⟨c1, c2⟩ := hc _ _ _ h4
 refine wp_region_any E.mixed ?_
 have r' : Rel s h G a { w with drawn := w.drawn + 1 } := r.step (wr := []) (q := .un) (v := undef) (fun _ _ => rfl) none (ext_drew r.inv) (by simp only [Reps]) (fun id hid => by cases hid)
 have f' : Fr G0 w0 G { w with drawn := w.drawn + 1 } := f.step hi0 (ext_drew r.inv)
 have hno : ∀ i, ¬ Lst (Array.replicate ops.size false) i := fun i h => by
  unfold Lst at h
  by_cases hi : i < ops.size
  ·simp [hi] at h
  ·simp [hi] at h
 refine mid_any (len0 := s.length) hi0 h3 (fun j => ?_) (fun i k o o' hlt hi hk hcl => ?_) (fun i o ho e he hb => ?_) (fun G' a' w' r2 f2 => hQ _ _ _ G' a' w' h4 r2 f2) ops.size _ G a _ (by
  have := List.countP_le_length (p := fun i => !(Array.replicate ops.size false).getD i false) (l := List.range ops.size)
  rwa [List.length_range] at this) ?_
 ·have := S_len h3 j
  rw [h2] at this
  exact this
 ·have := ordOk_ok _ _ 0 c2 i k o o' hlt hi hk hcl
  simpa using this
 ·have := afterOk_ok _ 0 i o c1 ho e he hb
  omega
 ·refine ⟨r'.inv, f', r'.defers, r'.size, by simp, fun k o _ hl => absurd hl (hno k), fun t j hj hw => ?_, fun id j hj hw => ?_⟩
  ·have := same_t h3 t j 0 (by omega) (fun i o _ hi ho hd => hno i ((hw i o ho hd).2 (by omega)))
   rw [Nat.zero_add] at this
   rw [this, h2]
   exact r'.t t
  ·have := same_b h3 id j 0 (by omega) (fun i _ hi hd => hno i ((hw i (by omega) hd).2 (by omega)))
   rw [Nat.zero_add] at this
   rw [this, h2]
   exact r'.b id
end Go.Proofs.YthkepmicdpgbbaaGreatDoor.E

namespace Go.Proofs.YthkepmicdpgbbaaGreatDoor.E
open Go Go.RowKit Go.Proofs.YthkepmicdpgbbaaGreatDoorW.PrintWords
set_option linter.unusedVariables false
set_option linter.unusedSimpArgs false
def Gh.gc (G : Gh) (keep : List Nat) : Gh := { G with own := fun b => (G.own b).bind (idx keep), inf := fun j => (keep[j]?).bind G.inf }
theorem nth_ren (m : Nat → Option Nat) : ∀ (s : List PV) (t : Nat), nth (renL m s) t = renP m (nth s t)
 | [], _ => by simp [renL, nth, renP]
 | _ :: _, 0 => by simp [renL, nth]
 | _ :: r, t + 1 => by simpa [renL, nth] using nth_ren m r t
structure Refs (nref : Nat) (G0 : Gh) (w0 : World) : Prop where
 inv : Inv G0 w0
 own : ∀ b id, G0.own b = some id → id < nref
 inf : ∀ id r, G0.inf id = some r → id < nref
theorem weak_ok0 {s s' : List PV} {h h' : List Blk} {nref : Nat} {G0 G : Gh} {w0 w : World} {a : Act} (R0 : Refs nref G0 w0) (r : Rel s h G a w) (f : Fr G0 w0 G w) (hw : Weak0 s h nref s' h') : ∃ G', Rel s' h' G' a w ∧ Fr G0 w0 G' w := by
 obtain ⟨keep, hn, hp, hpk, rfl⟩ := hw
 obtain ⟨ids, X⟩ := f
 have hR : Ren (idx keep) G (G.gc keep) w :=
  {imm := fun b o hb m => by
    rcases m with ⟨h1, h2, h3⟩ | ⟨h1, h2⟩ | ⟨id, sz, n, h1, h2⟩
    ·exact .inl ⟨h1, by simp only [Gh.gc]; rw [h2]; rfl, h3⟩
    ·exact .inr (.inl ⟨h1, by simp only [Gh.gc]; rw [h2]; rfl⟩)
    ·cases hx : idx keep id with
     | some j => exact .inr (.inr ⟨j, sz, n, by simp only [Gh.gc]; rw [h1]; exact hx, by simp only [Gh.gc]; rw [idx_some hx]; exact h2⟩)
     | none =>
      refine .inr (.inl ⟨?_, by simp only [Gh.gc]; rw [h1]; exact hx⟩)
      rcases Nat.lt_or_ge b G.base with hlt | hge
      ·exfalso
       have hb0 : b < w0.heap.size := by have := R0.inv.base; rw [X.base] at hlt; omega
       cases h0 : G0.own b with
       | none => rw [(X.nn b hb0 h0).1] at h1; cases h1
       | some id0 =>
        have := (X.sm b id0 h0).2
        rw [h1] at this
        rcases this with e | e | ⟨_, j2, _, e, e2⟩
        ·injection e with e
         subst e
         have := idx_of hn (hp id (R0.own b id h0))
         rw [hx] at this
         cases this
        ·cases e
        ·injection e with e
         subst e
         have rb := r.b id
         cases hB : nthB h id with
         | none => rw [hB] at rb; rw [rb.1] at h2; cases h2
         | some B =>
          rw [hB] at rb
          cases B with
          | arr sz2 ty2 fz2 els2 => exact e2 (rb.top_arr h1)
          | box ty2 cs2 => rw [rb.1] at h2; cases h2
          | tree sz2 ty2 ty3 els2 => rw [rb.1] at h2; cases h2
          | junk =>
           obtain ⟨sz2, n2, rb⟩ := rb
           rw [rb] at h2
           cases h2
      ·exact hge
   own := fun i j b h1 h2 => by simp only [Gh.gc]; rw [h2]; exact h1
   inf := fun i j q h1 h2 => by simp only [Gh.gc]; rw [idx_some h1]; exact h2
   top := fun _ _ _ _ _ => Iff.rfl }
 have hlen := pickB_len hpk
 refine ⟨G.gc keep, ⟨r.defers, by rw [gcT, renL_length]; exact r.size, fun t => ?_, fun j => ?_, ⟨r.inv.base, fun b j e => ?_, r.inv.top, by obtain ⟨w0, g1, g2, g3⟩ := r.inv.gw; exact ⟨w0, g1, g2, fun b hb => by simp only [Gh.gc, g3 b hb, Option.bind_none]⟩⟩⟩, ids ++ List.range keep.length, ?_⟩
 ·rw [gcT, nth_ren]
  exact Reps.ren hR _ _ (r.t t)
 ·cases hj : keep[j]? with
  | none =>
   have hge : keep.length ≤ j := List.getElem?_eq_none_iff.1 hj
   rw [nthB_ge h' j (by omega)]
   refine ⟨by simp only [Gh.gc]; rw [hj]; rfl, fun b e => ?_⟩
   simp only [Gh.gc] at e
   obtain ⟨i, _, h2⟩ := Option.bind_eq_some_iff.1 e
   have := idx_some h2
   rw [hj] at this
   cases this
  | some i =>
   obtain ⟨B, h1, h2⟩ := pickB_at hpk hj
   rw [h2]
   have rb := r.b i
   rw [h1] at rb
   refine RelB.ren hR (idx_of hn hj) (fun b e => ?_) rb
   simp only [Gh.gc] at e
   obtain ⟨i', h3, h4⟩ := Option.bind_eq_some_iff.1 e
   have := idx_some h4
   rw [hj] at this
   injection this with this
   subst this
   exact h3
 ·simp only [Gh.gc] at e
  obtain ⟨i, h1, _⟩ := Option.bind_eq_some_iff.1 e
  exact r.inv.own b i h1
 ·have pre : ∀ id, id < nref → idx keep id = some id := fun id hid => idx_of hn (hp id hid)
  exact {
   os := X.os
   tape := X.tape
   output := X.output
   size := X.size
   base := X.base
   old := X.old
   nn := fun b hb h0 => ⟨by simp only [Gh.gc]; rw [(X.nn b hb h0).1]; rfl, (X.nn b hb h0).2⟩
   sm := fun b id h0 => by
    have hid := R0.own b id h0
    refine ⟨fun hx => ?_, ?_⟩
    ·have hx' : id ∉ ids := fun e => hx (List.mem_append_left _ e)
     obtain ⟨a1, a2⟩ := (X.sm b id h0).1 hx'
     exact ⟨by simp only [Gh.gc]; rw [a1]; exact pre id hid, a2⟩
    ·rcases (X.sm b id h0).2 with a1 | a1 | ⟨g1, j2, g2, g3, g4⟩
     ·exact .inl (by simp only [Gh.gc]; rw [a1]; exact pre id hid)
     ·exact .inr (.inl (by simp only [Gh.gc]; rw [a1]; rfl))
     ·cases hj : idx keep j2 with
      | none => exact .inr (.inl (by simp only [Gh.gc]; rw [g3]; exact hj))
      | some j3 => exact .inr (.inr ⟨List.mem_append_left _ g1, j3, List.mem_append_right _ (List.mem_range.2 (idx_lt hj)), by simp only [Gh.gc]; rw [g3]; exact hj, g4⟩)
   same := fun b id cs ty h0 h1 hinf hc => by
    have hid := R0.own b id h0
    obtain ⟨sz, n, q, q', i1, i2⟩ := hinf
    have i3 : G.inf id = some (sz, n, q') := by
     simp only [Gh.gc] at i2
     rw [hp id hid] at i2
     exact i2
    have h2 : G.own b = some id := by
     obtain ⟨n', f2, a1, a2, a3, a4⟩ := X.inf id sz n q i1
     rw [i3] at a1
     injection a1 with a1
     injection a1 with _ a1
     injection a1 with a1 _
     exact a4 a1.symm b h0
    refine X.same b id cs ty h0 h2 ⟨sz, n, q, q', i1, ?_⟩ hc
    simp only [Gh.gc] at i2
    rw [hp id hid] at i2
    exact i2
   fz := fun b id sz n h0 hf => by
    obtain ⟨a1, a2⟩ := X.fz b id sz n h0 hf
    exact ⟨by simp only [Gh.gc]; rw [a1]; exact pre id (R0.own b id h0), a2⟩
   inf := fun id sz n q hf => by
    have hid := R0.inf id _ hf
    obtain ⟨n', q', a1, a2, a3, a4⟩ := X.inf id sz n q hf
    refine ⟨n', q', by simp only [Gh.gc]; rw [hp id hid]; exact a1, a2, a3, fun e b hb => ?_⟩
    simp only [Gh.gc]
    rw [a4 e b hb]
    exact pre id hid
   out := fun id hx => by
    simp only [List.mem_append, List.mem_range, not_or, Nat.not_lt] at hx
    have h1 : G0.inf id = none := by
     cases h2 : G0.inf id with
     | none => rfl
     | some q =>
      have hid := R0.inf id q h2
      have := (List.getElem?_eq_some_iff.1 (hp id hid)).1
      omega
    rw [h1]
    simp only [Gh.gc]
    rw [List.getElem?_eq_none hx.2]
    rfl
   new := fun b j hb e => by
    simp only [Gh.gc] at e
    obtain ⟨i, _, h2⟩ := Option.bind_eq_some_iff.1 e
    exact List.mem_append_right _ (List.mem_range.2 (idx_lt h2))
   keep := fun b j e => by
    simp only [Gh.gc] at e
    obtain ⟨i, h1, _⟩ := Option.bind_eq_some_iff.1 e
    exact X.keep b i h1
   tp := fun b id h0 h1 hinf ht => by
    have hid := R0.own b id h0
    obtain ⟨sz, n, q, q', i1, i2⟩ := hinf
    have i3 : G.inf id = some (sz, n, q') := by
     simp only [Gh.gc] at i2
     rw [hp id hid] at i2
     exact i2
    have h2 : G.own b = some id := by
     obtain ⟨n', f2, a1, a2, a3, a4⟩ := X.inf id sz n q i1
     rw [i3] at a1
     injection a1 with a1
     injection a1 with _ a1
     injection a1 with a1 _
     exact a4 a1.symm b h0
    exact X.tp b id h0 h2 ⟨sz, n, q, q', i1, i3⟩ ht
   nt := fun b h0 ht h1 => X.nt b h0 ht (fun e => h1 (by simp only [Gh.gc]; rw [e]; rfl))
   tn := X.tn }
theorem mask_len : ∀ (m : List Bool) (l : List PV), (mask m l).length = l.length
 | [], l => by simp [mask]
 | true :: m, [] => by simp [mask]
 | false :: m, [] => by simp [mask]
 | true :: m, p :: r => by simp [mask, mask_len m r]
 | false :: m, p :: r => by simp [mask, mask_len m r]
theorem nth_mask : ∀ (m : List Bool) (l : List PV) (t : Nat), nth (mask m l) t = nth l t ∨ nth (mask m l) t = .un
 | [], l, t => .inl (by simp [mask])
 | true :: m, [], t => .inl (by simp [mask])
 | false :: m, [], t => .inl (by simp [mask])
 | true :: m, p :: r, 0 => .inl (by simp [mask, nth])
 | true :: m, p :: r, t + 1 => by simpa [mask, nth] using nth_mask m r t
 | false :: m, p :: r, 0 => .inr (by simp [mask, nth])
 | false :: m, p :: r, t + 1 => by simpa [mask, nth] using nth_mask m r t
theorem name_all {G0 : Gh} {w0 w : World} (hi0 : Inv G0 w0) : ∀ (ex : List (Nat × Nat)) (h : List Blk) (G : Gh), Inv G w → Fr G0 w0 G w → (∀ id, RelB G w id (nthB h id)) → (∀ x ∈ ex, 0 < x.1) →
  ∃ G', Inv G' w ∧ Fr G0 w0 G' w ∧ (∀ id, RelB G' w id (nthB (h ++ ex.map fun x => .arr x.1 x.2 false []) id)) ∧ (∀ p v, Reps G w p v → Reps G' w p v) ∧ ∀ i, len h ≤ i → i < len h + ex.length → Reps G' w (.own i 0) (.slice none 0 0)
 | [], h, G, hi, f, hb, _ => ⟨G, hi, f, by simpa using hb, fun _ _ r => r, fun i h1 h2 => by simp at h2; omega⟩
 | x :: ex, h, G, hi, f, hb, hx => by
  have h0 : RelB G w (len h) none := none_at h (hb (len h))
  have X := ext_name hi (len h) (x.1, 0, false) h0
  obtain ⟨n1, n2⟩ := name_nil hi (hx x (by simp)) x.2 h0
  have hb' : ∀ id, RelB (G.name (len h) (x.1, 0, false)) w id (nthB (h ++ [.arr x.1 x.2 false []]) id) := fun id => by
   by_cases e : id = len h
   ·subst e
    rw [nthB_new]
    exact n1
   ·rw [nthB_push h _ id e]
    exact RelB.ext X hi (by simpa using e) (hb id)
  obtain ⟨G', a1, a2, a3, a4, a5⟩ := name_all hi0 ex (h ++ [.arr x.1 x.2 false []]) _ (hi.ext X) (f.step hi0 X) hb' (fun y hy => hx y (by simp [hy]))
  refine ⟨G', a1, a2, by simpa [List.append_assoc] using a3, fun p v r => a4 p v (Reps.ext X hi p v r), fun i h1 h2 => ?_⟩
  by_cases e : i = len h
  ·subst e
   exact a4 _ _ n2
  ·refine a5 i ?_ ?_
   ·rw [len_append]
    simp [len]
    omega
   ·rw [len_append]
    simp [len] at h2 ⊢
    omega
theorem nils_map : ∀ ex : List (Nat × Nat), nils ex = ex.map fun x => .arr x.1 x.2 false []
 | [] => rfl
 | x :: r => by simp only [nils, List.map_cons, nils_map r]
theorem posL_ok : ∀ {ex : List (Nat × Nat)}, posL ex = true → ∀ x ∈ ex, 0 < x.1
 | [], _, _, h => by cases h
 | x :: r, h, y, hy => by
  simp only [posL, Bool.and_eq_true] at h
  rcases List.mem_cons.1 hy with rfl | hy
  ·exact Nat.le_of_ble_eq_true h.1
  ·exact posL_ok h.2 y hy
theorem upT_len : ∀ (u : List (Option Nat)) (l : List PV), (upT u l).length = l.length
 | [], l => by cases l <;> simp [upT]
 | none :: u, [] => by simp [upT]
 | some i :: u, [] => by simp [upT]
 | none :: u, p :: r => by simp [upT, upT_len u r]
 | some i :: u, p :: r => by cases p <;> simp [upT, upT_len u r]
theorem nth_upT {m n : Nat} : ∀ (u : List (Option Nat)) (l : List PV) (t : Nat), upIn m n u = true → nth (upT u l) t = nth l t ∨ nth l t = .nil ∧ ∃ i, m ≤ i ∧ i < n ∧ nth (upT u l) t = .own i 0
 | [], l, t, _ => .inl (by cases l <;> simp [upT])
 | none :: u, [], t, _ => .inl (by simp [upT])
 | some i :: u, [], t, _ => .inl (by simp [upT])
 | none :: u, p :: r, 0, _ => .inl (by simp [upT, nth])
 | none :: u, p :: r, t + 1, h => by
  simp only [upIn] at h
  simpa [upT, nth] using nth_upT u r t h
 | some i :: u, p :: r, 0, h => by
  simp only [upIn, Bool.and_eq_true] at h
  cases p
  case nil => exact .inr ⟨rfl, i, Nat.le_of_ble_eq_true h.1.1, Nat.le_of_ble_eq_true h.1.2, by simp [upT, nth]⟩
  all_goals exact .inl (by simp [upT, nth])
 | some i :: u, p :: r, t + 1, h => by
  simp only [upIn, Bool.and_eq_true] at h
  have := nth_upT u r t h.2
  cases p <;> simpa [upT, nth] using this
theorem upT_ok {m n : Nat} {G : Gh} {w : World} (hn : ∀ i, m ≤ i → i < n → Reps G w (.own i 0) (.slice none 0 0)) : ∀ (u : List (Option Nat)) (l : List PV) (vs : List Value), upIn m n u = true → RepsL G w l vs → RepsL G w (upT u l) vs
 | [], l, vs, _, r => by cases l <;> simpa [upT] using r
 | none :: u, [], vs, _, r => by simpa [upT] using r
 | some i :: u, [], vs, _, r => by simpa [upT] using r
 | none :: u, p :: l, vs, h, r => by
  simp only [upIn] at h
  simp only [upT]
  simp only [RepsL] at r ⊢
  obtain ⟨v, vs', h1, h2, h3⟩ := r
  exact ⟨v, vs', h1, h2, upT_ok hn u l vs' h h3⟩
 | some i :: u, p :: l, vs, h, r => by
  simp only [upIn, Bool.and_eq_true] at h
  simp only [RepsL] at r
  obtain ⟨v, vs', h1, h2, h3⟩ := r
  have ih := upT_ok hn u l vs' h.2 h3
  cases p
  case nil =>
   simp only [Reps] at h2
   subst h2
   simp only [upT, RepsL]
   exact ⟨_, vs', h1, hn i (Nat.le_of_ble_eq_true h.1.1) (Nat.le_of_ble_eq_true h.1.2), ih⟩
  all_goals
   simp only [upT, RepsL]
   exact ⟨v, vs', h1, h2, ih⟩
theorem upBs_ok {m n : Nat} {G : Gh} {w : World} (hn : ∀ i, m ≤ i → i < n → Reps G w (.own i 0) (.slice none 0 0)) : ∀ (bs : List (List (Option Nat))) (h r : List Blk) (id : Nat), upIns m n bs = true → ∀ id2, RelB G w id2 (nthB (h ++ r) id) → RelB G w id2 (nthB (upBs bs h ++ r) id)
 | [], h, r, id, _, _, hb => by cases h <;> simpa [upBs] using hb
 | u :: us, [], r, id, _, _, hb => by simpa [upBs] using hb
 | u :: us, .arr sz ty fz els :: h, r, 0, _, _, hb => by simpa [upBs, nthB] using hb
 | u :: us, .tree sz ty fz els :: h, r, 0, _, _, hb => by simpa [upBs, nthB] using hb
 | u :: us, .junk :: h, r, 0, _, _, hb => by simpa [upBs, nthB] using hb
 | u :: us, .box ty cs :: h, r, 0, hu, _, hb => by
  simp only [upIns, Bool.and_eq_true] at hu
  simp only [upBs, List.cons_append, nthB, RelB, upT_len] at hb ⊢
  obtain ⟨h1, h2, b, vs, h3, h4, h5, h6⟩ := hb
  exact ⟨h1, h2, b, vs, h3, h4, h5, upT_ok hn u cs _ hu.1 h6⟩
 | u :: us, B :: h, r, id + 1, hu, id2, hb => by
  simp only [upIns, Bool.and_eq_true] at hu
  have := upBs_ok hn us h r id hu.2 id2 (by simpa [nthB] using hb)
  cases B <;> simpa [upBs, nthB] using this
theorem weak_ok {s s' : List PV} {h h' : List Blk} {nref : Nat} {G0 G : Gh} {w0 w : World} {a : Act} (R0 : Refs nref G0 w0) (r : Rel s h G a w) (f : Fr G0 w0 G w) (hw : Weak s h nref s' h') : ∃ G', Rel s' h' G' a w ∧ Fr G0 w0 G' w := by
 obtain ⟨ex, us, bs, hx, hu, hb, s1, h1, ms, rfl⟩ := hw
 obtain ⟨G2, a1, a2, a3, a4, a5⟩ := name_all R0.inv ex h G r.inv f r.b (posL_ok hx)
 have hl : ex.length = len ex := by
  clear hx hu hb h1 a3 a5
  induction ex with
  | nil => rfl
  | cons x l ih => simp [len, ih]
 rw [hl] at a5
 have r2 : Rel (upT us s) (upBs bs h ++ nils ex) G2 a w := ⟨r.defers, by rw [upT_len]; exact r.size, fun t => by
  rcases nth_upT us s t hu with e | ⟨e1, i, i1, i2, e2⟩
  ·rw [e]
   exact a4 _ _ (r.t t)
  ·rw [e2]
   have := r.t t
   rw [e1] at this
   simp only [Reps] at this
   rw [this]
   exact a5 i i1 i2, fun id => by
  rw [nils_map]
  exact upBs_ok a5 bs h _ id hb id (a3 id), a1⟩
 obtain ⟨G', r1, f1⟩ := weak_ok0 R0 r2 a2 h1
 refine ⟨G', ⟨r1.defers, by rw [mask_len]; exact r1.size, fun t => ?_, r1.b, r1.inv⟩, f1⟩
 rcases nth_mask ms s1 t with e | e
 ·rw [e]
  exact r1.t t
 ·rw [e]
  simp only [Reps]
def LoopAt (P : Program) (c : Code) (Q : Exit → Act → World → Prop) (a : Act) (w : World) : Prop :=
 ∀ (b : Frame) (k : List Item) (cs : List Frame), ∃ e a' w', Q e a' w' ∧ Arrives P (lone (b.at a (.code c :: .inLoop c :: k)) cs w) b k cs e a' w'
theorem loopAt_step {P : Program} {c : Code} {Q : Exit → Act → World → Prop} {a : Act} {w : World} (h : c.wp P (Exit.then (LoopAt P c Q) Q) a w) : LoopAt P c Q a w := by
 intro b k cs
 obtain ⟨e, a1, w1, hq, harr⟩ := h b (.inLoop c :: k) cs
 cases e with
 | normal =>
  obtain ⟨e2, a2, w2, hq2, harr2⟩ := hq b k cs
  exact ⟨e2, a2, w2, hq2, .of_steps (Steps.trans harr (.one step_inLoop)) harr2⟩
 | _ => exact ⟨_, a1, w1, hq, .pass (x := .inLoop c) rfl (fun _ _ => .inl (by simp)) harr⟩
theorem loop_of_at {P : Program} {c : Code} {Q : Exit → Act → World → Prop} {a : Act} {w : World} (h : LoopAt P c Q a w) : (Code.loop c).wp P Q a w := fun b k cs => by
 obtain ⟨e, a1, w1, hq, harr⟩ := h b k cs
 exact ⟨e, a1, w1, hq, .of_steps (.one step_loop) harr⟩
section
variable {E : Env} {nref : Nat} {G0 : Gh} {w0 : World}
theorem setC_self {s : List PV} {c : Operand} {x : Bool} (h : ev s c = .v (.b x)) : setC s c x = s := by
 cases c with
 | tmp t =>
  simp only [setC]
  rw [← h]
  exact put_self s t
 | _ => rfl
theorem code_ok (R0 : Refs nref G0 w0) : ∀ (c : Code) (s : List PV) (h : List Blk) (K : KontC), aCode E nref c s h K → ∀ (G : Gh) (a : Act) (w : World) (Q : Exit → Act → World → Prop), Rel s h G a w → Fr G0 w0 G w →
  (∀ e s' h' G' a' w', K e s' h' → Rel s' h' G' a' w' → Fr G0 w0 G' w' → Q e a' w') → c.wp E.P Q a w
 | .skip, s, h, K, hk, G, a, w, Q, r, f, hQ => wp_skip (hQ _ _ _ _ _ _ hk r f)
 | .region id ops draw, s, h, K, hk, G, a, w, Q, r, f, hQ => by
  simp only [aCode] at hk
  cases draw with
  | false => exact wp_region_list (ops_seq R0.inv _ _ _ _ hk G a w r f (fun s' h' acc G' a' w' hK r' f' => hQ _ _ _ _ _ _ hK r' f'))
  | true =>
   have two : ∀ {x y : Bool} {A : Prop}, cond (!true || (x && y)) A False → (x = true ∧ y = true) ∧ A := fun {x y A} h => by
    cases x <;> cases y <;> first | exact h.elim | exact ⟨⟨rfl, rfl⟩, h⟩
   exact ops_draw R0.inv hk (fun s' h' acc hK => (two hK).1) r f (fun s' h' acc G' a' w' hK r' f' => hQ _ _ _ _ _ _ (two hK).2 r' f')
 | .seq x y, s, h, K, hk, G, a, w, Q, r, f, hQ => by
  simp only [aCode] at hk
  cases hk with
  | go hk =>
   refine wp_seq (code_ok R0 x s h _ hk G a w _ r f (fun e s' h' G' a' w' hK r' f' => ?_))
   cases e with
   | normal => exact code_ok R0 y s' h' K hK G' a' w' Q r' f' hQ
   | _ => exact hQ _ _ _ _ _ _ hK r' f'
  | cut J hk hb =>
   refine wp_seq (code_ok R0 x s h _ hk G a w _ r f (fun e s' h' G' a' w' hK r' f' => ?_))
   cases e with
   | normal =>
    obtain ⟨s2, h2, hw, hJ⟩ := hK
    obtain ⟨G2, r2, f2⟩ := weak_ok R0 r' f' hw
    exact code_ok R0 y s2 h2 K (hb _ _ hJ) G2 a' w' Q r2 f2 hQ
   | _ => exact hQ _ _ _ _ _ _ hK r' f'
 | .cond c x y, s, h, K, hk, G, a, w, Q, r, f, hQ => by
  simp only [aCode] at hk
  split at hk
  ·rename_i v hv
   have hc : a.eval c = .bool v := by
    have := r.ev c
    rw [hv] at this
    simpa only [Reps, RepC] using this
   refine wp_cond hc ?_
   cases v with
   | true =>
    have := hk.1 rfl
    rw [setC_self hv] at this
    exact code_ok R0 x s h K this G a w Q r f hQ
   | false =>
    have := hk.2 rfl
    rw [setC_self hv] at this
    exact code_ok R0 y s h K this G a w Q r f hQ
  ·exact hk.elim
 | .block id c, s, h, K, hk, G, a, w, Q, r, f, hQ => by
  simp only [aCode] at hk
  cases hk with
  | hand p => exact p G a w r Q (fun s' h' G' a' w' hB r' hX => hQ .normal s' h' G' a' w' hB r' (by obtain ⟨ids, X⟩ := hX; exact f.step R0.inv X))
  | go hk =>
   refine wp_block (code_ok R0 c s h _ hk G a w _ r f (fun e s' h' G' a' w' hK r' f' => ?_))
   cases e with
   | exit j =>
    simp only at hK
    simp only [Exit.inBlock]
    cases hb : Nat.beq j id with
    | true =>
     rw [hb] at hK
     rw [if_pos (Nat.eq_of_beq_eq_true hb)]
     exact hQ _ _ _ _ _ _ hK r' f'
    | false =>
     rw [hb] at hK
     rw [if_neg (fun e => by subst e; rw [show Nat.beq j j = true from Nat.beq_refl j] at hb; cases hb)]
     exact hQ _ _ _ _ _ _ hK r' f'
   | _ => exact hQ _ _ _ _ _ _ hK r' f'
 | .loop c, s, h, K, hk, G, a, w, Q, r, f, hQ => by
  simp only [aCode] at hk
  obtain ⟨I, n, s1, h1, hw, hI, round⟩ := hk
  have key : ∀ n s h G a w, I n s h → Rel s h G a w → Fr G0 w0 G w → LoopAt E.P c Q a w := by
   intro n
   induction n using Nat.strongRecOn with
   | _ n ih =>
    intro s h G a w hI r f
    refine loopAt_step (code_ok R0 c s h _ (round n s h hI) G a w _ r f (fun e s' h' G' a' w' hK r' f' => ?_))
    cases e with
    | normal =>
     obtain ⟨m, s2, h2, hlt, hw, hI2⟩ := hK
     obtain ⟨G2, r2, f2⟩ := weak_ok R0 r' f' hw
     exact ih m hlt s2 h2 G2 a' w' hI2 r2 f2
    | _ => exact hQ _ _ _ _ _ _ hK r' f'
  obtain ⟨G1, r1, f1⟩ := weak_ok R0 r f hw
  exact loop_of_at (key n s1 h1 G1 a w hI r1 f1)
 | .exit id, s, h, K, hk, G, a, w, Q, r, f, hQ => wp_exit (hQ _ _ _ _ _ _ hk r f)
 | .ret, s, h, K, hk, G, a, w, Q, r, f, hQ => wp_ret (hQ _ _ _ _ _ _ hk r f)
 | .rangeFunc _ _ _ _, s, h, K, hk, G, a, w, Q, r, f, hQ => by simp only [aCode] at hk
 | .scope _, s, h, K, hk, G, a, w, Q, r, f, hQ => by simp only [aCode] at hk
 | .label _, s, h, K, hk, G, a, w, Q, r, f, hQ => by simp only [aCode] at hk
 | .goto _, s, h, K, hk, G, a, w, Q, r, f, hQ => by simp only [aCode] at hk
 | .refuse _, s, h, K, hk, G, a, w, Q, r, f, hQ => by simp only [aCode] at hk
end
end Go.Proofs.YthkepmicdpgbbaaGreatDoor.E

namespace Go.Proofs.YthkepmicdpgbbaaGreatDoor.E
open Go Go.RowKit Go.Proofs.YthkepmicdpgbbaaGreatDoorW.PrintWords
set_option linter.unusedVariables false
set_option linter.unusedSimpArgs false
mutual
theorem upP_le : ∀ (p : PV) (m : Nat), m ≤ (upP m p).2
 | .nil, m => by simp [upP]
 | .agg cs, m => by
  simp only [upP]
  exact upL_le cs m
 | .tup cs, m => by
  simp only [upP]
  exact upL_le cs m
 | .v _, m => by simp [upP]
 | .own _ _, m => by simp [upP]
 | .ptr _ _, m => by simp [upP]
 | .eptr _ _ _ _, m => by simp [upP]
 | .rptr _, m => by simp [upP]
 | .un, m => by simp [upP]
theorem upL_le : ∀ (l : List PV) (m : Nat), m ≤ (upL m l).2
 | [], m => by simp [upL]
 | p :: r, m => by
  simp only [upL]
  exact Nat.le_trans (upP_le p m) (upL_le r _)
end
mutual
theorem upP_ok {G : Gh} {w : World} : ∀ (p : PV) (m : Nat) (v : Value), (∀ i, m ≤ i → i < (upP m p).2 → Reps G w (.own i 0) (.slice none 0 0)) → Reps G w p v → Reps G w (upP m p).1 v
 | .nil, m, v, h, r => by
  simp only [Reps] at r
  subst r
  simp only [upP] at h ⊢
  exact h m (Nat.le_refl _) (by omega)
 | .agg cs, m, v, h, r => by
  simp only [Reps] at r
  obtain ⟨vs, rfl, r⟩ := r
  simp only [upP] at h ⊢
  simp only [Reps]
  exact ⟨vs, rfl, upL_ok cs m _ h r⟩
 | .tup cs, m, v, h, r => by
  simp only [Reps] at r
  obtain ⟨vs, rfl, r⟩ := r
  simp only [upP] at h ⊢
  simp only [Reps]
  exact ⟨vs, rfl, upL_ok cs m _ h r⟩
 | .v _, m, v, h, r => by simpa only [upP] using r
 | .own _ _, m, v, h, r => by simpa only [upP] using r
 | .ptr _ _, m, v, h, r => by simpa only [upP] using r
 | .eptr _ _ _ _, m, v, h, r => by simpa only [upP] using r
 | .rptr _, m, v, h, r => by simpa only [upP] using r
 | .un, m, v, h, r => by simpa only [upP] using r
theorem upL_ok {G : Gh} {w : World} : ∀ (l : List PV) (m : Nat) (vs : List Value), (∀ i, m ≤ i → i < (upL m l).2 → Reps G w (.own i 0) (.slice none 0 0)) → RepsL G w l vs → RepsL G w (upL m l).1 vs
 | [], m, vs, h, r => by simpa only [upL] using r
 | p :: l, m, vs, h, r => by
  simp only [RepsL] at r
  obtain ⟨v, vs', rfl, r1, r2⟩ := r
  simp only [upL] at h ⊢
  simp only [RepsL]
  refine ⟨v, vs', rfl, upP_ok p m v (fun i h1 h2 => h i h1 (Nat.lt_of_lt_of_le h2 (upL_le l _))) r1, upL_ok l _ vs' (fun i h1 h2 => h i (Nat.le_trans (upP_le p m) h1) h2) r2⟩
end
section
variable {E : Env}
theorem load_var {t : Nat} {v u : Value} {w : World} (h : (Instr.loadAt t v).run E.P w = .ok u w) : (do loadVar t (← asAddr v) : Sem Value).run E.P w = .ok u w := by
 cases v with
 | pointer p =>
  cases p with
  | some a => simpa [Instr.loadAt, Instr.sureAddr, asAddr] using h
  | none => simp [Instr.loadAt, Instr.sureAddr, stuck, Sem.run] at h
 | _ => simp [Instr.loadAt, Instr.sureAddr, stuck, Sem.run] at h
def resOne (tmps : Array Value) : ResultVar → Sem Value
 | .tmp t => pure (tmps.getD t undef)
 | .cell a t => do loadVar t (← asAddr (tmps.getD a undef))
theorem res_ok {s : List PV} {h : List Blk} : ∀ (rs : List ResultVar) (R : List PV → Prop), aRes E s h rs R → ∀ (G : Gh) (a : Act) (w : World), Rel s h G a w → ∃ ps vs, R ps ∧ (rs.mapM (resOne a.tmps)).run E.P w = .ok vs w ∧ RepsL G w ps vs
 | [], R, hk, G, a, w, r => ⟨[], [], hk, by simp, by simp [RepsL]⟩
 | .tmp t :: rs, R, hk, G, a, w, r => by
  simp only [aRes] at hk
  obtain ⟨ps, vs, h1, h2, h3⟩ := res_ok rs _ hk G a w r
  refine ⟨_, a.tmps.getD t undef :: vs, h1, ?_, ?_⟩
  ·simp [List.mapM_cons, resOne, h2]
  ·simp only [RepsL]
   exact ⟨_, _, rfl, r.t t, h3⟩
 | .cell t ty :: rs, R, hk, G, a, w, r => by
  simp only [aRes] at hk
  obtain ⟨q, rd, hk, hl⟩ := load_r hk
  obtain ⟨u, e1, e2⟩ := hl G w _ r.inv ⟨_, r.t t, rfl⟩ (fun id _ => r.b id)
  obtain ⟨ps, vs, h1, h2, h3⟩ := res_ok rs _ hk G a w r
  have e3 := load_var e1
  refine ⟨_, u :: vs, h1, ?_, ?_⟩
  ·have : (resOne a.tmps (.cell t ty)).run E.P w = .ok u w := e3
   simp [List.mapM_cons, this, h2]
  ·simp only [RepsL]
   exact ⟨_, _, rfl, e2, h3⟩
def retV : List Value → Value
 | [v] => v
 | vs => .tuple vs.toArray
theorem ret_rep {G : Gh} {w : World} : ∀ {ps : List PV} {vs : List Value}, RepsL G w ps vs → Reps G w (retOf ps) (retV vs)
 | [], vs, h => by
  simp only [RepsL] at h
  subst h
  simp only [retOf, retV, Reps, RepsL]
  exact ⟨#[], rfl, rfl⟩
 | [p], vs, h => by
  simp only [RepsL] at h
  obtain ⟨v, vs', rfl, h1, rfl⟩ := h
  exact h1
 | p :: q :: l, vs, h => by
  have h' := h
  simp only [RepsL] at h
  obtain ⟨v, vs', rfl, _, u, us, rfl, _⟩ := h
  simp only [retOf, retV, Reps]
  exact ⟨_, rfl, h'⟩
theorem run_results {fn : Func} {tmps : Array Value} {w : World} {vs : List Value} (h : (fn.results.toList.mapM (resOne tmps)).run E.P w = .ok vs w) :
  (results fn tmps).run E.P w = .ok (retV vs) w := by
 have e : (fn.results.mapM (resOne tmps)).run E.P w = .ok vs.toArray w := by
  rw [Array.mapM_eq_mapM_toList]
  simp [h]
 have e2 : results fn tmps = (do let vs ← fn.results.mapM (resOne tmps); pure (if h : vs.size = 1 then vs[0] else .tuple vs)) := by
  unfold results
  congr 1
 rw [e2, Sem.run_bind, e]
 simp only [Result.andThen_ok, Sem.run_pure]
 match vs with
 | [] => rfl
 | [v] => rfl
 | v :: u :: r => simp [retV]
theorem nth_args : ∀ {args : List PV} {vals : List Value} {G : Gh} {w : World}, RepsL G w args vals → ∀ (n t : Nat), Reps G w (nth (args ++ List.replicate n .un) t) ((vals ++ List.replicate n undef).getD t undef)
 | [], vals, G, w, h, n, t => by
  simp only [RepsL] at h
  subst h
  have : ∀ (n t : Nat), nth (List.replicate n .un) t = .un := fun n => by
   induction n with
   | zero => intro t; rfl
   | succ n ih => intro t; cases t with
    | zero => rfl
    | succ t => simpa [List.replicate_succ, nth] using ih t
  rw [List.nil_append, this]
  simp only [Reps]
 | p :: ps, vals, G, w, h, n, t => by
  simp only [RepsL] at h
  obtain ⟨v, vs, rfl, h1, h2⟩ := h
  cases t with
  | zero => simpa [nth] using h1
  | succ t => simpa [nth] using nth_args h2 n t
theorem callFunc_of {P : Program} {f : FuncId} {fn : Func} (hf : P.funcs[f]? = some fn) (hname : (fn.name == "runtime.NumGoroutine") = false) (hb : fn.body.isSome = true) : ∀ (as_ : Array Value) (w : World), (callFunc f as_).run P w = .ok (.enter f as_) w := by
 intro as_ w
 cases hb' : fn.body with
 | none => rw [hb'] at hb; cases hb
 | some c =>
  have hne : ¬ fn.name = "runtime.NumGoroutine" := by simpa using hname
  simp [callFunc, hf, hne, hb']
theorem fn_ok {f : FuncId} {fn : Func} {c : Code} (hf : E.P.funcs[f]? = some fn) (hname : (fn.name == "runtime.NumGoroutine") = false) (hb : fn.body = some c) {args : List PV} {bin bl : List Blk} {r : PV} {n : Nat} (hn : fn.ntmps = args.length + n)
  (hk : aCode E (len bin) c (args ++ List.replicate n .un) bin (aFin E (len bin) fn.results.toList r bl)) : Spec E.P f args bin r bl := by
 refine ⟨callFunc_of hf hname (by rw [hb]; rfl), fun G w vals hi hargs hbin => ?_⟩
 have hlen := hargs.length
 rw [Array.length_toList] at hlen
 refine calls_of_wp hf hb ?_
 have R0 : Refs (len bin) G w := ⟨hi, fun b id h => by
  rcases Nat.lt_or_ge id (len bin) with h' | h'
  ·exact h'
  ·have := hbin id
   rw [nthB_ge bin id h'] at this
   exact absurd h (this.2 b), fun id q h => by
  rcases Nat.lt_or_ge id (len bin) with h' | h'
  ·exact h'
  ·have := hbin id
   rw [nthB_ge bin id h'] at this
   rw [this.1] at h
   cases h⟩
 have hr : fn.ntmps - vals.size = n := by omega
 rw [hr]
 refine code_ok R0 c _ bin _ hk G _ w _ ⟨rfl, by simp [hlen], fun t => ?_, hbin, hi⟩ ⟨[], Ext.refl hi []⟩ fun e s' h' G' a' w' hK r' f' => ?_
 ·have := nth_args hargs n t
  have e1 : (vals ++ Array.replicate n undef).getD t undef = (vals.toList ++ List.replicate n undef).getD t undef := by
   rw [Array.getD_eq_getD_getElem?, List.getD_eq_getElem?_getD, ← Array.getElem?_toList]
   simp
  simp only
  rw [e1]
  exact this
 ·have hK' : (e = .ret ∨ e = .normal) ∧ aRes E s' h' fn.results.toList fun ps => FinVC (len bin) (retOf ps) h' r bl := by
   cases e <;> first | exact ⟨.inl rfl, hK⟩ | exact ⟨.inr rfl, hK⟩ | exact hK.elim
  obtain ⟨he, hK⟩ := hK'
  obtain ⟨ps, vs, hfin, h2, h3⟩ := res_ok _ _ hK G' a' w' r'
  have hres := run_results (fn := fn) h2
  have hv0 := ret_rep h3
  generalize retV vs = v at hres hv0
  obtain ⟨Gf, qf, hf', ⟨ex, keep, k1, k2, k3, k4, k5, k6⟩, fi, ff, fb, hv⟩ : ∃ G2 q2 h2, Fin0 (len bin) q2 h2 r bl ∧ Inv G2 w' ∧ Fr G w G2 w' ∧ (∀ id, RelB G2 w' id (nthB h2 id)) ∧ Reps G2 w' q2 v := by
   cases hfin with
   | up k => exact ⟨G', _, h', k, r'.inv, f', r'.b, hv0⟩
   | dn id n sz ty fz els hq hb hn k =>
    have X := ext_frz r'.inv [id]
    rw [hq] at hv0
    have r0 := r'.b id
    rw [hb] at r0
    refine ⟨G'.frz [id], _, _, k, r'.inv.ext X, f'.step hi X, fun i => ?_, ?_⟩
    ·by_cases e : i = id
     ·subst e
      exact frz_rel r'.inv (fun j hj => r'.b j) (fun j hj => by rw [List.mem_singleton.1 hj, hb]; trivial) i (by simp)
     ·rw [nthB_frz, if_neg (by simpa using e)]
      exact RelB.ext X r'.inv (by simpa using e) (r'.b i)
    ·simp only [Reps]
     exact own_row (fun b o h1 h2 => (imm_old X r'.inv b o h1 h2).1) (fun b hb' => .inr (.inr ⟨id, sz, els.length, hb', by simp [Gh.frz, r0.1]⟩)) r0 hn hv0
  obtain ⟨G2, a1, a2, a3, a4, a5⟩ := name_all hi ex hf' Gf fi ff fb k1
  have hup := upP_ok qf (len hf') v (fun i h1 h2 => a5 i h1 (by rw [k2, len_eq] at h2; rw [len_eq] at h2 ⊢; exact h2)) (a4 _ _ hv)
  have rr : Rel [(upP (len hf') qf).1] (hf' ++ ex.map fun x => .arr x.1 x.2 false []) G2 { tmps := #[v], defers := [] } w' := by
   refine ⟨rfl, rfl, fun t => ?_, a3, a1⟩
   cases t with
   | zero => exact hup
   | succ t => simp only [nth, Reps]
  obtain ⟨G3, r3, f3⟩ := weak_ok0 R0 rr a2 ⟨keep, k3, k4, k5, rfl⟩
  have post : ∃ v2 G' ids, Ending.returned v = Ending.returned v2 ∧ Ext ids G w G' w' ∧ Reps G' w' r v2 ∧ ∀ id, RelB G' w' id (nthB bl id) := by
   obtain ⟨ids, X⟩ := f3
   refine ⟨v, G3, ids, rfl, X, ?_, r3.b⟩
   have := r3.t 0
   rw [gcT, nth_ren] at this
   simp only [nth] at this
   rw [k6] at this
   exact this
  cases e with
  | ret => exact ⟨r'.defers, _, hres, post⟩
  | normal => exact ⟨r'.defers, _, hres, post⟩
  | _ => rcases he with he | he <;> cases he
end
end Go.Proofs.YthkepmicdpgbbaaGreatDoor.E

namespace Go.Proofs.YthkepmicdpgbbaaGreatDoor.E
open Go Go.RowKit Go.Proofs.YthkepmicdpgbbaaGreatDoorW.PrintWords
set_option linter.unusedVariables false
set_option linter.unusedSimpArgs false
mutual
def forceP : PV → (PV → Prop) → Prop
 | .v c, K => K (.v c)
 | .nil, K => K .nil
 | .own i n, K => K (.own i n)
 | .ptr i o, K => K (.ptr i o)
 | .eptr i n e o, K => K (.eptr i n e o)
 | .rptr cs, K => K (.rptr cs)
 | .agg cs, K => forceL cs fun cs => K (.agg cs)
 | .tup cs, K => forceL cs fun cs => K (.tup cs)
 | .un, K => K .un
def forceL : List PV → (List PV → Prop) → Prop
 | [], K => K []
 | p :: r, K => forceP p fun p => forceL r fun r => K (p :: r)
end
def forceAt : List PV → Nat → PV → (List PV → Prop) → Prop
 | [], _, _, K => K []
 | _ :: r, 0, q, K => forceP q fun q => K (q :: r)
 | p :: r, n + 1, q, K => forceAt r n q fun r => K (p :: r)
def forceO (s : List PV) (d : Option Tmp) (q : PV) (K : List PV → Prop) : Prop :=
 match d with
 | some t => forceAt s t q K
 | none => K s
def forceB : List Blk → (List Blk → Prop) → Prop
 | [], K => K []
 | .arr a b c d :: r, K => forceB r fun r => K (.arr a b c d :: r)
 | .box t cs :: r, K => forceL cs fun cs => forceB r fun r => K (.box t cs :: r)
 | .tree a b c d :: r, K => forceB r fun r => K (.tree a b c d :: r)
 | .junk :: r, K => forceB r fun r => K (.junk :: r)
mutual
theorem forceP_eq : ∀ (p : PV) (K : PV → Prop), forceP p K = K p
 | .v c, K => by simp only [forceP]
 | .nil, K => by simp only [forceP]
 | .own i n, K => by simp only [forceP]
 | .ptr i o, K => by simp only [forceP]
 | .eptr i n e o, K => by simp only [forceP]
 | .rptr cs, K => by simp only [forceP]
 | .agg cs, K => by simp only [forceP]; rw [forceL_eq cs]
 | .tup cs, K => by simp only [forceP]; rw [forceL_eq cs]
 | .un, K => by simp only [forceP]
theorem forceL_eq : ∀ (l : List PV) (K : List PV → Prop), forceL l K = K l
 | [], K => by simp only [forceL]
 | p :: r, K => by
  simp only [forceL]
  rw [forceP_eq p, forceL_eq r]
end
theorem forceAt_eq : ∀ (s : List PV) (t : Nat) (q : PV) (K : List PV → Prop), forceAt s t q K = K (put s t q)
 | [], t, q, K => by simp only [forceAt, put]
 | _ :: r, 0, q, K => by simp only [forceAt, put]; rw [forceP_eq]
 | p :: r, n + 1, q, K => by simp only [forceAt, put]; rw [forceAt_eq r n q]
theorem forceO_eq (s : List PV) (d : Option Tmp) (q : PV) (K : List PV → Prop) : forceO s d q K = K (putO s d q) := by
 cases d with
 | none => rfl
 | some t => exact forceAt_eq s t q K
theorem forceB_eq : ∀ (h : List Blk) (K : List Blk → Prop), forceB h K = K h
 | [], K => by simp only [forceB]
 | .arr a b c d :: r, K => by simp only [forceB]; rw [forceB_eq r]
 | .box t cs :: r, K => by simp only [forceB]; rw [forceL_eq, forceB_eq r]
 | .tree a b c d :: r, K => by simp only [forceB]; rw [forceB_eq r]
 | .junk :: r, K => by simp only [forceB]; rw [forceB_eq r]
def aOpsF (E : Env) (all : List Oper) : List Oper → List PV → List Blk → (List PV → List Blk → List (List Nat × List Nat) → Prop) → Prop
 | [], s, h, K => K s h []
 | o :: r, s, h, K => match o.guard with
  | none => aOp E h s o.op fun q h' rd wr => forceO s o.dst q fun s' => forceB h' fun h' => aOpsF E all r s' h' fun s2 h2 acc => K s2 h2 ((rd, wr) :: acc)
  | some (j, want) => match dstAt all j with
   | none => False
   | some t => match nth s t with
    | .v (.b x) =>
     Br2 x want (forceAt s t (.v (.b want)) fun s1 => aOp E h s1 o.op fun q h' rd wr => forceO s1 o.dst q fun s' => forceB h' fun h' => aOpsF E all r s' h' fun s2 h2 acc => K s2 h2 ((rd, wr) :: acc))
      (forceAt s t (.v (.b (!want))) fun s1 => forceO s1 o.dst (.tup []) fun s' => aOpsF E all r s' h fun s2 h2 acc => K s2 h2 (([], []) :: acc))
    | .tup [] => forceO s o.dst (.tup []) fun s' => aOpsF E all r s' h fun s2 h2 acc => K s2 h2 (([], []) :: acc)
    | _ => False
theorem aOpsF_eq (E : Env) (all : List Oper) : ∀ (r : List Oper) (s : List PV) (h : List Blk) (K : List PV → List Blk → List (List Nat × List Nat) → Prop), aOpsF E all r s h K = aOps E all r s h K
 | [], s, h, K => by simp only [aOpsF, aOps]
 | o :: r, s, h, K => by
  simp only [aOpsF, aOps, forceO_eq, forceB_eq, forceAt_eq, aOpsF_eq E all r]
  rfl
def forceS (s : List PV) (c : Operand) (x : Bool) (K : List PV → Prop) : Prop :=
 match c with
 | .tmp t => forceAt s t (.v (.b x)) K
 | _ => K s
theorem forceS_eq (s : List PV) (c : Operand) (x : Bool) (K : List PV → Prop) : forceS s c x K = K (setC s c x) := by
 cases c <;> first | rfl | exact forceAt_eq ..
def aCodeF (E : Env) (nref : Nat) : Code → List PV → List Blk → KontC → Prop
 | .skip, s, h, K => K .normal s h
 | .region _ ops draw, s, h, K => aOpsF E ops.toList ops.toList s h fun s' h' acc => cond (!draw || (afterOk 0 ops.toList && ordOk ops.toList (len ops.toList) 0 ops.toList acc)) (K .normal s' h') False
 | .seq a b, s, h, K => SeqVC nref (fun B => aCodeF E nref a s h fun e s' h' => match e with
  | .normal => B s' h'
  | e => K e s' h') fun s' h' => forceL s' fun s' => forceB h' fun h' => aCodeF E nref b s' h' K
 | .cond c x y, s, h, K => match ev s c with
  | .v (.b v) => Br v (forceS s c true fun s' => aCodeF E nref x s' h K) (forceS s c false fun s' => aCodeF E nref y s' h K)
  | _ => False
 | .block id c, s, h, K => BlkVC E.P (.block id c) s h (aCodeF E nref c s h fun e s' h' => match e with
  | .exit j => cond (Nat.beq j id) (K .normal s' h') (K (.exit j) s' h')
  | e => K e s' h') (K .normal)
 | .loop c, s, h, K => LoopVC nref s h fun s h K' => forceL s fun s => forceB h fun h => aCodeF E nref c s h fun e s' h' => match e with
    | .normal => K' s' h'
    | e => K e s' h'
 | .exit id, s, h, K => K (.exit id) s h
 | .ret, s, h, K => K .ret s h
 | _, _, _, _ => False
theorem aCodeF_eq (E : Env) (nref : Nat) : ∀ (c : Code) (s : List PV) (h : List Blk) (K : KontC), aCodeF E nref c s h K = aCode E nref c s h K
 | .skip, s, h, K => by simp only [aCodeF, aCode]
 | .region _ ops draw, s, h, K => by simp only [aCodeF, aCode, aOpsF_eq]
 | .seq a b, s, h, K => by
  simp only [aCodeF, aCode, aCodeF_eq E nref b, aCodeF_eq E nref a, forceL_eq, forceB_eq]
  rfl
 | .cond c x y, s, h, K => by
  simp only [aCodeF, aCode, forceS_eq, aCodeF_eq E nref x, aCodeF_eq E nref y]
  rfl
 | .block id c, s, h, K => by
  simp only [aCodeF, aCode, aCodeF_eq E nref c]
  rfl
 | .loop c, s, h, K => by
  simp only [aCodeF, aCode, forceL_eq, forceB_eq, aCodeF_eq E nref c]
  rfl
 | .exit id, s, h, K => by simp only [aCodeF, aCode]
 | .ret, s, h, K => by simp only [aCodeF, aCode]
 | .rangeFunc .., s, h, K => by simp only [aCodeF, aCode]
 | .scope _, s, h, K => by simp only [aCodeF, aCode]
 | .label _, s, h, K => by simp only [aCodeF, aCode]
 | .goto _, s, h, K => by simp only [aCodeF, aCode]
 | .refuse _, s, h, K => by simp only [aCodeF, aCode]
theorem fn_okF {E : Env} {f : FuncId} {fn : Func} {c : Code} (hf : E.P.funcs[f]? = some fn) (hname : (fn.name == "runtime.NumGoroutine") = false) (hb : fn.body = some c) {args : List PV} {bin bl : List Blk} {r : PV} {n : Nat} (hn : fn.ntmps = args.length + n)
  (hk : forceL (args ++ List.replicate n .un) fun s => forceB bin fun h => aCodeF E (len bin) c s h (aFin E (len bin) fn.results.toList r bl)) : Spec E.P f args bin r bl :=
 fn_ok hf hname hb hn (by rw [forceL_eq, forceB_eq, aCodeF_eq] at hk; exact hk)
end Go.Proofs.YthkepmicdpgbbaaGreatDoor.E

namespace Go.Proofs.YthkepmicdpgbbaaGreatDoor.E
open Go Go.RowKit Go.Proofs.YthkepmicdpgbbaaGreatDoorW.PrintWords
set_option linter.unusedVariables false
set_option linter.unusedSimpArgs false
theorem map_all {α : Type} (f : α → List CV) (n : Nat) (hf : ∀ x, (f x).length = n) (l : List α) : ∀ x ∈ List.map f l, x.length = n := by
 intro x hx
 obtain ⟨y, _, rfl⟩ := List.mem_map.1 hx
 exact hf y
theorem flat_map {α : Type} {f : α → List CV} (hf : ∀ x, (f x).all CV.plain = true) (l : List α) : Flat (List.map f l) := by
 intro x hx c hc
 obtain ⟨y, _, rfl⟩ := List.mem_map.1 hx
 exact List.all_eq_true.1 (hf y) c hc
theorem size_lit (l : List UInt8) : (ByteArray.mk l.toArray).size = l.length := by simp [ByteArray.size]
theorem eqn_ {a b : Nat} (h : a = b) : a = b := h
theorem side_ {p K : Prop} (k : K) (h : p := by first | with_reducible rfl | exact Nat.le_of_ble_eq_true rfl | with_reducible assumption | (refine map_all _ _ ?_ _; intro _; exact Eq.refl _) | (refine flat_map ?_ _; intro _; exact Eq.refl _) | decide | (refine eqn_ ?_; exact Eq.refl _) | (simp only [List.length_map, List.length_set]; done) | omega | (simp only [List.length_map, List.length_append, List.length_set, maxLen, size_lit, bytesOf_length, List.length_cons, List.length_nil]; first | with_reducible assumption | omega) | (simp only [List.length_map, List.length_append, List.length_set, maxLen, List.length_cons, List.length_nil, size_lit, bytesOf_length] at *; omega) | exact Eq.refl _ | (simp only [IntKind.bits]; omega)) : Side p K := ⟨h, k⟩
theorem bnd_ {α β : Type} {x : Option α} {f : α → Option β} {b : β} (h : x.bind f = some b) : ∃ a, x = some a ∧ f a = some b := Option.bind_eq_some_iff.1 h
theorem tl_ {α : Type} {x : Option α} {r : α} (h : x = some r) : ∃ w, x = some w ∧ some w = some r := ⟨r, h, rfl⟩
theorem peel_ {α : Type} {c : Prop} [Decidable c] {x : Option α} {r : α} (h : (if c then x else none) = some r) : c ∧ x = some r := by
 by_cases hc : c
 ·rw [if_pos hc] at h
  exact ⟨hc, h⟩
 ·rw [if_neg hc] at h
  cases h
end Go.Proofs.YthkepmicdpgbbaaGreatDoor.E
