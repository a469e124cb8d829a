/- What the printed functions that draw frames come to: bytes, and not many. -/
import Derived.Test.YtldfehmaophfjaaPxd
import Derived.Test.YtldfehmaophfjaaDraw
import Derived.Test.YtldfehmaophfjaaFrames
namespace Go.Proofs.Ytldfehmaophfjaa.Fn
set_option linter.unusedVariables false
set_option linter.unusedSimpArgs false
open Go.RowKit Go.Proofs.YtldfehmaophfjaaW.PrintWords Go.Proofs.Ytldfehmaophfjaa.P Go.Proofs.Ytldfehmaophfjaa.Base

theorem l1Once {l : List Int} {i : Int} (hc : Cur l i) (h n : Int) : ∃ r i' h', spec_l1Once.f l i h n = some (r, i', h') ∧ Cur l i' := by
  unfold spec_l1Once.f
  obtain ⟨r, i1, h1, e1, _, _, _, hc1⟩ := l1Below hc h n
  rw [e1]
  exact ⟨_, _, _, rfl, hc1⟩
theorem l1Str {l : List Int} {i : Int} (hc : Cur l i) (h : Int) (L : List ByteArray) (h0 : L ≠ []) : ∃ r i' h', spec_l1Str.f l i h L = some (r, i', h') ∧ r ∈ L ∧ Cur l i' := by
  unfold spec_l1Str.f
  obtain ⟨r, i1, h1, e1, r0, r1, _, hc1⟩ := l1Below hc h L.length
  have hl : 0 < L.length := List.length_pos_iff.2 h0
  have hr := r1 (by omega)
  rw [e1]
  simp only [Option.bind_some]
  rw [if_pos r0, if_pos hr]
  refine ⟨_, _, _, rfl, ?_, hc1⟩
  unfold rdOf
  rw [List.getD_eq_getElem?_getD, List.getElem?_eq_getElem (by omega)]
  exact List.getElem_mem _
theorem l1Int {l : List Int} {i : Int} (hc : Cur l i) (h : Int) (L : List Int) (h0 : L ≠ []) : ∃ r i' h', spec_l1Int.f l i h L = some (r, i', h') ∧ Cur l i' := by
  unfold spec_l1Int.f
  obtain ⟨r, i1, h1, e1, r0, r1, _, hc1⟩ := l1Below hc h L.length
  have hl : 0 < L.length := List.length_pos_iff.2 h0
  have hr := r1 (by omega)
  rw [e1]
  simp only [Option.bind_some]
  rw [if_pos r0, if_pos hr]
  exact ⟨_, _, _, rfl, hc1⟩
theorem l6Draw {l : List Int} {i : Int} (hc : Cur l i) (h : Int) : ∃ a s b i' h', Ev (fun k => spec_l6Draw.f k l i h) (a, s, b, i', h') ∧ s.size ≤ 9223372036854775807 ∧ Cur l i' := by
  unfold spec_l6Draw.f
  obtain ⟨r, i1, h1, e1, r0, r1, _, hc1⟩ := l1Below hc h 6
  have hr := r1 (by omega)
  rw [e1]
  simp only [Option.bind_some]
  rw [w64 (n := 1 + r) (by omega) (by omega)]
  by_cases k1 : 1 + r = 1
  · obtain ⟨s, i2, h2, e2, hm, hc2⟩ := l1Str hc1 h1 [(⟨#[109, 97, 105, 110]⟩ : ByteArray), (⟨#[108, 111, 103, 115]⟩ : ByteArray), (⟨#[120]⟩ : ByteArray), (⟨#[97, 100, 109, 105, 110]⟩ : ByteArray)] (by simp)
    refine ⟨_, _, _, _, _, Ev.pos k1 (Ev.then e2 (Ev.done rfl)), ?_, hc2⟩
    simp only [List.mem_cons, List.not_mem_nil, or_false] at hm
    rcases hm with rfl | rfl | rfl | rfl <;> (dsimp only; decide)
  by_cases k2 : 1 + r = 2
  · obtain ⟨s, i2, h2, e2, hm, hc2⟩ := l1Str hc1 h1 [(⟨#[98, 101, 103, 105, 110]⟩ : ByteArray), (⟨#[99, 111, 109, 109, 105, 116]⟩ : ByteArray), (⟨#[114, 111, 108, 108, 98, 97, 99, 107]⟩ : ByteArray), (⟨#[102, 97, 105, 108]⟩ : ByteArray), (⟨#[111, 110, 101]⟩ : ByteArray), (⟨#[116, 119, 111]⟩ : ByteArray), (⟨#[]⟩ : ByteArray)] (by simp)
    refine ⟨_, _, _, _, _, Ev.neg k1 (Ev.pos k2 (Ev.then e2 (Ev.done rfl))), ?_, hc2⟩
    simp only [List.mem_cons, List.not_mem_nil, or_false] at hm
    rcases hm with rfl | rfl | rfl | rfl | rfl | rfl | rfl <;> (dsimp only; decide)
  have j0 : ∀ bb : Bool, ∃ a s b i' h', Ev (fun k => spec_l6Draw.j0 k (1 + r) bb l i1 h1 (1 + r) (⟨#[]⟩ : ByteArray) 0) (a, s, b, i', h') ∧ s.size ≤ 9223372036854775807 ∧ Cur l i' := by
    intro bb
    cases bb
    · by_cases k5 : 1 + r = 5
      · obtain ⟨q, i2, h2, e2, q0, q1, _, hc2⟩ := l1Below hc1 h1 3
        exact ⟨_, _, _, _, _, Ev.step (fun k => spec_l6Draw.j0.eq_2 _ _ _ _ _ _ _ _ k) (Ev.neg (by decide) (Ev.pos k5 (Ev.then e2 (Ev.done rfl)))), by decide, hc2⟩
      · exact ⟨_, _, _, _, _, Ev.step (fun k => spec_l6Draw.j0.eq_2 _ _ _ _ _ _ _ _ k) (Ev.neg (by decide) (Ev.neg k5 (Ev.done rfl))), by decide, hc1⟩
    · obtain ⟨s, i2, h2, e2, hm, hc2⟩ := l1Str hc1 h1 [(⟨#[]⟩ : ByteArray), (⟨#[97]⟩ : ByteArray), (⟨#[102, 117, 108, 108]⟩ : ByteArray), (⟨#[111, 110, 101]⟩ : ByteArray)] (by simp)
      refine ⟨_, _, _, _, _, Ev.step (fun k => spec_l6Draw.j0.eq_2 _ _ _ _ _ _ _ _ k) (Ev.pos rfl (Ev.then e2 (Ev.done rfl))), ?_, hc2⟩
      simp only [List.mem_cons, List.not_mem_nil, or_false] at hm
      rcases hm with rfl | rfl | rfl | rfl <;> (dsimp only; decide)
  by_cases k4 : 1 + r = 4
  · obtain ⟨a, s, b, i', h', e, hs, hc'⟩ := j0 ((1 + r) == 4)
    exact ⟨a, s, b, i', h', Ev.neg k1 (Ev.neg k2 (Ev.pos k4 e)), hs, hc'⟩
  · obtain ⟨a, s, b, i', h', e, hs, hc'⟩ := j0 ((1 + r) == 6)
    exact ⟨a, s, b, i', h', Ev.neg k1 (Ev.neg k2 (Ev.neg k4 e)), hs, hc'⟩
theorem l1Bend {l : List Int} {i : Int} (hc : Cur l i) (h : Int) (b : List Int) (hb : Bytes b) (hl : b.length ≤ 1048576) : ∃ r i' h', spec_l1Bend.f l i h b = some (r, i', h') ∧ Bytes r ∧ r.length ≤ b.length + 1 ∧ Cur l i' := by
  unfold spec_l1Bend.f
  obtain ⟨q, i1, h1, e1, q0, q1, _, hc1⟩ := l1Below hc h 8
  simp only [Option.bind_some, List.nil_append, List.length_nil]
  rw [if_pos (by omega), e1, Option.bind_some]
  dsimp only
  by_cases k0 : q = 0
  · rw [if_pos k0]
    by_cases hp : (b.length : Int) > 0
    · rw [if_pos hp]
      obtain ⟨r, i2, h2, e2, r0, r1, _, hc2⟩ := l1Below hc1 h1 b.length
      obtain ⟨z, i3, h3, e3, z0, z1, _, hc3⟩ := l1Below hc2 h2 255
      have hr := r1 hp
      have hz := z1 (by omega)
      rw [e2]
      simp only [Option.bind_some]
      rw [if_pos r0, if_pos hr, e3]
      simp only [Option.bind_some]
      refine ⟨_, _, _, rfl, ?_, by rw [List.length_set]; (try dsimp only); omega, hc3⟩
      intro x hx
      rcases List.mem_or_eq_of_mem_set hx with hx | rfl
      · exact hb x hx
      · rw [w64 (n := 1 + z) (by omega) (by omega)]
        obtain ⟨h1, h2⟩ := xor_u8 (rd_byte hb r) (show 0 ≤ (1 + z) % 256 ∧ (1 + z) % 256 ≤ 255 by omega)
        rw [h1]
        omega
    · rw [if_neg hp]
      exact ⟨_, _, _, rfl, hb, by omega, hc1⟩
  rw [if_neg k0]
  by_cases k1 : q = 1
  · rw [if_pos k1]
    by_cases hp : (b.length : Int) > 0
    · rw [if_pos hp]
      obtain ⟨r, i2, h2, e2, r0, r1, _, hc2⟩ := l1Below hc1 h1 b.length
      have hr := r1 hp
      rw [e2]
      simp only [Option.bind_some]
      rw [if_pos r0, if_pos (by omega)]
      exact ⟨_, _, _, rfl, hb.take _, by rw [List.length_take]; omega, hc2⟩
    · rw [if_neg hp]
      exact ⟨_, _, _, rfl, hb, by omega, hc1⟩
  rw [if_neg k1]
  by_cases k2 : q = 2
  · rw [if_pos k2]
    obtain ⟨r, i2, h2, e2, r0, r1, hc2⟩ := l1Byte hc1 h1
    rw [e2]
    simp only [Option.bind_some]
    rw [if_pos (by omega)]
    exact ⟨_, _, _, rfl, hb.append (Bytes.cons (by omega) Bytes.nil), by simp, hc2⟩
  · rw [if_neg k2]
    exact ⟨_, _, _, rfl, hb, by omega, hc1⟩
theorem l6Bytes {l : List Int} {i : Int} (hc : Cur l i) (h : Int) : ∃ r i' h', Ev (fun k => spec_l6Bytes.f k l i h) (r, i', h') ∧ Bytes r ∧ r.length ≤ 103 ∧ Cur l i' := by
  unfold spec_l6Bytes.f
  obtain ⟨a, s, b, i1, h1, e1, hs, hc1⟩ := l6Draw hc h
  obtain ⟨o, i2, h2, e2, hc2⟩ := l1Once hc1 h1 6
  have hpl := putFrame_length a s b
  cases o
  · obtain ⟨r, i3, h3, e3, hb3, hl3, hc3⟩ := l1Bend hc2 h2 (putFrame a s b) (putFrame_bytes a s b) (by omega)
    exact ⟨_, _, _, Ev.bind e1 (Ev.bind (spec_putFrame a s b hs) (Ev.then e2 (Ev.neg (by simp) (Ev.then e3 (Ev.done rfl))))), hb3, by (try dsimp only); omega, hc3⟩
  · obtain ⟨n, i3, h3, e3, n0, n1, _, hc3⟩ := l1Below hc2 h2 4
    have hn := n1 (by omega)
    obtain ⟨r, i4, h4, e4, r0, r1, hb4, hc4⟩ := l1Bytes hc3 h3 n (by omega)
    have := r0 n0
    exact ⟨_, _, _, Ev.bind e1 (Ev.bind (spec_putFrame a s b hs) (Ev.then e2 (Ev.pos rfl (Ev.then e3 (Ev.bind e4 (Ev.done rfl)))))), hb4, by (try dsimp only); omega, hc4⟩
theorem drawGetFrame (l : List Int) (hl : l.length ≤ 140737488351232) : ∃ r, Ev (fun k => spec_DrawGetFrame.f k l) r ∧ Bytes r ∧ r.length ≤ 206 := by
  unfold spec_DrawGetFrame.f
  obtain ⟨h0, e0⟩ := l1New l hl
  obtain ⟨b, i1, h1, e1, hb1, hl1, hc1⟩ := l6Bytes (Cur.zero hl) h0
  obtain ⟨o, i2, h2, e2, hc2⟩ := l1Once hc1 h1 3
  cases o
  · obtain ⟨p, i3, h3, e3, hc3⟩ := l1Once hc2 h2 8
    cases p
    · exact ⟨_, Ev.bind e0 (Ev.bind e1 (Ev.then e2 (Ev.neg (by simp) (Ev.then e3 (Ev.neg (by simp) (Ev.done rfl)))))), hb1, by (try dsimp only); omega⟩
    · obtain ⟨n, i4, h4, e4, n0, n1, _, hc4⟩ := l1Below hc3 h3 8
      obtain ⟨q, i5, h5, e5, hc5⟩ := l1Int hc4 h4 [0, 1, 3, 100, 101, 255] (by simp)
      exact ⟨_, Ev.bind e0 (Ev.bind e1 (Ev.then e2 (Ev.neg (by simp) (Ev.then e3 (Ev.pos rfl (Ev.then e4 (Ev.then e5 (Ev.done rfl)))))))), Bytes.cons (by omega) (Bytes.cons (by omega) Bytes.nil), by simp⟩
  · obtain ⟨c, i3, h3, e3, hb3, hl3, hc3⟩ := l6Bytes hc2 h2
    exact ⟨_, Ev.bind e0 (Ev.bind e1 (Ev.then e2 (Ev.pos rfl (Ev.bind e3 (Ev.pos (by simp only []; omega) (Ev.done rfl)))))), hb1.append hb3, by rw [List.length_append]; (try dsimp only); omega⟩
theorem DrawFrames_l0 {l : List Int} (d : Nat) : ∀ (i h : Int) (o : List Int), Cur l i → Bytes o → o.length + 103 * (d + 1) ≤ 100000 → ∃ r, Ev (fun k => spec_DrawFrames.l0 k o (d : Int) l i h) r ∧ Bytes r ∧ r.length ≤ o.length + 103 * (d + 1) := by
  induction d with
  | zero =>
    intro i h o hc hb hl
    obtain ⟨p, i2, h2, e2, hc2⟩ := l1Once hc h 2
    cases p
    · exact ⟨_, Ev.step (fun k => spec_DrawFrames.l0.eq_2 _ _ _ _ _ k) (Ev.neg (by simp) (Ev.then e2 (Ev.neg (by simp) (Ev.done rfl)))), hb, by omega⟩
    · obtain ⟨c, i3, h3, e3, hb3, hl3, hc3⟩ := l6Bytes hc2 h2
      exact ⟨_, Ev.step (fun k => spec_DrawFrames.l0.eq_2 _ _ _ _ _ k) (Ev.neg (by simp) (Ev.then e2 (Ev.pos rfl (Ev.bind e3 (Ev.pos (by simp only []; omega) (Ev.done rfl)))))), hb.append hb3, by rw [List.length_append]; (try dsimp only); omega⟩
  | succ d ih =>
    intro i h o hc hb hl
    obtain ⟨a, s, b, i1, h1, e1, hs, hc1⟩ := l6Draw hc h
    have hpl := putFrame_length a s b
    obtain ⟨r, er, hbr, hlr⟩ := ih i1 h1 (o ++ putFrame a s b) hc1 (hb.append (putFrame_bytes a s b)) (by rw [List.length_append]; omega)
    rw [List.length_append] at hlr
    refine ⟨r, Ev.step (fun k => spec_DrawFrames.l0.eq_2 _ _ _ _ _ k) (Ev.pos (by omega) (Ev.bind e1 (Ev.bind (spec_putFrame a s b hs) (Ev.pos (by omega) ?_)))), hbr, by omega⟩
    rw [w64 (by omega) (by omega), show ((d + 1 : Nat) : Int) - 1 = (d : Int) by omega]
    exact er
theorem drawFrames (l : List Int) (hl : l.length ≤ 140737488351232) : ∃ r, Ev (fun k => spec_DrawFrames.f k l) r ∧ Bytes r ∧ r.length ≤ 1030 := by
  unfold spec_DrawFrames.f
  obtain ⟨h0, e0⟩ := l1New l hl
  obtain ⟨n, i1, h1, e1, n0, n1, _, hc1⟩ := l1Below (Cur.zero hl) h0 5
  have hn := n1 (by omega)
  obtain ⟨m, rfl⟩ := Int.eq_ofNat_of_zero_le n0
  obtain ⟨r, er, hb, hr⟩ := DrawFrames_l0 m i1 h1 [] hc1 Bytes.nil (by simp; omega)
  exact ⟨r, Ev.bind e0 (Ev.then e1 er), hb, by simp at hr; omega⟩
end Go.Proofs.Ytldfehmaophfjaa.Fn
