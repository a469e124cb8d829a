/- What the printed functions that draw numbers and texts come to. -/
import Derived.Test.YtldfehmaophfjaaDoorPxd
import Derived.Test.YtldfehmaophfjaaDoorDraw
import Derived.Test.YtldfehmaophfjaaDoorNumbers
namespace Go.Proofs.YtldfehmaophfjaaDoor.Fn
set_option linter.unusedVariables false
set_option linter.unusedSimpArgs false
open Go.RowKit Go.Proofs.YtldfehmaophfjaaDoorW.PrintWords Go.Proofs.YtldfehmaophfjaaDoor.P Go.Proofs.YtldfehmaophfjaaDoor.Base

theorem l1IntM {l : List Int} {i : Int} (hc : Cur l i) (h : Int) (L : List Int) (h0 : L ≠ []) : ∃ r i' h', spec_l1Int.f l i h L = some (r, i', h') ∧ r ∈ L ∧ Cur l i' := by
  unfold spec_l1Int.f
  obtain ⟨r, i1, h1, e1, r0, r1, _, hc1⟩ := l1Below hc h L.length
  have hl : 0 < L.length := List.length_pos_iff.2 h0
  have hr := r1 (by omega)
  rw [e1]
  simp only [Option.bind_some]
  rw [if_pos r0, if_pos hr]
  refine ⟨_, _, _, rfl, ?_, hc1⟩
  unfold rd
  rw [List.getD_eq_getElem?_getD, List.getElem?_eq_getElem (by omega)]
  exact List.getElem_mem _
theorem l1Odd {l : List Int} {i : Int} (hc : Cur l i) (h : Int) : ∃ r i' h', spec_l1Odd.f l i h = some (r, i', h') ∧ (-9223372036854775808 ≤ r ∧ r ≤ 9223372036854775807) ∧ Cur l i' := by
  unfold spec_l1Odd.f
  obtain ⟨r, i1, h1, e1, hm, hc1⟩ := l1IntM hc h [(-1), 0, 1, 2, 255, 256, 65535, 2147483647, 2147483648, 4294967295, 4294967296, (-2147483648), 9223372036854775807, (-9223372036854775808)] (by simp)
  rw [e1]
  refine ⟨_, _, _, rfl, ?_, hc1⟩
  simp only [List.mem_cons, List.not_mem_nil, or_false] at hm
  dsimp only
  omega
theorem drawPutWord (l : List Int) (hl : l.length ≤ 140737488351232) : ∃ b n, Ev (fun k => spec_DrawPutWord.f k l) (b, n) ∧ Bytes b ∧ b.length ≤ 2 := by
  unfold spec_DrawPutWord.f
  obtain ⟨h0, e0⟩ := l1New l hl
  obtain ⟨n, i1, h1, e1, n0, n1, _, hc1⟩ := l1Below (Cur.zero hl) h0 3
  have hn := n1 (by omega)
  obtain ⟨b, i2, h2, e2, b0, _, hb, hc2⟩ := l1Bytes hc1 h1 n (by omega)
  have := b0 n0
  obtain ⟨o, i3, h3, e3, hc3⟩ := l1Once hc2 h2 3
  cases o
  · obtain ⟨m, i4, h4, e4, _⟩ := l1Below hc3 h3 65536
    exact ⟨_, _, Ev.bind e0 (Ev.then e1 (Ev.bind e2 (Ev.then e3 (Ev.neg (by simp) (Ev.then e4 (Ev.done rfl)))))), hb, by dsimp only; omega⟩
  · obtain ⟨m, i4, h4, e4, _⟩ := l1Odd hc3 h3
    exact ⟨_, _, Ev.bind e0 (Ev.then e1 (Ev.bind e2 (Ev.then e3 (Ev.pos rfl (Ev.then e4 (Ev.done rfl)))))), hb, by dsimp only; omega⟩
theorem l1Text_l0 {l : List Int} (d : Nat) : ∀ (s : ByteArray) (i h : Int), Cur l i → s.size + d = 101 → ∃ r i' h', Ev (fun k => spec_l1Text.l0 k s l i h) (r, i', h') ∧ r.size ≤ 101 ∧ Cur l i' := by
  induction d with
  | zero =>
    intro s i h hc hs
    obtain ⟨n, i1, h1, e1, hm, hc1⟩ := l1IntM hc h [100, 101, 60] (by simp)
    simp only [List.mem_cons, List.not_mem_nil, or_false] at hm
    exact ⟨_, _, _, Ev.step (fun k => spec_l1Text.l0.eq_2 _ _ _ _ k) (Ev.then e1 (Ev.neg (by dsimp only; omega) (Ev.done rfl))), by omega, hc1⟩
  | succ d ih =>
    intro s i h hc hs
    obtain ⟨n, i1, h1, e1, hm, hc1⟩ := l1IntM hc h [100, 101, 60] (by simp)
    simp only [List.mem_cons, List.not_mem_nil, or_false] at hm
    by_cases hn : (s.size : Int) < n
    · obtain ⟨r, i2, h2, e2, hr, hc2⟩ := ih (s ++ (⟨#[120]⟩ : ByteArray)) i1 h1 hc1 (by rw [size_append, show (⟨#[120]⟩ : ByteArray).size = 1 from rfl]; omega)
      exact ⟨_, _, _, Ev.step (fun k => spec_l1Text.l0.eq_2 _ _ _ _ k) (Ev.then e1 (Ev.pos hn (Ev.pos (by omega) e2))), hr, hc2⟩
    · exact ⟨_, _, _, Ev.step (fun k => spec_l1Text.l0.eq_2 _ _ _ _ k) (Ev.then e1 (Ev.neg hn (Ev.done rfl))), by omega, hc1⟩
theorem l1Text {l : List Int} {i : Int} (hc : Cur l i) (h : Int) : ∃ r i' h', Ev (fun k => spec_l1Text.f k l i h) (r, i', h') ∧ r.size ≤ 101 ∧ Cur l i' := by
  unfold spec_l1Text.f
  obtain ⟨o, i1, h1, e1, hc1⟩ := l1Once hc h 8
  cases o
  · obtain ⟨s, i2, h2, e2, hm, hc2⟩ := l1Str hc1 h1 [(⟨#[]⟩ : ByteArray), (⟨#[97]⟩ : ByteArray), (⟨#[104, 101, 108, 108, 111]⟩ : ByteArray), (⟨#[98, 101, 103, 105, 110]⟩ : ByteArray), (⟨#[97, 32, 98]⟩ : ByteArray), (⟨#[127]⟩ : ByteArray), (⟨#[31]⟩ : ByteArray), (⟨#[126]⟩ : ByteArray)] (by simp)
    refine ⟨_, _, _, Ev.then e1 (Ev.neg (by simp) (Ev.then e2 (Ev.done rfl))), ?_, hc2⟩
    simp only [List.mem_cons, List.not_mem_nil, or_false] at hm
    rcases hm with rfl | rfl | rfl | rfl | rfl | rfl | rfl | rfl <;> (dsimp only; decide)
  · obtain ⟨r, i2, h2, e2, hr, hc2⟩ := l1Text_l0 101 (⟨#[]⟩ : ByteArray) i1 h1 hc1 rfl
    exact ⟨_, _, _, Ev.then e1 (Ev.pos rfl e2), hr, hc2⟩
theorem drawPutText (l : List Int) (hl : l.length ≤ 140737488351232) : ∃ b s, Ev (fun k => spec_DrawPutText.f k l) (b, s) ∧ Bytes b ∧ b.length ≤ 2 ∧ s.size ≤ 101 := by
  unfold spec_DrawPutText.f
  obtain ⟨h0, e0⟩ := l1New l hl
  obtain ⟨n, i1, h1, e1, n0, n1, _, hc1⟩ := l1Below (Cur.zero hl) h0 3
  have hn := n1 (by omega)
  obtain ⟨b, i2, h2, e2, b0, _, hb, hc2⟩ := l1Bytes hc1 h1 n (by omega)
  have := b0 n0
  obtain ⟨s, i3, h3, e3, hs, hc3⟩ := l1Text hc2 h2
  exact ⟨_, _, Ev.bind e0 (Ev.then e1 (Ev.bind e2 (Ev.bind e3 (Ev.done rfl)))), hb, by dsimp only; omega, hs⟩
theorem drawNumText (l : List Int) (hl : l.length ≤ 140737488351232) : ∃ n, Ev (fun k => spec_DrawNumText.f k l) n ∧ -9223372036854775808 ≤ n ∧ n ≤ 9223372036854775807 := by
  unfold spec_DrawNumText.f
  obtain ⟨h0, e0⟩ := l1New l hl
  obtain ⟨o, i1, h1, e1, hc1⟩ := l1Once (Cur.zero hl) h0 2
  cases o
  · obtain ⟨n, i2, h2, e2, n0, n1, _, hc2⟩ := l1Below hc1 h1 2000
    have hn := n1 (by omega)
    exact ⟨_, Ev.bind e0 (Ev.then e1 (Ev.neg (by simp) (Ev.then e2 (Ev.done (w64 (by dsimp only; omega) (by dsimp only; omega)))))), by dsimp only; omega, by dsimp only; omega⟩
  · obtain ⟨n, i2, h2, e2, hn, hc2⟩ := l1Odd hc1 h1
    exact ⟨_, Ev.bind e0 (Ev.then e1 (Ev.pos rfl (Ev.then e2 (Ev.done rfl)))), hn⟩
theorem drawParseNum (l : List Int) (hl : l.length ≤ 140737488351232) : ∃ s n, Ev (fun k => spec_DrawParseNum.f k l) (s, n) := by
  unfold spec_DrawParseNum.f
  obtain ⟨h0, e0⟩ := l1New l hl
  obtain ⟨n, i1, h1, e1, hc1⟩ := l1Int (Cur.zero hl) h0 [9, 100, 65535, 65536, (-1), 0] (by simp)
  obtain ⟨o, i2, h2, e2, hc2⟩ := l1Once hc1 h1 2
  cases o
  · obtain ⟨m, i3, h3, e3, m0, m1, _, hc3⟩ := l1Below hc2 h2 120
    have hm := m1 (by omega)
    exact ⟨_, _, Ev.bind e0 (Ev.then e1 (Ev.then e2 (Ev.neg (by simp) (Ev.then e3 (Ev.bind (spec_numText m (by omega) (by omega)) (Ev.done rfl))))))⟩
  · obtain ⟨s, i3, h3, e3, _⟩ := l1Str hc2 h2 [(⟨#[]⟩ : ByteArray), (⟨#[48]⟩ : ByteArray), (⟨#[48, 48]⟩ : ByteArray), (⟨#[48, 49]⟩ : ByteArray), (⟨#[57]⟩ : ByteArray), (⟨#[49, 48]⟩ : ByteArray), (⟨#[54, 53, 53, 51, 53]⟩ : ByteArray), (⟨#[54, 53, 53, 51, 54]⟩ : ByteArray), (⟨#[57, 57, 57, 57, 57]⟩ : ByteArray), (⟨#[45, 49]⟩ : ByteArray), (⟨#[32, 49]⟩ : ByteArray), (⟨#[57, 97]⟩ : ByteArray), (⟨#[49, 48, 48, 48, 48, 48]⟩ : ByteArray)] (by simp)
    exact ⟨_, _, Ev.bind e0 (Ev.then e1 (Ev.then e2 (Ev.pos rfl (Ev.then e3 (Ev.done rfl)))))⟩
/-! ### numerals and numbers -/
theorem parse_itoa (m : Int) : (parseNum (ba (Lib.itoa m)) 65535).2 = decide (0 ≤ m ∧ m ≤ 65535) ∧ ((parseNum (ba (Lib.itoa m)) 65535).2 = true → (parseNum (ba (Lib.itoa m)) 65535).1 = m) := by
  unfold parseNum
  by_cases hneg : m < 0
  · have hd : digits (ba (Lib.itoa m)) 0 0 (ba (Lib.itoa m)).size = none := by
      rw [ba_size, digits_fold _ _ 0 0 (by omega), List.drop_zero, Lib.itoa, if_pos hneg, foldDig, if_neg (by unfold isDig; decide)]
    rw [decide_eq_false (by omega)]
    split
    · simp
    · rw [hd]; simp [ofDigits]
  · obtain ⟨n, rfl⟩ := Int.eq_ofNat_of_zero_le (show 0 ≤ m by omega)
    have hi : Lib.itoa (n : Int) = Lib.decDigits n := by rw [Lib.itoa, if_neg hneg, Int.toNat_natCast]
    have hd : digits (ba (Lib.decDigits n)) 0 0 (Lib.decDigits n).length = some (n : Int) := by
      rw [digits_fold _ _ 0 0 (by omega), List.drop_zero, fold_dec]
    have hlen := dec_length 4 n
    have hpos := dec_length_pos n
    have hp : (10 : Nat) ^ (4 + 1) = 100000 := by decide
    rw [hp] at hlen
    rw [hi, ba_size, hd]
    by_cases h5 : 5 < (Lib.decDigits n).length
    · rw [if_pos (by omega), decide_eq_false (by omega)]; simp
    · have hhead : ¬ (1 < (Lib.decDigits n).length ∧ bt (ba (Lib.decDigits n)) 0 = 48) := by
        rintro ⟨h1, h2⟩
        have hn : 1 ≤ n := by
          rcases Nat.eq_zero_or_pos n with h | h
          · subst h; rw [Lib.decDigits, dif_pos (by decide)] at h1; simp at h1
          · exact h
        obtain ⟨c, cs, e, hc⟩ := dec_head n hn
        have hb := bt_ba (Lib.decDigits n) 0 (by omega)
        rw [show ((0 : Nat) : Int) = 0 from rfl] at hb
        rw [hb] at h2
        have : (Lib.decDigits n)[0] = c := by simp [e]
        rw [this] at h2
        omega
      rw [if_neg (by omega), ofDigits]
      by_cases hm : (n : Int) > 65535
      · rw [if_pos hm, decide_eq_false (by omega)]; simp
      · rw [if_neg hm, decide_eq_true (by omega)]; simp
theorem itoa_parse (u : ByteArray) (most : Int) (h : (parseNum u most).2 = true) : (parseNum u most).1 ≤ most ∧ -9223372036854775808 ≤ (parseNum u most).1 ∧ (parseNum u most).1 ≤ 9223372036854775807 ∧ ba (Lib.itoa (parseNum u most).1) = u := by
  unfold parseNum at h ⊢
  split at h
  · simp at h
  · rename_i hc
    rw [if_neg hc]
    have hu := ba_of u
    have hsz : u.size = u.data.toList.length := rfl
    have hdig : digits u 0 0 u.size = foldDig 0 u.data.toList := by
      conv => lhs; rw [hu, ba_size]
      rw [digits_fold _ _ 0 0 (by omega), List.drop_zero]
    rw [hdig] at h ⊢
    cases hf : foldDig 0 u.data.toList with
    | none => rw [hf] at h; simp [ofDigits] at h
    | some z =>
      rw [hf] at h
      simp only [ofDigits] at h ⊢
      by_cases hz : z > most
      · rw [if_pos hz] at h; simp at h
      · rw [if_neg hz]
        have hne : u.data.toList ≠ [] := fun e => hc (.inl (by rw [hsz, e]; rfl))
        obtain ⟨z0, hd, _⟩ := fold_inv _ u.data.toList rfl hne (by
          intro c cs e
          by_cases hcs : cs = []
          · exact .inl hcs
          · refine .inr fun h48 => hc (.inr (.inr (.inl ⟨?_, ?_⟩)))
            · rw [hsz, e]
              have := List.length_pos_iff.2 hcs
              simp only [List.length_cons]; omega
            · have hb := bt_ba u.data.toList 0 (by rw [e]; simp)
              rw [← hu, show ((0 : Nat) : Int) = 0 from rfl] at hb
              rw [hb]
              have : u.data.toList[0]'(by rw [e]; simp) = c := by simp [e]
              rw [this, h48]
              rfl) z hf
        refine ⟨by dsimp only; omega, by dsimp only; omega, by dsimp only; omega, ?_⟩
        dsimp only
        rw [Lib.itoa, if_neg (by omega), hd]
        exact hu.symm
end Go.Proofs.YtldfehmaophfjaaDoor.Fn
