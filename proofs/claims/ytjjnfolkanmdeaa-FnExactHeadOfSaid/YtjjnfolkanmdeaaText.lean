/- What the printed functions on texts, digits and the checksum come to. No memory is in sight here. -/
import Derived.Test.YtjjnfolkanmdeaaPxd
import Derived.Test.YtjjnfolkanmdeaaBytes
namespace Go.Proofs.Ytjjnfolkanmdeaa.Fn
set_option linter.unusedVariables false
set_option linter.unusedSimpArgs false
open Go.RowKit Go.Proofs.YtjjnfolkanmdeaaW.PrintWords Go.Proofs.Ytjjnfolkanmdeaa.P Go.Proofs.Ytjjnfolkanmdeaa.Base

/-! ### texts -/
def textOk (s : ByteArray) : Bool := decide (s.size ≤ 100) && decide (∀ i : Nat, i < s.size → 32 ≤ bt s (i : Int) ∧ bt s (i : Int) ≤ 126)
theorem textOk_iff (s : ByteArray) : textOk s = true ↔ s.size ≤ 100 ∧ ∀ i : Nat, i < s.size → 32 ≤ bt s (i : Int) ∧ bt s (i : Int) ≤ 126 := by simp [textOk]
theorem textOk_false {s : ByteArray} {i : Nat} (hi : i < s.size) (h : bt s (i : Int) < 32 ∨ 126 < bt s (i : Int)) : textOk s = false := by
  rw [← Bool.not_eq_true, textOk_iff]
  rintro ⟨_, a⟩
  have := a i hi
  omega
theorem textOk_long {s : ByteArray} (h : 100 < s.size) : textOk s = false := by
  rw [← Bool.not_eq_true, textOk_iff]
  rintro ⟨a, _⟩
  omega
theorem textOk_all {s : ByteArray} (hp : ∀ j : Nat, j < s.size → 32 ≤ bt s (j : Int) ∧ bt s (j : Int) ≤ 126) : decide ((s.size : Int) ≤ 100) = textOk s := by
  rw [Bool.eq_iff_iff, textOk_iff, decide_eq_true_eq]
  exact ⟨fun h => ⟨by omega, hp⟩, fun h => by omega⟩
theorem impl_TextOk_l0 (s : ByteArray) (hs : s.size ≤ 9223372036854775807) (d : Nat) : ∀ (i : Nat), i + d = s.size → (∀ j : Nat, j < i → 32 ≤ bt s (j : Int) ∧ bt s (j : Int) ≤ 126) → Ev (fun k => impl_TextOk.l0 k s (s.size : Int) (i : Int)) (textOk s) := by
  induction d with
  | zero =>
    intro i hi hp
    obtain rfl : i = s.size := by omega
    exact Ev.step (fun k => impl_TextOk.l0.eq_2 _ _ _ k) (Ev.neg (by omega) (Ev.done (textOk_all hp)))
  | succ d ih =>
    intro i hi hp
    refine Ev.step (fun k => impl_TextOk.l0.eq_2 _ _ _ k) (Ev.pos (by omega) (Ev.pos (by omega) (Ev.pos (by omega) ?_)))
    by_cases h1 : bt s (i : Int) < 32
    · exact Ev.pos h1 (Ev.done (textOk_false (by omega) (.inl h1)).symm)
    · refine Ev.neg h1 ?_
      by_cases h2 : bt s (i : Int) > 126
      · exact Ev.pos h2 (Ev.done (textOk_false (by omega) (.inr h2)).symm)
      · refine Ev.neg h2 ?_
        rw [w64 (by omega) (by omega), cast_succ]
        refine ih (i + 1) (by omega) (fun j hj => ?_)
        rcases Nat.lt_or_ge j i with hj' | hj'
        · exact hp j hj'
        · obtain rfl : j = i := by omega
          omega
theorem impl_textOk (s : ByteArray) (hs : s.size ≤ 9223372036854775807) : Ev (fun k => impl_TextOk.f k s) (textOk s) := by
  unfold impl_TextOk.f
  exact impl_TextOk_l0 s hs s.size 0 (by omega) (fun j hj => by omega)
theorem spec_TextOk_l0 (s : ByteArray) (hs : s.size ≤ 9223372036854775807) (d : Nat) : ∀ (i : Nat), i + d = s.size → i ≤ 101 → (∀ j : Nat, j < i → 32 ≤ bt s (j : Int) ∧ bt s (j : Int) ≤ 126) → Ev (fun k => spec_TextOk.l0 k s (i : Int)) (textOk s) := by
  induction d with
  | zero =>
    intro i hi hm hp
    obtain rfl : i = s.size := by omega
    exact Ev.step (fun k => spec_TextOk.l0.eq_2 _ _ k) (Ev.neg (by omega) (Ev.step (fun k => spec_TextOk.j1.eq_2 _ _ _ k) (Ev.neg (by decide) (Ev.done (textOk_all hp)))))
  | succ d ih =>
    intro i hi hm hp
    refine Ev.step (fun k => spec_TextOk.l0.eq_2 _ _ k) (Ev.pos (by omega) (Ev.step (fun k => spec_TextOk.j1.eq_2 _ _ _ k) ?_))
    by_cases h0 : i = 101
    · refine Ev.neg (by simp; omega) (Ev.done ?_)
      rw [textOk_long (by omega)]
      simp
      omega
    refine Ev.pos (by simp; omega) (Ev.pos (by omega) (Ev.pos (by omega) ?_))
    by_cases h1 : bt s (i : Int) < 32
    · exact Ev.pos h1 (Ev.done (textOk_false (by omega) (.inl h1)).symm)
    · refine Ev.neg h1 ?_
      by_cases h2 : bt s (i : Int) > 126
      · exact Ev.pos h2 (Ev.done (textOk_false (by omega) (.inr h2)).symm)
      · refine Ev.neg h2 ?_
        rw [w64 (by omega) (by omega), cast_succ]
        refine ih (i + 1) (by omega) (by omega) (fun j hj => ?_)
        rcases Nat.lt_or_ge j i with hj' | hj'
        · exact hp j hj'
        · obtain rfl : j = i := by omega
          omega
theorem spec_textOk (s : ByteArray) (hs : s.size ≤ 9223372036854775807) : Ev (fun k => spec_TextOk.f k s) (textOk s) := by
  unfold spec_TextOk.f
  exact spec_TextOk_l0 s hs s.size 0 (by omega) (by omega) (fun j hj => by omega)

/-! ### digits -/
/-- The digits of a text from place i on, behind the number n. -/
def digits (s : ByteArray) : Nat → Int → Nat → Option Int
  | _, n, 0 => some n
  | i, n, d + 1 => if 48 ≤ bt s (i : Int) ∧ bt s (i : Int) ≤ 57 then digits s (i + 1) (10 * n + (bt s (i : Int) - 48)) d else none
def ofDigits (most : Int) : Option Int → Int × Bool
  | none => (0, false)
  | some n => if n > most then (0, false) else (n, true)
def parseNum (s : ByteArray) (most : Int) : Int × Bool :=
  if s.size = 0 ∨ 5 < s.size ∨ (1 < s.size ∧ bt s 0 = 48) ∨ 65535 < most then (0, false) else ofDigits most (digits s 0 0 s.size)
theorem spec_ParseNum_l0 (s : ByteArray) (most : Int) (hs : s.size ≤ 5) (d : Nat) : ∀ (i : Nat) (n : Int), i + d = s.size → 0 ≤ n → n < 10 ^ i → Ev (fun k => spec_ParseNum.l0 k s most n (i : Int)) (ofDigits most (digits s i n d)) := by
  induction d with
  | zero =>
    intro i n hi h0 h1
    refine Ev.step (fun k => spec_ParseNum.l0.eq_2 _ _ _ _ k) (Ev.neg (by omega) ?_)
    simp only [digits, ofDigits]
    by_cases h : n > most
    · exact Ev.pos h (Ev.done (if_pos h).symm)
    · exact Ev.neg h (Ev.done (if_neg h).symm)
  | succ d ih =>
    intro i n hi h0 h1
    refine Ev.step (fun k => spec_ParseNum.l0.eq_2 _ _ _ _ k) (Ev.pos (by omega) (Ev.pos (by omega) (Ev.then (l1In _ _ _) ?_)))
    have hb := bt_byte s (i : Int)
    have hp : (10 : Int) ^ (i + 1) = 10 * 10 ^ i := by rw [Int.pow_succ, Int.mul_comm]
    have hm : (10 : Int) ^ i ≤ 10 ^ 4 := by
      have := Nat.pow_le_pow_right (n := 10) (by decide) (show i ≤ 4 by omega)
      exact_mod_cast this
    rw [w64 (n := bt s (i : Int)) (by omega) (by omega)]
    simp only [digits]
    by_cases h : 48 ≤ bt s (i : Int) ∧ bt s (i : Int) ≤ 57
    · rw [if_pos h]
      refine Ev.pos (by simpa using h) ?_
      rw [Int.emod_eq_of_lt (a := bt s (i : Int) - 48) (by omega) (by omega), w64 (n := 10 * n) (by omega) (by omega), w64 (n := 10 * n + _) (by omega) (by omega), w64 (by omega) (by omega), cast_succ]
      exact ih (i + 1) _ (by omega) (by omega) (by rw [hp]; omega)
    · rw [if_neg h]
      exact Ev.neg (by simpa using h) (Ev.done rfl)
theorem impl_ParseNum_l0 (s : ByteArray) (most : Int) (hs : s.size ≤ 5) (d : Nat) : ∀ (i : Nat) (n : Int), i + d = s.size → 0 ≤ n → n < 10 ^ i → Ev (fun k => impl_ParseNum.l0 k s most n (s.size : Int) (i : Int)) (ofDigits most (digits s i n d)) := by
  induction d with
  | zero =>
    intro i n hi h0 h1
    refine Ev.step (fun k => impl_ParseNum.l0.eq_2 _ _ _ _ _ k) (Ev.neg (by omega) ?_)
    simp only [digits, ofDigits]
    by_cases h : n > most
    · exact Ev.pos h (Ev.done (if_pos h).symm)
    · exact Ev.neg h (Ev.done (if_neg h).symm)
  | succ d ih =>
    intro i n hi h0 h1
    refine Ev.step (fun k => impl_ParseNum.l0.eq_2 _ _ _ _ _ k) (Ev.pos (by omega) (Ev.pos (by omega) (Ev.pos (by omega) ?_)))
    have hb := bt_byte s (i : Int)
    have hp : (10 : Int) ^ (i + 1) = 10 * 10 ^ i := by rw [Int.pow_succ, Int.mul_comm]
    have hm : (10 : Int) ^ i ≤ 10 ^ 4 := by
      have := Nat.pow_le_pow_right (n := 10) (by decide) (show i ≤ 4 by omega)
      exact_mod_cast this
    simp only [digits]
    by_cases h1' : bt s (i : Int) < 48
    · rw [if_neg (by omega)]; exact Ev.pos h1' (Ev.done rfl)
    · refine Ev.neg h1' ?_
      by_cases h2 : bt s (i : Int) > 57
      · rw [if_neg (by omega)]; exact Ev.pos h2 (Ev.done rfl)
      · rw [if_pos (by omega)]
        refine Ev.neg h2 ?_
        rw [Int.emod_eq_of_lt (a := bt s (i : Int) - 48) (by omega) (by omega), w64 (n := 10 * n) (by omega) (by omega), w64 (n := 10 * n + _) (by omega) (by omega), w64 (by omega) (by omega), cast_succ]
        exact ih (i + 1) _ (by omega) (by omega) (by rw [hp]; omega)
theorem spec_parseNum (s : ByteArray) (most : Int) : Ev (fun k => spec_ParseNum.f k s most) (parseNum s most) := by
  unfold spec_ParseNum.f parseNum
  have bad : ∀ b : Bool, b = true → Ev (fun k => spec_ParseNum.j0 k s most b) (0, false) := fun b hb => Ev.step (fun k => spec_ParseNum.j0.eq_2 _ _ _ k) (Ev.pos hb (Ev.done rfl))
  by_cases h0 : s.size = 0
  · rw [if_pos (.inl h0)]; exact Ev.pos (by omega) (bad _ rfl)
  refine Ev.neg (by omega) ?_
  by_cases h1 : 5 < s.size
  · rw [if_pos (.inr (.inl h1))]; exact Ev.pos (by omega) (bad _ rfl)
  refine Ev.neg (by omega) ?_
  have fin : ¬ (1 < s.size ∧ bt s 0 = 48) → Ev (fun k => spec_ParseNum.j0 k s most (decide (most > 65535))) (if s.size = 0 ∨ 5 < s.size ∨ (1 < s.size ∧ bt s 0 = 48) ∨ 65535 < most then (0, false) else ofDigits most (digits s 0 0 s.size)) := by
    intro hn
    by_cases h2 : 65535 < most
    · rw [if_pos (.inr (.inr (.inr h2)))]; exact bad _ (by simpa using h2)
    · rw [if_neg (by omega)]
      exact Ev.step (fun k => spec_ParseNum.j0.eq_2 _ _ _ k) (Ev.neg (by simpa using h2) (spec_ParseNum_l0 s most (by omega) s.size 0 0 (by omega) (by omega) (by decide)))
  by_cases h3 : 1 < s.size
  · refine Ev.pos (by omega) (Ev.pos (by omega) ?_)
    by_cases h4 : bt s 0 = 48
    · rw [if_pos (.inr (.inr (.inl ⟨h3, h4⟩)))]; exact Ev.pos h4 (bad _ rfl)
    · exact Ev.neg h4 (fin (fun h => h4 h.2))
  · exact Ev.neg (by omega) (fin (fun h => h3 h.1))
theorem impl_parseNum (s : ByteArray) (most : Int) : Ev (fun k => impl_ParseNum.f k s most) (parseNum s most) := by
  unfold impl_ParseNum.f parseNum
  have bad : ∀ b : Bool, b = true → Ev (fun k => impl_ParseNum.j0 k s most b) (0, false) := fun b hb => Ev.step (fun k => impl_ParseNum.j0.eq_2 _ _ _ k) (Ev.pos hb (Ev.done rfl))
  by_cases h2 : most > 65535
  · rw [if_pos (.inr (.inr (.inr h2)))]; exact Ev.pos h2 (bad _ rfl)
  refine Ev.neg h2 (Ev.then (isIn _ _ _) ?_)
  by_cases h0 : s.size = 0
  · rw [if_pos (.inl h0)]; exact Ev.neg (by simp; omega) (bad _ rfl)
  by_cases h1 : 5 < s.size
  · rw [if_pos (.inr (.inl h1))]; exact Ev.neg (by simp; omega) (bad _ rfl)
  refine Ev.pos (by simp; omega) ?_
  have fin : ∀ b : Bool, b = false → ¬ (1 < s.size ∧ bt s 0 = 48) → Ev (fun k => impl_ParseNum.j0 k s most b) (if s.size = 0 ∨ 5 < s.size ∨ (1 < s.size ∧ bt s 0 = 48) ∨ 65535 < most then (0, false) else ofDigits most (digits s 0 0 s.size)) := by
    intro b hb hn
    rw [if_neg (by omega)]
    exact Ev.step (fun k => impl_ParseNum.j0.eq_2 _ _ _ k) (Ev.neg (by simpa using hb) (impl_ParseNum_l0 s most (by omega) s.size 0 0 (by omega) (by omega) (by decide)))
  by_cases h3 : 1 < s.size
  · refine Ev.pos (by omega) (Ev.pos (by omega) ?_)
    by_cases h4 : bt s 0 = 48
    · rw [if_pos (.inr (.inr (.inl ⟨h3, h4⟩)))]; exact bad _ (by simpa using h4)
    · exact fin _ (by simpa using h4) (fun h => h4 h.2)
  · exact Ev.neg (by omega) (fin _ rfl (fun h => h3 h.1))

/-! ### the checksum -/
theorem bits_nat64 (a b : Nat) (ha : a < 2 ^ 63) (hb : b < 2 ^ 63) : Go.bits .and .i64 a b = ((a &&& b : Nat) : Int) := (Go.bits_nat .i64 63 (by decide) wraps_i64 a b ha hb).1
theorem xor_nat (a b : Nat) (ha : a < 2 ^ 63) (hb : b < 2 ^ 63) : Go.bits .xor .i64 a b = ((a ^^^ b : Nat) : Int) := by
  have hc : a ^^^ b < 2 ^ 63 := Nat.xor_lt_two_pow ha hb
  have hk : IntKind.i64.bits = 64 := rfl
  have ha' : a % 2 ^ IntKind.i64.bits = a := Nat.mod_eq_of_lt (by rw [hk]; omega)
  have hb' : b % 2 ^ IntKind.i64.bits = b := Nat.mod_eq_of_lt (by rw [hk]; omega)
  simp only [Go.bits, BitVec.ofInt_natCast, BitVec.toNat_xor, BitVec.toNat_ofNat, ha', hb']
  exact wraps_i64 _ (by omega) (by exact_mod_cast hc)
theorem and_mask (a : Nat) (ha : a < 65536) : Go.bits .and .i64 a 65535 = (a : Int) := by
  rw [show (65535 : Int) = ((65535 : Nat) : Int) from rfl, bits_nat64 a 65535 (by omega) (by omega), show (65535 : Nat) = 2 ^ 16 - 1 by decide, Nat.and_two_pow_sub_one_eq_mod, Nat.mod_eq_of_lt ha]
theorem bit_int {s : Nat} (h : s < 65536) : (if 65535 < wrap64 ((s : Int) * 2) then Go.bits .xor .i64 (wrap64 ((s : Int) * 2)) 69665 else wrap64 ((s : Int) * 2)) = (Crc.bit s : Int) := by
  unfold Crc.bit
  rw [w64 (by omega) (by omega)]
  by_cases hs : 2 * s > 65535
  · rw [if_pos (by omega), if_pos hs, show (s : Int) * 2 = ((2 * s : Nat) : Int) by omega, show (69665 : Int) = ((69665 : Nat) : Int) from rfl, xor_nat _ _ (by omega) (by omega)]
  · rw [if_neg (by omega), if_neg hs]; omega
theorem impl_Sum_l1 (l : List Int) (i : Nat) (r : Int) (s' : Nat) (d : Nat) : ∀ (j s : Nat), j + d = 8 → s < 65536 → Crc.bits s d = s' → Ev (fun k => impl_Sum.l0 k (s' : Int) l (l.length : Int) (wrap64 ((i : Int) + 1))) r → Ev (fun k => impl_Sum.l1 k (s : Int) l (l.length : Int) (i : Int) (j : Int)) r := by
  induction d with
  | zero =>
    intro j s hj hs he hk
    refine Ev.step (fun k => impl_Sum.l1.eq_2 _ _ _ _ _ k) (Ev.neg (by omega) ?_)
    rw [show s = s' from he]
    exact hk
  | succ d ih =>
    intro j s hj hs he hk
    refine Ev.step (fun k => impl_Sum.l1.eq_2 _ _ _ _ _ k) (Ev.pos (by omega) ?_)
    have hb := bit_int hs
    have hn := ih (j + 1) (Crc.bit s) (by omega) (Crc.bit_lt hs) he hk
    have hj1 : wrap64 ((j : Int) + 1) = ((j + 1 : Nat) : Int) := by rw [w64 (by omega) (by omega)]; rfl
    by_cases h : wrap64 ((s : Int) * 2) > 65535
    · rw [if_pos h] at hb
      refine Ev.pos h ?_
      rw [hb, hj1]
      exact hn
    · rw [if_neg h] at hb
      refine Ev.neg h ?_
      rw [hb, hj1]
      exact hn
theorem spec_Sum_l1 (l : List Int) (i : Nat) (r : Int) (s' : Nat) (d : Nat) : ∀ (j s : Nat), j + d = 8 → s < 65536 → Crc.bits s d = s' → Ev (fun k => spec_Sum.l0 k l (s' : Int) (wrap64 ((i : Int) + 1))) r → Ev (fun k => spec_Sum.l1 k l (s : Int) (i : Int) (j : Int)) r := by
  induction d with
  | zero =>
    intro j s hj hs he hk
    refine Ev.step (fun k => spec_Sum.l1.eq_2 _ _ _ _ k) (Ev.neg (by omega) ?_)
    rw [show s = s' from he]
    exact hk
  | succ d ih =>
    intro j s hj hs he hk
    refine Ev.step (fun k => spec_Sum.l1.eq_2 _ _ _ _ k) (Ev.pos (by omega) ?_)
    have hb := bit_int hs
    have hn := ih (j + 1) (Crc.bit s) (by omega) (Crc.bit_lt hs) he hk
    have hj1 : wrap64 ((j : Int) + 1) = ((j + 1 : Nat) : Int) := by rw [w64 (by omega) (by omega)]; rfl
    by_cases h : wrap64 ((s : Int) * 2) > 65535
    · rw [if_pos h] at hb
      refine Ev.pos h ?_
      rw [hb, hj1]
      exact hn
    · rw [if_neg h] at hb
      refine Ev.neg h ?_
      rw [hb, hj1]
      exact hn
theorem byte_int {s : Nat} {x : Int} (hs : s < 65536) (hx : 0 ≤ x ∧ x ≤ 255) : Go.bits .xor .i64 (s : Int) (wrap64 (x * 256)) = ((s ^^^ (256 * x.toNat) : Nat) : Int) := by
  rw [w64 (by omega) (by omega), show x * 256 = ((256 * x.toNat : Nat) : Int) by omega, xor_nat _ _ (by omega) (by omega)]
theorem impl_Sum_l0 (l : List Int) (hb : Bytes l) (hl : l.length ≤ 140737488351232) (d : Nat) : ∀ (i s : Nat), i + d = l.length → s < 65536 → Ev (fun k => impl_Sum.l0 k (s : Int) l (l.length : Int) (i : Int)) (Crc.sum s (l.drop i) : Int) := by
  induction d with
  | zero =>
    intro i s hi hs
    refine Ev.step (fun k => impl_Sum.l0.eq_2 _ _ _ _ k) (Ev.neg (by omega) (Ev.done ?_))
    rw [List.drop_of_length_le (by omega), and_mask s hs]; rfl
  | succ d ih =>
    intro i s hi hs
    have hr := rd_byte hb (i : Int)
    refine Ev.step (fun k => impl_Sum.l0.eq_2 _ _ _ _ k) (Ev.pos (by omega) (Ev.pos (by omega) (Ev.pos (by omega) ?_)))
    rw [drop_rd (by omega), Crc.sum_cons, w64_byte hb, Int.mul_comm 256, byte_int hs hr]
    refine impl_Sum_l1 l i _ _ 8 0 _ (by omega) (Nat.xor_lt_two_pow (n := 16) hs (by omega)) (Crc.byte_def _ _) ?_
    rw [w64 (by omega) (by omega), cast_succ]
    exact ih (i + 1) _ (by omega) (Crc.byte_lt hs (by omega))
theorem spec_Sum_l0 (l : List Int) (hb : Bytes l) (hl : l.length ≤ 140737488351232) (d : Nat) : ∀ (i s : Nat), i + d = l.length → s < 65536 → Ev (fun k => spec_Sum.l0 k l (s : Int) (i : Int)) (Crc.sum s (l.drop i) : Int) := by
  induction d with
  | zero =>
    intro i s hi hs
    refine Ev.step (fun k => spec_Sum.l0.eq_2 _ _ _ k) (Ev.neg (by omega) (Ev.done ?_))
    rw [List.drop_of_length_le (by omega), and_mask s hs]; rfl
  | succ d ih =>
    intro i s hi hs
    have hr := rd_byte hb (i : Int)
    refine Ev.step (fun k => spec_Sum.l0.eq_2 _ _ _ k) (Ev.pos (by omega) (Ev.pos (by omega) ?_))
    rw [drop_rd (by omega), Crc.sum_cons, w64_byte hb, byte_int hs hr]
    refine spec_Sum_l1 l i _ _ 8 0 _ (by omega) (Nat.xor_lt_two_pow (n := 16) hs (by omega)) (Crc.byte_def _ _) ?_
    rw [w64 (by omega) (by omega), cast_succ]
    exact ih (i + 1) _ (by omega) (Crc.byte_lt hs (by omega))
def crc (l : List Int) : Int := (Crc.sum 65535 l : Nat)
theorem impl_sum (l : List Int) (hb : Bytes l) (hl : l.length ≤ 140737488351232) : Ev (fun k => impl_Sum.f k l) (crc l) := by
  unfold impl_Sum.f
  exact impl_Sum_l0 l hb hl l.length 0 65535 (by omega) (by decide)
theorem spec_sum (l : List Int) (hb : Bytes l) (hl : l.length ≤ 140737488351232) : Ev (fun k => spec_Sum.f k l) (crc l) := by
  unfold spec_Sum.f
  exact spec_Sum_l0 l hb hl l.length 0 65535 (by omega) (by decide)
theorem crc_range (l : List Int) (hb : Bytes l) : 0 ≤ crc l ∧ crc l ≤ 65535 := by
  have := Crc.sum_lt l hb (show 65535 < 65536 by decide)
  unfold crc
  omega
/-! ### texts out of bytes -/
theorem size_strOfNums (l : List Int) : (strOfNums l).size = l.length := by
  unfold strOfNums
  rw [ByteArray.size]
  simp
def noText : ByteArray × Int × Bool := (⟨#[]⟩, 0, false)
/-- The bytes of l from a + 1 on, as many as byte a tells. -/
def textAt (l : List Int) (a : Int) : ByteArray := strOfNums ((l.take (a + 1 + rd l a).toNat).drop (a + 1).toNat)
def getText (l : List Int) (a : Int) : ByteArray × Int × Bool :=
  if a < 0 ∨ (l.length : Int) ≤ a ∨ (l.length : Int) - a - 1 < rd l a then noText
  else if textOk (textAt l a) = true then (textAt l a, a + 1 + rd l a, true) else noText
theorem textAt_size (l : List Int) (a : Int) (hl : l.length ≤ 140737488351232) : (textAt l a).size ≤ 9223372036854775807 := by
  unfold textAt
  rw [size_strOfNums, List.length_drop, List.length_take]
  omega
theorem spec_getText (l : List Int) (a : Int) (hb : Bytes l) (hl : l.length ≤ 140737488351232) : Ev (fun k => spec_GetText.f k l a) (getText l a) := by
  unfold spec_GetText.f getText
  have bad : ∀ b : Bool, b = true → Ev (fun k => spec_GetText.j0 k l a b) noText := fun b hb => Ev.step (fun k => spec_GetText.j0.eq_2 _ _ _ k) (Ev.pos hb (Ev.done rfl))
  by_cases h0 : a < 0
  · rw [if_pos (.inl h0)]; exact Ev.pos h0 (bad _ rfl)
  refine Ev.neg h0 ?_
  by_cases h1 : (l.length : Int) ≤ a
  · rw [if_pos (.inr (.inl h1))]; exact bad _ (by simpa using h1)
  have hr := rd_byte hb a
  refine Ev.step (fun k => spec_GetText.j0.eq_2 _ _ _ k) (Ev.neg (by simpa using h1) (Ev.pos (by omega) (Ev.pos (by omega) ?_)))
  rw [w64_byte hb, w64 (n := (l.length : Int) - a) (by omega) (by omega), w64 (n := (l.length : Int) - a - 1) (by omega) (by omega)]
  by_cases h2 : (l.length : Int) - a - 1 < rd l a
  · rw [if_pos (.inr (.inr h2))]; exact Ev.pos h2 (Ev.done rfl)
  rw [if_neg (by omega), w64 (n := a + 1) (by omega) (by omega), w64 (n := a + 1 + rd l a) (by omega) (by omega)]
  refine Ev.neg h2 (Ev.pos (by omega) (Ev.pos (by omega) (Ev.pos (by omega) (Ev.bind (spec_textOk (textAt l a) (textAt_size l a hl)) ?_))))
  by_cases h3 : textOk (textAt l a) = true
  · exact Ev.pos h3 (Ev.done (if_pos h3).symm)
  · exact Ev.neg h3 (Ev.done (if_neg h3).symm)
theorem impl_getText (l : List Int) (a : Int) (hb : Bytes l) (hl : l.length ≤ 140737488351232) : Ev (fun k => impl_GetText.f k l a) (getText l a) := by
  unfold impl_GetText.f getText
  have bad : ∀ b : Bool, b = true → Ev (fun k => impl_GetText.j0 k l a b) noText := fun b hb => Ev.step (fun k => impl_GetText.j0.eq_2 _ _ _ k) (Ev.pos hb (Ev.done rfl))
  rw [isIn, w64 (n := (l.length : Int) - 1) (by omega) (by omega)]
  by_cases h0 : a < 0 ∨ (l.length : Int) ≤ a
  · rw [if_pos (by omega)]
    exact Ev.neg (by simp; omega) (bad _ rfl)
  have hr := rd_byte hb a
  refine Ev.pos (by simp; omega) (Ev.pos (by omega) (Ev.pos (by omega) ?_))
  rw [w64_byte hb, w64 (n := (l.length : Int) - a) (by omega) (by omega), w64 (n := (l.length : Int) - a - 1) (by omega) (by omega)]
  by_cases h2 : (l.length : Int) - a - 1 < rd l a
  · rw [if_pos (.inr (.inr h2))]; exact bad _ (by simpa using h2)
  rw [if_neg (by omega)]
  refine Ev.step (fun k => impl_GetText.j0.eq_2 _ _ _ k) (Ev.neg (by simpa using h2) (Ev.pos (by omega) (Ev.pos (by omega) ?_)))
  rw [w64_byte hb, w64 (n := a + 1) (by omega) (by omega), w64 (n := a + 1 + rd l a) (by omega) (by omega)]
  refine Ev.pos (by omega) (Ev.pos (by omega) (Ev.pos (by omega) (Ev.bind (impl_textOk (textAt l a) (textAt_size l a hl)) ?_)))
  by_cases h3 : textOk (textAt l a) = true
  · exact Ev.pos h3 (Ev.done (if_pos h3).symm)
  · exact Ev.neg h3 (Ev.done (if_neg h3).symm)
end Go.Proofs.Ytjjnfolkanmdeaa.Fn
