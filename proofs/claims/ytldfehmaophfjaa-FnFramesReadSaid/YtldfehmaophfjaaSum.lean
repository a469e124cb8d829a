/- What the printed functions that make a checksum come to. No memory is in sight here. -/
import Derived.Test.YtldfehmaophfjaaPxd
import Derived.Test.YtldfehmaophfjaaBytes
namespace Go.Proofs.Ytldfehmaophfjaa.Fn
set_option linter.unusedVariables false
set_option linter.unusedSimpArgs false
open Go.RowKit Go.Proofs.YtldfehmaophfjaaW.PrintWords Go.Proofs.Ytldfehmaophfjaa.P Go.Proofs.Ytldfehmaophfjaa.Base

/-! ### the checksum -/
theorem bits_nat64 (a b : Nat) (ha : a < 2 ^ 63) (hb : b < 2 ^ 63) : Go.bits .and .i64 a b = ((a &&& b : Nat) : Int) := (Go.bits_nat .i64 63 (by decide) wraps_i64 a b ha hb).1
theorem xor_nat (a b : Nat) (ha : a < 2 ^ 63) (hb : b < 2 ^ 63) : Go.bits .xor .i64 a b = ((a ^^^ b : Nat) : Int) := by
  have hc : a ^^^ b < 2 ^ 63 := Nat.xor_lt_two_pow ha hb
  have hk : IntKind.i64.bits = 64 := rfl
  have ha' : a % 2 ^ IntKind.i64.bits = a := Nat.mod_eq_of_lt (by rw [hk]; omega)
  have hb' : b % 2 ^ IntKind.i64.bits = b := Nat.mod_eq_of_lt (by rw [hk]; omega)
  simp only [Go.bits, BitVec.ofInt_natCast, BitVec.toNat_xor, BitVec.toNat_ofNat, ha', hb']
  exact wraps_i64 _ (by omega) (by exact_mod_cast hc)
theorem and_mask (a : Nat) (ha : a < 65536) : Go.bits .and .i64 a 65535 = (a : Int) := by
  rw [show (65535 : Int) = ((65535 : Nat) : Int) from rfl, bits_nat64 a 65535 (by omega) (by omega), show (65535 : Nat) = 2 ^ 16 - 1 by decide, Nat.and_two_pow_sub_one_eq_mod, Nat.mod_eq_of_lt ha]
theorem bit_int {s : Nat} (h : s < 65536) : (if 65535 < wrap64 ((s : Int) * 2) then Go.bits .xor .i64 (wrap64 ((s : Int) * 2)) 69665 else wrap64 ((s : Int) * 2)) = (Crc.bit s : Int) := by
  unfold Crc.bit
  rw [w64 (by omega) (by omega)]
  by_cases hs : 2 * s > 65535
  · rw [if_pos (by omega), if_pos hs, show (s : Int) * 2 = ((2 * s : Nat) : Int) by omega, show (69665 : Int) = ((69665 : Nat) : Int) from rfl, xor_nat _ _ (by omega) (by omega)]
  · rw [if_neg (by omega), if_neg hs]; omega
theorem impl_Sum_l1 (l : List Int) (i : Nat) (r : Int) (s' : Nat) (d : Nat) : ∀ (j s : Nat), j + d = 8 → s < 65536 → Crc.bits s d = s' → Ev (fun k => impl_Sum.l0 k (s' : Int) l (l.length : Int) (wrap64 ((i : Int) + 1))) r → Ev (fun k => impl_Sum.l1 k (s : Int) l (l.length : Int) (i : Int) (j : Int)) r := by
  induction d with
  | zero =>
    intro j s hj hs he hk
    refine Ev.step (fun k => impl_Sum.l1.eq_2 _ _ _ _ _ k) (Ev.neg (by omega) ?_)
    rw [show s = s' from he]
    exact hk
  | succ d ih =>
    intro j s hj hs he hk
    refine Ev.step (fun k => impl_Sum.l1.eq_2 _ _ _ _ _ k) (Ev.pos (by omega) ?_)
    have hb := bit_int hs
    have hn := ih (j + 1) (Crc.bit s) (by omega) (Crc.bit_lt hs) he hk
    have hj1 : wrap64 ((j : Int) + 1) = ((j + 1 : Nat) : Int) := by rw [w64 (by omega) (by omega)]; rfl
    by_cases h : wrap64 ((s : Int) * 2) > 65535
    · rw [if_pos h] at hb
      refine Ev.pos h ?_
      rw [hb, hj1]
      exact hn
    · rw [if_neg h] at hb
      refine Ev.neg h ?_
      rw [hb, hj1]
      exact hn
theorem spec_Sum_l1 (l : List Int) (i : Nat) (r : Int) (s' : Nat) (d : Nat) : ∀ (j s : Nat), j + d = 8 → s < 65536 → Crc.bits s d = s' → Ev (fun k => spec_Sum.l0 k l (s' : Int) (wrap64 ((i : Int) + 1))) r → Ev (fun k => spec_Sum.l1 k l (s : Int) (i : Int) (j : Int)) r := by
  induction d with
  | zero =>
    intro j s hj hs he hk
    refine Ev.step (fun k => spec_Sum.l1.eq_2 _ _ _ _ k) (Ev.neg (by omega) ?_)
    rw [show s = s' from he]
    exact hk
  | succ d ih =>
    intro j s hj hs he hk
    refine Ev.step (fun k => spec_Sum.l1.eq_2 _ _ _ _ k) (Ev.pos (by omega) ?_)
    have hb := bit_int hs
    have hn := ih (j + 1) (Crc.bit s) (by omega) (Crc.bit_lt hs) he hk
    have hj1 : wrap64 ((j : Int) + 1) = ((j + 1 : Nat) : Int) := by rw [w64 (by omega) (by omega)]; rfl
    by_cases h : wrap64 ((s : Int) * 2) > 65535
    · rw [if_pos h] at hb
      refine Ev.pos h ?_
      rw [hb, hj1]
      exact hn
    · rw [if_neg h] at hb
      refine Ev.neg h ?_
      rw [hb, hj1]
      exact hn
theorem byte_int {s : Nat} {x : Int} (hs : s < 65536) (hx : 0 ≤ x ∧ x ≤ 255) : Go.bits .xor .i64 (s : Int) (wrap64 (x * 256)) = ((s ^^^ (256 * x.toNat) : Nat) : Int) := by
  rw [w64 (by omega) (by omega), show x * 256 = ((256 * x.toNat : Nat) : Int) by omega, xor_nat _ _ (by omega) (by omega)]
theorem impl_Sum_l0 (l : List Int) (hb : Bytes l) (hl : l.length ≤ 140737488351232) (d : Nat) : ∀ (i s : Nat), i + d = l.length → s < 65536 → Ev (fun k => impl_Sum.l0 k (s : Int) l (l.length : Int) (i : Int)) (Crc.sum s (l.drop i) : Int) := by
  induction d with
  | zero =>
    intro i s hi hs
    refine Ev.step (fun k => impl_Sum.l0.eq_2 _ _ _ _ k) (Ev.neg (by omega) (Ev.done ?_))
    rw [List.drop_of_length_le (by omega), and_mask s hs]; rfl
  | succ d ih =>
    intro i s hi hs
    have hr := rd_byte hb (i : Int)
    refine Ev.step (fun k => impl_Sum.l0.eq_2 _ _ _ _ k) (Ev.pos (by omega) (Ev.pos (by omega) (Ev.pos (by omega) ?_)))
    rw [drop_rd (by omega), Crc.sum_cons, w64_byte hb, Int.mul_comm 256, byte_int hs hr]
    refine impl_Sum_l1 l i _ _ 8 0 _ (by omega) (Nat.xor_lt_two_pow (n := 16) hs (by omega)) (Crc.byte_def _ _) ?_
    rw [w64 (by omega) (by omega), cast_succ]
    exact ih (i + 1) _ (by omega) (Crc.byte_lt hs (by omega))
theorem spec_Sum_l0 (l : List Int) (hb : Bytes l) (hl : l.length ≤ 140737488351232) (d : Nat) : ∀ (i s : Nat), i + d = l.length → s < 65536 → Ev (fun k => spec_Sum.l0 k l (s : Int) (i : Int)) (Crc.sum s (l.drop i) : Int) := by
  induction d with
  | zero =>
    intro i s hi hs
    refine Ev.step (fun k => spec_Sum.l0.eq_2 _ _ _ k) (Ev.neg (by omega) (Ev.done ?_))
    rw [List.drop_of_length_le (by omega), and_mask s hs]; rfl
  | succ d ih =>
    intro i s hi hs
    have hr := rd_byte hb (i : Int)
    refine Ev.step (fun k => spec_Sum.l0.eq_2 _ _ _ k) (Ev.pos (by omega) (Ev.pos (by omega) ?_))
    rw [drop_rd (by omega), Crc.sum_cons, w64_byte hb, byte_int hs hr]
    refine spec_Sum_l1 l i _ _ 8 0 _ (by omega) (Nat.xor_lt_two_pow (n := 16) hs (by omega)) (Crc.byte_def _ _) ?_
    rw [w64 (by omega) (by omega), cast_succ]
    exact ih (i + 1) _ (by omega) (Crc.byte_lt hs (by omega))
def crc (l : List Int) : Int := (Crc.sum 65535 l : Nat)
theorem impl_sum (l : List Int) (hb : Bytes l) (hl : l.length ≤ 140737488351232) : Ev (fun k => impl_Sum.f k l) (crc l) := by
  unfold impl_Sum.f
  exact impl_Sum_l0 l hb hl l.length 0 65535 (by omega) (by decide)
theorem spec_sum (l : List Int) (hb : Bytes l) (hl : l.length ≤ 140737488351232) : Ev (fun k => spec_Sum.f k l) (crc l) := by
  unfold spec_Sum.f
  exact spec_Sum_l0 l hb hl l.length 0 65535 (by omega) (by decide)
theorem crc_range (l : List Int) (hb : Bytes l) : 0 ≤ crc l ∧ crc l ≤ 65535 := by
  have := Crc.sum_lt l hb (show 65535 < 65536 by decide)
  unfold crc
  omega
end Go.Proofs.Ytldfehmaophfjaa.Fn
