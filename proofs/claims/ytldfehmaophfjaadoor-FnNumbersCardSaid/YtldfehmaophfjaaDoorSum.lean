/- What the printed functions that make a checksum come to. No memory is in sight here. -/
import Derived.Test.YtldfehmaophfjaaDoorPxd
import Derived.Test.YtldfehmaophfjaaDoorBytes
namespace Go.Proofs.YtldfehmaophfjaaDoor.Fn
set_option linter.unusedVariables false
set_option linter.unusedSimpArgs false
open Go.RowKit Go.Proofs.YtldfehmaophfjaaDoorW.PrintWords Go.Proofs.YtldfehmaophfjaaDoor.P Go.Proofs.YtldfehmaophfjaaDoor.Base

/-! ### the checksum -/
theorem bits_nat64 (a b : Nat) (ha : a < 2 ^ 63) (hb : b < 2 ^ 63) : Go.bits .and .i64 a b = ((a &&& b : Nat) : Int) := (Go.bits_nat .i64 63 (by decide) wraps_i64 a b ha hb).1
theorem xor_nat (a b : Nat) (ha : a < 2 ^ 63) (hb : b < 2 ^ 63) : Go.bits .xor .i64 a b = ((a ^^^ b : Nat) : Int) := by
  have hc : a ^^^ b < 2 ^ 63 := Nat.xor_lt_two_pow ha hb
  have hk : IntKind.i64.bits = 64 := rfl
  have ha' : a % 2 ^ IntKind.i64.bits = a := Nat.mod_eq_of_lt (by rw [hk]; omega)
  have hb' : b % 2 ^ IntKind.i64.bits = b := Nat.mod_eq_of_lt (by rw [hk]; omega)
  simp only [Go.bits, BitVec.ofInt_natCast, BitVec.toNat_xor, BitVec.toNat_ofNat, ha', hb']
  exact wraps_i64 _ (by omega) (by exact_mod_cast hc)
theorem and_mask (a : Nat) (ha : a < 65536) : Go.bits .and .i64 a 65535 = (a : Int) := by
  rw [show (65535 : Int) = ((65535 : Nat) : Int) from rfl, bits_nat64 a 65535 (by omega) (by omega), show (65535 : Nat) = 2 ^ 16 - 1 by decide, Nat.and_two_pow_sub_one_eq_mod, Nat.mod_eq_of_lt ha]
theorem bit_int {s : Nat} (h : s < 65536) : (if 65535 < wrap64 ((s : Int) * 2) then Go.bits .xor .i64 (wrap64 ((s : Int) * 2)) 69665 else wrap64 ((s : Int) * 2)) = (Crc.bit s : Int) := by
  unfold Crc.bit
  rw [w64 (by omega) (by omega)]
  by_cases hs : 2 * s > 65535
  · rw [if_pos (by omega), if_pos hs, show (s : Int) * 2 = ((2 * s : Nat) : Int) by omega, show (69665 : Int) = ((69665 : Nat) : Int) from rfl, xor_nat _ _ (by omega) (by omega)]
  · rw [if_neg (by omega), if_neg hs]; omega
theorem byte_int {s : Nat} {x : Int} (hs : s < 65536) (hx : 0 ≤ x ∧ x ≤ 255) : Go.bits .xor .i64 (s : Int) (wrap64 (x * 256)) = ((s ^^^ (256 * x.toNat) : Nat) : Int) := by
  rw [w64 (by omega) (by omega), show x * 256 = ((256 * x.toNat : Nat) : Int) by omega, xor_nat _ _ (by omega) (by omega)]
def crc (l : List Int) : Int := (Crc.sum 65535 l : Nat)
theorem crc_range (l : List Int) (hb : Bytes l) : 0 ≤ crc l ∧ crc l ≤ 65535 := by
  have := Crc.sum_lt l hb (show 65535 < 65536 by decide)
  unfold crc
  omega
end Go.Proofs.YtldfehmaophfjaaDoor.Fn
