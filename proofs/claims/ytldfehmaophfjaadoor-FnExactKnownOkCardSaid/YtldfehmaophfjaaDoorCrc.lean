/- The checksum as a function on natural numbers, and that a changed byte changes it. Plain arithmetic: no program is in sight here. -/
import Derived.Test.YtldfehmaophfjaaDoorBase
namespace Go.Proofs.YtldfehmaophfjaaDoor.Crc
set_option linter.unusedVariables false
set_option linter.unusedSimpArgs false

def bit (s : Nat) : Nat := if 2 * s > 65535 then (2 * s) ^^^ 69665 else 2 * s
def bits (s : Nat) : Nat → Nat
  | 0 => s
  | k + 1 => bits (bit s) k
@[irreducible] def byte (s x : Nat) : Nat := bits (s ^^^ (256 * x)) 8
def sum : Nat → List Int → Nat
  | s, [] => s
  | s, x :: xs => sum (byte s x.toNat) xs

theorem xor_cancel {a b c : Nat} (h : a ^^^ b = a ^^^ c) : b = c := by
  have := congrArg (a ^^^ ·) h
  simpa [← Nat.xor_assoc] using this
theorem xor_cancel' {a b c : Nat} (h : b ^^^ a = c ^^^ a) : b = c := by
  rw [Nat.xor_comm b, Nat.xor_comm c] at h
  exact xor_cancel h
theorem sum_nil (s : Nat) : sum s [] = s := rfl
theorem sum_cons (s : Nat) (x : Int) (xs : List Int) : sum s (x :: xs) = sum (byte s x.toNat) xs := by rw [sum]
theorem bit_lt {s : Nat} (h : s < 65536) : bit s < 65536 := by
  unfold bit
  split
  · have e : ((2 * s) ^^^ 69665) / 2 ^ 16 = (2 * s) / 2 ^ 16 ^^^ 69665 / 2 ^ 16 := Nat.xor_div_two_pow
    have e1 : (2 * s) / 2 ^ 16 = 1 := by omega
    rw [e1] at e
    have e2 : (1 : Nat) ^^^ 69665 / 2 ^ 16 = 0 := by decide
    rw [e2] at e
    omega
  · omega
theorem bit_mod (s : Nat) : bit s % 2 = if 2 * s > 65535 then 1 else 0 := by
  unfold bit
  split
  · have e : ((2 * s) ^^^ 69665) % 2 ^ 1 = (2 * s) % 2 ^ 1 ^^^ 69665 % 2 ^ 1 := Nat.xor_mod_two_pow
    have e1 : (2 * s) % 2 ^ 1 = 0 := by omega
    rw [e1] at e
    have e2 : (0 : Nat) ^^^ 69665 % 2 ^ 1 = 1 := by decide
    rw [e2] at e
    omega
  · omega
theorem bit_inj {s t : Nat} (h : bit s = bit t) : s = t := by
  have hm := congrArg (· % 2) h
  simp only [bit_mod] at hm
  unfold bit at h
  by_cases hs : 2 * s > 65535
  · by_cases ht : 2 * t > 65535
    · rw [if_pos hs, if_pos ht] at h
      have := xor_cancel' h
      omega
    · rw [if_pos hs, if_neg ht] at hm
      omega
  · by_cases ht : 2 * t > 65535
    · rw [if_neg hs, if_pos ht] at hm
      omega
    · rw [if_neg hs, if_neg ht] at h
      omega
theorem bits_lt {s : Nat} (h : s < 65536) (k : Nat) : bits s k < 65536 := by
  induction k generalizing s with
  | zero => exact h
  | succ k ih => exact ih (bit_lt h)
theorem bits_inj {s t : Nat} (k : Nat) (h : bits s k = bits t k) : s = t := by
  induction k generalizing s t with
  | zero => exact h
  | succ k ih => exact bit_inj (ih h)
theorem byte_def (s x : Nat) : bits (s ^^^ (256 * x)) 8 = byte s x := by unfold byte; rfl
theorem byte_lt {s x : Nat} (h : s < 65536) (hx : x ≤ 255) : byte s x < 65536 := by
  unfold byte
  have h2 : s ^^^ (256 * x) < 65536 := Nat.xor_lt_two_pow (n := 16) h (by omega)
  generalize s ^^^ (256 * x) = y at h2
  exact bits_lt h2 _
theorem byte_inj_left {s t x : Nat} (h : byte s x = byte t x) : s = t := by
  unfold byte at h
  generalize 8 = k at h
  exact xor_cancel' (bits_inj k h)
theorem byte_inj_right {s x y : Nat} (h : byte s x = byte s y) : x = y := by
  unfold byte at h
  generalize 8 = k at h
  have := xor_cancel (bits_inj k h)
  omega
theorem sum_lt (l : List Int) (hl : Base.Bytes l) {s : Nat} (h : s < 65536) : sum s l < 65536 := by
  induction l generalizing s with
  | nil => exact h
  | cons x xs ih =>
    have hx := hl x (List.mem_cons_self ..)
    rw [sum_cons]
    exact ih (fun y hy => hl y (List.mem_cons_of_mem _ hy)) (byte_lt h (by omega))
theorem sum_inj (l : List Int) {s t : Nat} (h : sum s l = sum t l) : s = t := by
  induction l generalizing s t with
  | nil => exact h
  | cons x xs ih =>
    rw [sum_cons, sum_cons] at h
    exact byte_inj_left (ih h)
theorem sum_append (l m : List Int) (s : Nat) : sum s (l ++ m) = sum (sum s l) m := by
  induction l generalizing s with
  | nil => rfl
  | cons x xs ih => rw [List.cons_append, sum_cons, sum_cons, ih]
/-- A changed byte changes the sum. -/
theorem sum_set (l : List Int) (s : Nat) (i : Nat) (hi : i < l.length) (y : Int) (hy : 0 ≤ y) (hx : 0 ≤ l[i]) (hne : y ≠ l[i]) : sum s (l.set i y) ≠ sum s l := by
  induction l generalizing s i with
  | nil => simp at hi
  | cons a as ih =>
    cases i with
    | zero =>
      intro h
      rw [List.set_cons_zero, sum_cons, sum_cons] at h
      have h2 := byte_inj_right (sum_inj as h)
      simp only [List.getElem_cons_zero] at hx hne
      omega
    | succ i =>
      simp only [List.getElem_cons_succ] at hx hne
      rw [List.set_cons_succ, sum_cons, sum_cons]
      exact ih (byte s a.toNat) i (by simpa using hi) hx hne
end Go.Proofs.YtldfehmaophfjaaDoor.Crc
