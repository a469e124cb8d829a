/- What the printed functions that write a number come to: the numeral of Go's own strconv. -/
import Derived.Test.YtldfehmaophfjaaDoorPxd
import Derived.Test.YtldfehmaophfjaaDoorBase
import Derived.Lib.ItoaLen
namespace Go.Proofs.YtldfehmaophfjaaDoor.Fn
set_option linter.unusedVariables false
set_option linter.unusedSimpArgs false
open Go.RowKit Go.Proofs.YtldfehmaophfjaaDoorW.PrintWords Go.Proofs.YtldfehmaophfjaaDoor.P Go.Proofs.YtldfehmaophfjaaDoor.Base

/-- A string of its bytes. -/
def ba (l : List UInt8) : ByteArray := ⟨l.toArray⟩
theorem ba_size (l : List UInt8) : (ba l).size = l.length := by simp [ba, ByteArray.size]
theorem ba_append (l m : List UInt8) : ba l ++ ba m = ba (l ++ m) := by
  apply ByteArray.ext
  simp [ba]
theorem ba_of (s : ByteArray) : s = ba s.data.toList := by
  apply ByteArray.ext
  simp [ba]
theorem ba_one (n : Nat) (h : n < 10) : strOfNums [(wrap64 (48 + (n : Int))) % 256] = ba [UInt8.ofNat (48 + n)] := by
  rw [w64 (by omega) (by omega), show (48 + (n : Int)) % 256 = ((48 + n : Nat) : Int) by omega]
  rfl
def numFin (n : Int) (s : ByteArray) : ByteArray := if n < 0 then ba [45] ++ s else s
theorem tmod_pos (m : Nat) : Int.tmod (m : Int) 10 = ((m % 10 : Nat) : Int) := by rw [Int.tmod_eq_emod_of_nonneg (by omega)]; omega
theorem tdiv_pos (m : Nat) : Int.tdiv (m : Int) 10 = ((m / 10 : Nat) : Int) := by rw [Int.tdiv_eq_ediv_of_nonneg (by omega)]; omega
theorem tmod_neg (m : Nat) : Int.tmod (-(m : Int)) 10 = -((m % 10 : Nat) : Int) := by rw [Int.neg_tmod, tmod_pos]
theorem tdiv_neg (m : Nat) : Int.tdiv (-(m : Int)) 10 = -((m / 10 : Nat) : Int) := by rw [Int.neg_tdiv, tdiv_pos]
theorem digits_step (m : Nat) (h : m ≠ 0) (s : ByteArray) : (if m / 10 = 0 then (ba [UInt8.ofNat (48 + m % 10)] ++ s) else ba (Lib.decDigits (m / 10)) ++ (ba [UInt8.ofNat (48 + m % 10)] ++ s)) = ba (Lib.decDigits m) ++ s := by
  by_cases h10 : m < 10
  · conv => rhs; rw [Lib.decDigits, dif_pos h10]
    rw [if_pos (by omega), Nat.mod_eq_of_lt h10]
  · conv => rhs; rw [Lib.decDigits, dif_neg h10]
    rw [if_neg (by omega), ba_of s, ba_append, ba_append, ba_append, List.append_assoc]
theorem spec_NumText_l0 (n : Int) (d : Nat) : ∀ (m : Nat) (x : Int) (s : ByteArray), x = (m : Int) ∨ x = -(m : Int) → m < 10 ^ d → d ≤ 20 → m ≤ 9223372036854775808 → s.size + d ≤ 1000 →
    Ev (fun k => spec_NumText.l0 k n s x) (numFin n (if m = 0 then s else ba (Lib.decDigits m) ++ s)) := by
  have fin : ∀ s : ByteArray, s.size ≤ 1000 → Ev (fun k => spec_NumText.l0 k n s 0) (numFin n s) := by
    intro s hs
    refine Ev.step (fun k => spec_NumText.l0.eq_2 _ _ _ k) (Ev.pos rfl ?_)
    by_cases hn : n < 0
    · exact Ev.pos hn (Ev.pos (by omega) (Ev.done (if_pos hn).symm))
    · exact Ev.neg hn (Ev.done (if_neg hn).symm)
  induction d with
  | zero =>
    intro m x s hx hm _ _ hs
    obtain rfl : m = 0 := by simpa using hm
    obtain rfl : x = 0 := by omega
    rw [if_pos rfl]
    exact fin s (by omega)
  | succ d ih =>
    intro m x s hx hm hd hM hs
    by_cases h0 : m = 0
    · subst h0
      obtain rfl : x = 0 := by omega
      rw [if_pos rfl]
      exact fin s (by omega)
    rw [if_neg h0, ← digits_step m h0 s]
    have hm' : m / 10 < 10 ^ d := by
      rw [Nat.pow_succ] at hm
      omega
    have hx0 : ¬ x = 0 := by omega
    have hmod : m % 10 < 10 := Nat.mod_lt _ (by decide)
    have next : ∀ y : Int, y = ((m / 10 : Nat) : Int) ∨ y = -((m / 10 : Nat) : Int) → Ev (fun k => spec_NumText.l0 k n (strOfNums [(wrap64 (48 + ((m % 10 : Nat) : Int))) % 256] ++ s) (wrap64 y)) (numFin n (if m / 10 = 0 then (ba [UInt8.ofNat (48 + m % 10)] ++ s) else ba (Lib.decDigits (m / 10)) ++ (ba [UInt8.ofNat (48 + m % 10)] ++ s))) := by
      intro y hy
      rw [ba_one _ hmod, w64 (by omega) (by omega)]
      exact ih (m / 10) y _ hy hm' (by omega) (by omega) (by rw [size_append, ba_size]; simp; omega)
    have sz : (strOfNums [(wrap64 (48 + ((m % 10 : Nat) : Int))) % 256]).size + s.size ≤ 9223372036854775807 := by rw [size_strOfNums]; simp; omega
    refine Ev.step (fun k => spec_NumText.l0.eq_2 _ _ _ k) (Ev.neg hx0 ?_)
    rcases hx with rfl | rfl
    · rw [tmod_pos, tdiv_pos]
      exact Ev.neg (by omega) (Ev.then rfl (Ev.pos sz (next _ (.inl rfl))))
    · rw [tmod_neg, tdiv_neg]
      by_cases hz : m % 10 = 0
      · rw [hz] at sz next ⊢
        exact Ev.neg (by omega) (Ev.then rfl (Ev.pos sz (next _ (.inr rfl))))
      · refine Ev.pos (by omega) ?_
        rw [Int.neg_neg, w64 (n := ((m % 10 : Nat) : Int)) (by omega) (by omega)]
        exact Ev.then rfl (Ev.pos sz (next _ (.inr rfl)))
theorem spec_numText (n : Int) (h0 : -9223372036854775808 ≤ n) (h1 : n ≤ 9223372036854775807) : Ev (fun k => spec_NumText.f k n) (ba (Lib.itoa n)) := by
  unfold spec_NumText.f
  by_cases hn : n = 0
  · subst hn
    exact Ev.pos rfl (Ev.done (by rw [Lib.itoa, if_neg (by decide), Lib.decDigits, dif_pos (by decide)]; rfl))
  refine Ev.neg hn (Ev.eq (spec_NumText_l0 n 19 n.natAbs n _ (by omega) (by have h10 : (10 : Nat) ^ 19 = 10000000000000000000 := (by decide); rw [h10]; omega) (by omega) (by omega) (by decide)) ?_)
  rw [if_neg (by omega), Lib.itoa, numFin]
  have he : ∀ l : List UInt8, ba l ++ (⟨#[]⟩ : ByteArray) = ba l := by
    intro l
    rw [show (⟨#[]⟩ : ByteArray) = ba [] from rfl, ba_append, List.append_nil]
  rw [he]
  by_cases hneg : n < 0
  · rw [if_pos hneg, if_pos hneg, ba_append]; rfl
  · rw [if_neg hneg, if_neg hneg, show n.natAbs = n.toNat by omega]
theorem impl_numText (n : Int) (h0 : -9223372036854775808 ≤ n) (h1 : n ≤ 9223372036854775807) : impl_NumText.f n = some (ba (Lib.itoa n)) := by
  unfold impl_NumText.f strconv_Itoa_51.f
  rw [if_pos ⟨h0, h1⟩]
  rfl
end Go.Proofs.YtldfehmaophfjaaDoor.Fn
