/- Numerals are read as the numbers that they were written from, up to any most, and the other way round. -/
import Derived.Test.YtldfehmaophfjaaDoorPxd
import Derived.Test.YtldfehmaophfjaaDoorNumbers
namespace Go.Proofs.YtldfehmaophfjaaDoor.Fn
set_option linter.unusedVariables false
set_option linter.unusedSimpArgs false
open Go.RowKit Go.Proofs.YtldfehmaophfjaaDoorW.PrintWords Go.Proofs.YtldfehmaophfjaaDoor.P Go.Proofs.YtldfehmaophfjaaDoor.Base

theorem parse_num (n : Nat) (most : Int) (h : (n : Int) ≤ most) (hm : most ≤ 65535) : parseNum (ba (Lib.itoa (n : Int))) most = ((n : Int), true) := by
  unfold parseNum
  have hi : Lib.itoa (n : Int) = Lib.decDigits n := by rw [Lib.itoa, if_neg (by omega), Int.toNat_natCast]
  have hd : digits (ba (Lib.decDigits n)) 0 0 (Lib.decDigits n).length = some (n : Int) := by
    rw [digits_fold _ _ 0 0 (by omega), List.drop_zero, fold_dec]
  have hp : (10 : Nat) ^ (4 + 1) = 100000 := by decide
  have hlen := (dec_length 4 n).2 (by rw [hp]; omega)
  have hpos := dec_length_pos n
  rw [hi, ba_size, hd]
  have hhead : ¬ (1 < (Lib.decDigits n).length ∧ bt (ba (Lib.decDigits n)) 0 = 48) := by
    rintro ⟨h1, h2⟩
    have hn : 1 ≤ n := by
      rcases Nat.eq_zero_or_pos n with h | h
      · subst h; rw [Lib.decDigits, dif_pos (by decide)] at h1; simp at h1
      · exact h
    obtain ⟨c, cs, e, hc⟩ := dec_head n hn
    have hb := bt_ba (Lib.decDigits n) 0 (by omega)
    rw [show ((0 : Nat) : Int) = 0 from rfl] at hb
    rw [hb] at h2
    have : (Lib.decDigits n)[0] = c := by simp [e]
    rw [this] at h2
    omega
  rw [if_neg (by omega), ofDigits, if_neg (by omega)]
theorem parse_back (u : ByteArray) (most : Int) (h : (parseNum u most).2 = true) : 0 ≤ (parseNum u most).1 ∧ (parseNum u most).1 ≤ most ∧ ba (Lib.itoa (parseNum u most).1) = u := by
  unfold parseNum at h ⊢
  split at h
  · simp at h
  · rename_i hc
    rw [if_neg hc]
    have hu := ba_of u
    have hsz : u.size = u.data.toList.length := rfl
    have hdig : digits u 0 0 u.size = foldDig 0 u.data.toList := by
      conv => lhs; rw [hu, ba_size]
      rw [digits_fold _ _ 0 0 (by omega), List.drop_zero]
    rw [hdig] at h ⊢
    cases hf : foldDig 0 u.data.toList with
    | none => rw [hf] at h; simp [ofDigits] at h
    | some z =>
      rw [hf] at h
      simp only [ofDigits] at h ⊢
      by_cases hz : z > most
      · rw [if_pos hz] at h; simp at h
      · rw [if_neg hz]
        have hne : u.data.toList ≠ [] := fun e => hc (.inl (by rw [hsz, e]; rfl))
        obtain ⟨z0, hd, _⟩ := fold_inv _ u.data.toList rfl hne (by
          intro c cs e
          by_cases hcs : cs = []
          · exact .inl hcs
          · refine .inr fun h48 => hc (.inr (.inr (.inl ⟨?_, ?_⟩)))
            · rw [hsz, e]
              have := List.length_pos_iff.2 hcs
              simp only [List.length_cons]; omega
            · have hb := bt_ba u.data.toList 0 (by rw [e]; simp)
              rw [← hu, show ((0 : Nat) : Int) = 0 from rfl] at hb
              rw [hb]
              have : u.data.toList[0]'(by rw [e]; simp) = c := by simp [e]
              rw [this, h48]
              rfl) z hf
        refine ⟨z0, by dsimp only; omega, ?_⟩
        dsimp only
        rw [Lib.itoa, if_neg (by omega), hd]
        exact hu.symm
theorem dec_digs (m : Nat) : ∀ c ∈ Lib.decDigits m, 48 ≤ c.toNat ∧ c.toNat ≤ 57 := by
  induction m using Nat.strongRecOn with
  | ind m ih =>
    intro c hc
    rw [Lib.decDigits] at hc
    by_cases h : m < 10
    · rw [dif_pos h, List.mem_singleton] at hc
      rw [hc, dig_toNat m h]; omega
    · have hm : m % 10 < 10 := Nat.mod_lt _ (by decide)
      rw [dif_neg h, List.mem_append, List.mem_singleton] at hc
      rcases hc with hc | hc
      · exact ih (m / 10) (by omega) c hc
      · rw [hc, dig_toNat _ hm]; omega
theorem num_free (n : Int) (h : 0 ≤ n) (c : UInt8) (hc : c.toNat < 48 ∨ 57 < c.toNat) : c ∉ Lib.itoa n := by
  intro hm
  rw [Lib.itoa, if_neg (by omega)] at hm
  have := dec_digs _ c hm
  omega
theorem itoa_two (n : Int) (h0 : 0 ≤ n) (h1 : n ≤ 99) : (Lib.itoa n).length ≤ 2 ∧ 1 ≤ (Lib.itoa n).length := by
  rw [Lib.itoa, if_neg (by omega)]
  exact ⟨(dec_length 1 n.toNat).2 (by have hp : (10 : Nat) ^ (1 + 1) = 100 := by decide
                                      rw [hp]; omega), dec_length_pos _⟩
end Go.Proofs.YtldfehmaophfjaaDoor.Fn
