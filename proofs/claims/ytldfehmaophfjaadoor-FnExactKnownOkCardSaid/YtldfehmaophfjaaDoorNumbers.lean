/- Numerals are read as what they were written from, and the other way round. -/
import Derived.Test.YtldfehmaophfjaaDoorPxd
import Derived.Test.YtldfehmaophfjaaDoorNum
import Derived.Test.YtldfehmaophfjaaDoorNumText
namespace Go.Proofs.YtldfehmaophfjaaDoor.Fn
set_option linter.unusedVariables false
set_option linter.unusedSimpArgs false
open Go.RowKit Go.Proofs.YtldfehmaophfjaaDoorW.PrintWords Go.Proofs.YtldfehmaophfjaaDoor.P Go.Proofs.YtldfehmaophfjaaDoor.Base

def isDig (c : UInt8) : Prop := 48 ≤ c.toNat ∧ c.toNat ≤ 57
instance (c : UInt8) : Decidable (isDig c) := inferInstanceAs (Decidable (_ ∧ _))
/-- The number that a list of digits is, behind n. -/
def foldDig : Int → List UInt8 → Option Int
  | n, [] => some n
  | n, c :: cs => if isDig c then foldDig (10 * n + ((c.toNat : Int) - 48)) cs else none
theorem foldDig_snoc (xs : List UInt8) (c : UInt8) : ∀ n, foldDig n (xs ++ [c]) = (foldDig n xs).bind fun m => if isDig c then some (10 * m + ((c.toNat : Int) - 48)) else none := by
  induction xs with
  | nil => intro n; simp [foldDig]
  | cons x xs ih =>
    intro n
    simp only [List.cons_append, foldDig]
    by_cases h : isDig x
    · rw [if_pos h, if_pos h, ih]
    · rw [if_neg h, if_neg h]; rfl
theorem bt_ba (L : List UInt8) (i : Nat) (h : i < L.length) : bt (ba L) (i : Int) = (L[i].toNat : Int) := by
  have hs : i < ({ data := L.toArray } : ByteArray).size := h
  have e : bt (ba L) (i : Int) = if h : i < ({ data := L.toArray } : ByteArray).size then ((({ data := L.toArray } : ByteArray)[i]).toNat : Int) else 0 := by
    first
      | rfl
      | simp [bt, ba]
  rw [e, dif_pos hs]
  rfl
theorem digits_fold (L : List UInt8) (d : Nat) : ∀ (i : Nat) (n : Int), i + d = L.length → digits (ba L) i n d = foldDig n (L.drop i) := by
  induction d with
  | zero =>
    intro i n hi
    rw [List.drop_of_length_le (by omega)]
    rfl
  | succ d ih =>
    intro i n hi
    rw [List.drop_eq_getElem_cons (by omega), digits, foldDig, bt_ba L i (by omega)]
    by_cases h : isDig L[i]
    · have h2 : (48 : Int) ≤ (L[i].toNat : Int) ∧ (L[i].toNat : Int) ≤ 57 := by have := h.1; have := h.2; omega
      rw [if_pos h2, if_pos h, ih (i + 1) _ (by omega)]
    · have h2 : ¬ ((48 : Int) ≤ (L[i].toNat : Int) ∧ (L[i].toNat : Int) ≤ 57) := fun e => h ⟨by omega, by omega⟩
      rw [if_neg h2, if_neg h]
theorem dig_toNat (m : Nat) (h : m < 10) : (UInt8.ofNat (48 + m)).toNat = 48 + m := by
  rw [UInt8.toNat_ofNat']
  omega
theorem fold_dec (m : Nat) : foldDig 0 (Lib.decDigits m) = some (m : Int) := by
  induction m using Nat.strongRecOn with
  | ind m ih =>
    rw [Lib.decDigits]
    by_cases h : m < 10
    · rw [dif_pos h, foldDig, if_pos ⟨by rw [dig_toNat m h]; omega, by rw [dig_toNat m h]; omega⟩, dig_toNat m h, foldDig]
      congr 1
      omega
    · have hm : m % 10 < 10 := Nat.mod_lt _ (by decide)
      rw [dif_neg h, foldDig_snoc, ih (m / 10) (by omega), Option.bind_some, if_pos ⟨by rw [dig_toNat _ hm]; omega, by rw [dig_toNat _ hm]; omega⟩, dig_toNat _ hm]
      congr 1
      omega
theorem dec_head (m : Nat) (h : 1 ≤ m) : ∃ c cs, Lib.decDigits m = c :: cs ∧ c.toNat ≠ 48 := by
  induction m using Nat.strongRecOn with
  | ind m ih =>
    rw [Lib.decDigits]
    by_cases h10 : m < 10
    · rw [dif_pos h10]
      exact ⟨_, _, rfl, by rw [dig_toNat m h10]; omega⟩
    · obtain ⟨c, cs, e, hc⟩ := ih (m / 10) (by omega) (by omega)
      rw [dif_neg h10, e]
      exact ⟨c, _, rfl, hc⟩
theorem dec_length_pos (m : Nat) : 1 ≤ (Lib.decDigits m).length := by
  rw [Lib.decDigits]
  split <;> simp
theorem dec_length (d : Nat) : ∀ (m : Nat), (Lib.decDigits m).length ≤ d + 1 ↔ m < 10 ^ (d + 1) := by
  induction d with
  | zero =>
    intro m
    rw [Lib.decDigits]
    by_cases h : m < 10
    · rw [dif_pos h]; simp; omega
    · have := dec_length_pos (m / 10)
      rw [dif_neg h, List.length_append, List.length_singleton]; omega
  | succ d ih =>
    intro m
    rw [Lib.decDigits]
    have hp : 10 ^ (d + 1 + 1) = 10 ^ (d + 1) * 10 := Nat.pow_succ ..
    have h1 : 1 ≤ 10 ^ (d + 1) := Nat.one_le_pow _ _ (by decide)
    by_cases h : m < 10
    · rw [dif_pos h]; simp only [List.length_singleton]; omega
    · rw [dif_neg h, List.length_append, List.length_singleton]
      have := ih (m / 10)
      omega
theorem fold_inv (n : Nat) : ∀ (L : List UInt8), L.length = n → L ≠ [] → (∀ c cs, L = c :: cs → cs = [] ∨ c.toNat ≠ 48) → ∀ z, foldDig 0 L = some z → 0 ≤ z ∧ Lib.decDigits z.toNat = L ∧ ((∀ c cs, L = c :: cs → c.toNat ≠ 48) → 1 ≤ z) := by
  induction n with
  | zero => intro L hl hne; exact absurd (List.eq_nil_of_length_eq_zero hl) hne
  | succ n ih0 =>
  intro L hl hne hh z hz
  obtain ⟨xs, c, rfl⟩ : ∃ xs c, L = xs ++ [c] := ⟨L.dropLast, L.getLast hne, (List.dropLast_concat_getLast hne).symm⟩
  have ih := ih0 xs (by simpa using hl)
  rw [foldDig_snoc] at hz
  by_cases hx : xs = []
  · subst hx
    simp only [foldDig, Option.bind_some] at hz
    by_cases hd : isDig c
    · rw [if_pos hd] at hz
      obtain rfl := Option.some.inj hz
      obtain ⟨h1, h2⟩ := hd
      refine ⟨by omega, ?_, fun hne => by have := hne c [] rfl; omega⟩
      have e : (10 * 0 + ((c.toNat : Int) - 48)).toNat = c.toNat - 48 := by omega
      rw [e, Lib.decDigits, dif_pos (by omega), show 48 + (c.toNat - 48) = c.toNat by omega]
      simp
    · rw [if_neg hd] at hz; cases hz
  · cases hf : foldDig 0 xs with
    | none => rw [hf] at hz; cases hz
    | some v =>
      rw [hf, Option.bind_some] at hz
      by_cases hd : isDig c
      · rw [if_pos hd] at hz
        obtain rfl := Option.some.inj hz
        obtain ⟨x, xs', rfl⟩ := List.exists_cons_of_ne_nil hx
        have hx0 : x.toNat ≠ 48 := (hh x (xs' ++ [c]) rfl).resolve_left (by simp)
        obtain ⟨h0, he, h1⟩ := ih hx (fun c' cs' e => by injection e with e1 e2; subst e1; exact .inr hx0) v hf
        have hv := h1 (fun c' cs' e => by injection e with e1 e2; subst e1; exact hx0)
        obtain ⟨d1, d2⟩ := hd
        refine ⟨by omega, ?_, fun _ => by omega⟩
        have e : (10 * v + ((c.toNat : Int) - 48)).toNat = 10 * v.toNat + (c.toNat - 48) := by omega
        rw [e, Lib.decDigits, dif_neg (by omega), show (10 * v.toNat + (c.toNat - 48)) / 10 = v.toNat by omega, show (10 * v.toNat + (c.toNat - 48)) % 10 = c.toNat - 48 by omega, he, show 48 + (c.toNat - 48) = c.toNat by omega]
        simp
      · rw [if_neg hd] at hz; cases hz
end Go.Proofs.YtldfehmaophfjaaDoor.Fn
