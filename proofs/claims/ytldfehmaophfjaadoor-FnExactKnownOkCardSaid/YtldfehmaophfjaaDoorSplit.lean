/- Texts cut at a byte, and joined again. No program is in sight here. -/
import Derived.Lib.SplitLaws
import Derived.Lib.IndexLaws
namespace Go.Proofs.YtldfehmaophfjaaDoor.Fn
set_option linter.unusedVariables false
set_option linter.unusedSimpArgs false

/-- A text cut at all places of a byte, behind the bytes 'acc'. -/
def splitA (c : UInt8) : List UInt8 → List UInt8 → List (List UInt8)
  | acc, [] => [acc]
  | acc, x :: xs => if x = c then acc :: splitA c [] xs else splitA c (acc ++ [x]) xs
/-- Pieces, each but the first behind the byte. -/
def joinA (c : UInt8) (x : List UInt8) (xs : List (List UInt8)) : List UInt8 := x ++ xs.flatMap (fun y => c :: y)
theorem joinA_cons (c : UInt8) (x y : List UInt8) (ys : List (List UInt8)) : joinA c x (y :: ys) = x ++ c :: joinA c y ys := by simp [joinA]
theorem splitA_free (c : UInt8) (a r : List UInt8) : ∀ acc, c ∉ a → splitA c acc (a ++ r) = splitA c (acc ++ a) r := by
  induction a with
  | nil => intro acc _; simp
  | cons x xs ih =>
    intro acc h
    have hx : ¬ x = c := fun e => h (by rw [e]; exact List.mem_cons_self ..)
    rw [List.cons_append, splitA, if_neg hx, ih _ (fun e => h (List.mem_cons_of_mem _ e))]
    simp
theorem splitA_join (c : UInt8) (xs : List (List UInt8)) : ∀ (acc x : List UInt8), c ∉ x → (∀ y ∈ xs, c ∉ y) → splitA c acc (joinA c x xs) = (acc ++ x) :: xs := by
  induction xs with
  | nil =>
    intro acc x hx _
    have := splitA_free c x [] acc hx
    simp only [List.append_nil] at this
    simp only [joinA, List.flatMap_nil, List.append_nil]
    rw [this, splitA]
  | cons y ys ih =>
    intro acc x hx hy
    rw [joinA_cons, splitA_free c x _ acc hx, splitA, if_pos rfl, ih [] y (hy y (List.mem_cons_self ..)) (fun z hz => hy z (List.mem_cons_of_mem _ hz))]
    rfl
theorem splitA_back (c : UInt8) (s : List UInt8) : ∀ (acc : List UInt8), ∃ x xs, splitA c acc s = x :: xs ∧ acc ++ s = joinA c x xs := by
  induction s with
  | nil => intro acc; exact ⟨acc, [], rfl, by simp [joinA]⟩
  | cons x xs ih =>
    intro acc
    rw [splitA]
    by_cases h : x = c
    · obtain ⟨y, ys, e, hj⟩ := ih []
      rw [if_pos h]
      exact ⟨acc, _, rfl, by rw [e, joinA_cons, ← hj, h]; rfl⟩
    · obtain ⟨y, ys, e, hj⟩ := ih (acc ++ [x])
      rw [if_neg h]
      exact ⟨y, ys, e, by rw [← hj]; simp⟩
theorem index_free (c : UInt8) : ∀ a : List UInt8, c ∉ a → Lib.index a [c] = -1 := by
  intro a
  induction a with
  | nil => intro _; simp [Lib.index]
  | cons x xs ih =>
    intro h
    have hx : ¬ c = x := fun e => h (by rw [e]; exact List.mem_cons_self ..)
    have hp : ([c] : List UInt8).isPrefixOf (x :: xs) = false := by simp [List.isPrefixOf, hx]
    rw [Lib.index, hp, ih (fun e => h (List.mem_cons_of_mem _ e))]
    simp
theorem index_at (c : UInt8) (r : List UInt8) : ∀ a : List UInt8, c ∉ a → Lib.index (a ++ c :: r) [c] = (a.length : Int) := by
  intro a
  induction a with
  | nil => intro _; simp [Lib.index, List.isPrefixOf]
  | cons x xs ih =>
    intro h
    have hx : ¬ c = x := fun e => h (by rw [e]; exact List.mem_cons_self ..)
    have hp : ([c] : List UInt8).isPrefixOf (x :: (xs ++ c :: r)) = false := by simp [List.isPrefixOf, hx]
    have hi := ih (fun e => h (List.mem_cons_of_mem _ e))
    rw [List.cons_append, Lib.index, hp, hi]
    have : ¬ ((xs.length : Int) == -1) = true := fun e => by have := beq_iff_eq.1 e; omega
    simp only [Bool.false_eq_true, if_false, List.length_cons]
    rw [if_neg this]
    omega
theorem splitK_join (c : UInt8) (xs : List (List UInt8)) : ∀ (x : List UInt8), c ∉ x → (∀ y ∈ xs, c ∉ y) → Lib.splitK [c] 0 xs.length (joinA c x xs) = x :: xs := by
  induction xs with
  | nil => intro x _ _; simp [Lib.splitK, joinA]
  | cons y ys ih =>
    intro x hx hy
    have hi := index_at c (joinA c y ys) x hx
    have hn : ¬ ((x.length : Int) == -1) = true := fun e => by have := beq_iff_eq.1 e; omega
    rw [joinA_cons, List.length_cons, Lib.splitK, hi, if_neg hn, show ((x.length : Int)).toNat = x.length by omega]
    have e1 : (x ++ c :: joinA c y ys).take (x.length + 0) = x := by simp
    have e2 : (x ++ c :: joinA c y ys).drop (x.length + [c].length) = joinA c y ys := by
      rw [List.length_singleton, ← List.drop_drop]
      simp
    rw [e1, e2, ih y (hy y (List.mem_cons_self ..)) (fun z hz => hy z (List.mem_cons_of_mem _ hz))]
theorem count_free (c : UInt8) (x : List UInt8) (h : c ∉ x) : x.count c = 0 := List.count_eq_zero.2 h
theorem count_join (c : UInt8) (xs : List (List UInt8)) : ∀ (x : List UInt8), c ∉ x → (∀ y ∈ xs, c ∉ y) → (joinA c x xs).count c = xs.length := by
  induction xs with
  | nil => intro x hx _; simp [joinA, count_free c x hx]
  | cons y ys ih =>
    intro x hx hy
    rw [joinA_cons, List.count_append, count_free c x hx, List.count_cons_self, ih y (hy y (List.mem_cons_self ..)) (fun z hz => hy z (List.mem_cons_of_mem _ hz)), List.length_cons]
    omega
theorem cut_join (c : UInt8) (a r : List UInt8) (h : c ∉ a) : Lib.cut (a ++ c :: r) [c] = (a, r, true) := by
  unfold Lib.cut
  rw [index_at c r a h, if_pos (by omega)]
  have e2 : (a ++ c :: r).drop (a.length + [c].length) = r := by
    rw [List.length_singleton, ← List.drop_drop]
    simp
  rw [show ((a.length : Int)).toNat = a.length by omega, e2]
  simp
end Go.Proofs.YtldfehmaophfjaaDoor.Fn
