/- Texts of this seat's claims, put together: ConfText, Split, Num, Numbers, Parse, ParseConf, ParseImpl, RecOk, PutRec, GetText, GetRec, KnownOk, Apply, Replay, Head, GetHead, OpenJour, Recs, Format -/
import Derived.Lib.Join
import Derived.Lib.SplitLaws
import Derived.Lib.IndexLaws
import Derived.Lib.Bytes
import Derived.Test.YthkepmicdpgbbaaGreatDoorPkYzP1
namespace Go.Proofs.YthkepmicdpgbbaaGreatDoor.Fn
set_option linter.unusedVariables false
set_option linter.unusedSimpArgs false
open Go.RowKit Go.Proofs.YthkepmicdpgbbaaGreatDoorW.PrintWords Go.Proofs.YthkepmicdpgbbaaGreatDoor.P Go.Proofs.YthkepmicdpgbbaaGreatDoor.Base
def itemL (x : Db) : List UInt8 := x.f0.data.toList ++ [58] ++ Lib.itoa x.f1 ++ [47] ++ Lib.itoa x.f2 ++ [47] ++ Lib.itoa x.f3 ++ [47] ++ Lib.itoa x.f4
theorem item_eq (x : Db) : ((((((((x.f0 ++ (⟨#[58]⟩ : ByteArray)) ++ ba (Lib.itoa x.f1)) ++ (⟨#[47]⟩ : ByteArray)) ++ ba (Lib.itoa x.f2)) ++ (⟨#[47]⟩ : ByteArray)) ++ ba (Lib.itoa x.f3)) ++ (⟨#[47]⟩ : ByteArray)) ++ ba (Lib.itoa x.f4)) = ba (itemL x) := by
 conv => lhs; rw [ba_of x.f0]
 rw [show (⟨#[58]⟩ : ByteArray) = ba [58] from rfl, show (⟨#[47]⟩ : ByteArray) = ba [47] from rfl]
 simp only [ba_append]
 rfl
theorem item_behind (s : ByteArray) (x : Db) : (((((((((s ++ x.f0) ++ (⟨#[58]⟩ : ByteArray)) ++ ba (Lib.itoa x.f1)) ++ (⟨#[47]⟩ : ByteArray)) ++ ba (Lib.itoa x.f2)) ++ (⟨#[47]⟩ : ByteArray)) ++ ba (Lib.itoa x.f3)) ++ (⟨#[47]⟩ : ByteArray)) ++ ba (Lib.itoa x.f4)) = s ++ ba (itemL x) := by
 conv => lhs; rw [ba_of s, ba_of x.f0]
 conv => rhs; rw [ba_of s]
 rw [show (⟨#[58]⟩ : ByteArray) = ba [58] from rfl, show (⟨#[47]⟩ : ByteArray) = ba [47] from rfl]
 simp only [ba_append, itemL, List.append_assoc]
theorem dbOk_of {x : Db} (h : dbOk x = true) : x.f0.size ≤ 8 ∧ (1 ≤ x.f1 ∧ x.f1 ≤ 3) ∧ (0 ≤ x.f2 ∧ x.f2 ≤ 4) ∧ (1 ≤ x.f3 ∧ x.f3 ≤ 20) ∧ (1 ≤ x.f4 ∧ x.f4 ≤ 20) := by
 unfold dbOk at h
 simp only [Bool.and_eq_true, decide_eq_true_eq] at h
 have := (nameOk_iff x.f0).1 h.1
 exact ⟨this.1.2, h.2.1, h.2.2.1, h.2.2.2.1, h.2.2.2.2⟩
theorem itoa_small {n : Int} (h0 : 0 ≤ n) (h1 : n ≤ 20) : (Lib.itoa n).length ≤ 21 := Lib.itoa_length_le n (by omega) (by omega)
theorem itemL_length {x : Db} (h : dbOk x = true) : (itemL x).length ≤ 100 := by
 obtain ⟨hn, h1, h2, h3, h4⟩ := dbOk_of h
 have e1 := itoa_small (n := x.f1) (by omega) (by omega)
 have e2 := itoa_small (n := x.f2) (by omega) (by omega)
 have e3 := itoa_small (n := x.f3) (by omega) (by omega)
 have e4 := itoa_small (n := x.f4) (by omega) (by omega)
 have e0 : x.f0.data.toList.length = x.f0.size := rfl
 simp only [itemL, List.length_append, List.length_singleton, e0]
 omega
theorem confFrom_all (l : List Db) (d : Nat) : ∀ (i : Nat), i + d = l.length → confFrom l i d = true → l.length ≤ 3 ∧ ∀ (j : Nat) (hj : j < l.length), i ≤ j → dbOk l[j] = true := by
 induction d with
 | zero =>
  intro i hi h
  unfold confFrom at h
  rw [decide_eq_true_eq] at h
  exact ⟨by omega, fun j hj hij => by omega⟩
 | succ d ih =>
  intro i hi h
  have he : rd_T138 l (i : Int) = l[i] := getD_nat l _ (by omega)
  unfold confFrom at h
  rw [he] at h
  simp only [Bool.and_eq_true] at h
  obtain ⟨h3, hall⟩ := ih (i + 1) (by omega) h.2.2
  refine ⟨h3, fun j hj hij => ?_⟩
  by_cases e : i = j
  ·subst e; exact h.1
  ·exact hall j hj (by omega)
def confAcc : ByteArray → Nat → List Db → ByteArray
 | s, _, [] => s
 | s, i, x :: xs => confAcc ((if i = 0 then s else s ++ (⟨#[59]⟩ : ByteArray)) ++ ba (itemL x)) (i + 1) xs
theorem confAcc_eq (xs : List Db) : ∀ (L : List UInt8) (i : Nat), i ≠ 0 → confAcc (ba L) i xs = ba (L ++ xs.flatMap (fun x => 59 :: itemL x)) := by
 induction xs with
 | nil => intro L i _; simp [confAcc]
 | cons x xs ih =>
  intro L i hi
  rw [confAcc, if_neg hi, show (⟨#[59]⟩ : ByteArray) = ba [59] from rfl, ba_append, ba_append, ih _ _ (by omega)]
  simp
theorem join_eq (x : Db) (xs : List Db) : Lib.join ((x :: xs).map itemL) [59] = itemL x ++ xs.flatMap (fun x => 59 :: itemL x) := by
 unfold Lib.join
 induction xs generalizing x with
 | nil => simp [List.intercalate]
 | cons y ys ih =>
  have := ih y
  simp only [List.intercalate, List.map_cons, List.intersperse, List.flatten_cons, List.flatMap_cons] at this ⊢
  cases ys with
  | nil => simp
  | cons z zs =>
   simp only [List.map_cons, List.intersperse, List.flatten_cons] at this ⊢
   rw [this]
   simp
noncomputable def confText (l : List Db) : ByteArray := if confFrom l 0 l.length = true then confAcc (⟨#[]⟩ : ByteArray) 0 l else (⟨#[]⟩ : ByteArray)
theorem spec_ConfText_j2 (l : List Db) (hl : l.length ≤ 3) (i : Nat) (hi : i < l.length) (hok : dbOk l[i] = true) (s : ByteArray) (hs : s.size ≤ 1000) (b : ByteArray) (hb : Ev (fun k => spec_ConfText.l0 k l (s ++ ba (itemL l[i])) ((i + 1 : Nat) : Int)) b) :
  Ev (fun k => spec_ConfText.j2 k l s (i : Int)) b := by
 have he : rd_T138 l (i : Int) = l[i] := getD_nat l _ (by omega)
 obtain ⟨hn, h1, h2, h3, h4⟩ := dbOk_of hok
 have e1 := itoa_small (n := l[i].f1) (by omega) (by omega)
 have e2 := itoa_small (n := l[i].f2) (by omega) (by omega)
 have e3 := itoa_small (n := l[i].f3) (by omega) (by omega)
 have e4 := itoa_small (n := l[i].f4) (by omega) (by omega)
 have z1 : ∀ a : UInt8, (⟨#[a]⟩ : ByteArray).size = 1 := fun _ => rfl
 refine Ev.step (fun k => spec_ConfText.j2.eq_2 _ _ _ k) (Ev.pos (by omega) (Ev.pos (by omega) ?_))
 rw [he]
 refine Ev.pos (by omega) (Ev.pos (by simp only [size_append]; omega) (Ev.bind (spec_numText _ (by omega) (by omega)) (Ev.pos (by simp only [size_append, ba_size, z1]; omega) (Ev.pos (by simp only [size_append, ba_size, z1]; omega) ?_))))
 refine Ev.bind (spec_numText _ (by omega) (by omega)) (Ev.pos (by simp only [size_append, ba_size, z1]; omega) (Ev.pos (by simp only [size_append, ba_size, z1]; omega) ?_))
 refine Ev.bind (spec_numText _ (by omega) (by omega)) (Ev.pos (by simp only [size_append, ba_size, z1]; omega) (Ev.pos (by simp only [size_append, ba_size, z1]; omega) ?_))
 refine Ev.bind (spec_numText _ (by omega) (by omega)) (Ev.pos (by simp only [size_append, ba_size, z1]; omega) ?_)
 rw [item_behind, w64 (n := (i : Int) + 1) (by omega) (by omega), cast_succ]
 exact hb
theorem spec_ConfText_l0 (l : List Db) (hl : l.length ≤ 3) (hg : ∀ x ∈ l, x.f0.size ≤ 9223372036854775807) (hc : confFrom l 0 l.length = true) (d : Nat) : ∀ (i : Nat) (s : ByteArray), i + d = l.length → s.size ≤ 101 * i → Ev (fun k => spec_ConfText.l0 k l s (i : Int)) (confAcc s i (l.drop i)) := by
 obtain ⟨_, hall⟩ := confFrom_all l l.length 0 (by omega) hc
 induction d with
 | zero =>
  intro i s hi hs
  refine Ev.step (fun k => spec_ConfText.l0.eq_2 _ _ _ k) (Ev.neg (by omega) (Ev.step (fun k => spec_ConfText.j1.eq_2 _ _ _ _ k) (Ev.neg (by decide) (Ev.done ?_))))
  rw [List.drop_of_length_le (by omega)]
  rfl
 | succ d ih =>
  intro i s hi hs
  have hok := hall i (by omega) (by omega)
  have hil := itemL_length hok
  rw [List.drop_eq_getElem_cons (by omega), confAcc]
  have hc' := spec_confOk l (by omega) hg
  rw [hc] at hc'
  refine Ev.step (fun k => spec_ConfText.l0.eq_2 _ _ _ k) (Ev.pos (by omega) (Ev.bind hc' (Ev.step (fun k => spec_ConfText.j1.eq_2 _ _ _ _ k) (Ev.pos rfl ?_))))
  by_cases h0 : i = 0
  ·subst h0
   rw [if_pos rfl]
   exact Ev.neg (by omega) (spec_ConfText_j2 l hl 0 (by omega) hok s (by omega) _ (ih 1 _ (by omega) (by rw [size_append, ba_size]; omega)))
  ·rw [if_neg h0]
   have z1 : ∀ a : UInt8, (⟨#[a]⟩ : ByteArray).size = 1 := fun _ => rfl
   exact Ev.pos (by omega) (Ev.pos (by omega) (spec_ConfText_j2 l hl i (by omega) hok _ (by rw [size_append, z1]; omega) _ (ih (i + 1) _ (by omega) (by rw [size_append, size_append, ba_size, z1]; omega))))
theorem spec_confText (l : List Db) (hl : l.length ≤ 1048577) (hg : ∀ x ∈ l, x.f0.size ≤ 9223372036854775807) : Ev (fun k => spec_ConfText.f k l) (confText l) := by
 unfold spec_ConfText.f confText
 by_cases hc : confFrom l 0 l.length = true
 ·rw [if_pos hc]
  obtain ⟨h3, _⟩ := confFrom_all l l.length 0 (by omega) hc
  exact spec_ConfText_l0 l h3 hg hc l.length 0 _ (by omega) (by decide)
 ·rw [if_neg hc]
  have hc' := spec_confOk l hl hg
  rw [Bool.not_eq_true] at hc
  rw [hc] at hc'
  refine Ev.step (fun k => spec_ConfText.l0.eq_2 _ _ _ k) ?_
  by_cases h0 : l.length = 0
  ·exact Ev.neg (by omega) (Ev.step (fun k => spec_ConfText.j1.eq_2 _ _ _ _ k) (Ev.neg (by decide) (Ev.done rfl)))
  ·exact Ev.pos (by omega) (Ev.bind hc' (Ev.step (fun k => spec_ConfText.j1.eq_2 _ _ _ _ k) (Ev.neg (by decide) (Ev.done rfl))))
theorem impl_ConfText_l0 (l : List Db) (hl : l.length ≤ 3) (hall : ∀ (j : Nat) (hj : j < l.length), 0 ≤ j → dbOk l[j] = true) (d : Nat) : ∀ (i : Nat), i + d = l.length → Ev (fun k => impl_ConfText.l0 k ((l.take i).map (fun x => ba (itemL x))) l (l.length : Int) (i : Int)) (ba (Lib.join (l.map itemL) [59])) := by
 induction d with
 | zero =>
  intro i hi
  refine Ev.step (fun k => impl_ConfText.l0.eq_2 _ _ _ _ k) (Ev.neg (by omega) (Ev.then (a := ba (Lib.join (l.map itemL) [59])) ?_ (Ev.done rfl)))
  have ht : l.take i = l := List.take_of_length_le (by omega)
  have hm : ((l.take i).map (fun x => ba (itemL x))).map (fun x => x.data.toList) = l.map itemL := by
   rw [ht, List.map_map]
   exact List.map_congr_left (fun x _ => by simp [ba])
  unfold strings_Join.f
  rw [show (⟨#[59]⟩ : ByteArray).data.toList = [59] from rfl, hm, if_pos]
  ·rfl
  ·refine ⟨by rw [List.length_map, List.length_take]; omega, ?_⟩
   cases l with
   | nil => simp [Lib.join, List.intercalate]
   | cons x xs =>
    rw [join_eq]
    have b : ∀ ys : List Db, (∀ y ∈ ys, dbOk y = true) → (ys.flatMap (fun x => 59 :: itemL x)).length ≤ 101 * ys.length := by
     intro ys
     induction ys with
     | nil => intro _; simp
     | cons y ys ih =>
      intro hy
      have := ih (fun z hz => hy z (List.mem_cons_of_mem _ hz))
      have h1 := itemL_length (hy y (List.mem_cons_self ..))
      simp only [List.flatMap_cons, List.length_append, List.length_cons]
      omega
    have hmem : ∀ y ∈ x :: xs, dbOk y = true := by
     intro y hy
     obtain ⟨j, hj, rfl⟩ := List.getElem_of_mem hy
     exact hall j hj (by omega)
    have h1 := itemL_length (hmem x (List.mem_cons_self ..))
    have h2 := b xs (fun y hy => hmem y (List.mem_cons_of_mem _ hy))
    simp only [List.length_cons] at hl
    rw [List.length_append]
    omega
 | succ d ih =>
  intro i hi
  have he : rd_T138 l (i : Int) = l[i] := getD_nat l _ (by omega)
  have hok := hall i (by omega) (by omega)
  obtain ⟨hn, h1, h2, h3, h4⟩ := dbOk_of hok
  have e1 := itoa_small (n := l[i].f1) (by omega) (by omega)
  have e2 := itoa_small (n := l[i].f2) (by omega) (by omega)
  have e3 := itoa_small (n := l[i].f3) (by omega) (by omega)
  have e4 := itoa_small (n := l[i].f4) (by omega) (by omega)
  have z1 : ∀ a : UInt8, (⟨#[a]⟩ : ByteArray).size = 1 := fun _ => rfl
  refine Ev.step (fun k => impl_ConfText.l0.eq_2 _ _ _ _ k) (Ev.pos (by omega) (Ev.pos (by omega) (Ev.pos (by omega) ?_)))
  rw [he]
  refine Ev.pos (by omega) (Ev.then (impl_numText _ (by omega) (by omega)) (Ev.pos (by simp only [size_append, ba_size, z1]; omega) (Ev.pos (by simp only [size_append, ba_size, z1]; omega) ?_)))
  refine Ev.then (impl_numText _ (by omega) (by omega)) (Ev.pos (by simp only [size_append, ba_size, z1]; omega) (Ev.pos (by simp only [size_append, ba_size, z1]; omega) ?_))
  refine Ev.then (impl_numText _ (by omega) (by omega)) (Ev.pos (by simp only [size_append, ba_size, z1]; omega) (Ev.pos (by simp only [size_append, ba_size, z1]; omega) ?_))
  refine Ev.then (impl_numText _ (by omega) (by omega)) (Ev.pos (by simp only [size_append, ba_size, z1]; omega) (Ev.pos (by rw [List.length_map, List.length_take]; omega) ?_))
  rw [item_eq, w64 (n := (i : Int) + 1) (by omega) (by omega), cast_succ]
  have hx := ih (i + 1) (by omega)
  rw [List.take_succ_eq_append_getElem (by omega), List.map_append] at hx
  exact hx
theorem impl_confText (l : List Db) (hl : l.length ≤ 1048577) (hg : ∀ x ∈ l, x.f0.size ≤ 9223372036854775807) : Ev (fun k => impl_ConfText.f k l) (confText l) := by
 unfold impl_ConfText.f confText
 refine Ev.bind (impl_confOk l hl hg) ?_
 by_cases hc : confFrom l 0 l.length = true
 ·rw [if_pos hc]
  obtain ⟨h3, hall⟩ := confFrom_all l l.length 0 (by omega) hc
  refine Ev.pos hc (Ev.eq (impl_ConfText_l0 l h3 hall l.length 0 (by omega)) ?_)
  cases l with
  | nil => simp [confFrom] at hc
  | cons x xs =>
   rw [join_eq, confAcc, if_pos rfl, show (⟨#[]⟩ : ByteArray) = ba [] from rfl, ba_append, List.nil_append, confAcc_eq _ _ _ (by omega)]
 ·exact Ev.neg hc (Ev.done (if_neg hc).symm)
end Go.Proofs.YthkepmicdpgbbaaGreatDoor.Fn

namespace Go.Proofs.YthkepmicdpgbbaaGreatDoor.Fn
set_option linter.unusedVariables false
set_option linter.unusedSimpArgs false
def splitA (c : UInt8) : List UInt8 → List UInt8 → List (List UInt8)
 | acc, [] => [acc]
 | acc, x :: xs => if x = c then acc :: splitA c [] xs else splitA c (acc ++ [x]) xs
def joinA (c : UInt8) (x : List UInt8) (xs : List (List UInt8)) : List UInt8 := x ++ xs.flatMap (fun y => c :: y)
theorem joinA_cons (c : UInt8) (x y : List UInt8) (ys : List (List UInt8)) : joinA c x (y :: ys) = x ++ c :: joinA c y ys := by simp [joinA]
theorem splitA_free (c : UInt8) (a r : List UInt8) : ∀ acc, c ∉ a → splitA c acc (a ++ r) = splitA c (acc ++ a) r := by
 induction a with
 | nil => intro acc _; simp
 | cons x xs ih =>
  intro acc h
  have hx : ¬ x = c := fun e => h (by rw [e]; exact List.mem_cons_self ..)
  rw [List.cons_append, splitA, if_neg hx, ih _ (fun e => h (List.mem_cons_of_mem _ e))]
  simp
theorem splitA_join (c : UInt8) (xs : List (List UInt8)) : ∀ (acc x : List UInt8), c ∉ x → (∀ y ∈ xs, c ∉ y) → splitA c acc (joinA c x xs) = (acc ++ x) :: xs := by
 induction xs with
 | nil =>
  intro acc x hx _
  have := splitA_free c x [] acc hx
  simp only [List.append_nil] at this
  simp only [joinA, List.flatMap_nil, List.append_nil]
  rw [this, splitA]
 | cons y ys ih =>
  intro acc x hx hy
  rw [joinA_cons, splitA_free c x _ acc hx, splitA, if_pos rfl, ih [] y (hy y (List.mem_cons_self ..)) (fun z hz => hy z (List.mem_cons_of_mem _ hz))]
  rfl
theorem splitA_back (c : UInt8) (s : List UInt8) : ∀ (acc : List UInt8), ∃ x xs, splitA c acc s = x :: xs ∧ acc ++ s = joinA c x xs := by
 induction s with
 | nil => intro acc; exact ⟨acc, [], rfl, by simp [joinA]⟩
 | cons x xs ih =>
  intro acc
  rw [splitA]
  by_cases h : x = c
  ·obtain ⟨y, ys, e, hj⟩ := ih []
   rw [if_pos h]
   exact ⟨acc, _, rfl, by rw [e, joinA_cons, ← hj, h]; rfl⟩
  ·obtain ⟨y, ys, e, hj⟩ := ih (acc ++ [x])
   rw [if_neg h]
   exact ⟨y, ys, e, by rw [← hj]; simp⟩
theorem index_at (c : UInt8) (r : List UInt8) : ∀ a : List UInt8, c ∉ a → Lib.index (a ++ c :: r) [c] = (a.length : Int) := by
 intro a
 induction a with
 | nil => intro _; simp [Lib.index, List.isPrefixOf]
 | cons x xs ih =>
  intro h
  have hx : ¬ c = x := fun e => h (by rw [e]; exact List.mem_cons_self ..)
  have hp : ([c] : List UInt8).isPrefixOf (x :: (xs ++ c :: r)) = false := by simp [List.isPrefixOf, hx]
  have hi := ih (fun e => h (List.mem_cons_of_mem _ e))
  rw [List.cons_append, Lib.index, hp, hi]
  have : ¬ ((xs.length : Int) == -1) = true := fun e => by have := beq_iff_eq.1 e; omega
  simp only [Bool.false_eq_true, if_false, List.length_cons]
  rw [if_neg this]
  omega
theorem splitK_join (c : UInt8) (xs : List (List UInt8)) : ∀ (x : List UInt8), c ∉ x → (∀ y ∈ xs, c ∉ y) → Lib.splitK [c] 0 xs.length (joinA c x xs) = x :: xs := by
 induction xs with
 | nil => intro x _ _; simp [Lib.splitK, joinA]
 | cons y ys ih =>
  intro x hx hy
  have hi := index_at c (joinA c y ys) x hx
  have hn : ¬ ((x.length : Int) == -1) = true := fun e => by have := beq_iff_eq.1 e; omega
  rw [joinA_cons, List.length_cons, Lib.splitK, hi, if_neg hn, show ((x.length : Int)).toNat = x.length by omega]
  have e1 : (x ++ c :: joinA c y ys).take (x.length + 0) = x := by simp
  have e2 : (x ++ c :: joinA c y ys).drop (x.length + [c].length) = joinA c y ys := by
   rw [List.length_singleton, ← List.drop_drop]
   simp
  rw [e1, e2, ih y (hy y (List.mem_cons_self ..)) (fun z hz => hy z (List.mem_cons_of_mem _ hz))]
theorem count_free (c : UInt8) (x : List UInt8) (h : c ∉ x) : x.count c = 0 := List.count_eq_zero.2 h
theorem count_join (c : UInt8) (xs : List (List UInt8)) : ∀ (x : List UInt8), c ∉ x → (∀ y ∈ xs, c ∉ y) → (joinA c x xs).count c = xs.length := by
 induction xs with
 | nil => intro x hx _; simp [joinA, count_free c x hx]
 | cons y ys ih =>
  intro x hx hy
  rw [joinA_cons, List.count_append, count_free c x hx, List.count_cons_self, ih y (hy y (List.mem_cons_self ..)) (fun z hz => hy z (List.mem_cons_of_mem _ hz)), List.length_cons]
  omega
theorem cut_join (c : UInt8) (a r : List UInt8) (h : c ∉ a) : Lib.cut (a ++ c :: r) [c] = (a, r, true) := by
 unfold Lib.cut
 rw [index_at c r a h, if_pos (by omega)]
 have e2 : (a ++ c :: r).drop (a.length + [c].length) = r := by
  rw [List.length_singleton, ← List.drop_drop]
  simp
 rw [show ((a.length : Int)).toNat = a.length by omega, e2]
 simp
end Go.Proofs.YthkepmicdpgbbaaGreatDoor.Fn

namespace Go.Proofs.YthkepmicdpgbbaaGreatDoor.Fn
set_option linter.unusedVariables false
set_option linter.unusedSimpArgs false
open Go.RowKit Go.Proofs.YthkepmicdpgbbaaGreatDoorW.PrintWords Go.Proofs.YthkepmicdpgbbaaGreatDoor.P Go.Proofs.YthkepmicdpgbbaaGreatDoor.Base
def digits (s : ByteArray) : Nat → Int → Nat → Option Int
 | _, n, 0 => some n
 | i, n, d + 1 => if 48 ≤ bt s (i : Int) ∧ bt s (i : Int) ≤ 57 then digits s (i + 1) (10 * n + (bt s (i : Int) - 48)) d else none
def ofDigits (most : Int) : Option Int → Int × Bool
 | none => (0, false)
 | some n => if n > most then (0, false) else (n, true)
def parseNum (s : ByteArray) (most : Int) : Int × Bool :=
 if s.size = 0 ∨ 5 < s.size ∨ (1 < s.size ∧ bt s 0 = 48) ∨ 65535 < most then (0, false) else ofDigits most (digits s 0 0 s.size)
theorem spec_ParseNum_l0 (s : ByteArray) (most : Int) (hs : s.size ≤ 5) (d : Nat) : ∀ (i : Nat) (n : Int), i + d = s.size → 0 ≤ n → n < 10 ^ i → Ev (fun k => spec_ParseNum.l0 k s most n (i : Int)) (ofDigits most (digits s i n d)) := by
 induction d with
 | zero =>
  intro i n hi h0 h1
  refine Ev.step (fun k => spec_ParseNum.l0.eq_2 _ _ _ _ k) (Ev.neg (by omega) ?_)
  simp only [digits, ofDigits]
  by_cases h : n > most
  ·exact Ev.pos h (Ev.done (if_pos h).symm)
  ·exact Ev.neg h (Ev.done (if_neg h).symm)
 | succ d ih =>
  intro i n hi h0 h1
  refine Ev.step (fun k => spec_ParseNum.l0.eq_2 _ _ _ _ k) (Ev.pos (by omega) (Ev.pos (by omega) (Ev.then (l1In _ _ _) ?_)))
  have hb := bt_byte s (i : Int)
  have hp : (10 : Int) ^ (i + 1) = 10 * 10 ^ i := by rw [Int.pow_succ, Int.mul_comm]
  have hm : (10 : Int) ^ i ≤ 10 ^ 4 := by
   have := Nat.pow_le_pow_right (n := 10) (by decide) (show i ≤ 4 by omega)
   exact_mod_cast this
  rw [w64 (n := bt s (i : Int)) (by omega) (by omega)]
  simp only [digits]
  by_cases h : 48 ≤ bt s (i : Int) ∧ bt s (i : Int) ≤ 57
  ·rw [if_pos h]
   refine Ev.pos (by simpa using h) ?_
   rw [Int.emod_eq_of_lt (a := bt s (i : Int) - 48) (by omega) (by omega), w64 (n := 10 * n) (by omega) (by omega), w64 (n := 10 * n + _) (by omega) (by omega), w64 (by omega) (by omega), cast_succ]
   exact ih (i + 1) _ (by omega) (by omega) (by rw [hp]; omega)
  ·rw [if_neg h]
   exact Ev.neg (by simpa using h) (Ev.done rfl)
theorem impl_ParseNum_l0 (s : ByteArray) (most : Int) (hs : s.size ≤ 5) (d : Nat) : ∀ (i : Nat) (n : Int), i + d = s.size → 0 ≤ n → n < 10 ^ i → Ev (fun k => impl_ParseNum.l0 k s most n (s.size : Int) (i : Int)) (ofDigits most (digits s i n d)) := by
 induction d with
 | zero =>
  intro i n hi h0 h1
  refine Ev.step (fun k => impl_ParseNum.l0.eq_2 _ _ _ _ _ k) (Ev.neg (by omega) ?_)
  simp only [digits, ofDigits]
  by_cases h : n > most
  ·exact Ev.pos h (Ev.done (if_pos h).symm)
  ·exact Ev.neg h (Ev.done (if_neg h).symm)
 | succ d ih =>
  intro i n hi h0 h1
  refine Ev.step (fun k => impl_ParseNum.l0.eq_2 _ _ _ _ _ k) (Ev.pos (by omega) (Ev.pos (by omega) (Ev.pos (by omega) ?_)))
  have hb := bt_byte s (i : Int)
  have hp : (10 : Int) ^ (i + 1) = 10 * 10 ^ i := by rw [Int.pow_succ, Int.mul_comm]
  have hm : (10 : Int) ^ i ≤ 10 ^ 4 := by
   have := Nat.pow_le_pow_right (n := 10) (by decide) (show i ≤ 4 by omega)
   exact_mod_cast this
  simp only [digits]
  by_cases h1' : bt s (i : Int) < 48
  ·rw [if_neg (by omega)]; exact Ev.pos h1' (Ev.done rfl)
  ·refine Ev.neg h1' ?_
   by_cases h2 : bt s (i : Int) > 57
   ·rw [if_neg (by omega)]; exact Ev.pos h2 (Ev.done rfl)
   ·rw [if_pos (by omega)]
    refine Ev.neg h2 ?_
    rw [Int.emod_eq_of_lt (a := bt s (i : Int) - 48) (by omega) (by omega), w64 (n := 10 * n) (by omega) (by omega), w64 (n := 10 * n + _) (by omega) (by omega), w64 (by omega) (by omega), cast_succ]
    exact ih (i + 1) _ (by omega) (by omega) (by rw [hp]; omega)
theorem spec_parseNum (s : ByteArray) (most : Int) : Ev (fun k => spec_ParseNum.f k s most) (parseNum s most) := by
 unfold spec_ParseNum.f parseNum
 have bad : ∀ b : Bool, b = true → Ev (fun k => spec_ParseNum.j0 k s most b) (0, false) := fun b hb => Ev.step (fun k => spec_ParseNum.j0.eq_2 _ _ _ k) (Ev.pos hb (Ev.done rfl))
 by_cases h0 : s.size = 0
 ·rw [if_pos (.inl h0)]; exact Ev.pos (by omega) (bad _ rfl)
 refine Ev.neg (by omega) ?_
 by_cases h1 : 5 < s.size
 ·rw [if_pos (.inr (.inl h1))]; exact Ev.pos (by omega) (bad _ rfl)
 refine Ev.neg (by omega) ?_
 have fin : ¬ (1 < s.size ∧ bt s 0 = 48) → Ev (fun k => spec_ParseNum.j0 k s most (decide (most > 65535))) (if s.size = 0 ∨ 5 < s.size ∨ (1 < s.size ∧ bt s 0 = 48) ∨ 65535 < most then (0, false) else ofDigits most (digits s 0 0 s.size)) := by
  intro hn
  by_cases h2 : 65535 < most
  ·rw [if_pos (.inr (.inr (.inr h2)))]; exact bad _ (by simpa using h2)
  ·rw [if_neg (by omega)]
   exact Ev.step (fun k => spec_ParseNum.j0.eq_2 _ _ _ k) (Ev.neg (by simpa using h2) (spec_ParseNum_l0 s most (by omega) s.size 0 0 (by omega) (by omega) (by decide)))
 by_cases h3 : 1 < s.size
 ·refine Ev.pos (by omega) (Ev.pos (by omega) ?_)
  by_cases h4 : bt s 0 = 48
  ·rw [if_pos (.inr (.inr (.inl ⟨h3, h4⟩)))]; exact Ev.pos h4 (bad _ rfl)
  ·exact Ev.neg h4 (fin (fun h => h4 h.2))
 ·exact Ev.neg (by omega) (fin (fun h => h3 h.1))
theorem impl_parseNum (s : ByteArray) (most : Int) : Ev (fun k => impl_ParseNum.f k s most) (parseNum s most) := by
 unfold impl_ParseNum.f parseNum
 have bad : ∀ b : Bool, b = true → Ev (fun k => impl_ParseNum.j0 k s most b) (0, false) := fun b hb => Ev.step (fun k => impl_ParseNum.j0.eq_2 _ _ _ k) (Ev.pos hb (Ev.done rfl))
 by_cases h2 : most > 65535
 ·rw [if_pos (.inr (.inr (.inr h2)))]; exact Ev.pos h2 (bad _ rfl)
 refine Ev.neg h2 (Ev.then (isIn _ _ _) ?_)
 by_cases h0 : s.size = 0
 ·rw [if_pos (.inl h0)]; exact Ev.neg (by simp; omega) (bad _ rfl)
 by_cases h1 : 5 < s.size
 ·rw [if_pos (.inr (.inl h1))]; exact Ev.neg (by simp; omega) (bad _ rfl)
 refine Ev.pos (by simp; omega) ?_
 have fin : ∀ b : Bool, b = false → ¬ (1 < s.size ∧ bt s 0 = 48) → Ev (fun k => impl_ParseNum.j0 k s most b) (if s.size = 0 ∨ 5 < s.size ∨ (1 < s.size ∧ bt s 0 = 48) ∨ 65535 < most then (0, false) else ofDigits most (digits s 0 0 s.size)) := by
  intro b hb hn
  rw [if_neg (by omega)]
  exact Ev.step (fun k => impl_ParseNum.j0.eq_2 _ _ _ k) (Ev.neg (by simpa using hb) (impl_ParseNum_l0 s most (by omega) s.size 0 0 (by omega) (by omega) (by decide)))
 by_cases h3 : 1 < s.size
 ·refine Ev.pos (by omega) (Ev.pos (by omega) ?_)
  by_cases h4 : bt s 0 = 48
  ·rw [if_pos (.inr (.inr (.inl ⟨h3, h4⟩)))]; exact bad _ (by simpa using h4)
  ·exact fin _ (by simpa using h4) (fun h => h4 h.2)
 ·exact Ev.neg (by omega) (fin _ rfl (fun h => h3 h.1))
end Go.Proofs.YthkepmicdpgbbaaGreatDoor.Fn

namespace Go.Proofs.YthkepmicdpgbbaaGreatDoor.Fn
set_option linter.unusedVariables false
set_option linter.unusedSimpArgs false
open Go.RowKit Go.Proofs.YthkepmicdpgbbaaGreatDoorW.PrintWords Go.Proofs.YthkepmicdpgbbaaGreatDoor.P Go.Proofs.YthkepmicdpgbbaaGreatDoor.Base
def isDig (c : UInt8) : Prop := 48 ≤ c.toNat ∧ c.toNat ≤ 57
instance (c : UInt8) : Decidable (isDig c) := inferInstanceAs (Decidable (_ ∧ _))
def foldDig : Int → List UInt8 → Option Int
 | n, [] => some n
 | n, c :: cs => if isDig c then foldDig (10 * n + ((c.toNat : Int) - 48)) cs else none
theorem foldDig_snoc (xs : List UInt8) (c : UInt8) : ∀ n, foldDig n (xs ++ [c]) = (foldDig n xs).bind fun m => if isDig c then some (10 * m + ((c.toNat : Int) - 48)) else none := by
 induction xs with
 | nil => intro n; simp [foldDig]
 | cons x xs ih =>
  intro n
  simp only [List.cons_append, foldDig]
  by_cases h : isDig x
  ·rw [if_pos h, if_pos h, ih]
  ·rw [if_neg h, if_neg h]; rfl
theorem bt_ba (L : List UInt8) (i : Nat) (h : i < L.length) : bt (ba L) (i : Int) = (L[i].toNat : Int) := by
 have hs : i < ({ data := L.toArray } : ByteArray).size := h
 have e : bt (ba L) (i : Int) = if h : i < ({ data := L.toArray } : ByteArray).size then ((({ data := L.toArray } : ByteArray)[i]).toNat : Int) else 0 := by
  first
   | rfl
   | simp [bt, ba]
 rw [e, dif_pos hs]
 rfl
theorem digits_fold (L : List UInt8) (d : Nat) : ∀ (i : Nat) (n : Int), i + d = L.length → digits (ba L) i n d = foldDig n (L.drop i) := by
 induction d with
 | zero =>
  intro i n hi
  rw [List.drop_of_length_le (by omega)]
  rfl
 | succ d ih =>
  intro i n hi
  rw [List.drop_eq_getElem_cons (by omega), digits, foldDig, bt_ba L i (by omega)]
  by_cases h : isDig L[i]
  ·have h2 : (48 : Int) ≤ (L[i].toNat : Int) ∧ (L[i].toNat : Int) ≤ 57 := by have := h.1; have := h.2; omega
   rw [if_pos h2, if_pos h, ih (i + 1) _ (by omega)]
  ·have h2 : ¬ ((48 : Int) ≤ (L[i].toNat : Int) ∧ (L[i].toNat : Int) ≤ 57) := fun e => h ⟨by omega, by omega⟩
   rw [if_neg h2, if_neg h]
theorem dig_toNat (m : Nat) (h : m < 10) : (UInt8.ofNat (48 + m)).toNat = 48 + m := by
 rw [UInt8.toNat_ofNat']
 omega
theorem fold_dec (m : Nat) : foldDig 0 (Lib.decDigits m) = some (m : Int) := by
 induction m using Nat.strongRecOn with
 | ind m ih =>
  rw [Lib.decDigits]
  by_cases h : m < 10
  ·rw [dif_pos h, foldDig, if_pos ⟨by rw [dig_toNat m h]; omega, by rw [dig_toNat m h]; omega⟩, dig_toNat m h, foldDig]
   congr 1
   omega
  ·have hm : m % 10 < 10 := Nat.mod_lt _ (by decide)
   rw [dif_neg h, foldDig_snoc, ih (m / 10) (by omega), Option.bind_some, if_pos ⟨by rw [dig_toNat _ hm]; omega, by rw [dig_toNat _ hm]; omega⟩, dig_toNat _ hm]
   congr 1
   omega
theorem dec_head (m : Nat) (h : 1 ≤ m) : ∃ c cs, Lib.decDigits m = c :: cs ∧ c.toNat ≠ 48 := by
 induction m using Nat.strongRecOn with
 | ind m ih =>
  rw [Lib.decDigits]
  by_cases h10 : m < 10
  ·rw [dif_pos h10]
   exact ⟨_, _, rfl, by rw [dig_toNat m h10]; omega⟩
  ·obtain ⟨c, cs, e, hc⟩ := ih (m / 10) (by omega) (by omega)
   rw [dif_neg h10, e]
   exact ⟨c, _, rfl, hc⟩
theorem dec_length_pos (m : Nat) : 1 ≤ (Lib.decDigits m).length := by
 rw [Lib.decDigits]
 split <;> simp
theorem dec_length (d : Nat) : ∀ (m : Nat), (Lib.decDigits m).length ≤ d + 1 ↔ m < 10 ^ (d + 1) := by
 induction d with
 | zero =>
  intro m
  rw [Lib.decDigits]
  by_cases h : m < 10
  ·rw [dif_pos h]; simp; omega
  ·have := dec_length_pos (m / 10)
   rw [dif_neg h, List.length_append, List.length_singleton]; omega
 | succ d ih =>
  intro m
  rw [Lib.decDigits]
  have hp : 10 ^ (d + 1 + 1) = 10 ^ (d + 1) * 10 := Nat.pow_succ ..
  have h1 : 1 ≤ 10 ^ (d + 1) := Nat.one_le_pow _ _ (by decide)
  by_cases h : m < 10
  ·rw [dif_pos h]; simp only [List.length_singleton]; omega
  ·rw [dif_neg h, List.length_append, List.length_singleton]
   have := ih (m / 10)
   omega
theorem fold_inv (n : Nat) : ∀ (L : List UInt8), L.length = n → L ≠ [] → (∀ c cs, L = c :: cs → cs = [] ∨ c.toNat ≠ 48) → ∀ z, foldDig 0 L = some z → 0 ≤ z ∧ Lib.decDigits z.toNat = L ∧ ((∀ c cs, L = c :: cs → c.toNat ≠ 48) → 1 ≤ z) := by
 induction n with
 | zero => intro L hl hne; exact absurd (List.eq_nil_of_length_eq_zero hl) hne
 | succ n ih0 =>
 intro L hl hne hh z hz
 obtain ⟨xs, c, rfl⟩ : ∃ xs c, L = xs ++ [c] := ⟨L.dropLast, L.getLast hne, (List.dropLast_concat_getLast hne).symm⟩
 have ih := ih0 xs (by simpa using hl)
 rw [foldDig_snoc] at hz
 by_cases hx : xs = []
 ·subst hx
  simp only [foldDig, Option.bind_some] at hz
  by_cases hd : isDig c
  ·rw [if_pos hd] at hz
   obtain rfl := Option.some.inj hz
   obtain ⟨h1, h2⟩ := hd
   refine ⟨by omega, ?_, fun hne => by have := hne c [] rfl; omega⟩
   have e : (10 * 0 + ((c.toNat : Int) - 48)).toNat = c.toNat - 48 := by omega
   rw [e, Lib.decDigits, dif_pos (by omega), show 48 + (c.toNat - 48) = c.toNat by omega]
   simp
  ·rw [if_neg hd] at hz; cases hz
 ·cases hf : foldDig 0 xs with
  | none => rw [hf] at hz; cases hz
  | some v =>
   rw [hf, Option.bind_some] at hz
   by_cases hd : isDig c
   ·rw [if_pos hd] at hz
    obtain rfl := Option.some.inj hz
    obtain ⟨x, xs', rfl⟩ := List.exists_cons_of_ne_nil hx
    have hx0 : x.toNat ≠ 48 := (hh x (xs' ++ [c]) rfl).resolve_left (by simp)
    obtain ⟨h0, he, h1⟩ := ih hx (fun c' cs' e => by injection e with e1 e2; subst e1; exact .inr hx0) v hf
    have hv := h1 (fun c' cs' e => by injection e with e1 e2; subst e1; exact hx0)
    obtain ⟨d1, d2⟩ := hd
    refine ⟨by omega, ?_, fun _ => by omega⟩
    have e : (10 * v + ((c.toNat : Int) - 48)).toNat = 10 * v.toNat + (c.toNat - 48) := by omega
    rw [e, Lib.decDigits, dif_neg (by omega), show (10 * v.toNat + (c.toNat - 48)) / 10 = v.toNat by omega, show (10 * v.toNat + (c.toNat - 48)) % 10 = c.toNat - 48 by omega, he, show 48 + (c.toNat - 48) = c.toNat by omega]
    simp
   ·rw [if_neg hd] at hz; cases hz
end Go.Proofs.YthkepmicdpgbbaaGreatDoor.Fn

namespace Go.Proofs.YthkepmicdpgbbaaGreatDoor.Fn
set_option linter.unusedVariables false
set_option linter.unusedSimpArgs false
open Go.RowKit Go.Proofs.YthkepmicdpgbbaaGreatDoorW.PrintWords Go.Proofs.YthkepmicdpgbbaaGreatDoor.P Go.Proofs.YthkepmicdpgbbaaGreatDoor.Base
theorem parse_num (n : Nat) (most : Int) (h : (n : Int) ≤ most) (hm : most ≤ 65535) : parseNum (ba (Lib.itoa (n : Int))) most = ((n : Int), true) := by
 unfold parseNum
 have hi : Lib.itoa (n : Int) = Lib.decDigits n := by rw [Lib.itoa, if_neg (by omega), Int.toNat_natCast]
 have hd : digits (ba (Lib.decDigits n)) 0 0 (Lib.decDigits n).length = some (n : Int) := by
  rw [digits_fold _ _ 0 0 (by omega), List.drop_zero, fold_dec]
 have hp : (10 : Nat) ^ (4 + 1) = 100000 := by decide
 have hlen := (dec_length 4 n).2 (by rw [hp]; omega)
 have hpos := dec_length_pos n
 rw [hi, ba_size, hd]
 have hhead : ¬ (1 < (Lib.decDigits n).length ∧ bt (ba (Lib.decDigits n)) 0 = 48) := by
  rintro ⟨h1, h2⟩
  have hn : 1 ≤ n := by
   rcases Nat.eq_zero_or_pos n with h | h
   ·subst h; rw [Lib.decDigits, dif_pos (by decide)] at h1; simp at h1
   ·exact h
  obtain ⟨c, cs, e, hc⟩ := dec_head n hn
  have hb := bt_ba (Lib.decDigits n) 0 (by omega)
  rw [show ((0 : Nat) : Int) = 0 from rfl] at hb
  rw [hb] at h2
  have : (Lib.decDigits n)[0] = c := by simp [e]
  rw [this] at h2
  omega
 rw [if_neg (by omega), ofDigits, if_neg (by omega)]
theorem parse_back (u : ByteArray) (most : Int) (h : (parseNum u most).2 = true) : 0 ≤ (parseNum u most).1 ∧ (parseNum u most).1 ≤ most ∧ ba (Lib.itoa (parseNum u most).1) = u := by
 unfold parseNum at h ⊢
 split at h
 ·simp at h
 ·rename_i hc
  rw [if_neg hc]
  have hu := ba_of u
  have hsz : u.size = u.data.toList.length := rfl
  have hdig : digits u 0 0 u.size = foldDig 0 u.data.toList := by
   conv => lhs; rw [hu, ba_size]
   rw [digits_fold _ _ 0 0 (by omega), List.drop_zero]
  rw [hdig] at h ⊢
  cases hf : foldDig 0 u.data.toList with
  | none => rw [hf] at h; simp [ofDigits] at h
  | some z =>
   rw [hf] at h
   simp only [ofDigits] at h ⊢
   by_cases hz : z > most
   ·rw [if_pos hz] at h; simp at h
   ·rw [if_neg hz]
    have hne : u.data.toList ≠ [] := fun e => hc (.inl (by rw [hsz, e]; rfl))
    obtain ⟨z0, hd, _⟩ := fold_inv _ u.data.toList rfl hne (by
     intro c cs e
     by_cases hcs : cs = []
     ·exact .inl hcs
     ·refine .inr fun h48 => hc (.inr (.inr (.inl ⟨?_, ?_⟩)))
      ·rw [hsz, e]
       have := List.length_pos_iff.2 hcs
       simp only [List.length_cons]; omega
      ·have hb := bt_ba u.data.toList 0 (by rw [e]; simp)
       rw [← hu, show ((0 : Nat) : Int) = 0 from rfl] at hb
       rw [hb]
       have : u.data.toList[0]'(by rw [e]; simp) = c := by simp [e]
       rw [this, h48]
       rfl) z hf
    refine ⟨z0, by dsimp only; omega, ?_⟩
    dsimp only
    rw [Lib.itoa, if_neg (by omega), hd]
    exact hu.symm
theorem dec_digs (m : Nat) : ∀ c ∈ Lib.decDigits m, 48 ≤ c.toNat ∧ c.toNat ≤ 57 := by
 induction m using Nat.strongRecOn with
 | ind m ih =>
  intro c hc
  rw [Lib.decDigits] at hc
  by_cases h : m < 10
  ·rw [dif_pos h, List.mem_singleton] at hc
   rw [hc, dig_toNat m h]; omega
  ·have hm : m % 10 < 10 := Nat.mod_lt _ (by decide)
   rw [dif_neg h, List.mem_append, List.mem_singleton] at hc
   rcases hc with hc | hc
   ·exact ih (m / 10) (by omega) c hc
   ·rw [hc, dig_toNat _ hm]; omega
theorem num_free (n : Int) (h : 0 ≤ n) (c : UInt8) (hc : c.toNat < 48 ∨ 57 < c.toNat) : c ∉ Lib.itoa n := by
 intro hm
 rw [Lib.itoa, if_neg (by omega)] at hm
 have := dec_digs _ c hm
 omega
theorem itoa_two (n : Int) (h0 : 0 ≤ n) (h1 : n ≤ 99) : (Lib.itoa n).length ≤ 2 ∧ 1 ≤ (Lib.itoa n).length := by
  rw [Lib.itoa, if_neg (by omega)]
  exact ⟨(dec_length 1 n.toNat).2 (by have hp : (10 : Nat) ^ (1 + 1) = 100 := by decide
                                      rw [hp]; omega), dec_length_pos _⟩
end Go.Proofs.YthkepmicdpgbbaaGreatDoor.Fn

namespace Go.Proofs.YthkepmicdpgbbaaGreatDoor.Fn
set_option linter.unusedVariables false
set_option linter.unusedSimpArgs false
open Go.RowKit Go.Proofs.YthkepmicdpgbbaaGreatDoorW.PrintWords Go.Proofs.YthkepmicdpgbbaaGreatDoor.P Go.Proofs.YthkepmicdpgbbaaGreatDoor.Base
theorem name_bytes {s : ByteArray} (h : nameOk s = true) : ∀ c ∈ s.data.toList, 97 ≤ c.toNat ∧ c.toNat ≤ 122 := by
 intro c hc
 obtain ⟨i, hi, rfl⟩ := List.getElem_of_mem hc
 have hb := bt_ba s.data.toList i hi
 rw [← ba_of s] at hb
 have := ((nameOk_iff s).1 h).2 i hi
 omega
def restL (x : Db) : List UInt8 := joinA 47 (Lib.itoa x.f1) [Lib.itoa x.f2, Lib.itoa x.f3, Lib.itoa x.f4]
theorem item_rest (x : Db) : itemL x = x.f0.data.toList ++ 58 :: restL x := by simp [itemL, restL, joinA]
theorem item_join (x : Db) : itemL x = joinA 58 x.f0.data.toList [restL x] := by rw [item_rest]; simp [joinA]
def Pos4 (x : Db) : Prop := 0 ≤ x.f1 ∧ 0 ≤ x.f2 ∧ 0 ≤ x.f3 ∧ 0 ≤ x.f4
theorem dbOk_pos {x : Db} (h : dbOk x = true) : Pos4 x := by
 obtain ⟨_, h1, h2, h3, h4⟩ := dbOk_of h
 exact ⟨by omega, by omega, by omega, by omega⟩
theorem rest_free {x : Db} (h : Pos4 x) (c : UInt8) (hc : 57 < c.toNat) : c ∉ restL x := by
 obtain ⟨h1, h2, h3, h4⟩ := h
 intro hm
 have n1 := num_free _ h1 c (.inr hc)
 have n2 := num_free _ h2 c (.inr hc)
 have n3 := num_free _ h3 c (.inr hc)
 have n4 := num_free _ h4 c (.inr hc)
 have ne : ¬ c = 47 := fun e => by rw [e] at hc; revert hc; decide
 simp only [restL, joinA, List.flatMap_cons, List.flatMap_nil, List.mem_append, List.mem_cons, List.append_nil, List.cons_append] at hm
 simp only [n1, n2, n3, n4, ne, false_or, or_false] at hm
theorem rest_split {x : Db} (h : Pos4 x) : splitA 47 [] (restL x) = [Lib.itoa x.f1, Lib.itoa x.f2, Lib.itoa x.f3, Lib.itoa x.f4] := by
 obtain ⟨h1, h2, h3, h4⟩ := h
 rw [restL, splitA_join 47 _ _ _ (num_free _ h1 47 (.inl (by decide))) (by
  intro y hy
  simp only [List.mem_cons, List.not_mem_nil, or_false] at hy
  rcases hy with rfl | rfl | rfl
  ·exact num_free _ h2 47 (.inl (by decide))
  ·exact num_free _ h3 47 (.inl (by decide))
  ·exact num_free _ h4 47 (.inl (by decide)))]
 rfl
theorem name_free {x : Db} (h : dbOk x = true) (c : UInt8) (hc : c.toNat < 97) : c ∉ x.f0.data.toList := by
 intro hm
 unfold dbOk at h
 simp only [Bool.and_eq_true] at h
 have := name_bytes h.1 c hm
 omega
theorem item_split {x : Db} (h : dbOk x = true) : splitA 58 [] (itemL x) = [x.f0.data.toList, restL x] := by
 rw [item_join, splitA_join 58 _ _ _ (name_free h 58 (by decide)) (by
  intro y hy
  simp only [List.mem_cons, List.not_mem_nil, or_false] at hy
  subst hy
  exact rest_free (dbOk_pos h) 58 (by decide))]
 rfl
theorem item_free {x : Db} (h : dbOk x = true) : (59 : UInt8) ∉ itemL x := by
 have n1 := name_free h 59 (by decide)
 have n2 := rest_free (dbOk_pos h) 59 (by decide)
 rw [item_rest]
 intro hm
 simp only [List.mem_append, List.mem_cons, n1, n2, false_or, or_false] at hm
 revert hm
 decide
theorem itemL_short {x : Db} (h : dbOk x = true) : (itemL x).length ≤ 20 ∧ 1 ≤ (itemL x).length := by
 obtain ⟨hn, h1, h2, h3, h4⟩ := dbOk_of h
 have e1 := itoa_two x.f1 (by omega) (by omega)
 have e2 := itoa_two x.f2 (by omega) (by omega)
 have e3 := itoa_two x.f3 (by omega) (by omega)
 have e4 := itoa_two x.f4 (by omega) (by omega)
 have e0 : x.f0.data.toList.length = x.f0.size := rfl
 simp only [itemL, List.length_append, List.length_singleton, e0]
 omega
theorem conf_cons {l : List Db} (h : confFrom l 0 l.length = true) : ∃ x xs, l = x :: xs ∧ xs.length ≤ 2 ∧ ∀ y ∈ l, dbOk y = true := by
 obtain ⟨h3, hall⟩ := confFrom_all l l.length 0 (by omega) h
 have hm : ∀ y ∈ l, dbOk y = true := by
  intro y hy
  obtain ⟨j, hj, rfl⟩ := List.getElem_of_mem hy
  exact hall j hj (by omega)
 cases l with
 | nil => simp [confFrom] at h
 | cons x xs => exact ⟨x, xs, rfl, by simp only [List.length_cons] at h3; omega, hm⟩
theorem confText_join (x : Db) (xs : List Db) (h : confFrom (x :: xs) 0 (x :: xs).length = true) : confText (x :: xs) = ba (joinA 59 (itemL x) (xs.map itemL)) := by
 unfold confText
 rw [if_pos h, confAcc, if_pos rfl, show (⟨#[]⟩ : ByteArray) = ba [] from rfl, ba_append, List.nil_append, confAcc_eq _ _ _ (by omega), joinA, List.flatMap_map]
theorem conf_split {l : List Db} (h : confFrom l 0 l.length = true) : splitA 59 [] (confText l).data.toList = l.map itemL := by
 obtain ⟨x, xs, rfl, _, hall⟩ := conf_cons h
 rw [confText_join x xs h, show (ba (joinA 59 (itemL x) (xs.map itemL))).data.toList = joinA 59 (itemL x) (xs.map itemL) by simp [ba], splitA_join 59 _ _ _ (item_free (hall x (List.mem_cons_self ..))) (by
  intro y hy
  obtain ⟨z, hz, rfl⟩ := List.mem_map.1 hy
  exact item_free (hall z (List.mem_cons_of_mem _ hz)))]
 rfl
theorem confText_size {l : List Db} (h : confFrom l 0 l.length = true) : 1 ≤ (confText l).size ∧ (confText l).size ≤ 100 := by
 obtain ⟨x, xs, rfl, h2, hall⟩ := conf_cons h
 rw [confText_join x xs h, ba_size, joinA, List.length_append]
 have hx := itemL_short (hall x (List.mem_cons_self ..))
 have b : ∀ ys : List Db, (∀ y ∈ ys, dbOk y = true) → ((ys.map itemL).flatMap (fun y => (59 : UInt8) :: y)).length ≤ 21 * ys.length := by
  intro ys
  induction ys with
  | nil => intro _; simp
  | cons y ys ih =>
   intro hy
   have := ih (fun z hz => hy z (List.mem_cons_of_mem _ hz))
   have h1 := itemL_short (hy y (List.mem_cons_self ..))
   simp only [List.map_cons, List.flatMap_cons, List.length_append, List.length_cons]
   omega
 have := b xs (fun y hy => hall y (List.mem_cons_of_mem _ hy))
 omega
noncomputable def parsed (q : List UInt8) : Option Int := if (parseNum (ba q) 99).2 = true then some (parseNum (ba q) 99).1 else none
theorem parsed_num {n : Int} (h0 : 0 ≤ n) (h1 : n ≤ 99) : parsed (Lib.itoa n) = some n := by
 obtain ⟨m, rfl⟩ := Int.eq_ofNat_of_zero_le h0
 rw [parsed, parse_num m 99 h1 (by omega), if_pos rfl]
theorem parsed_back {q : List UInt8} {n : Int} (h : parsed q = some n) : Lib.itoa n = q := by
 unfold parsed at h
 split at h
 ·rename_i hp
  have e := (parse_back _ _ hp).2.2
  obtain rfl := Option.some.inj h
  have := congrArg (fun b : ByteArray => b.data.toList) e
  simpa [ba] using this
 ·cases h
noncomputable def numsOf (a : List UInt8) : List (List UInt8) → Option Db
 | [q0, q1, q2, q3] => (parsed q0).bind fun n0 => (parsed q1).bind fun n1 => (parsed q2).bind fun n2 => (parsed q3).bind fun n3 => some ⟨ba a, n0, n1, n2, n3⟩
 | _ => none
noncomputable def partsOf : List (List UInt8) → Option Db
 | [a, b] => numsOf a (splitA 47 [] b)
 | _ => none
noncomputable def itemOf (p : List UInt8) : Option Db := partsOf (splitA 58 [] p)
noncomputable def itemsOf : List (List UInt8) → Option (List Db)
 | [] => some []
 | p :: ps => (itemOf p).bind fun x => (itemsOf ps).bind fun xs => some (x :: xs)
theorem itemOf_item {x : Db} (h : dbOk x = true) : itemOf (itemL x) = some x := by
 obtain ⟨hn, h1, h2, h3, h4⟩ := dbOk_of h
 rw [itemOf, item_split h, partsOf, rest_split (dbOk_pos h), numsOf, parsed_num (by omega) (by omega), parsed_num (by omega) (by omega), parsed_num (by omega) (by omega), parsed_num (by omega) (by omega)]
 simp only [Option.bind_some]
 rw [← ba_of]
theorem itemOf_back {p : List UInt8} {x : Db} (h : itemOf p = some x) : itemL x = p := by
 unfold itemOf at h
 obtain ⟨a, us, e, hj⟩ := splitA_back 58 p []
 rw [e] at h
 rcases us with _ | ⟨b, _ | ⟨c, cs⟩⟩
 ·cases h
 ·obtain ⟨q0, qs, e2, hj2⟩ := splitA_back 47 b []
  rw [partsOf, e2] at h
  rcases qs with _ | ⟨q1, _ | ⟨q2, _ | ⟨q3, _ | ⟨q4, qs⟩⟩⟩⟩
  ·cases h
  ·cases h
  ·cases h
  ·rw [numsOf] at h
   simp only [Option.bind_eq_some_iff] at h
   obtain ⟨n0, p0, n1, p1, n2, p2, n3, p3, hx⟩ := h
   obtain rfl := Option.some.inj hx
   rw [item_join, restL]
   simp only
   rw [parsed_back p0, parsed_back p1, parsed_back p2, parsed_back p3, ← hj2, List.nil_append]
   rw [List.nil_append] at hj
   rw [hj]
   simp [ba]
  ·cases h
 ·cases h
theorem itemsOf_items : ∀ (l : List Db), (∀ x ∈ l, dbOk x = true) → itemsOf (l.map itemL) = some l
 | [], _ => rfl
 | x :: xs, h => by
  rw [List.map_cons, itemsOf, itemOf_item (h x (List.mem_cons_self ..)), itemsOf_items xs (fun y hy => h y (List.mem_cons_of_mem _ hy))]
  rfl
theorem itemsOf_back : ∀ (ps : List (List UInt8)) (l : List Db), itemsOf ps = some l → l.map itemL = ps
 | [], l, h => by obtain rfl := Option.some.inj h; rfl
 | p :: ps, l, h => by
  rw [itemsOf] at h
  simp only [Option.bind_eq_some_iff] at h
  obtain ⟨x, hx, xs, hxs, he⟩ := h
  obtain rfl := Option.some.inj he
  rw [List.map_cons, itemOf_back hx, itemsOf_back ps xs hxs]
noncomputable def confFin : Option (List Db) → List Db × Bool
 | some l => if confFrom l 0 l.length = true then (l, true) else ([], false)
 | none => ([], false)
noncomputable def parseConf (s : ByteArray) : List Db × Bool := confFin (itemsOf (splitA 59 [] s.data.toList))
theorem parseConf_text {l : List Db} (h : confFrom l 0 l.length = true) : parseConf (confText l) = (l, true) := by
 obtain ⟨x, xs, rfl, _, hall⟩ := conf_cons h
 rw [parseConf, conf_split h, itemsOf_items _ hall, confFin, if_pos h]
theorem parseConf_back (s : ByteArray) : parseConf s = ([], false) ∨ ∃ l, parseConf s = (l, true) ∧ confFrom l 0 l.length = true ∧ confText l = s := by
 unfold parseConf
 cases h : itemsOf (splitA 59 [] s.data.toList) with
 | none => exact .inl rfl
 | some l =>
  by_cases hc : confFrom l 0 l.length = true
  ·refine .inr ⟨l, by rw [confFin, if_pos hc], hc, ?_⟩
   have e := itemsOf_back _ _ h
   obtain ⟨x, xs, rfl, _, hall⟩ := conf_cons hc
   obtain ⟨y, ys, e2, hj⟩ := splitA_back 59 s.data.toList []
   rw [e2, List.map_cons] at e
   injection e with e3 e4
   rw [confText_join x xs hc, e3, e4, ← hj, List.nil_append]
   exact (ba_of s).symm
  ·exact .inl (by rw [confFin, if_neg hc])
theorem parseConf_long {s : ByteArray} (h : 100 < s.size) : parseConf s = ([], false) := by
 rcases parseConf_back s with h' | ⟨l, _, hc, rfl⟩
 ·exact h'
 ·have := confText_size hc; omega
theorem extract_ba (s : ByteArray) (a b : Nat) : s.extract a b = ba ((s.data.toList.drop a).take (b - a)) := by
 rw [← Lib.extract_data]
 exact ba_of _
theorem spec_l3Split_l0 (s : ByteArray) (hs : s.size ≤ 1048576) (c : UInt8) (d : Nat) : ∀ (i fr : Nat) (out : List ByteArray), i + d = s.size → fr ≤ i → out.length ≤ i →
  Ev (fun k => spec_l3Split.l0 k s (c.toNat : Int) out (fr : Int) (i : Int)) (out ++ (splitA c ((s.data.toList.drop fr).take (i - fr)) (s.data.toList.drop i)).map ba) := by
 have hL : s.data.toList.length = s.size := rfl
 induction d with
 | zero =>
  intro i fr out hi hf ho
  refine Ev.step (fun k => spec_l3Split.l0.eq_2 _ _ _ _ _ k) (Ev.pos (by omega) (Ev.pos (by omega) (Ev.pos (by omega) (Ev.pos (by omega) (Ev.pos (by omega) ?_)))))
  rw [w64 (n := (i : Int) + 1) (by omega) (by omega), cast_succ]
  refine Ev.step (fun k => spec_l3Split.l0.eq_2 _ _ _ _ _ k) (Ev.neg (by omega) (Ev.done ?_))
  rw [List.drop_of_length_le (l := s.data.toList) (i := i) (by omega), splitA, Int.toNat_natCast, Int.toNat_natCast, extract_ba]
  rfl
 | succ d ih =>
  intro i fr out hi hf ho
  have hlt : i < s.data.toList.length := by omega
  have hb := bt_ba s.data.toList i hlt
  rw [← ba_of s] at hb
  refine Ev.step (fun k => spec_l3Split.l0.eq_2 _ _ _ _ _ k) (Ev.pos (by omega) (Ev.neg (by omega) (Ev.pos (by omega) (Ev.pos (by omega) ?_))))
  rw [w64 (n := (i : Int) + 1) (by omega) (by omega), cast_succ, List.drop_eq_getElem_cons hlt, splitA]
  by_cases h : s.data.toList[i] = c
  ·refine Ev.pos (by rw [hb, h]) (Ev.pos (by omega) (Ev.pos (by omega) (Ev.pos (by omega) ?_)))
   rw [Int.toNat_natCast, Int.toNat_natCast, extract_ba, if_pos h]
   refine Ev.eq (ih (i + 1) (i + 1) _ (by omega) (by omega) (by simp; omega)) ?_
   rw [Nat.sub_self, List.take_zero, List.map_cons, List.append_assoc]
   rfl
  ·have hne : ¬ bt s (i : Int) = (c.toNat : Int) := by
    rw [hb]
    intro e
    exact h (UInt8.toNat_inj.1 (by omega))
   refine Ev.neg hne ?_
   rw [if_neg h]
   refine Ev.eq (ih (i + 1) fr _ (by omega) (by omega) (by omega)) ?_
   rw [show i + 1 - fr = (i - fr) + 1 by omega, List.take_succ_eq_append_getElem (by rw [List.length_drop]; omega), List.getElem_drop]
   have e : s.data.toList[fr + (i - fr)]'(by omega) = s.data.toList[i] := by congr 1; omega
   rw [e]
theorem spec_l3Split (s : ByteArray) (hs : s.size ≤ 1048576) (c : UInt8) : Ev (fun k => spec_l3Split.f k s (c.toNat : Int)) ((splitA c [] s.data.toList).map ba) := spec_l3Split_l0 s hs c s.size 0 0 [] (by omega) (by omega) (by simp)
theorem ba_data (l : List UInt8) : (ba l).data.toList = l := by simp [ba]
theorem spec_PC_step (P : List ByteArray) (out : List Db) (I : Int) (p q : List ByteArray) (nums : List Int) (j : Nat) (hj : j < 4) (hq : q.length = 4) (hn : nums.length = 4) (r : List Db × Bool)
  (h : ∀ n, parseNum (q[j]'(by omega)) 99 = (n, true) → Ev (fun k => spec_ParseConf.l1 k P out I p q (nums.set j n) ((j + 1 : Nat) : Int)) r) (hb : (parseNum (q[j]'(by omega)) 99).2 = false → r = ([], false)) :
  Ev (fun k => spec_ParseConf.l1 k P out I p q nums (j : Int)) r := by
 have he : rdOf ByteArray.empty q (j : Int) = q[j]'(by omega) := getD_nat q _ (by omega)
 refine Ev.step (fun k => spec_ParseConf.l1.eq_2 _ _ _ _ _ _ _ k) (Ev.pos (by omega) (Ev.pos (by omega) (Ev.pos (by omega) ?_)))
 rw [he]
 refine Ev.bind (spec_parseNum _ _) ?_
 cases hv : parseNum (q[j]'(by omega)) 99 with
 | mk n b =>
  cases b
  ·exact Ev.neg (by simp) (Ev.done (hb (by rw [hv])).symm)
  ·refine Ev.pos rfl (Ev.pos (by omega) ?_)
   rw [w64 (n := (j : Int) + 1) (by omega) (by omega), cast_succ, Int.toNat_natCast]
   exact h n hv
theorem spec_PC_end (P : List ByteArray) (out : List Db) (i : Nat) (hi : i ≤ 1048576) (a b : ByteArray) (q : List ByteArray) (n0 n1 n2 n3 : Int) (ho : out.length ≤ 1048577) (r : List Db × Bool)
  (h : Ev (fun k => spec_ParseConf.l0 k P (out ++ [⟨a, n0, n1, n2, n3⟩]) ((i + 1 : Nat) : Int)) r) : Ev (fun k => spec_ParseConf.l1 k P out (i : Int) [a, b] q [n0, n1, n2, n3] ((4 : Nat) : Int)) r := by
 refine Ev.step (fun k => spec_ParseConf.l1.eq_2 _ _ _ _ _ _ _ k) (Ev.neg (by omega) (Ev.pos (by simp) (Ev.pos (by simp) (Ev.pos (by simp) (Ev.pos (by simp) (Ev.pos (by simp) (Ev.pos (by omega) ?_)))))))
 rw [w64 (n := (i : Int) + 1) (by omega) (by omega), cast_succ]
 exact h
theorem spec_PC_nums (P : List ByteArray) (out : List Db) (i : Nat) (hi : i ≤ 1048576) (a : List UInt8) (b : ByteArray) (Q : List (List UInt8)) (hQ : Q.length = 4) (ho : out.length ≤ 1048577) (r : List Db × Bool)
  (h : ∀ x, numsOf a Q = some x → Ev (fun k => spec_ParseConf.l0 k P (out ++ [x]) ((i + 1 : Nat) : Int)) r) (hb : numsOf a Q = none → r = ([], false)) :
  Ev (fun k => spec_ParseConf.l1 k P out (i : Int) [ba a, b] (Q.map ba) [0, 0, 0, 0] ((0 : Nat) : Int)) r := by
 rcases Q with _ | ⟨q0, _ | ⟨q1, _ | ⟨q2, _ | ⟨q3, _ | ⟨q4, qs⟩⟩⟩⟩⟩
 ·simp at hQ
 ·simp at hQ
 ·simp at hQ
 ·simp at hQ
 ·have no : ∀ q : List UInt8, (parseNum (ba q) 99).2 = false → parsed q = none := fun q hq => by rw [parsed, if_neg (by rw [hq]; decide)]
  have yes : ∀ (q : List UInt8) (n : Int), parseNum (ba q) 99 = (n, true) → parsed q = some n := fun q n hq => by rw [parsed, hq, if_pos rfl]
  refine spec_PC_step P out i _ _ _ 0 (by omega) rfl rfl r (fun n0 p0 => ?_) (fun p0 => hb ?_)
  ·refine spec_PC_step P out i _ _ _ 1 (by omega) rfl rfl r (fun n1 p1 => ?_) (fun p1 => hb ?_)
   ·refine spec_PC_step P out i _ _ _ 2 (by omega) rfl rfl r (fun n2 p2 => ?_) (fun p2 => hb ?_)
    ·refine spec_PC_step P out i _ _ _ 3 (by omega) rfl rfl r (fun n3 p3 => ?_) (fun p3 => hb ?_)
     ·refine spec_PC_end P out i hi _ _ _ n0 n1 n2 n3 ho r (h _ ?_)
      rw [numsOf, yes _ _ p0, yes _ _ p1, yes _ _ p2, yes _ _ p3]
      rfl
     ·rw [numsOf, yes _ _ p0, yes _ _ p1, yes _ _ p2, no _ p3]; rfl
    ·rw [numsOf, yes _ _ p0, yes _ _ p1, no _ p2]; rfl
   ·rw [numsOf, yes _ _ p0, no _ p1]; rfl
  ·rw [numsOf, no _ p0]; rfl
 ·simp at hQ
theorem spec_PC_item (P : List ByteArray) (out : List Db) (i : Nat) (hi : i < P.length) (hP : P.length ≤ 1048577) (piece : List UInt8) (hp : P[i] = ba piece) (hl : piece.length ≤ 1048576) (ho : out.length ≤ 1048577) (r : List Db × Bool)
  (h : ∀ x, itemOf piece = some x → Ev (fun k => spec_ParseConf.l0 k P (out ++ [x]) ((i + 1 : Nat) : Int)) r) (hb : itemOf piece = none → r = ([], false)) :
  Ev (fun k => spec_ParseConf.l0 k P out (i : Int)) r := by
 have he : rdOf ByteArray.empty P (i : Int) = ba piece := (getD_nat P _ hi).trans hp
 refine Ev.step (fun k => spec_ParseConf.l0.eq_2 _ _ _ k) (Ev.pos (by omega) (Ev.pos (by omega) ?_))
 rw [he]
 have e1 : Ev (fun k => spec_l3Split.f k (ba piece) 58) ((splitA 58 [] piece).map ba) := by
  have := spec_l3Split (ba piece) (by rw [ba_size]; exact hl) 58
  rw [ba_data] at this
  exact this
 refine Ev.bind e1 ?_
 obtain ⟨a, us, e, hj⟩ := splitA_back 58 piece []
 unfold itemOf at h hb
 rw [e] at h hb ⊢
 rcases us with _ | ⟨b, _ | ⟨c, cs⟩⟩
 ·exact Ev.neg (by simp) (Ev.done (hb rfl).symm)
 ·refine Ev.pos (by simp) (Ev.pos (by simp) ?_)
  have hlb : b.length ≤ 1048576 := by
   have := congrArg List.length hj
   simp [joinA] at this
   omega
  have e2 : Ev (fun k => spec_l3Split.f k (rdOf ByteArray.empty ([a, b].map ba) 1) 47) ((splitA 47 [] b).map ba) := by
   have := spec_l3Split (ba b) (by rw [ba_size]; exact hlb) 47
   rw [ba_data] at this
   exact this
  refine Ev.bind e2 ?_
  by_cases h4 : (splitA 47 [] b).length = 4
  ·refine Ev.pos (by rw [List.length_map, h4]; rfl) ?_
   exact spec_PC_nums P out i (by omega) a (ba b) _ h4 ho r (fun x hx => h x hx) (fun hx => hb hx)
  ·refine Ev.neg (by rw [List.length_map]; omega) (Ev.done (hb ?_).symm)
   rw [partsOf]
   match hq : splitA 47 [] b with
   | [] => rfl
   | [_] => rfl
   | [_, _] => rfl
   | [_, _, _] => rfl
   | [_, _, _, _] => rw [hq] at h4; simp at h4
   | _ :: _ :: _ :: _ :: _ :: _ => rfl
 ·refine Ev.neg (by simp; omega) (Ev.done (hb rfl).symm)
theorem spec_PC_l0 (ps : List (List UInt8)) (hps : ps.length ≤ 1048577) (hsz : ∀ p ∈ ps, p.length ≤ 1048576) (d : Nat) : ∀ (i : Nat) (out : List Db), i + d = ps.length → out.length = i → (∀ x ∈ out, x.f0.size ≤ 9223372036854775807) →
  Ev (fun k => spec_ParseConf.l0 k (ps.map ba) out (i : Int)) (confFin ((itemsOf (ps.drop i)).map (out ++ ·))) := by
 induction d with
 | zero =>
  intro i out hi ho hg
  rw [List.drop_of_length_le (by omega), itemsOf]
  refine Ev.step (fun k => spec_ParseConf.l0.eq_2 _ _ _ k) (Ev.neg (by rw [List.length_map]; omega) (Ev.bind (spec_confOk out (by omega) hg) ?_))
  simp only [Option.map_some, confFin, List.append_nil]
  by_cases hc : confFrom out 0 out.length = true
  ·exact Ev.pos hc (Ev.done (if_pos hc).symm)
  ·exact Ev.neg hc (Ev.done (if_neg hc).symm)
 | succ d ih =>
  intro i out hi ho hg
  have hlt : i < ps.length := by omega
  rw [List.drop_eq_getElem_cons hlt, itemsOf]
  refine spec_PC_item (ps.map ba) out i (by simpa using hlt) (by simpa using hps) ps[i] (by simp) (hsz _ (List.getElem_mem _)) (by omega) _ (fun x hx => ?_) (fun hx => ?_)
  ·have hxs : x.f0.size ≤ 9223372036854775807 := by
    have e := congrArg List.length (itemOf_back hx)
    have := hsz _ (List.getElem_mem hlt)
    rw [item_rest, List.length_append] at e
    have e0 : x.f0.data.toList.length = x.f0.size := rfl
    omega
   refine Ev.eq (ih (i + 1) (out ++ [x]) (by omega) (by simp [ho]) (fun y hy => ?_)) ?_
   ·rcases List.mem_append.1 hy with hy | hy
    ·exact hg y hy
    ·rw [List.mem_singleton] at hy; rw [hy]; exact hxs
   ·rw [hx]
    cases itemsOf (ps.drop (i + 1)) with
    | none => rfl
    | some xs => simp
  ·rw [hx]; rfl
theorem pieces_length (c : UInt8) (s : List UInt8) : ∀ acc, (splitA c acc s).length ≤ s.length + 1 ∧ ∀ p ∈ splitA c acc s, p.length ≤ acc.length + s.length := by
 induction s with
 | nil => intro acc; simp [splitA]
 | cons x xs ih =>
  intro acc
  rw [splitA]
  split
  ·obtain ⟨h1, h2⟩ := ih []
   refine ⟨by simp only [List.length_cons]; omega, fun p hp => ?_⟩
   rcases List.mem_cons.1 hp with rfl | hp
   ·simp
   ·have := h2 p hp
    simp only [List.length_cons, List.length_nil] at this ⊢
    omega
  ·obtain ⟨h1, h2⟩ := ih (acc ++ [x])
   refine ⟨by simp only [List.length_cons]; omega, fun p hp => ?_⟩
   have := h2 p hp
   simp only [List.length_append, List.length_cons, List.length_nil] at this ⊢
   omega
theorem spec_parseConf (s : ByteArray) (hs : s.size ≤ 1048576) : Ev (fun k => spec_ParseConf.f k s) (parseConf s) := by
 unfold spec_ParseConf.f
 by_cases h : (s.size : Int) > 100
 ·exact Ev.pos h (Ev.done (parseConf_long (by omega)).symm)
 ·refine Ev.neg h ?_
  have e1 : Ev (fun k => spec_l3Split.f k s 59) ((splitA 59 [] s.data.toList).map ba) := spec_l3Split s hs 59
  have hL : s.data.toList.length = s.size := rfl
  obtain ⟨h1, h2⟩ := pieces_length 59 s.data.toList []
  refine Ev.bind e1 (Ev.eq (spec_PC_l0 _ (by omega) (fun p hp => by have := h2 p hp; simp only [List.length_nil] at this; omega) (splitA 59 [] s.data.toList).length 0 [] (by omega) rfl (fun x hx => by cases hx)) ?_)
  rw [parseConf, List.drop_zero]
  cases itemsOf (splitA 59 [] s.data.toList) <;> rfl
end Go.Proofs.YthkepmicdpgbbaaGreatDoor.Fn

namespace Go.Proofs.YthkepmicdpgbbaaGreatDoor.Fn
set_option linter.unusedVariables false
set_option linter.unusedSimpArgs false
open Go.RowKit Go.Proofs.YthkepmicdpgbbaaGreatDoorW.PrintWords Go.Proofs.YthkepmicdpgbbaaGreatDoor.P Go.Proofs.YthkepmicdpgbbaaGreatDoor.Base
noncomputable def numAt (ws : List ByteArray) (j : Nat) : Int := if h : j < ws.length then (parseNum ws[j] 20).1 else 0
def wsOf (rest : ByteArray) : List ByteArray := Lib.splitB (⟨#[47]⟩ : ByteArray) 0 (min (4 : Int).toNat (rest.size + 1) - 1) rest
def upd (f : Nat → Int) (i : Nat) (v : Int) (j : Nat) : Int := if j = i then v else f j
noncomputable def implItem (p : ByteArray) : Db :=
 ⟨ba (Lib.cut p.data.toList [58]).1, numAt (wsOf (ba (Lib.cut p.data.toList [58]).2.1)) 0, numAt (wsOf (ba (Lib.cut p.data.toList [58]).2.1)) 1, numAt (wsOf (ba (Lib.cut p.data.toList [58]).2.1)) 2, numAt (wsOf (ba (Lib.cut p.data.toList [58]).2.1)) 3⟩
theorem splitB_sizes (sep : ByteArray) (save : Nat) : ∀ (k : Nat) (s : ByteArray), ∀ p ∈ Lib.splitB sep save k s, p.size ≤ s.size
 | 0, s, p, hp => by
  rw [Lib.splitB_zero, List.mem_singleton] at hp
  rw [hp]; exact Nat.le_refl _
 | k + 1, s, p, hp => by
  unfold Lib.splitB at hp
  split at hp
  ·rw [List.mem_singleton] at hp
   rw [hp]; exact Nat.le_refl _
  ·rcases List.mem_cons.1 hp with rfl | hp
   ·rw [ByteArray.size_extract]; omega
   ·have := splitB_sizes sep save k _ p hp
    rw [ByteArray.size_extract] at this
    omega
theorem impl_PC_l1 (s : ByteArray) (out : List Db) (a : ByteArray) (P : List ByteArray) (i : Nat) (hi : i ≤ 1048577) (ho : out.length ≤ 1048577) (ws : List ByteArray) (h4 : ws.length ≤ 4) (r : List Db × Bool) (d : Nat) : ∀ (j : Nat) (f : Nat → Int), j + d = ws.length →
  (∀ g : Nat → Int, (∀ m, g m = if j ≤ m ∧ m < ws.length then numAt ws m else f m) → Ev (fun k => impl_ParseConf.l0 k s (out ++ [⟨a, g 0, g 1, g 2, g 3⟩]) P (P.length : Int) ((i + 1 : Nat) : Int)) r) →
  Ev (fun k => impl_ParseConf.l1 k s out a P (P.length : Int) (i : Int) ws (ws.length : Int) (j : Int) (f 0) (f 1) (f 2) (f 3)) r := by
 induction d with
 | zero =>
  intro j f hj h
  refine Ev.step (fun k => impl_ParseConf.l1.eq_2 _ _ _ _ _ _ _ _ _ _ _ _ _ k) (Ev.neg (by omega) (Ev.pos (by omega) ?_))
  rw [w64 (n := (i : Int) + 1) (by omega) (by omega), cast_succ]
  exact h f (fun m => by rw [if_neg (by omega)])
 | succ d ih =>
  intro j f hj h
  have he : rdOf ByteArray.empty ws (j : Int) = ws[j]'(by omega) := getD_nat ws _ (by omega)
  have hv : numAt ws j = (parseNum (ws[j]'(by omega)) 20).1 := dif_pos (by omega)
  have key := ih (j + 1) (upd f j (numAt ws j)) (by omega) (fun g hg => h g (fun m => by
   rw [hg m]
   unfold upd
   by_cases e : m = j
   ·subst e
    rw [if_neg (by omega), if_pos rfl, if_pos (by omega)]
   ·rw [if_neg e]
    by_cases c : j + 1 ≤ m ∧ m < ws.length
    ·rw [if_pos c, if_pos (by omega)]
    ·rw [if_neg c, if_neg (by omega)]))
  rw [← cast_succ] at key
  refine Ev.step (fun k => impl_ParseConf.l1.eq_2 _ _ _ _ _ _ _ _ _ _ _ _ _ k) (Ev.pos (by omega) (Ev.pos (by omega) (Ev.pos (by omega) ?_)))
  rw [he]
  refine Ev.bind (impl_parseNum _ _) (Ev.pos (by omega) ?_)
  rw [← hv, w64 (n := (j : Int) + 1) (by omega) (by omega)]
  rcases (show j = 0 ∨ j = 1 ∨ j = 2 ∨ j = 3 by omega) with rfl | rfl | rfl | rfl
  ·exact Ev.pos (by omega) key
  ·exact Ev.neg (by omega) (Ev.pos (by omega) key)
  ·exact Ev.neg (by omega) (Ev.neg (by omega) (Ev.pos (by omega) key))
  ·exact Ev.neg (by omega) (Ev.neg (by omega) (Ev.neg (by omega) (Ev.pos (by omega) key)))
theorem cut_short (p : List UInt8) : (Lib.cut p [58]).1.length ≤ p.length ∧ (Lib.cut p [58]).2.1.length ≤ p.length := by
 unfold Lib.cut
 split
 ·simp only [List.length_take, List.length_drop]; omega
 ·simp
noncomputable def implFin (s : ByteArray) (out : List Db) : List Db × Bool := if s.toList = ([] : List UInt8) then ([], false) else if (confText out).toList = s.toList then (out, true) else ([], false)
theorem impl_PC_l0 (s : ByteArray) (P : List ByteArray) (hP : P.length ≤ 1048577) (hsz : ∀ p ∈ P, p.size ≤ 1048576) (d : Nat) : ∀ (i : Nat) (out : List Db), i + d = P.length → out.length = i → (∀ x ∈ out, x.f0.size ≤ 9223372036854775807) →
  Ev (fun k => impl_ParseConf.l0 k s out P (P.length : Int) (i : Int)) (implFin s (out ++ (P.drop i).map implItem)) := by
 induction d with
 | zero =>
  intro i out hi ho hg
  rw [List.drop_of_length_le (by omega), List.map_nil, List.append_nil]
  refine Ev.step (fun k => impl_ParseConf.l0.eq_2 _ _ _ _ _ k) (Ev.neg (by omega) ?_)
  by_cases h0 : s.toList = ([] : List UInt8)
  ·exact Ev.pos h0 (Ev.done (if_pos h0).symm)
  ·refine Ev.neg h0 (Ev.bind (impl_confText out (by omega) hg) ?_)
   by_cases h1 : (confText out).toList = s.toList
   ·exact Ev.pos h1 (Ev.done ((if_neg h0).trans (if_pos h1)).symm)
   ·exact Ev.neg h1 (Ev.done ((if_neg h0).trans (if_neg h1)).symm)
 | succ d ih =>
  intro i out hi ho hg
  have hlt : i < P.length := by omega
  have he : rdOf ByteArray.empty P (i : Int) = P[i] := getD_nat P _ hlt
  have hpz := hsz _ (List.getElem_mem hlt)
  have hL : (P[i]).data.toList.length = (P[i]).size := rfl
  obtain ⟨c1, c2⟩ := cut_short (P[i]).data.toList
  refine Ev.step (fun k => impl_ParseConf.l0.eq_2 _ _ _ _ _ k) (Ev.pos (by omega) (Ev.pos (by omega) (Ev.pos (by omega) ?_)))
  rw [he]
  refine Ev.then (a := (ba (Lib.cut (P[i]).data.toList [58]).1, ba (Lib.cut (P[i]).data.toList [58]).2.1, (Lib.cut (P[i]).data.toList [58]).2.2)) ?_ ?_
  ·unfold strings_Cut.f
   rw [if_pos (by omega)]
   rfl
  have hws : (wsOf (ba (Lib.cut (P[i]).data.toList [58]).2.1)).length ≤ 4 := by
   have := Lib.splitB_length_le (⟨#[47]⟩ : ByteArray) 0 (min (4 : Int).toNat ((ba (Lib.cut (P[i]).data.toList [58]).2.1).size + 1) - 1) (ba (Lib.cut (P[i]).data.toList [58]).2.1)
   have h4 : (4 : Int).toNat = 4 := rfl
   unfold wsOf
   omega
  refine Ev.then (a := wsOf (ba (Lib.cut (P[i]).data.toList [58]).2.1)) ?_ ?_
  ·unfold strings_SplitN.f
   rw [if_pos ⟨by show (ba _).size < _; rw [ba_size]; omega, by decide, by decide, by decide⟩]
   rfl
  refine impl_PC_l1 s out _ P i (by omega) (by omega) _ hws _ _ 0 (fun _ => 0) (Nat.zero_add _) (fun g hg' => ?_)
  have hn : ∀ m, g m = numAt (wsOf (ba (Lib.cut (P[i]).data.toList [58]).2.1)) m := by
   intro m
   rw [hg' m]
   by_cases c : 0 ≤ m ∧ m < (wsOf (ba (Lib.cut (P[i]).data.toList [58]).2.1)).length
   ·rw [if_pos c]
   ·rw [if_neg c, numAt, dif_neg (by omega)]
  rw [hn, hn, hn, hn]
  refine Ev.eq (ih (i + 1) _ (by omega) (by simp [ho]) (fun y hy => ?_)) ?_
  ·rcases List.mem_append.1 hy with hy | hy
   ·exact hg y hy
   ·rw [List.mem_singleton] at hy
    rw [hy]
    show (ba _).size ≤ _
    rw [ba_size]; omega
  ·rw [List.drop_eq_getElem_cons hlt, List.map_cons, List.append_assoc]
   rfl
theorem map_ba (ws : List ByteArray) : (ws.map (·.data.toList)).map ba = ws := by
 rw [List.map_map]
 refine (List.map_congr_left (g := id) fun x _ => ?_).trans (List.map_id _)
 exact (ba_of x).symm
theorem num_small {n : Int} (h0 : 0 ≤ n) (h1 : n ≤ 20) : (parseNum (ba (Lib.itoa n)) 20).1 = n := by
 obtain ⟨m, rfl⟩ := Int.eq_ofNat_of_zero_le h0
 rw [parse_num m 20 h1 (by omega)]
theorem implItem_item {x : Db} (h : dbOk x = true) (p : ByteArray) (hp : p.data.toList = itemL x) : implItem p = x := by
 obtain ⟨hn, h1, h2, h3, h4⟩ := dbOk_of h
 have e1 := itoa_two x.f1 (by omega) (by omega)
 have e2 := itoa_two x.f2 (by omega) (by omega)
 have e3 := itoa_two x.f3 (by omega) (by omega)
 have e4 := itoa_two x.f4 (by omega) (by omega)
 have hc : Lib.cut p.data.toList [58] = (x.f0.data.toList, restL x, true) := by
  rw [hp, item_rest, cut_join 58 _ _ (name_free h 58 (by decide))]
 have hlen : 7 ≤ (restL x).length := by
  simp only [restL, joinA, List.flatMap_cons, List.flatMap_nil, List.length_append, List.length_cons, List.append_nil]
  omega
 have hw : wsOf (ba (restL x)) = [ba (Lib.itoa x.f1), ba (Lib.itoa x.f2), ba (Lib.itoa x.f3), ba (Lib.itoa x.f4)] := by
  have hd := Lib.splitB_data (⟨#[47]⟩ : ByteArray) 0 (min (4 : Int).toNat ((ba (restL x)).size + 1) - 1) (ba (restL x))
  rw [ba_data, show (min (4 : Int).toNat ((ba (restL x)).size + 1) - 1) = [Lib.itoa x.f2, Lib.itoa x.f3, Lib.itoa x.f4].length by rw [ba_size]; have h4 : (4 : Int).toNat = 4 := rfl; simp only [List.length_cons, List.length_nil]; omega] at hd
  have hk : Lib.splitK [47] 0 [Lib.itoa x.f2, Lib.itoa x.f3, Lib.itoa x.f4].length (restL x) = [Lib.itoa x.f1, Lib.itoa x.f2, Lib.itoa x.f3, Lib.itoa x.f4] := by
   refine splitK_join 47 [Lib.itoa x.f2, Lib.itoa x.f3, Lib.itoa x.f4] _ (num_free _ (by omega) 47 (.inl (by decide))) ?_
   intro y hy
   simp only [List.mem_cons, List.not_mem_nil, or_false] at hy
   rcases hy with rfl | rfl | rfl
   ·exact num_free _ (by omega) 47 (.inl (by decide))
   ·exact num_free _ (by omega) 47 (.inl (by decide))
   ·exact num_free _ (by omega) 47 (.inl (by decide))
  have hd' := hd.trans hk
  have e := congrArg (List.map ba) hd'
  rw [map_ba] at e
  unfold wsOf
  rw [show (min (4 : Int).toNat ((ba (restL x)).size + 1) - 1) = [Lib.itoa x.f2, Lib.itoa x.f3, Lib.itoa x.f4].length by rw [ba_size]; have h4 : (4 : Int).toNat = 4 := rfl; simp only [List.length_cons, List.length_nil]; omega]
  exact e
 unfold implItem
 rw [hc]
 simp only
 rw [hw]
 have n0 : numAt [ba (Lib.itoa x.f1), ba (Lib.itoa x.f2), ba (Lib.itoa x.f3), ba (Lib.itoa x.f4)] 0 = x.f1 := (dif_pos (by simp)).trans (num_small (n := x.f1) (by omega) (by omega))
 have n1 : numAt [ba (Lib.itoa x.f1), ba (Lib.itoa x.f2), ba (Lib.itoa x.f3), ba (Lib.itoa x.f4)] 1 = x.f2 := (dif_pos (by simp)).trans (num_small (n := x.f2) (by omega) (by omega))
 have n2 : numAt [ba (Lib.itoa x.f1), ba (Lib.itoa x.f2), ba (Lib.itoa x.f3), ba (Lib.itoa x.f4)] 2 = x.f3 := (dif_pos (by simp)).trans (num_small (n := x.f3) (by omega) (by omega))
 have n3 : numAt [ba (Lib.itoa x.f1), ba (Lib.itoa x.f2), ba (Lib.itoa x.f3), ba (Lib.itoa x.f4)] 3 = x.f4 := (dif_pos (by simp)).trans (num_small (n := x.f4) (by omega) (by omega))
 rw [n0, n1, n2, n3, ← ba_of]
def piecesOf (s : ByteArray) : List ByteArray := Lib.splitB (⟨#[59]⟩ : ByteArray) 0 (Lib.countB s (⟨#[59]⟩ : ByteArray)) s
theorem pieces_text {l : List Db} (h : confFrom l 0 l.length = true) : (piecesOf (confText l)).map implItem = l := by
 obtain ⟨x, xs, rfl, _, hall⟩ := conf_cons h
 have hf := item_free (hall x (List.mem_cons_self ..))
 have hfs : ∀ y ∈ xs.map itemL, (59 : UInt8) ∉ y := by
  intro y hy
  obtain ⟨z, hz, rfl⟩ := List.mem_map.1 hy
  exact item_free (hall z (List.mem_cons_of_mem _ hz))
 have hcnt : Lib.countB (confText (x :: xs)) (⟨#[59]⟩ : ByteArray) = (xs.map itemL).length := by
  show Lib.count (confText (x :: xs)).data.toList [59] = _
  rw [confText_join x xs h, ba_data, Lib.count_one, count_join 59 _ _ hf hfs]
 have hd := Lib.splitB_data (⟨#[59]⟩ : ByteArray) 0 (Lib.countB (confText (x :: xs)) (⟨#[59]⟩ : ByteArray)) (confText (x :: xs))
 have hk : (piecesOf (confText (x :: xs))).map (·.data.toList) = (x :: xs).map itemL := by
  refine hd.trans ?_
  rw [hcnt, show (⟨#[59]⟩ : ByteArray).data.toList = [59] from rfl]
  conv => lhs; rw [confText_join x xs h, ba_data]
  exact splitK_join 59 _ _ hf hfs
 have hlen : (piecesOf (confText (x :: xs))).length = (x :: xs).length := by
  have := congrArg List.length hk
  simpa using this
 apply List.ext_getElem
 ·rw [List.length_map]; exact hlen
 ·intro j h1 h2
  rw [List.getElem_map]
  refine implItem_item (hall _ (List.getElem_mem h2)) _ ?_
  have hj : j < (piecesOf (confText (x :: xs))).length := by rw [hlen]; exact h2
  have e := congrArg (fun L : List (List UInt8) => L[j]?) hk
  simp only [List.getElem?_map, List.getElem?_eq_getElem hj, List.getElem?_eq_getElem h2, Option.map_some, Option.some.injEq] at e
  exact e
theorem impl_parseConf (s : ByteArray) (hs : s.size ≤ 1048576) : Ev (fun k => impl_ParseConf.f k s) (parseConf s) := by
 unfold impl_ParseConf.f
 have hcl := Lib.countB_le (⟨#[59]⟩ : ByteArray) (by decide) s.size s (Nat.le_refl _)
 have hpl : (piecesOf s).length ≤ 1048577 := by
  have := Lib.splitB_all (⟨#[59]⟩ : ByteArray) (by decide) 0 _ s rfl
  unfold piecesOf
  omega
 refine Ev.then (a := piecesOf s) ?_ ?_
 ·unfold strings_Split.f
  rw [if_pos ⟨by omega, by decide⟩]
  rfl
 refine Ev.eq (impl_PC_l0 s (piecesOf s) hpl (fun p hp => Nat.le_trans (splitB_sizes _ _ _ _ p hp) hs) (piecesOf s).length 0 [] (by omega) rfl (fun x hx => by cases hx)) ?_
 rw [List.drop_zero, List.nil_append]
 unfold implFin
 rcases parseConf_back s with h | ⟨l, hl, hc, rfl⟩
 ·rw [h]
  split
  ·rfl
  ·rename_i h0
   split
   ·rename_i h1
    have e := text_inj h1
    by_cases hc : confFrom ((piecesOf s).map implItem) 0 ((piecesOf s).map implItem).length = true
    ·have := parseConf_text hc
     rw [e, h] at this
     exact absurd (congrArg Prod.snd this) (by simp)
    ·exact absurd (by rw [← e, confText, if_neg hc]; exact text_nil.2 rfl) h0
   ·rfl
 ·rw [hl, pieces_text hc]
  have hsz := confText_size hc
  rw [if_neg (fun e => by rw [text_nil.1 e] at hsz; revert hsz; decide), if_pos rfl]
end Go.Proofs.YthkepmicdpgbbaaGreatDoor.Fn

namespace Go.Proofs.YthkepmicdpgbbaaGreatDoor.Fn
set_option linter.unusedVariables false
set_option linter.unusedSimpArgs false
open Go.RowKit Go.Proofs.YthkepmicdpgbbaaGreatDoorW.PrintWords Go.Proofs.YthkepmicdpgbbaaGreatDoor.P Go.Proofs.YthkepmicdpgbbaaGreatDoor.Base
noncomputable def confB (s : ByteArray) : Bool := (parseConf s).2
def emptyT (s : ByteArray) : Bool := s.toList == ([] : List UInt8)
theorem spec_l4Text (s : ByteArray) (hs : s.size ≤ 1048576) : Ev (fun k => spec_l4Text.f k s) (confB s) := Ev.bind (spec_parseConf s hs) (Ev.done rfl)
theorem impl_confB (s : ByteArray) (hs : s.size ≤ 1048576) : Ev (fun k => impl_confOk.f k s) (confB s) := Ev.bind (impl_parseConf s hs) (Ev.done rfl)
noncomputable def recOk (kind n owner : Int) (s : ByteArray) : Bool :=
 decide (1 ≤ n ∧ n ≤ 60000) && (if kind = 1 then decide (owner = 0) && confB s else if kind = 2 then decide (owner = 0) && emptyT s else if kind = 3 then decide (0 ≤ owner ∧ owner ≤ 1) && emptyT s else false)
theorem spec_recOk (kind n owner : Int) (s : ByteArray) (hs : s.size ≤ 1048576) : Ev (fun k => spec_RecOk.f k kind n owner s) (recOk kind n owner s) := by
 unfold spec_RecOk.f recOk
 refine Ev.then (l1In _ _ _) ?_
 by_cases h0 : 1 ≤ n ∧ n ≤ 60000
 ·rw [decide_eq_true h0, Bool.true_and]
  refine Ev.pos rfl ?_
  by_cases h1 : kind = 1
  ·refine Ev.eq (Ev.pos h1 ?_) (if_pos h1).symm
   by_cases h2 : owner = 0
   ·rw [decide_eq_true h2, Bool.true_and]; exact Ev.pos h2 (Ev.bind (spec_l4Text s hs) (Ev.done rfl))
   ·rw [decide_eq_false h2, Bool.false_and]; exact Ev.neg h2 (Ev.done rfl)
  refine Ev.eq (Ev.neg h1 ?_) (if_neg h1).symm
  by_cases h1 : kind = 2
  ·refine Ev.eq (Ev.pos h1 ?_) (if_pos h1).symm
   by_cases h2 : owner = 0
   ·rw [decide_eq_true h2, Bool.true_and]; exact Ev.pos h2 (Ev.done rfl)
   ·rw [decide_eq_false h2, Bool.false_and]; exact Ev.neg h2 (Ev.done rfl)
  refine Ev.eq (Ev.neg h1 ?_) (if_neg h1).symm
  by_cases h1 : kind = 3
  ·refine Ev.eq (Ev.pos h1 (Ev.then (l1In _ _ _) ?_)) (if_pos h1).symm
   by_cases h2 : 0 ≤ owner ∧ owner ≤ 1
   ·rw [decide_eq_true h2, Bool.true_and]; exact Ev.pos rfl (Ev.done rfl)
   ·rw [decide_eq_false h2, Bool.false_and]; exact Ev.neg (by decide) (Ev.done rfl)
  exact Ev.neg h1 (Ev.done (if_neg h1).symm)
 ·rw [decide_eq_false h0, Bool.false_and]; exact Ev.neg (by decide) (Ev.done rfl)
theorem impl_recOk (kind n owner : Int) (s : ByteArray) (hs : s.size ≤ 1048576) : Ev (fun k => impl_RecOk.f k kind n owner s) (recOk kind n owner s) := by
 unfold impl_RecOk.f recOk
 refine Ev.then (isIn _ _ _) ?_
 by_cases h0 : 1 ≤ n ∧ n ≤ 60000
 ·rw [decide_eq_true h0, Bool.true_and]
  refine Ev.pos rfl ?_
  by_cases h1 : kind = 1
  ·refine Ev.eq (Ev.pos h1 ?_) (if_pos h1).symm
   by_cases h2 : owner = 0
   ·rw [decide_eq_true h2, Bool.true_and]; exact Ev.pos h2 (Ev.bind (impl_confB s hs) (Ev.done rfl))
   ·rw [decide_eq_false h2, Bool.false_and]; exact Ev.neg h2 (Ev.done rfl)
  refine Ev.eq (Ev.neg h1 ?_) (if_neg h1).symm
  by_cases h1 : kind = 2
  ·refine Ev.eq (Ev.pos h1 ?_) (if_pos h1).symm
   by_cases h2 : owner = 0
   ·rw [decide_eq_true h2, Bool.true_and]; exact Ev.pos h2 (Ev.done rfl)
   ·rw [decide_eq_false h2, Bool.false_and]; exact Ev.neg h2 (Ev.done rfl)
  refine Ev.eq (Ev.neg h1 ?_) (if_neg h1).symm
  by_cases h1 : kind = 3
  ·refine Ev.eq (Ev.pos h1 (Ev.then (isIn _ _ _) ?_)) (if_pos h1).symm
   by_cases h2 : 0 ≤ owner ∧ owner ≤ 1
   ·rw [decide_eq_true h2, Bool.true_and]; exact Ev.pos rfl (Ev.done rfl)
   ·rw [decide_eq_false h2, Bool.false_and]; exact Ev.neg (by decide) (Ev.done rfl)
  exact Ev.neg h1 (Ev.done (if_neg h1).symm)
 ·rw [decide_eq_false h0, Bool.false_and]; exact Ev.neg (by decide) (Ev.done rfl)
theorem toRec (a b c : Int) (s : ByteArray) : laws_toRec.f a b c s = some (a, b, c, s) := rfl
theorem szRec (a b c : Int) (s : ByteArray) (left : Int) (hs : s.size ≤ maxLen) (h0 : 0 ≤ left) (h1 : left ≤ 1048576) : ∃ r, laws_szRec.f a b c s left = some r ∧ (0 ≤ r → s.size ≤ 1048576) := by
 unfold laws_szRec.f
 have hm : maxLen = 9223372036854775807 := by decide
 rw [w64 (by omega) (by omega)]
 by_cases h : left - (s.size : Int) < 0
 ·rw [if_pos h]; exact ⟨_, rfl, by omega⟩
 ·rw [if_neg h]; exact ⟨_, rfl, by omega⟩
end Go.Proofs.YthkepmicdpgbbaaGreatDoor.Fn

namespace Go.Proofs.YthkepmicdpgbbaaGreatDoor.Fn
set_option linter.unusedVariables false
set_option linter.unusedSimpArgs false
open Go.RowKit Go.Proofs.YthkepmicdpgbbaaGreatDoorW.PrintWords Go.Proofs.YthkepmicdpgbbaaGreatDoor.P Go.Proofs.YthkepmicdpgbbaaGreatDoor.Base
def recHead (gen place kind n owner : Int) : List Int := wordBytes gen ++ wordBytes place ++ [kind % 256] ++ wordBytes n ++ [owner % 256]
theorem recHead_bytes (gen place kind n owner : Int) : Bytes (recHead gen place kind n owner) :=
 ((((wordBytes_bytes gen).append (wordBytes_bytes place)).append (Bytes.cons (by omega) Bytes.nil)).append (wordBytes_bytes n)).append (Bytes.cons (by omega) Bytes.nil)
theorem recHead_length (gen place kind n owner : Int) : (recHead gen place kind n owner).length = 8 := by simp [recHead, wordBytes]
def recBody (gen place kind n owner : Int) (s : ByteArray) : List Int := putText (recHead gen place kind n owner) s
theorem recBody_bytes (gen place kind n owner : Int) (s : ByteArray) : Bytes (recBody gen place kind n owner s) := putText_bytes (recHead_bytes gen place kind n owner) s
theorem recBody_length (gen place kind n owner : Int) (s : ByteArray) : (recBody gen place kind n owner s).length ≤ 109 := by
 have := putText_length (recHead gen place kind n owner) s
 rw [recHead_length] at this
 exact this
abbrev wordIn (n : Int) : Prop := 0 ≤ n ∧ n ≤ 65535
noncomputable def putRec (gen place kind n owner : Int) (s : ByteArray) : List Int :=
 @ite _ (recOk kind n owner s = true ∧ wordIn gen ∧ wordIn place) (Classical.propDecidable _) (recBody gen place kind n owner s ++ wordBytes (crc (recBody gen place kind n owner s))) []
theorem putRec_yes {gen place kind n owner : Int} {s : ByteArray} (h : recOk kind n owner s = true ∧ wordIn gen ∧ wordIn place) : putRec gen place kind n owner s = recBody gen place kind n owner s ++ wordBytes (crc (recBody gen place kind n owner s)) := if_pos h
theorem putRec_no {gen place kind n owner : Int} {s : ByteArray} (h : ¬ (recOk kind n owner s = true ∧ wordIn gen ∧ wordIn place)) : putRec gen place kind n owner s = [] := if_neg h
theorem putRec_bytes (gen place kind n owner : Int) (s : ByteArray) : Bytes (putRec gen place kind n owner s) := by
 by_cases h : recOk kind n owner s = true ∧ wordIn gen ∧ wordIn place
 ·rw [putRec_yes h]; exact (recBody_bytes gen place kind n owner s).append (wordBytes_bytes _)
 ·rw [putRec_no h]; exact Bytes.nil
theorem putRec_length (gen place kind n owner : Int) (s : ByteArray) : (putRec gen place kind n owner s).length ≤ 111 := by
 by_cases h : recOk kind n owner s = true ∧ wordIn gen ∧ wordIn place
 ·have := recBody_length gen place kind n owner s
  rw [putRec_yes h, List.length_append, wordBytes_length]; omega
 ·rw [putRec_no h]; simp
theorem spec_putRec (gen place kind n owner : Int) (s : ByteArray) (hs : s.size ≤ 1048576) : Ev (fun k => spec_PutRec.f k gen place kind n owner s) (putRec gen place kind n owner s) := by
 unfold spec_PutRec.f
 have bad : ¬ (recOk kind n owner s = true ∧ wordIn gen ∧ wordIn place) → ∀ b : Bool, b = true → Ev (fun k => spec_PutRec.j0 k gen place b kind n owner s) (putRec gen place kind n owner s) := fun hn b hb => Ev.step (fun k => spec_PutRec.j0.eq_2 _ _ _ _ _ _ _ k) (Ev.pos hb (Ev.done (putRec_no hn).symm))
 refine Ev.bind (spec_recOk kind n owner s hs) ?_
 by_cases h1 : recOk kind n owner s = true
 case neg => exact Ev.neg h1 (bad (fun h => h1 h.1) _ rfl)
 refine Ev.pos h1 ?_
 have e1 : ∀ x : Int, spec_l4Word.f x = some (decide (wordIn x)) := fun x => by unfold spec_l4Word.f; rw [l1In]; rfl
 refine Ev.then (e1 gen) ?_
 by_cases h2 : wordIn gen
 case neg => exact Ev.neg (by simpa using h2) (bad (fun h => h2 h.2.1) _ rfl)
 refine Ev.pos (by simpa using h2) (Ev.then (e1 place) ?_)
 by_cases h3 : wordIn place
 case neg => exact bad (fun h => h3 h.2.2) _ (by rw [decide_eq_false h3]; rfl)
 rw [putRec_yes ⟨h1, h2, h3⟩]
 have hb := recBody_length gen place kind n owner s
 refine Ev.step (fun k => spec_PutRec.j0.eq_2 _ _ _ _ _ _ _ k) (Ev.neg (by simpa using h3) ?_)
 refine Ev.then (spec_putWord _ _ (by simp)) (Ev.then (spec_putWord _ _ (by simp [wordBytes])) (Ev.then rfl (Ev.pos (by simp [wordBytes]) (Ev.then (spec_putWord _ _ (by simp [wordBytes])) (Ev.then rfl (Ev.pos (by simp [wordBytes]) ?_))))))
 rw [List.nil_append]
 exact Ev.bind (spec_putText (recHead gen place kind n owner) s (by rw [recHead_length]; omega) (by omega)) (Ev.bind (spec_sum _ (recBody_bytes gen place kind n owner s) (by unfold recBody at hb; omega)) (Ev.then (spec_putWord _ _ (by unfold recBody at hb; omega)) (Ev.then rfl (Ev.done rfl))))
theorem impl_putRec (gen place kind n owner : Int) (s : ByteArray) (hs : s.size ≤ 1048576) : Ev (fun k => impl_PutRec.f k gen place kind n owner s) (putRec gen place kind n owner s) := by
 unfold impl_PutRec.f
 have bad : ¬ (recOk kind n owner s = true ∧ wordIn gen ∧ wordIn place) → ∀ b : Bool, b = true → Ev (fun k => impl_PutRec.j0 k gen place b kind n owner s) (putRec gen place kind n owner s) := fun hn b hb => Ev.step (fun k => impl_PutRec.j0.eq_2 _ _ _ _ _ _ _ k) (Ev.pos hb (Ev.done (putRec_no hn).symm))
 refine Ev.bind (impl_recOk kind n owner s hs) ?_
 by_cases h1 : recOk kind n owner s = true
 case neg => exact Ev.neg h1 (bad (fun h => h1 h.1) _ rfl)
 refine Ev.pos h1 ?_
 have e1 : ∀ x : Int, impl_wordOk.f x = some (decide (wordIn x)) := fun x => by unfold impl_wordOk.f; rw [isIn]; rfl
 refine Ev.then (e1 gen) ?_
 by_cases h2 : wordIn gen
 case neg => exact Ev.neg (by simpa using h2) (bad (fun h => h2 h.2.1) _ rfl)
 refine Ev.pos (by simpa using h2) (Ev.then (e1 place) ?_)
 by_cases h3 : wordIn place
 case neg => exact bad (fun h => h3 h.2.2) _ (by rw [decide_eq_false h3]; rfl)
 rw [putRec_yes ⟨h1, h2, h3⟩]
 have hb := recBody_length gen place kind n owner s
 refine Ev.step (fun k => impl_PutRec.j0.eq_2 _ _ _ _ _ _ _ k) (Ev.neg (by simpa using h3) ?_)
 refine Ev.then (impl_putWord _ _ (by simp)) (Ev.then (impl_putWord _ _ (by simp [wordBytes])) (Ev.then rfl (Ev.pos (by simp [wordBytes]) (Ev.then (impl_putWord _ _ (by simp [wordBytes])) (Ev.then rfl (Ev.pos (by simp [wordBytes]) ?_))))))
 rw [List.nil_append]
 exact Ev.bind (impl_putText (recHead gen place kind n owner) s (by rw [recHead_length]; omega) (by omega)) (Ev.bind (impl_sum _ (recBody_bytes gen place kind n owner s) (by unfold recBody at hb; omega)) (Ev.then (impl_putWord _ _ (by unfold recBody at hb; omega)) (Ev.then rfl (Ev.done rfl))))
end Go.Proofs.YthkepmicdpgbbaaGreatDoor.Fn

namespace Go.Proofs.YthkepmicdpgbbaaGreatDoor.Fn
set_option linter.unusedVariables false
set_option linter.unusedSimpArgs false
open Go.RowKit Go.Proofs.YthkepmicdpgbbaaGreatDoorW.PrintWords Go.Proofs.YthkepmicdpgbbaaGreatDoor.P Go.Proofs.YthkepmicdpgbbaaGreatDoor.Base
def noText : ByteArray × Int × Bool := (⟨#[]⟩, 0, false)
def textAt (l : List Int) (a : Int) : ByteArray := strOfNums ((l.take (a + 1 + rd l a).toNat).drop (a + 1).toNat)
def getText (l : List Int) (a : Int) : ByteArray × Int × Bool :=
 if a < 0 ∨ (l.length : Int) ≤ a ∨ (l.length : Int) - a - 1 < rd l a then noText
 else if textOk (textAt l a) = true then (textAt l a, a + 1 + rd l a, true) else noText
theorem textAt_size (l : List Int) (a : Int) (hl : l.length ≤ 140737488351232) : (textAt l a).size ≤ 9223372036854775807 := by
 unfold textAt
 rw [size_strOfNums, List.length_drop, List.length_take]
 omega
theorem spec_getText (l : List Int) (a : Int) (hb : Bytes l) (hl : l.length ≤ 140737488351232) : Ev (fun k => spec_GetText.f k l a) (getText l a) := by
 unfold spec_GetText.f getText
 have bad : ∀ b : Bool, b = true → Ev (fun k => spec_GetText.j0 k l a b) noText := fun b hb => Ev.step (fun k => spec_GetText.j0.eq_2 _ _ _ k) (Ev.pos hb (Ev.done rfl))
 by_cases h0 : a < 0
 ·rw [if_pos (.inl h0)]; exact Ev.pos h0 (bad _ rfl)
 refine Ev.neg h0 ?_
 by_cases h1 : (l.length : Int) ≤ a
 ·rw [if_pos (.inr (.inl h1))]; exact bad _ (by simpa using h1)
 have hr := rd_byte hb a
 refine Ev.step (fun k => spec_GetText.j0.eq_2 _ _ _ k) (Ev.neg (by simpa using h1) (Ev.pos (by omega) (Ev.pos (by omega) ?_)))
 rw [w64_byte hb, w64 (n := (l.length : Int) - a) (by omega) (by omega), w64 (n := (l.length : Int) - a - 1) (by omega) (by omega)]
 by_cases h2 : (l.length : Int) - a - 1 < rd l a
 ·rw [if_pos (.inr (.inr h2))]; exact Ev.pos h2 (Ev.done rfl)
 rw [if_neg (by omega), w64 (n := a + 1) (by omega) (by omega), w64 (n := a + 1 + rd l a) (by omega) (by omega)]
 refine Ev.neg h2 (Ev.pos (by omega) (Ev.pos (by omega) (Ev.pos (by omega) (Ev.bind (spec_textOk (textAt l a) (textAt_size l a hl)) ?_))))
 by_cases h3 : textOk (textAt l a) = true
 ·exact Ev.pos h3 (Ev.done (if_pos h3).symm)
 ·exact Ev.neg h3 (Ev.done (if_neg h3).symm)
theorem impl_getText (l : List Int) (a : Int) (hb : Bytes l) (hl : l.length ≤ 140737488351232) : Ev (fun k => impl_GetText.f k l a) (getText l a) := by
 unfold impl_GetText.f getText
 have bad : ∀ b : Bool, b = true → Ev (fun k => impl_GetText.j0 k l a b) noText := fun b hb => Ev.step (fun k => impl_GetText.j0.eq_2 _ _ _ k) (Ev.pos hb (Ev.done rfl))
 rw [isIn, w64 (n := (l.length : Int) - 1) (by omega) (by omega)]
 by_cases h0 : a < 0 ∨ (l.length : Int) ≤ a
 ·rw [if_pos (by omega)]
  exact Ev.neg (by simp; omega) (bad _ rfl)
 have hr := rd_byte hb a
 refine Ev.pos (by simp; omega) (Ev.pos (by omega) (Ev.pos (by omega) ?_))
 rw [w64_byte hb, w64 (n := (l.length : Int) - a) (by omega) (by omega), w64 (n := (l.length : Int) - a - 1) (by omega) (by omega)]
 by_cases h2 : (l.length : Int) - a - 1 < rd l a
 ·rw [if_pos (.inr (.inr h2))]; exact bad _ (by simpa using h2)
 rw [if_neg (by omega)]
 refine Ev.step (fun k => impl_GetText.j0.eq_2 _ _ _ k) (Ev.neg (by simpa using h2) (Ev.pos (by omega) (Ev.pos (by omega) ?_)))
 rw [w64_byte hb, w64 (n := a + 1) (by omega) (by omega), w64 (n := a + 1 + rd l a) (by omega) (by omega)]
 refine Ev.pos (by omega) (Ev.pos (by omega) (Ev.pos (by omega) (Ev.bind (impl_textOk (textAt l a) (textAt_size l a hl)) ?_)))
 by_cases h3 : textOk (textAt l a) = true
 ·exact Ev.pos h3 (Ev.done (if_pos h3).symm)
 ·exact Ev.neg h3 (Ev.done (if_neg h3).symm)
end Go.Proofs.YthkepmicdpgbbaaGreatDoor.Fn

namespace Go.Proofs.YthkepmicdpgbbaaGreatDoor.Fn
set_option linter.unusedVariables false
set_option linter.unusedSimpArgs false
open Go.RowKit Go.Proofs.YthkepmicdpgbbaaGreatDoorW.PrintWords Go.Proofs.YthkepmicdpgbbaaGreatDoor.P Go.Proofs.YthkepmicdpgbbaaGreatDoor.Base
theorem sameBytes' {l m : List Int} (hl : Bytes l) (hm : Bytes m) : ((strOfNums l).toList == (strOfNums m).toList) = eqB l m := by
 rw [Bool.eq_iff_iff, beq_iff_eq, eqB_iff, strOfNums_inj hl hm]
noncomputable def recAt (l : List Int) : List Int := putRec (word l 0).1 (word l 2).1 (rd l 4) (word l 5).1 (rd l 7) (getText l 8).1
def IsRec (l : List Int) : Prop := 9 ≤ l.length ∧ recAt l = l
noncomputable def getRec (l : List Int) : Int × Int × Int × Int × Int × ByteArray × Bool :=
 @ite _ (IsRec l) (Classical.propDecidable _) ((word l 0).1, (word l 2).1, rd l 4, (word l 5).1, rd l 7, (getText l 8).1, true) (0, 0, 0, 0, 0, ⟨#[]⟩, false)
theorem getRec_yes {l : List Int} (h : IsRec l) : getRec l = ((word l 0).1, (word l 2).1, rd l 4, (word l 5).1, rd l 7, (getText l 8).1, true) := if_pos h
theorem getRec_no {l : List Int} (h : ¬ IsRec l) : getRec l = (0, 0, 0, 0, 0, ⟨#[]⟩, false) := if_neg h
theorem getText_short (l : List Int) (a : Int) : (getText l a).1.size ≤ 100 := by
 unfold getText
 split
 ·decide
 ·split
  ·rename_i h; exact textOk_size h
  ·decide
theorem getText_ok (l : List Int) (a : Int) : textOk (getText l a).1 = true := by
 unfold getText
 have he : textOk (⟨#[]⟩ : ByteArray) = true := by
  rw [textOk_iff]
  exact ⟨by decide, fun i hi => absurd hi (Nat.not_lt_zero _)⟩
 split
 ·exact he
 ·split
  ·rename_i h; exact h
  ·exact he
theorem isRec_more {l : List Int} (hb : Bytes l) (h : IsRec l) : 11 ≤ l.length ∧ recOk (rd l 4) (word l 5).1 (rd l 7) (getText l 8).1 = true ∧ (getText l 8).2.2 = true := by
 obtain ⟨h9, he⟩ := h
 by_cases hc : recOk (rd l 4) (word l 5).1 (rd l 7) (getText l 8).1 = true ∧ wordIn (word l 0).1 ∧ wordIn (word l 2).1
 case neg =>
  unfold recAt at he
  rw [putRec_no hc] at he
  rw [← he] at h9
  simp at h9
 have hput : recAt l = (recHead (word l 0).1 (word l 2).1 (rd l 4) (word l 5).1 (rd l 7) ++ [((getText l 8).1.size : Int)] ++ bytesOf (getText l 8).1) ++ wordBytes (crc (recBody (word l 0).1 (word l 2).1 (rd l 4) (word l 5).1 (rd l 7) (getText l 8).1)) := by
  unfold recAt
  rw [putRec_yes hc, recBody, putText, if_pos (getText_ok l 8)]
 have hlen : l.length = 8 + 1 + (getText l 8).1.size + 2 := by
  conv => lhs; rw [← he, hput]
  simp only [List.length_append, recHead_length, bytesOf_length, wordBytes_length, List.length_singleton]
 have h8 : rd l 8 = ((getText l 8).1.size : Int) := by
  rw [show (8 : Int) = ((8 : Nat) : Int) from rfl, rd_getElem (by omega)]
  have e : l[8]? = some ((getText l 8).1.size : Int) := by
   conv => lhs; rw [← he, hput]
   rw [List.append_assoc, List.append_assoc, List.getElem?_append_right (by rw [recHead_length]; omega), recHead_length]
   rfl
  rw [List.getElem?_eq_getElem (by omega)] at e
  exact Option.some.inj e
 refine ⟨by omega, hc.1, ?_⟩
 unfold getText
 rw [if_neg (by rw [h8]; omega)]
 by_cases ht : textOk (textAt l 8) = true
 ·rw [if_pos ht]
 ·exfalso
  have hz : (getText l 8).1.size = 0 := by
   unfold getText
   rw [if_neg (by rw [h8]; omega), if_neg ht]
   rfl
  have hr : rd l 8 = 0 := by rw [h8, hz]; rfl
  apply ht
  have e : (textAt l 8).size = 0 := by
   unfold textAt
   rw [size_strOfNums, hr, List.length_drop, List.length_take]
   omega
  rw [textOk_iff]
  exact ⟨by omega, fun i hi => absurd hi (by omega)⟩
theorem impl_getRec (l : List Int) (hb : Bytes l) (hl : l.length ≤ 140737488351232) : Ev (fun k => impl_GetRec.f k l) (getRec l) := by
 unfold impl_GetRec.f
 by_cases h9 : (l.length : Int) < 9
 ·rw [getRec_no (fun h => by have := h.1; omega)]; exact Ev.pos h9 (Ev.done rfl)
 have hs := getText_short l 8
 refine Ev.neg h9 (Ev.then (impl_getWord l 0 hb hl) (Ev.then (impl_getWord l 2 hb hl) (Ev.then (impl_getWord l 5 hb hl) (Ev.bind (impl_getText l 8 hb hl) (Ev.pos (by omega) (Ev.pos (by omega) ?_))))))
 rw [w64_byte hb, w64_byte hb]
 refine Ev.bind (impl_putRec _ _ _ _ _ _ (by omega)) ?_
 unfold bytes_Equal.f
 rw [sameBytes' (putRec_bytes _ _ _ _ _ _) hb]
 by_cases h : recAt l = l
 ·rw [getRec_yes ⟨by omega, h⟩]
  exact Ev.then rfl (Ev.pos (eqB_iff.2 h) (Ev.done rfl))
 ·rw [getRec_no (fun e => h e.2)]
  have hn : ¬ (putRec (word l 0).1 (word l 2).1 (rd l 4) (word l 5).1 (rd l 7) (getText l 8).1 = l) := h
  exact Ev.then rfl (Ev.neg (by rw [eqB_not hn]; decide) (Ev.done rfl))
theorem spec_getRec (l : List Int) (hb : Bytes l) (hl : l.length ≤ 140737488351232) : Ev (fun k => spec_GetRec.f k l) (getRec l) := by
 unfold spec_GetRec.f
 by_cases h11 : (l.length : Int) < 11
 ·rw [getRec_no (fun h => by have := (isRec_more hb h).1; omega)]; exact Ev.pos h11 (Ev.done rfl)
 have hs := getText_short l 8
 refine Ev.neg h11 (Ev.then (spec_getWord l 0 hb hl) (Ev.then (spec_getWord l 2 hb hl) (Ev.then (spec_getWord l 5 hb hl) (Ev.bind (spec_getText l 8 hb hl) (Ev.pos (by omega) (Ev.pos (by omega) ?_))))))
 rw [w64_byte hb, w64_byte hb]
 by_cases ht : (getText l 8).2.2 = true
 case neg => rw [getRec_no (fun h => ht (isRec_more hb h).2.2)]; exact Ev.neg ht (Ev.done rfl)
 refine Ev.pos ht (Ev.bind (spec_recOk _ _ _ _ (by omega)) ?_)
 by_cases hr : recOk (rd l 4) (word l 5).1 (rd l 7) (getText l 8).1 = true
 case neg => rw [getRec_no (fun h => hr (isRec_more hb h).2.1)]; exact Ev.neg hr (Ev.done rfl)
 refine Ev.pos hr (Ev.bind (spec_putRec _ _ _ _ _ _ (by omega)) ?_)
 unfold spec_l1Same.f
 rw [sameBytes' (putRec_bytes _ _ _ _ _ _) hb]
 by_cases h : recAt l = l
 ·rw [getRec_yes ⟨by omega, h⟩]
  exact Ev.then rfl (Ev.pos (eqB_iff.2 h) (Ev.done rfl))
 ·rw [getRec_no (fun e => h e.2)]
  have hn : ¬ (putRec (word l 0).1 (word l 2).1 (rd l 4) (word l 5).1 (rd l 7) (getText l 8).1 = l) := h
  exact Ev.then rfl (Ev.neg (by rw [eqB_not hn]; decide) (Ev.done rfl))
end Go.Proofs.YthkepmicdpgbbaaGreatDoor.Fn

namespace Go.Proofs.YthkepmicdpgbbaaGreatDoor.Fn
set_option linter.unusedVariables false
set_option linter.unusedSimpArgs false
open Go.RowKit Go.Proofs.YthkepmicdpgbbaaGreatDoorW.PrintWords Go.Proofs.YthkepmicdpgbbaaGreatDoor.P Go.Proofs.YthkepmicdpgbbaaGreatDoor.Base
noncomputable def genOk (n : Int) (s : ByteArray) : Bool := if n = 0 then emptyT s else decide (1 ≤ n ∧ n ≤ 60000) && confB s
noncomputable def knownOk (g : Int) (t : ByteArray) (pg : Int) (pt : ByteArray) (e o : Int) : Bool :=
 genOk g t && (genOk pg pt && (decide (0 ≤ e ∧ e ≤ 60000) && (decide (0 ≤ o ∧ o ≤ 1) && (decide (0 < e ∨ o = 0) && decide (pg = 0 ∨ g < pg)))))
theorem impl_genOk (n : Int) (s : ByteArray) (hs : s.size ≤ 1048576) : Ev (fun k => impl_genOk.f k n s) (genOk n s) := by
 unfold impl_genOk.f genOk
 by_cases h0 : n = 0
 ·exact Ev.eq (Ev.pos h0 (Ev.done rfl)) (if_pos h0).symm
 refine Ev.eq (Ev.neg h0 (Ev.then (isIn _ _ _) ?_)) (if_neg h0).symm
 by_cases h : 1 ≤ n ∧ n ≤ 60000
 ·rw [decide_eq_true h, Bool.true_and]; exact Ev.pos rfl (Ev.bind (impl_confB s hs) (Ev.done rfl))
 ·rw [decide_eq_false h, Bool.false_and]; exact Ev.neg (by decide) (Ev.done rfl)
theorem impl_knownOk (g : Int) (t : ByteArray) (pg : Int) (pt : ByteArray) (e o : Int) (ht : t.size ≤ 1048576) (hp : pt.size ≤ 1048576) : Ev (fun k => impl_KnownOk.f k g t pg pt e o) (knownOk g t pg pt e o) := by
 unfold impl_KnownOk.f knownOk
 refine Ev.bind (impl_genOk g t ht) ?_
 cases genOk g t
 ·exact Ev.neg (by decide) (Ev.done rfl)
 refine Ev.pos rfl (Ev.bind (impl_genOk pg pt hp) ?_)
 cases genOk pg pt
 ·exact Ev.neg (by decide) (Ev.done rfl)
 refine Ev.pos rfl (Ev.then (isIn _ _ _) ?_)
 by_cases h : 0 ≤ e ∧ e ≤ 60000
 case neg => rw [decide_eq_false h]; exact Ev.neg (by decide) (Ev.done rfl)
 rw [decide_eq_true h]
 refine Ev.pos rfl (Ev.then (isIn _ _ _) ?_)
 by_cases h' : 0 ≤ o ∧ o ≤ 1
 case neg => rw [decide_eq_false h']; exact Ev.neg (by decide) (Ev.done rfl)
 rw [decide_eq_true h']
 refine Ev.pos rfl ?_
 have fin : Ev (fun _ : Nat => if pg = 0 then some true else some (decide (pg > g))) (decide (pg = 0 ∨ g < pg)) := by
  by_cases hz : pg = 0
  ·exact Ev.pos hz (Ev.done (decide_eq_true (.inl hz)).symm)
  ·refine Ev.neg hz (Ev.done ?_)
   rw [decide_eq_decide]
   omega
 by_cases he : e > 0
 ·rw [decide_eq_true (.inl he : 0 < e ∨ o = 0)]; exact Ev.pos he fin
 refine Ev.neg he ?_
 by_cases ho : o = 0
 ·rw [decide_eq_true (.inr ho : 0 < e ∨ o = 0)]; exact Ev.pos ho fin
 ·rw [decide_eq_false (by omega : ¬ (0 < e ∨ o = 0))]; exact Ev.neg ho (Ev.done rfl)
noncomputable def genT (g : Int) (t : ByteArray) : Bool := if g = 0 then emptyT t else confB t
theorem genOk_in {g : Int} {t : ByteArray} (h : 0 ≤ g ∧ g ≤ 60000) : genOk g t = genT g t := by
 unfold genOk genT
 by_cases h0 : g = 0
 ·rw [if_pos h0, if_pos h0]
 ·rw [if_neg h0, if_neg h0, decide_eq_true (by omega), Bool.true_and]
theorem genOk_out {g : Int} {t : ByteArray} (h : ¬ (0 ≤ g ∧ g ≤ 60000)) : genOk g t = false := by
 unfold genOk
 rw [if_neg (by omega), decide_eq_false (by omega), Bool.false_and]
theorem spec_KnownOk_j1 (b : Bool) (g : Int) (t : ByteArray) (pg : Int) (pt : ByteArray) (e o : Int) (hp : pt.size ≤ 1048576) : Ev (fun k => spec_KnownOk.j1 k b g t pg pt e o) (!b && (genT pg pt && decide (pg = 0 ∨ g < pg))) := by
 refine Ev.step (fun k => spec_KnownOk.j1.eq_2 _ _ _ _ _ _ _ k) ?_
 cases b
 ·refine Ev.neg (by decide) ?_
  unfold genT
  by_cases hz : pg = 0
  ·refine Ev.eq (Ev.pos hz (Ev.done rfl)) ?_
   rw [if_pos hz, decide_eq_true (.inl hz : pg = 0 ∨ g < pg)]
   simp [emptyT]
  ·refine Ev.neg hz ?_
   rw [if_neg hz]
   by_cases hgt : pg > g
   ·refine Ev.eq (Ev.pos hgt (Ev.bind (spec_l4Text pt hp) (Ev.done rfl))) ?_
    rw [decide_eq_true (.inr hgt : pg = 0 ∨ g < pg)]
    simp
   ·refine Ev.eq (Ev.neg hgt (Ev.done rfl)) ?_
    rw [decide_eq_false (by omega : ¬ (pg = 0 ∨ g < pg))]
    simp
 ·exact Ev.pos rfl (Ev.done rfl)
theorem spec_KnownOk_j0 (b : Bool) (g : Int) (t : ByteArray) (pg : Int) (pt : ByteArray) (e o : Int) (hg : b = true ∨ 0 ≤ g) (ht : t.size ≤ 1048576) (hp : pt.size ≤ 1048576) : Ev (fun k => spec_KnownOk.j0 k b g t pg pt e o) (!b && (genT g t && (genT pg pt && decide (pg = 0 ∨ g < pg)))) := by
 refine Ev.step (fun k => spec_KnownOk.j0.eq_2 _ _ _ _ _ _ _ k) ?_
 cases b
 ·have hg' : 0 ≤ g := hg.resolve_left (by decide)
  refine Ev.neg (by decide) ?_
  unfold genT
  by_cases hz : g = 0
  ·rw [if_pos hz]
   refine Ev.pos hz ?_
   by_cases hn : t.toList = ([] : List UInt8)
   ·refine Ev.eq (Ev.pos hn (Ev.neg (by omega) (spec_KnownOk_j1 _ _ _ _ _ _ _ hp))) ?_
    simp [emptyT, hn, genT]
   ·refine Ev.eq (Ev.neg hn (spec_KnownOk_j1 _ _ _ _ _ _ _ hp)) ?_
    simp [emptyT, hn]
  ·rw [if_neg hz]
   refine Ev.neg hz (Ev.eq (Ev.pos (by omega) (Ev.bind (spec_l4Text t ht) (spec_KnownOk_j1 _ _ _ _ _ _ _ hp))) ?_)
   simp [genT]
 ·exact Ev.pos rfl (Ev.done rfl)
theorem spec_knownOk (g : Int) (t : ByteArray) (pg : Int) (pt : ByteArray) (e o : Int) (ht : t.size ≤ 1048576) (hp : pt.size ≤ 1048576) : Ev (fun k => spec_KnownOk.f k g t pg pt e o) (knownOk g t pg pt e o) := by
 unfold spec_KnownOk.f knownOk
 have bad : Ev (fun k => spec_KnownOk.j0 k true g t pg pt e o) false := spec_KnownOk_j0 true g t pg pt e o (.inl rfl) ht hp
 refine Ev.then (l1In _ _ _) ?_
 by_cases h1 : 0 ≤ g ∧ g ≤ 60000
 case neg => rw [genOk_out h1]; exact Ev.neg (by simpa using h1) bad
 rw [genOk_in h1]
 refine Ev.pos (by simpa using h1) (Ev.then (l1In _ _ _) ?_)
 by_cases h2 : 0 ≤ pg ∧ pg ≤ 60000
 case neg => rw [genOk_out h2]; exact Ev.eq (Ev.neg (by simpa using h2) bad) (by simp)
 rw [genOk_in h2]
 refine Ev.pos (by simpa using h2) (Ev.then (l1In _ _ _) ?_)
 by_cases h3 : 0 ≤ e ∧ e ≤ 60000
 case neg => rw [decide_eq_false h3]; exact Ev.eq (Ev.neg (by decide) bad) (by simp)
 rw [decide_eq_true h3]
 refine Ev.pos rfl (Ev.then (l1In _ _ _) ?_)
 by_cases h4 : 0 ≤ o ∧ o ≤ 1
 case neg => rw [decide_eq_false h4]; exact Ev.eq (Ev.neg (by decide) bad) (by simp)
 rw [decide_eq_true h4]
 refine Ev.pos rfl ?_
 by_cases he : e = 0
 ·refine Ev.eq (Ev.pos he (spec_KnownOk_j0 _ g t pg pt e o (.inr h1.1) ht hp)) ?_
  by_cases ho : o = 0
  ·rw [decide_eq_true (.inr ho : 0 < e ∨ o = 0)]; simp [ho]
  ·rw [decide_eq_false (by omega : ¬ (0 < e ∨ o = 0))]; simp [ho]
 ·refine Ev.eq (Ev.neg he (spec_KnownOk_j0 _ g t pg pt e o (.inr h1.1) ht hp)) ?_
  rw [decide_eq_true (by omega : 0 < e ∨ o = 0)]; simp
end Go.Proofs.YthkepmicdpgbbaaGreatDoor.Fn

namespace Go.Proofs.YthkepmicdpgbbaaGreatDoor.Fn
set_option linter.unusedVariables false
set_option linter.unusedSimpArgs false
open Go.RowKit Go.Proofs.YthkepmicdpgbbaaGreatDoorW.PrintWords Go.Proofs.YthkepmicdpgbbaaGreatDoor.P Go.Proofs.YthkepmicdpgbbaaGreatDoor.Base
noncomputable def applyK (g : Int) (t : ByteArray) (pg : Int) (pt : ByteArray) (e o : Int) (kind n ow : Int) (s : ByteArray) : Int × ByteArray × Int × ByteArray × Int × Int × Bool :=
 if knownOk g t pg pt e o = true then
  if recOk kind n ow s = true then
   if kind = 1 ∧ g < n then (g, t, n, s, e, o, true)
   else if kind = 2 ∧ n = pg then (n, pt, 0, ⟨#[]⟩, e, o, true)
   else if kind = 3 ∧ e < n then (g, t, pg, pt, n, ow, true)
   else (g, t, pg, pt, e, o, false)
  else (g, t, pg, pt, e, o, false)
 else (g, t, pg, pt, e, o, false)
theorem recOk_kind {kind n ow : Int} {s : ByteArray} (h : recOk kind n ow s = true) : kind = 1 ∨ kind = 2 ∨ kind = 3 := by
 unfold recOk at h
 rw [Bool.and_eq_true] at h
 have h := h.2
 split at h
 ·omega
 split at h
 ·omega
 split at h
 ·omega
 ·cases h
theorem impl_apply (g : Int) (t : ByteArray) (pg : Int) (pt : ByteArray) (e o : Int) (kind n ow : Int) (s : ByteArray) (ht : t.size ≤ 1048576) (hp : pt.size ≤ 1048576) (hs : s.size ≤ 1048576) : Ev (fun k => impl_Apply.f k g t pg pt e o kind n ow s) (applyK g t pg pt e o kind n ow s) := by
 unfold impl_Apply.f applyK
 refine Ev.bind (impl_knownOk g t pg pt e o ht hp) ?_
 by_cases h1 : knownOk g t pg pt e o = true
 case neg =>
  rw [if_neg h1]
  exact Ev.neg h1 (Ev.step (fun k => impl_Apply.j0.eq_2 _ _ _ _ _ _ _ _ _ _ _ k) (Ev.pos rfl (Ev.done rfl)))
 rw [if_pos h1]
 refine Ev.pos h1 (Ev.bind (impl_recOk kind n ow s hs) ?_)
 refine Ev.step (fun k => impl_Apply.j0.eq_2 _ _ _ _ _ _ _ _ _ _ _ k) ?_
 by_cases h2 : recOk kind n ow s = true
 case neg => rw [if_neg h2]; exact Ev.pos (by simpa using h2) (Ev.done rfl)
 rw [if_pos h2]
 refine Ev.neg (by simpa using h2) ?_
 have tail : ∀ b : Bool, b = decide (kind = 2 ∧ n = pg) → ¬ (kind = 1 ∧ g < n) → Ev (fun k => impl_Apply.j2 k b g t pg pt e o kind n ow s) (if kind = 2 ∧ n = pg then (n, pt, 0, ⟨#[]⟩, e, o, true) else if kind = 3 ∧ e < n then (g, t, pg, pt, n, ow, true) else (g, t, pg, pt, e, o, false)) := by
  intro b hb _
  refine Ev.step (fun k => impl_Apply.j2.eq_2 _ _ _ _ _ _ _ _ _ _ _ k) ?_
  by_cases h : kind = 2 ∧ n = pg
  ·exact Ev.pos (by rw [hb]; exact decide_eq_true h) (Ev.done (if_pos h).symm)
  refine Ev.eq (Ev.neg (by rw [hb, decide_eq_false h]; decide) ?_) (if_neg h).symm
  by_cases h3 : kind = 3
  ·by_cases h4 : n > e
   ·exact Ev.pos h3 (Ev.pos h4 (Ev.done (if_pos ⟨h3, h4⟩).symm))
   ·exact Ev.pos h3 (Ev.neg h4 (Ev.done (if_neg (fun q => h4 q.2)).symm))
  ·exact Ev.neg h3 (Ev.done (if_neg (fun q => h3 q.1)).symm)
 have mid : ∀ b : Bool, b = decide (kind = 1 ∧ g < n) → Ev (fun k => impl_Apply.j1 k b g t pg pt e o kind n ow s) (if kind = 1 ∧ g < n then (g, t, n, s, e, o, true) else if kind = 2 ∧ n = pg then (n, pt, 0, ⟨#[]⟩, e, o, true) else if kind = 3 ∧ e < n then (g, t, pg, pt, n, ow, true) else (g, t, pg, pt, e, o, false)) := by
  intro b hb
  refine Ev.step (fun k => impl_Apply.j1.eq_2 _ _ _ _ _ _ _ _ _ _ _ k) ?_
  by_cases h : kind = 1 ∧ g < n
  ·exact Ev.pos (by rw [hb]; exact decide_eq_true h) (Ev.done (if_pos h).symm)
  refine Ev.eq (Ev.neg (by rw [hb, decide_eq_false h]; decide) ?_) (if_neg h).symm
  by_cases h2' : kind = 2
  ·exact Ev.pos h2' (tail _ (by rw [Bool.eq_iff_iff]; simp [h2']) h)
  ·exact Ev.neg h2' (tail _ (by rw [eq_comm, decide_eq_false_iff_not]; exact fun q => h2' q.1) h)
 by_cases h3 : kind = 1
 ·exact Ev.pos h3 (mid _ (by rw [Bool.eq_iff_iff]; simp [h3]))
 ·exact Ev.neg h3 (mid _ (by rw [eq_comm, decide_eq_false_iff_not]; exact fun q => h3 q.1))
theorem spec_apply (g : Int) (t : ByteArray) (pg : Int) (pt : ByteArray) (e o : Int) (kind n ow : Int) (s : ByteArray) (ht : t.size ≤ 1048576) (hp : pt.size ≤ 1048576) (hs : s.size ≤ 1048576) : Ev (fun k => spec_Apply.f k g t pg pt e o kind n ow s) (applyK g t pg pt e o kind n ow s) := by
 unfold spec_Apply.f applyK
 refine Ev.bind (spec_knownOk g t pg pt e o ht hp) ?_
 by_cases h1 : knownOk g t pg pt e o = true
 case neg =>
  rw [if_neg h1]
  exact Ev.neg h1 (Ev.step (fun k => spec_Apply.j0.eq_2 _ _ _ _ _ _ _ _ _ _ _ k) (Ev.pos rfl (Ev.done rfl)))
 rw [if_pos h1]
 refine Ev.pos h1 (Ev.bind (spec_recOk kind n ow s hs) ?_)
 refine Ev.step (fun k => spec_Apply.j0.eq_2 _ _ _ _ _ _ _ _ _ _ _ k) ?_
 by_cases h2 : recOk kind n ow s = true
 case neg => rw [if_neg h2]; exact Ev.pos (by simpa using h2) (Ev.done rfl)
 rw [if_pos h2]
 refine Ev.neg (by simpa using h2) ?_
 rcases recOk_kind h2 with rfl | rfl | rfl
 ·refine Ev.pos rfl ?_
  by_cases h : n ≤ g
  ·exact Ev.pos h (Ev.done (by rw [if_neg (by omega), if_neg (by omega), if_neg (by omega)]))
  ·exact Ev.neg h (Ev.done (by rw [if_pos (by omega)]))
 ·refine Ev.neg (by decide) (Ev.pos rfl ?_)
  by_cases h : n = pg
  ·exact Ev.pos h (Ev.done (by rw [if_neg (by omega), if_pos (by omega), h]))
  ·exact Ev.neg h (Ev.done (by rw [if_neg (by omega), if_neg (by omega), if_neg (by omega)]))
 ·refine Ev.neg (by decide) (Ev.neg (by decide) ?_)
  by_cases h : n ≤ e
  ·exact Ev.pos h (Ev.done (by rw [if_neg (by omega), if_neg (by omega), if_neg (by omega)]))
  ·exact Ev.neg h (Ev.done (by rw [if_neg (by omega), if_neg (by omega), if_pos (by omega)]))
end Go.Proofs.YthkepmicdpgbbaaGreatDoor.Fn

namespace Go.Proofs.YthkepmicdpgbbaaGreatDoor.Fn
set_option linter.unusedVariables false
set_option linter.unusedSimpArgs false
open Go.RowKit Go.Proofs.YthkepmicdpgbbaaGreatDoorW.PrintWords Go.Proofs.YthkepmicdpgbbaaGreatDoor.P Go.Proofs.YthkepmicdpgbbaaGreatDoor.Base
structure Kn where
 g : Int
 t : ByteArray
 pg : Int
 pt : ByteArray
 e : Int
 o : Int
def Kn.zero : Kn := ⟨0, ⟨#[]⟩, 0, ⟨#[]⟩, 0, 0⟩
def Kn.Short (K : Kn) : Prop := K.t.size ≤ 100 ∧ K.pt.size ≤ 100
def Kn.at (K : Kn) (i : Int) : Int × ByteArray × Int × ByteArray × Int × Int × Int := (K.g, K.t, K.pg, K.pt, K.e, K.o, i)
abbrev RecT := Int × Int × Int × Int × Int × ByteArray × Bool
noncomputable def Kn.apply (K : Kn) (r : RecT) : Int × ByteArray × Int × ByteArray × Int × Int × Bool := applyK K.g K.t K.pg K.pt K.e K.o r.2.2.1 r.2.2.2.1 r.2.2.2.2.1 r.2.2.2.2.2.1
noncomputable def Kn.next (K : Kn) (r : RecT) : Kn := ⟨(K.apply r).1, (K.apply r).2.1, (K.apply r).2.2.1, (K.apply r).2.2.2.1, (K.apply r).2.2.2.2.1, (K.apply r).2.2.2.2.2.1⟩
theorem Kn.next_short {K : Kn} (h : K.Short) (r : RecT) (hr : r.2.2.2.2.2.1.size ≤ 100) : (K.next r).Short := by
 have he : (⟨#[]⟩ : ByteArray).size ≤ 100 := by decide
 unfold Kn.next Kn.apply applyK Kn.Short
 repeat' split
 all_goals first | exact ⟨h.1, hr⟩ | exact ⟨h.2, he⟩ | exact h
def sector (g : Int) (i : Int) : Int := 2 + 18 * Int.tmod g 2 + i
noncomputable def recOf (d : Dk) (g : Int) (i : Nat) : RecT := getRec (readSec d (sector g (i : Int)))
noncomputable def replayFrom (d : Dk) (g : Int) : Nat → Nat → Kn → Kn × Int
 | 0, _, K => (K, 18)
 | n + 1, i, K => if (recOf d g i).2.2.2.2.2.2 = true ∧ (recOf d g i).1 = g ∧ (recOf d g i).2.1 = (i : Int) then (if (K.apply (recOf d g i)).2.2.2.2.2.2 = true then replayFrom d g n (i + 1) (K.next (recOf d g i)) else (K, (i : Int))) else (K, (i : Int))
noncomputable def replay (d : Dk) (g : Int) : Kn × Int := if 1 ≤ g ∧ g ≤ 60000 then replayFrom d g 18 0 Kn.zero else (Kn.zero, 0)
theorem getRec_short (l : List Int) : (getRec l).2.2.2.2.2.1.size ≤ 100 := by
 by_cases h : IsRec l
 ·rw [getRec_yes h]; exact getText_short l 8
 ·rw [getRec_no h]; decide
theorem tmod_two (g : Int) (hg : 1 ≤ g) : 0 ≤ Int.tmod g 2 ∧ Int.tmod g 2 ≤ 1 := by
 rw [Int.tmod_eq_emod_of_nonneg (by omega)]
 omega
theorem sector_w (g : Int) (i : Nat) (hg : 1 ≤ g) (hi : i ≤ 100) : wrap64 (wrap64 (2 + wrap64 (18 * Int.tmod g 2)) + (i : Int)) = sector g (i : Int) := by
 have := tmod_two g hg
 rw [w64 (n := 18 * Int.tmod g 2) (by omega) (by omega), w64 (n := 2 + 18 * Int.tmod g 2) (by omega) (by omega), w64 (by omega) (by omega)]
 rfl
theorem spec_Replay_l0 (d : Dk) (hd : Fits d) (g : Int) (hg : 1 ≤ g ∧ g ≤ 60000) (n : Nat) : ∀ (i : Nat) (K : Kn), i + n = 18 → K.Short →
  Ev (fun k => spec_Replay.l0 k g (i : Int) d.secs d.cache d.fuse d.down K.g K.t K.pg K.pt K.e K.o) ((replayFrom d g n i K).1.at (replayFrom d g n i K).2) := by
 induction n with
 | zero =>
  intro i K hi _
  exact Ev.step (fun k => spec_Replay.l0.eq_2 _ _ _ _ _ _ _ _ _ _ _ _ k) (Ev.neg (by omega) (Ev.done rfl))
 | succ n ih =>
  intro i K hi hK
  have hrs := getRec_short (readSec d (sector g (i : Int)))
  have e0 : spec_l5At.f g (i : Int) = some (sector g (i : Int)) := by
   unfold spec_l5At.f
   rw [sector_w g i hg.1 (by omega)]
  refine Ev.step (fun k => spec_Replay.l0.eq_2 _ _ _ _ _ _ _ _ _ _ _ _ k) (Ev.pos (by omega) (Ev.then e0 (Ev.bind (spec_readSec d hd _) (Ev.bind (spec_getRec _ (readSec_bytes hd _) (by have := readSec_length hd (sector g (i : Int)); omega)) ?_))))
  rw [replayFrom]
  show Ev (fun k => if (recOf d g i).2.2.2.2.2.2 = true then _ else _) _
  have bad : ¬ ((recOf d g i).2.2.2.2.2.2 = true ∧ (recOf d g i).1 = g ∧ (recOf d g i).2.1 = (i : Int)) → ∀ b : Bool, b = true → Ev (fun k => spec_Replay.j1 k g (i : Int) b d.secs d.cache d.fuse d.down K.g K.t K.pg K.pt K.e K.o (recOf d g i).2.2.1 (recOf d g i).2.2.2.1 (recOf d g i).2.2.2.2.1 (recOf d g i).2.2.2.2.2.1) (K.at (i : Int)) := fun _ b hb =>
   Ev.step (fun k => spec_Replay.j1.eq_2 _ _ _ _ _ _ _ _ _ _ _ _ _ _ _ _ _ k) (Ev.pos hb (Ev.done rfl))
  by_cases h1 : (recOf d g i).2.2.2.2.2.2 = true
  case neg => rw [if_neg (fun h => h1 h.1)]; exact Ev.neg h1 (bad (fun h => h1 h.1) _ rfl)
  refine Ev.pos h1 ?_
  by_cases h2 : (recOf d g i).1 = g
  case neg => rw [if_neg (fun h => h2 h.2.1)]; exact Ev.neg h2 (bad (fun h => h2 h.2.1) _ rfl)
  refine Ev.pos h2 ?_
  by_cases h3 : (recOf d g i).2.1 = (i : Int)
  case neg => rw [if_neg (fun h => h3 h.2.2)]; exact bad (fun h => h3 h.2.2) _ (bne_iff_ne.2 h3)
  rw [if_pos ⟨h1, h2, h3⟩]
  have ea := spec_apply K.g K.t K.pg K.pt K.e K.o (recOf d g i).2.2.1 (recOf d g i).2.2.2.1 (recOf d g i).2.2.2.2.1 (recOf d g i).2.2.2.2.2.1 (by have := hK.1; omega) (by have := hK.2; omega) (by unfold recOf; omega)
  refine Ev.step (fun k => spec_Replay.j1.eq_2 _ _ _ _ _ _ _ _ _ _ _ _ _ _ _ _ _ k) (Ev.neg (fun q => (bne_iff_ne.1 q) h3) (Ev.bind ea ?_))
  by_cases h4 : (K.apply (recOf d g i)).2.2.2.2.2.2 = true
  ·rw [if_pos h4, w64 (n := (i : Int) + 1) (by omega) (by omega), cast_succ]
   exact Ev.pos h4 (ih (i + 1) (K.next (recOf d g i)) (by omega) (Kn.next_short hK _ hrs))
  ·rw [if_neg h4]
   exact Ev.neg h4 (Ev.done rfl)
theorem impl_Replay_l0 (d : Dk) (hd : Fits d) (g : Int) (hg : 1 ≤ g ∧ g ≤ 60000) (n : Nat) : ∀ (i : Nat) (K : Kn), i + n = 18 → K.Short →
  Ev (fun k => impl_Replay.l0 k g (i : Int) d.secs d.cache d.fuse d.down K.g K.t K.pg K.pt K.e K.o) ((replayFrom d g n i K).1.at (replayFrom d g n i K).2) := by
 induction n with
 | zero =>
  intro i K hi _
  exact Ev.step (fun k => impl_Replay.l0.eq_2 _ _ _ _ _ _ _ _ _ _ _ _ k) (Ev.neg (by omega) (Ev.done rfl))
 | succ n ih =>
  intro i K hi hK
  have hrs := getRec_short (readSec d (sector g (i : Int)))
  have e0 : impl_sectorOf.f g (i : Int) = some (sector g (i : Int)) := by
   unfold impl_sectorOf.f
   rw [sector_w g i hg.1 (by omega)]
  refine Ev.step (fun k => impl_Replay.l0.eq_2 _ _ _ _ _ _ _ _ _ _ _ _ k) (Ev.pos (by omega) (Ev.then e0 (Ev.bind (impl_readSec d hd _) (Ev.bind (impl_getRec _ (readSec_bytes hd _) (by have := readSec_length hd (sector g (i : Int)); omega)) ?_))))
  rw [replayFrom]
  show Ev (fun k => if (recOf d g i).2.2.2.2.2.2 = true then _ else _) _
  have bad : ¬ ((recOf d g i).2.2.2.2.2.2 = true ∧ (recOf d g i).1 = g ∧ (recOf d g i).2.1 = (i : Int)) → ∀ b : Bool, b = true → Ev (fun k => impl_Replay.j1 k g (i : Int) (i : Int) b d.secs d.cache d.fuse d.down K.g K.t K.pg K.pt K.e K.o (recOf d g i).2.2.1 (recOf d g i).2.2.2.1 (recOf d g i).2.2.2.2.1 (recOf d g i).2.2.2.2.2.1) (K.at (i : Int)) := fun _ b hb =>
   Ev.step (fun k => impl_Replay.j1.eq_2 _ _ _ _ _ _ _ _ _ _ _ _ _ _ _ _ _ _ k) (Ev.pos hb (Ev.done rfl))
  by_cases h1 : (recOf d g i).2.2.2.2.2.2 = true
  case neg => rw [if_neg (fun h => h1 h.1)]; exact Ev.neg h1 (bad (fun h => h1 h.1) _ rfl)
  refine Ev.pos h1 ?_
  by_cases h2 : (recOf d g i).1 = g
  case neg => rw [if_neg (fun h => h2 h.2.1)]; exact Ev.neg h2 (bad (fun h => h2 h.2.1) _ rfl)
  refine Ev.pos h2 ?_
  by_cases h3 : (recOf d g i).2.1 = (i : Int)
  case neg => rw [if_neg (fun h => h3 h.2.2)]; exact bad (fun h => h3 h.2.2) _ (bne_iff_ne.2 h3)
  rw [if_pos ⟨h1, h2, h3⟩]
  have ea := impl_apply K.g K.t K.pg K.pt K.e K.o (recOf d g i).2.2.1 (recOf d g i).2.2.2.1 (recOf d g i).2.2.2.2.1 (recOf d g i).2.2.2.2.2.1 (by have := hK.1; omega) (by have := hK.2; omega) (by unfold recOf; omega)
  refine Ev.step (fun k => impl_Replay.j1.eq_2 _ _ _ _ _ _ _ _ _ _ _ _ _ _ _ _ _ _ k) (Ev.neg (fun q => (bne_iff_ne.1 q) h3) (Ev.bind ea ?_))
  by_cases h4 : (K.apply (recOf d g i)).2.2.2.2.2.2 = true
  ·rw [if_pos h4, w64 (n := (i : Int) + 1) (by omega) (by omega), cast_succ]
   exact Ev.pos h4 (ih (i + 1) (K.next (recOf d g i)) (by omega) (Kn.next_short hK _ hrs))
  ·rw [if_neg h4]
   exact Ev.neg h4 (Ev.done rfl)
theorem Kn.zero_short : Kn.zero.Short := ⟨by decide, by decide⟩
theorem spec_replay (d : Dk) (hd : Fits d) (g : Int) : Ev (fun k => spec_Replay.f k d.secs d.cache d.fuse d.down g) ((replay d g).1.at (replay d g).2) := by
 unfold spec_Replay.f replay
 refine Ev.then (l1In _ _ _) ?_
 by_cases h : 1 ≤ g ∧ g ≤ 60000
 ·rw [if_pos h]
  exact Ev.pos (by simpa using h) (spec_Replay_l0 d hd g h 18 0 Kn.zero (by omega) Kn.zero_short)
 ·rw [if_neg h]
  exact Ev.neg (by simpa using h) (Ev.done rfl)
theorem impl_replay (d : Dk) (hd : Fits d) (g : Int) : Ev (fun k => impl_Replay.f k d.secs d.cache d.fuse d.down g) ((replay d g).1.at (replay d g).2) := by
 unfold impl_Replay.f replay
 refine Ev.then (isIn _ _ _) ?_
 by_cases h : 1 ≤ g ∧ g ≤ 60000
 ·rw [if_pos h]
  exact Ev.pos (by simpa using h) (impl_Replay_l0 d hd g h 18 0 Kn.zero (by omega) Kn.zero_short)
 ·rw [if_neg h]
  exact Ev.neg (by simpa using h) (Ev.done rfl)
end Go.Proofs.YthkepmicdpgbbaaGreatDoor.Fn

namespace Go.Proofs.YthkepmicdpgbbaaGreatDoor.Fn
set_option linter.unusedVariables false
set_option linter.unusedSimpArgs false
open Go.RowKit Go.Proofs.YthkepmicdpgbbaaGreatDoorW.PrintWords Go.Proofs.YthkepmicdpgbbaaGreatDoor.P Go.Proofs.YthkepmicdpgbbaaGreatDoor.Base
def summed (l : List Int) : List Int := l ++ wordBytes (crc l)
def headOf (g n : Int) : List Int := if 1 ≤ g ∧ g ≤ 60000 ∧ 0 ≤ n ∧ n ≤ 18 then summed (wordBytes g ++ wordBytes n) else []
theorem headBytes (g n : Int) : Bytes (wordBytes g ++ wordBytes n) := (wordBytes_bytes g).append (wordBytes_bytes n)
theorem summed_bytes {l : List Int} (h : Bytes l) : Bytes (summed l) := h.append (wordBytes_bytes _)
theorem headOf_bytes (g n : Int) : Bytes (headOf g n) := by
 unfold headOf
 split
 ·exact summed_bytes (headBytes g n)
 ·exact Bytes.nil
theorem headOf_length (g n : Int) : (headOf g n).length ≤ 6 := by
 unfold headOf
 split
 ·simp [summed, wordBytes]
 ·simp
theorem spec_headOf (g n : Int) : Ev (fun k => spec_HeadOf.f k g n) (headOf g n) := by
 unfold spec_HeadOf.f headOf
 have bad : ∀ b : Bool, b = true → Ev (fun k => spec_HeadOf.j0 k g n b) [] := fun b hb => Ev.step (fun k => spec_HeadOf.j0.eq_2 _ _ _ k) (Ev.pos hb (Ev.done rfl))
 refine Ev.then (l1In _ _ _) ?_
 by_cases hg : 1 ≤ g ∧ g ≤ 60000
 ·refine Ev.pos (by simpa using hg) (Ev.then (l1In _ _ _) ?_)
  by_cases hn : 0 ≤ n ∧ n ≤ 18
  ·rw [if_pos ⟨hg.1, hg.2, hn⟩]
   refine Ev.step (fun k => spec_HeadOf.j0.eq_2 _ _ _ k) (Ev.neg (by simp; omega) (Ev.then (spec_putWord _ _ (by simp)) (Ev.then (spec_putWord _ _ (by simp [wordBytes])) (Ev.bind (spec_sum _ (headBytes g n) (by simp [wordBytes])) (Ev.then (spec_putWord _ _ (by simp [wordBytes])) (Ev.done rfl))))))
  ·rw [if_neg (by omega)]
   exact bad _ (by simp; omega)
 ·rw [if_neg (by omega)]
  exact Ev.neg (by simp; omega) (bad _ rfl)
theorem impl_headOf (g n : Int) : Ev (fun k => impl_HeadOf.f k g n) (headOf g n) := by
 unfold impl_HeadOf.f headOf
 have bad : ∀ b : Bool, b = true → Ev (fun k => impl_HeadOf.j0 k g n b) [] := fun b hb => Ev.step (fun k => impl_HeadOf.j0.eq_2 _ _ _ k) (Ev.pos hb (Ev.done rfl))
 refine Ev.then (isIn _ _ _) ?_
 by_cases hg : 1 ≤ g ∧ g ≤ 60000
 ·refine Ev.pos (by simpa using hg) (Ev.then (isIn _ _ _) ?_)
  by_cases hn : 0 ≤ n ∧ n ≤ 18
  ·rw [if_pos ⟨hg.1, hg.2, hn⟩]
   refine Ev.step (fun k => impl_HeadOf.j0.eq_2 _ _ _ k) (Ev.neg (by simp; omega) (Ev.then (impl_putWord _ _ (by simp)) (Ev.then (impl_putWord _ _ (by simp [wordBytes])) (Ev.bind (impl_sum _ (headBytes g n) (by simp [wordBytes])) (Ev.then (impl_putWord _ _ (by simp [wordBytes])) (Ev.done rfl))))))
  ·rw [if_neg (by omega)]
   exact bad _ (by simp; omega)
 ·rw [if_neg (by omega)]
  exact Ev.neg (by simp; omega) (bad _ rfl)
end Go.Proofs.YthkepmicdpgbbaaGreatDoor.Fn

namespace Go.Proofs.YthkepmicdpgbbaaGreatDoor.Fn
set_option linter.unusedVariables false
set_option linter.unusedSimpArgs false
open Go.RowKit Go.Proofs.YthkepmicdpgbbaaGreatDoorW.PrintWords Go.Proofs.YthkepmicdpgbbaaGreatDoor.P Go.Proofs.YthkepmicdpgbbaaGreatDoor.Base
theorem sameBytes {l m : List Int} (hl : Bytes l) (hm : Bytes m) : ((strOfNums l).toList == (strOfNums m).toList) = eqB l m := by
 rw [Bool.eq_iff_iff, beq_iff_eq, eqB_iff, strOfNums_inj hl hm]
noncomputable def getHead (l : List Int) : Int × Int × Bool :=
 @ite _ (l ≠ [] ∧ headOf (word l 0).1 (word l 2).1 = l) (Classical.propDecidable _) ((word l 0).1, (word l 2).1, true) (0, 0, false)
theorem getHead_yes {l : List Int} (h : l ≠ [] ∧ headOf (word l 0).1 (word l 2).1 = l) : getHead l = ((word l 0).1, (word l 2).1, true) := if_pos h
theorem getHead_no {l : List Int} (h : ¬ (l ≠ [] ∧ headOf (word l 0).1 (word l 2).1 = l)) : getHead l = (0, 0, false) := if_neg h
theorem headOf_six {g n : Int} (h : headOf g n ≠ []) : (headOf g n).length = 6 := by
 unfold headOf at h ⊢
 split
 ·simp [summed, wordBytes]
 ·rename_i hc
  rw [if_neg hc] at h
  exact absurd rfl h
theorem impl_getHead (l : List Int) (hb : Bytes l) (hl : l.length ≤ 140737488351232) : Ev (fun k => impl_GetHead.f k l) (getHead l) := by
 unfold impl_GetHead.f
 refine Ev.then (impl_getWord l 0 hb hl) (Ev.then (impl_getWord l 2 hb hl) ?_)
 by_cases h0 : l = []
 ·rw [getHead_no (fun h => h.1 h0)]
  exact Ev.pos (by rw [h0]; rfl) (Ev.done rfl)
 have h0' : l.length ≠ 0 := fun e => h0 (List.eq_nil_of_length_eq_zero e)
 refine Ev.neg (by omega) (Ev.bind (impl_headOf _ _) ?_)
 unfold bytes_Equal.f
 rw [sameBytes (headOf_bytes _ _) hb]
 by_cases h : headOf (word l 0).1 (word l 2).1 = l
 ·rw [getHead_yes ⟨h0, h⟩]
  exact Ev.then rfl (Ev.pos (eqB_iff.2 h) (Ev.done rfl))
 ·rw [getHead_no (fun e => h e.2)]
  exact Ev.then rfl (Ev.neg (by rw [eqB_not h]; decide) (Ev.done rfl))
theorem spec_getHead (l : List Int) (hb : Bytes l) (hl : l.length ≤ 140737488351232) : Ev (fun k => spec_GetHead.f k l) (getHead l) := by
 unfold spec_GetHead.f
 refine Ev.then (spec_getWord l 0 hb hl) (Ev.then (spec_getWord l 2 hb hl) ?_)
 by_cases hl6 : l.length = 6
 ·have h0 : l ≠ [] := fun e => by rw [e] at hl6; cases hl6
  refine Ev.pos (by unfold word; rw [if_neg (by omega)]) (Ev.pos (by omega) (Ev.bind (spec_headOf _ _) ?_))
  unfold spec_l1Same.f
  rw [sameBytes (headOf_bytes _ _) hb]
  by_cases h : headOf (word l 0).1 (word l 2).1 = l
  ·rw [getHead_yes ⟨h0, h⟩]
   exact Ev.then rfl (Ev.pos (eqB_iff.2 h) (Ev.done rfl))
  ·rw [getHead_no (fun e => h e.2)]
   exact Ev.then rfl (Ev.neg (by rw [eqB_not h]; decide) (Ev.done rfl))
 ·have hno : ¬ (l ≠ [] ∧ headOf (word l 0).1 (word l 2).1 = l) := by
   rintro ⟨h0, h⟩
   have := headOf_six (g := (word l 0).1) (n := (word l 2).1) (by rw [h]; exact h0)
   rw [h] at this
   exact hl6 this
  rw [getHead_no hno]
  by_cases h2 : (word l 2).2.2 = true
  ·exact Ev.pos h2 (Ev.neg (by omega) (Ev.done rfl))
  ·exact Ev.neg h2 (Ev.done rfl)
end Go.Proofs.YthkepmicdpgbbaaGreatDoor.Fn

namespace Go.Proofs.YthkepmicdpgbbaaGreatDoor.Fn
set_option linter.unusedVariables false
set_option linter.unusedSimpArgs false
open Go.RowKit Go.Proofs.YthkepmicdpgbbaaGreatDoorW.PrintWords Go.Proofs.YthkepmicdpgbbaaGreatDoor.P Go.Proofs.YthkepmicdpgbbaaGreatDoor.Base
structure Jn where
 K : Kn
 G : Int
 P : Int
def Jn.zero : Jn := ⟨Kn.zero, 0, 0⟩
def Jn.tup (J : Jn) (b : Bool) : Int × ByteArray × Int × ByteArray × Int × Int × Int × Int × Bool := (J.K.g, J.K.t, J.K.pg, J.K.pt, J.K.e, J.K.o, J.G, J.P, b)
noncomputable def headAt (d : Dk) (i : Nat) : Int × Int × Bool := getHead (readSec d (i : Int))
noncomputable def stepJ (d : Dk) (i : Nat) (J : Jn) : Jn :=
 if (headAt d i).2.2 = true ∧ Int.tmod (headAt d i).1 2 = (i : Int) ∧ J.G < (headAt d i).1 then (if (headAt d i).2.1 ≤ (replay d (headAt d i).1).2 then ⟨(replay d (headAt d i).1).1, (headAt d i).1, (replay d (headAt d i).1).2⟩ else J) else J
theorem headAt_range (d : Dk) (i : Nat) (h : (headAt d i).2.2 = true) : 1 ≤ (headAt d i).1 ∧ (headAt d i).1 ≤ 60000 := by
 unfold headAt at h ⊢
 by_cases hc : readSec d (i : Int) ≠ [] ∧ headOf (word (readSec d (i : Int)) 0).1 (word (readSec d (i : Int)) 2).1 = readSec d (i : Int)
 ·rw [getHead_yes hc]
  have h2 := hc.2
  unfold headOf at h2
  split at h2
  ·rename_i hr; exact ⟨hr.1, hr.2.1⟩
  ·exact absurd h2.symm hc.1
 ·rw [getHead_no hc] at h; cases h
theorem stepJ_pos (d : Dk) (i : Nat) (J : Jn) (h : 0 ≤ J.G) : 0 ≤ (stepJ d i J).G := by
 unfold stepJ
 split
 ·rename_i hc
  split
  ·have := headAt_range d i hc.1
   simp only; omega
  ·exact h
 ·exact h
theorem spec_OJ_round (d : Dk) (hd : Fits d) (i : Nat) (hi : i < 2) (J : Jn) (r : Int × ByteArray × Int × ByteArray × Int × Int × Int × Int × Bool)
  (h : Ev (fun k => spec_OpenJour.l0 k ((i + 1 : Nat) : Int) d.secs d.cache d.fuse d.down (stepJ d i J).K.g (stepJ d i J).K.t (stepJ d i J).K.pg (stepJ d i J).K.pt (stepJ d i J).K.e (stepJ d i J).K.o (stepJ d i J).G (stepJ d i J).P) r) :
  Ev (fun k => spec_OpenJour.l0 k (i : Int) d.secs d.cache d.fuse d.down J.K.g J.K.t J.K.pg J.K.pt J.K.e J.K.o J.G J.P) r := by
 have hl := readSec_length hd (i : Int)
 refine Ev.step (fun k => spec_OpenJour.l0.eq_2 _ _ _ _ _ _ _ _ _ _ _ _ _ k) (Ev.pos (by omega) (Ev.bind (spec_readSec d hd _) (Ev.bind (spec_getHead _ (readSec_bytes hd _) (by omega)) ?_)))
 show Ev (fun k => if (headAt d i).2.2 = true then _ else _) _
 have hw : wrap64 ((i : Int) + 1) = ((i + 1 : Nat) : Int) := by rw [w64 (by omega) (by omega)]; rfl
 have bad : stepJ d i J = J → ∀ b : Bool, b = true → Ev (fun k => spec_OpenJour.j2 k (i : Int) (headAt d i).1 (headAt d i).2.1 b d.secs d.cache d.fuse d.down J.K.g J.K.t J.K.pg J.K.pt J.K.e J.K.o J.G J.P) r := by
  intro hs b hb
  rw [hs] at h
  refine Ev.step (fun k => spec_OpenJour.j2.eq_2 _ _ _ _ _ _ _ _ _ _ _ _ _ _ _ _ k) (Ev.pos hb ?_)
  rw [hw]
  exact h
 by_cases h1 : (headAt d i).2.2 = true
 case neg => exact Ev.neg h1 (bad (by unfold stepJ; rw [if_neg (fun q => h1 q.1)]) _ rfl)
 refine Ev.pos h1 ?_
 by_cases h2 : Int.tmod (headAt d i).1 2 = (i : Int)
 case neg => exact Ev.neg h2 (bad (by unfold stepJ; rw [if_neg (fun q => h2 q.2.1)]) _ rfl)
 refine Ev.pos h2 ?_
 by_cases h3 : J.G < (headAt d i).1
 case neg => exact bad (by unfold stepJ; rw [if_neg (fun q => h3 q.2.2)]) _ (decide_eq_true (Int.not_lt.1 h3))
 refine Ev.step (fun k => spec_OpenJour.j2.eq_2 _ _ _ _ _ _ _ _ _ _ _ _ _ _ _ _ k) (Ev.neg (fun q => Int.not_lt.2 (of_decide_eq_true q) h3) (Ev.bind (spec_replay d hd _) ?_))
 rw [hw]
 by_cases h4 : (headAt d i).2.1 ≤ (replay d (headAt d i).1).2
 ·have hs : stepJ d i J = ⟨(replay d (headAt d i).1).1, (headAt d i).1, (replay d (headAt d i).1).2⟩ := by unfold stepJ; rw [if_pos ⟨h1, h2, h3⟩, if_pos h4]
  rw [hs] at h
  exact Ev.pos h4 h
 ·have hs : stepJ d i J = J := by unfold stepJ; rw [if_pos ⟨h1, h2, h3⟩, if_neg h4]
  rw [hs] at h
  exact Ev.neg h4 h
theorem impl_OJ_round (d : Dk) (hd : Fits d) (i : Nat) (hi : i < 2) (J : Jn) (hJ : 0 ≤ J.G) (r : Int × ByteArray × Int × ByteArray × Int × Int × Int × Int × Bool)
  (h : Ev (fun k => impl_OpenJour.l0 k (decide (0 < (stepJ d i J).G)) ((i + 1 : Nat) : Int) d.secs d.cache d.fuse d.down (stepJ d i J).K.g (stepJ d i J).K.t (stepJ d i J).K.pg (stepJ d i J).K.pt (stepJ d i J).K.e (stepJ d i J).K.o (stepJ d i J).G (stepJ d i J).P) r) :
  Ev (fun k => impl_OpenJour.l0 k (decide (0 < J.G)) (i : Int) d.secs d.cache d.fuse d.down J.K.g J.K.t J.K.pg J.K.pt J.K.e J.K.o J.G J.P) r := by
 have hl := readSec_length hd (i : Int)
 refine Ev.step (fun k => impl_OpenJour.l0.eq_2 _ _ _ _ _ _ _ _ _ _ _ _ _ _ k) (Ev.pos (by omega) (Ev.bind (impl_readSec d hd _) (Ev.bind (impl_getHead _ (readSec_bytes hd _) (by omega)) ?_)))
 show Ev (fun k => if (headAt d i).2.2 = true then _ else _) _
 have hw : wrap64 ((i : Int) + 1) = ((i + 1 : Nat) : Int) := by rw [w64 (by omega) (by omega)]; rfl
 have bad : stepJ d i J = J → ∀ b : Bool, b = true → Ev (fun k => impl_OpenJour.j2 k (decide (0 < J.G)) (headAt d i).1 (headAt d i).2.1 (i : Int) b d.secs d.cache d.fuse d.down J.K.g J.K.t J.K.pg J.K.pt J.K.e J.K.o J.G J.P) r := by
  intro hs b hb
  rw [hs] at h
  refine Ev.step (fun k => impl_OpenJour.j2.eq_2 _ _ _ _ _ _ _ _ _ _ _ _ _ _ _ _ _ k) (Ev.pos hb ?_)
  rw [hw]
  exact h
 by_cases h1 : (headAt d i).2.2 = true
 case neg => exact Ev.neg h1 (bad (by unfold stepJ; rw [if_neg (fun q => h1 q.1)]) _ rfl)
 have hr := headAt_range d i h1
 refine Ev.pos h1 ?_
 by_cases h2 : Int.tmod (headAt d i).1 2 = (i : Int)
 case neg => exact bad (by unfold stepJ; rw [if_neg (fun q => h2 q.2.1)]) _ (bne_iff_ne.2 h2)
 refine Ev.step (fun k => impl_OpenJour.j2.eq_2 _ _ _ _ _ _ _ _ _ _ _ _ _ _ _ _ _ k) (Ev.neg (fun q => (bne_iff_ne.1 q) h2) (Ev.bind (impl_replay d hd _) ?_))
 rw [hw]
 by_cases h4 : (headAt d i).2.1 ≤ (replay d (headAt d i).1).2
 ·refine Ev.pos h4 ?_
  by_cases h3 : J.G < (headAt d i).1
  ·have hs : stepJ d i J = ⟨(replay d (headAt d i).1).1, (headAt d i).1, (replay d (headAt d i).1).2⟩ := by unfold stepJ; rw [if_pos ⟨h1, h2, h3⟩, if_pos h4]
   rw [hs, decide_eq_true (show 0 < (headAt d i).1 by omega)] at h
   by_cases h5 : 0 < J.G
   ·exact Ev.pos (decide_eq_true h5) (Ev.pos h3 h)
   ·exact Ev.neg (by rw [decide_eq_false h5]; decide) h
  ·have hs : stepJ d i J = J := by unfold stepJ; rw [if_neg (fun q => h3 q.2.2)]
   rw [hs] at h
   exact Ev.pos (decide_eq_true (by omega)) (Ev.neg h3 h)
 ·have hs : stepJ d i J = J := by
   unfold stepJ
   rw [if_neg h4]
   exact ite_self J
  rw [hs] at h
  exact Ev.neg h4 h
noncomputable def openJ (d : Dk) : Jn := stepJ d 1 (stepJ d 0 Jn.zero)
noncomputable def openJour (d : Dk) : Int × ByteArray × Int × ByteArray × Int × Int × Int × Int × Bool :=
 @ite _ (DiskOk d ∧ d.secs.length = 38) (Classical.propDecidable _) ((openJ d).tup (decide (0 < (openJ d).G))) (Jn.zero.tup false)
theorem openJour_yes {d : Dk} (h : DiskOk d ∧ d.secs.length = 38) : openJour d = (openJ d).tup (decide (0 < (openJ d).G)) := if_pos h
theorem openJour_no {d : Dk} (h : ¬ (DiskOk d ∧ d.secs.length = 38)) : openJour d = Jn.zero.tup false := if_neg h
theorem spec_openJour (d : Dk) (hd : Fits d) : Ev (fun k => spec_OpenJour.f k d.secs d.cache d.fuse d.down) (openJour d) := by
 unfold spec_OpenJour.f
 have bad : ¬ (DiskOk d ∧ d.secs.length = 38) → ∀ b : Bool, b = true → Ev (fun k => spec_OpenJour.j0 k b d.secs d.cache d.fuse d.down 0 (⟨#[]⟩ : ByteArray) 0 (⟨#[]⟩ : ByteArray) 0 0 0 0) (openJour d) := fun hn b hb =>
  Ev.step (fun k => spec_OpenJour.j0.eq_2 _ _ _ _ _ _ _ _ _ _ _ _ _ k) (Ev.pos hb (Ev.done (openJour_no hn).symm))
 refine Ev.bind (spec_diskOk d hd.1 hd.2.2.1) ?_
 by_cases h1 : DiskOk d
 case neg => rw [diskOk_no h1]; exact Ev.neg (by decide) (bad (fun h => h1 h.1) _ rfl)
 rw [(diskOk_iff d).2 h1]
 refine Ev.pos rfl ?_
 by_cases h2 : d.secs.length = 38
 case neg => exact bad (fun h => h2 h.2) _ (by simp; omega)
 rw [openJour_yes ⟨h1, h2⟩]
 refine Ev.step (fun k => spec_OpenJour.j0.eq_2 _ _ _ _ _ _ _ _ _ _ _ _ _ k) (Ev.neg (by simp [h2]) ?_)
 refine spec_OJ_round d hd 0 (by omega) Jn.zero _ (spec_OJ_round d hd 1 (by omega) (stepJ d 0 Jn.zero) _ ?_)
 exact Ev.step (fun k => spec_OpenJour.l0.eq_2 _ _ _ _ _ _ _ _ _ _ _ _ _ k) (Ev.neg (by omega) (Ev.done rfl))
theorem impl_openJour (d : Dk) (hd : Fits d) : Ev (fun k => impl_OpenJour.f k d.secs d.cache d.fuse d.down) (openJour d) := by
 unfold impl_OpenJour.f
 have bad : ¬ (DiskOk d ∧ d.secs.length = 38) → ∀ b : Bool, b = true → Ev (fun k => impl_OpenJour.j0 k false b d.secs d.cache d.fuse d.down 0 (⟨#[]⟩ : ByteArray) 0 (⟨#[]⟩ : ByteArray) 0 0 0 0) (openJour d) := fun hn b hb =>
  Ev.step (fun k => impl_OpenJour.j0.eq_2 _ _ _ _ _ _ _ _ _ _ _ _ _ _ k) (Ev.pos hb (Ev.done (openJour_no hn).symm))
 refine Ev.bind (impl_diskOk d hd.1 hd.2.2.1) ?_
 by_cases h1 : DiskOk d
 case neg => rw [diskOk_no h1]; exact Ev.neg (by decide) (bad (fun h => h1 h.1) _ rfl)
 rw [(diskOk_iff d).2 h1]
 refine Ev.pos rfl ?_
 by_cases h2 : d.secs.length = 38
 case neg => exact bad (fun h => h2 h.2) _ (by simp; omega)
 rw [openJour_yes ⟨h1, h2⟩]
 refine Ev.step (fun k => impl_OpenJour.j0.eq_2 _ _ _ _ _ _ _ _ _ _ _ _ _ _ k) (Ev.neg (by simp [h2]) ?_)
 have hz : (0 : Int) ≤ (stepJ d 0 Jn.zero).G := stepJ_pos d 0 Jn.zero (by decide)
 have hf := impl_OJ_round d hd 0 (by omega) Jn.zero (by decide) _ (impl_OJ_round d hd 1 (by omega) (stepJ d 0 Jn.zero) hz _ (Ev.step (fun k => impl_OpenJour.l0.eq_2 _ _ _ _ _ _ _ _ _ _ _ _ _ _ k) (Ev.neg (by omega) (Ev.done (r := (openJ d).tup (decide (0 < (openJ d).G))) rfl))))
 exact hf
end Go.Proofs.YthkepmicdpgbbaaGreatDoor.Fn

namespace Go.Proofs.YthkepmicdpgbbaaGreatDoor.Fn
set_option linter.unusedVariables false
set_option linter.unusedSimpArgs false
open Go.RowKit Go.Proofs.YthkepmicdpgbbaaGreatDoorW.PrintWords Go.Proofs.YthkepmicdpgbbaaGreatDoor.P Go.Proofs.YthkepmicdpgbbaaGreatDoor.Base
abbrev Rec := S25
def recsOf (gen : Int) (text : ByteArray) (pgen : Int) (ptext : ByteArray) (epoch owner : Int) : List Rec :=
 (if gen = 0 then [] else [⟨1, gen, 0, text⟩, ⟨2, gen, 0, ⟨#[]⟩⟩]) ++ (if pgen = 0 then [] else [⟨1, pgen, 0, ptext⟩]) ++ (if epoch = 0 then [] else [⟨3, epoch, owner, ⟨#[]⟩⟩])
theorem recsOf_length (gen : Int) (text : ByteArray) (pgen : Int) (ptext : ByteArray) (epoch owner : Int) : (recsOf gen text pgen ptext epoch owner).length ≤ 4 := by
 unfold recsOf
 simp only [List.length_append]
 repeat' split
 all_goals simp
theorem spec_recsOf (gen : Int) (text : ByteArray) (pgen : Int) (ptext : ByteArray) (epoch owner : Int) : Ev (fun k => spec_RecsOf.f k gen text pgen ptext epoch owner) (recsOf gen text pgen ptext epoch owner) := by
 unfold spec_RecsOf.f recsOf
 have tail : ∀ (l : List Rec), l.length ≤ 2 → Ev (fun k => spec_RecsOf.j0 k l gen text pgen ptext epoch owner) (l ++ (if pgen = 0 then [] else [⟨1, pgen, 0, ptext⟩]) ++ (if epoch = 0 then [] else [⟨3, epoch, owner, ⟨#[]⟩⟩])) := by
  intro l hl
  refine Ev.step (fun k => spec_RecsOf.j0.eq_2 _ _ _ _ _ _ _ k) ?_
  by_cases hp : pgen = 0
  ·refine Ev.pos hp ?_
   by_cases he : epoch = 0
   ·exact Ev.pos he (Ev.done (by simp [hp, he]))
   ·exact Ev.neg he (Ev.pos (by omega) (Ev.done (by simp [hp, he])))
  ·refine Ev.neg hp (Ev.pos (by omega) (Ev.then rfl ?_))
   by_cases he : epoch = 0
   ·exact Ev.pos he (Ev.done (by simp [hp, he]))
   ·exact Ev.neg he (Ev.pos (by simp; omega) (Ev.done (by simp [hp, he])))
 refine Ev.then rfl ?_
 by_cases hg : gen = 0
 ·refine Ev.pos hg (Ev.eq (tail [] (by simp)) (by simp [hg]))
 ·refine Ev.neg hg (Ev.then rfl (Ev.pos (by simp) (Ev.eq (tail _ (by simp)) (by simp [hg]))))
theorem impl_recsOf (gen : Int) (text : ByteArray) (pgen : Int) (ptext : ByteArray) (epoch owner : Int) : Ev (fun k => impl_RecsOf.f k gen text pgen ptext epoch owner) (recsOf gen text pgen ptext epoch owner) := by
 unfold impl_RecsOf.f recsOf
 have tail : ∀ (l : List Rec), l.length ≤ 2 → Ev (fun k => impl_RecsOf.j0 k l gen text pgen ptext epoch owner) (l ++ (if pgen = 0 then [] else [⟨1, pgen, 0, ptext⟩]) ++ (if epoch = 0 then [] else [⟨3, epoch, owner, ⟨#[]⟩⟩])) := by
  intro l hl
  refine Ev.step (fun k => impl_RecsOf.j0.eq_2 _ _ _ _ _ _ _ k) ?_
  by_cases hp : pgen = 0
  ·refine Ev.pos hp ?_
   by_cases he : epoch = 0
   ·exact Ev.pos he (Ev.done (by simp [hp, he]))
   ·exact Ev.neg he (Ev.pos (by omega) (Ev.done (by simp [hp, he])))
  ·refine Ev.neg hp (Ev.pos (by omega) (Ev.then rfl ?_))
   by_cases he : epoch = 0
   ·exact Ev.pos he (Ev.done (by simp [hp, he]))
   ·exact Ev.neg he (Ev.pos (by simp; omega) (Ev.done (by simp [hp, he])))
 refine Ev.then rfl ?_
 by_cases hg : gen = 0
 ·refine Ev.pos hg (Ev.eq (tail [] (by simp)) (by simp [hg]))
 ·refine Ev.neg hg (Ev.then rfl (Ev.pos (by simp) (Ev.eq (tail _ (by simp)) (by simp [hg]))))
end Go.Proofs.YthkepmicdpgbbaaGreatDoor.Fn

namespace Go.Proofs.YthkepmicdpgbbaaGreatDoor.Fn
set_option linter.unusedVariables false
set_option linter.unusedSimpArgs false
open Go.RowKit Go.Proofs.YthkepmicdpgbbaaGreatDoorW.PrintWords Go.Proofs.YthkepmicdpgbbaaGreatDoor.P Go.Proofs.YthkepmicdpgbbaaGreatDoor.Base
noncomputable def formatD : Dk := syncDisk (writeSec (newDisk 38) 1 (headOf 1 0))
theorem head_small (g n : Int) : (headOf g n).length ≤ 1048576 ∧ Bytes (headOf g n) := ⟨by have := headOf_length g n; omega, headOf_bytes g n⟩
theorem formatD_fits : Fits formatD := syncDisk_fits (writeSec_fits (newDisk_fits 38) 1 (head_small 1 0))
theorem spec_format : Ev (fun k => spec_Format.f k) formatD.tuple := by
 unfold spec_Format.f
 exact Ev.bind (spec_diskNew 38) (Ev.bind (spec_headOf 1 0) (Ev.bind (spec_writeSec _ (newDisk_fits 38) 1 _ (head_small 1 0).1) (Ev.bind (spec_syncDisk _ (writeSec_fits (newDisk_fits 38) 1 (head_small 1 0))) (Ev.done rfl))))
theorem impl_format : Ev (fun k => impl_Format.f k) formatD.tuple := by
 unfold impl_Format.f
 exact Ev.then (impl_diskNew 38) (Ev.bind (impl_headOf 1 0) (Ev.bind (impl_writeSec _ (newDisk_fits 38) 1 _ (head_small 1 0).1) (Ev.bind (impl_syncDisk _ (writeSec_fits (newDisk_fits 38) 1 (head_small 1 0))) (Ev.done rfl))))
end Go.Proofs.YthkepmicdpgbbaaGreatDoor.Fn
