/- What the printed functions that write a configuration come to. -/
import Derived.Test.YtldfehmaophfjaaDoorPxd
import Derived.Test.YtldfehmaophfjaaDoorDbs
import Derived.Test.YtldfehmaophfjaaDoorNumText
import Derived.Lib.Join
namespace Go.Proofs.YtldfehmaophfjaaDoor.Fn
set_option linter.unusedVariables false
set_option linter.unusedSimpArgs false
open Go.RowKit Go.Proofs.YtldfehmaophfjaaDoorW.PrintWords Go.Proofs.YtldfehmaophfjaaDoor.P Go.Proofs.YtldfehmaophfjaaDoor.Base

def itemL (x : Db) : List UInt8 := x.f0.data.toList ++ [58] ++ Lib.itoa x.f1 ++ [47] ++ Lib.itoa x.f2 ++ [47] ++ Lib.itoa x.f3 ++ [47] ++ Lib.itoa x.f4
theorem item_eq (x : Db) : ((((((((x.f0 ++ (⟨#[58]⟩ : ByteArray)) ++ ba (Lib.itoa x.f1)) ++ (⟨#[47]⟩ : ByteArray)) ++ ba (Lib.itoa x.f2)) ++ (⟨#[47]⟩ : ByteArray)) ++ ba (Lib.itoa x.f3)) ++ (⟨#[47]⟩ : ByteArray)) ++ ba (Lib.itoa x.f4)) = ba (itemL x) := by
  conv => lhs; rw [ba_of x.f0]
  rw [show (⟨#[58]⟩ : ByteArray) = ba [58] from rfl, show (⟨#[47]⟩ : ByteArray) = ba [47] from rfl]
  simp only [ba_append]
  rfl
theorem item_behind (s : ByteArray) (x : Db) : (((((((((s ++ x.f0) ++ (⟨#[58]⟩ : ByteArray)) ++ ba (Lib.itoa x.f1)) ++ (⟨#[47]⟩ : ByteArray)) ++ ba (Lib.itoa x.f2)) ++ (⟨#[47]⟩ : ByteArray)) ++ ba (Lib.itoa x.f3)) ++ (⟨#[47]⟩ : ByteArray)) ++ ba (Lib.itoa x.f4)) = s ++ ba (itemL x) := by
  conv => lhs; rw [ba_of s, ba_of x.f0]
  conv => rhs; rw [ba_of s]
  rw [show (⟨#[58]⟩ : ByteArray) = ba [58] from rfl, show (⟨#[47]⟩ : ByteArray) = ba [47] from rfl]
  simp only [ba_append, itemL, List.append_assoc]
theorem dbOk_of {x : Db} (h : dbOk x = true) : x.f0.size ≤ 8 ∧ (1 ≤ x.f1 ∧ x.f1 ≤ 3) ∧ (0 ≤ x.f2 ∧ x.f2 ≤ 4) ∧ (1 ≤ x.f3 ∧ x.f3 ≤ 20) ∧ (1 ≤ x.f4 ∧ x.f4 ≤ 20) := by
  unfold dbOk at h
  simp only [Bool.and_eq_true, decide_eq_true_eq] at h
  have := (nameOk_iff x.f0).1 h.1
  exact ⟨this.1.2, h.2.1, h.2.2.1, h.2.2.2.1, h.2.2.2.2⟩
theorem itoa_small {n : Int} (h0 : 0 ≤ n) (h1 : n ≤ 20) : (Lib.itoa n).length ≤ 21 := Lib.itoa_length_le n (by omega) (by omega)
theorem itemL_length {x : Db} (h : dbOk x = true) : (itemL x).length ≤ 100 := by
  obtain ⟨hn, h1, h2, h3, h4⟩ := dbOk_of h
  have e1 := itoa_small (n := x.f1) (by omega) (by omega)
  have e2 := itoa_small (n := x.f2) (by omega) (by omega)
  have e3 := itoa_small (n := x.f3) (by omega) (by omega)
  have e4 := itoa_small (n := x.f4) (by omega) (by omega)
  have e0 : x.f0.data.toList.length = x.f0.size := rfl
  simp only [itemL, List.length_append, List.length_singleton, e0]
  omega
theorem confFrom_all (l : List Db) (d : Nat) : ∀ (i : Nat), i + d = l.length → confFrom l i d = true → l.length ≤ 3 ∧ ∀ (j : Nat) (hj : j < l.length), i ≤ j → dbOk l[j] = true := by
  induction d with
  | zero =>
    intro i hi h
    unfold confFrom at h
    rw [decide_eq_true_eq] at h
    exact ⟨by omega, fun j hj hij => by omega⟩
  | succ d ih =>
    intro i hi h
    have he : rd_T90 l (i : Int) = l[i] := getD_nat l _ (by omega)
    unfold confFrom at h
    rw [he] at h
    simp only [Bool.and_eq_true] at h
    obtain ⟨h3, hall⟩ := ih (i + 1) (by omega) h.2.2
    refine ⟨h3, fun j hj hij => ?_⟩
    by_cases e : i = j
    · subst e; exact h.1
    · exact hall j hj (by omega)
/-- The texts of databases, each but the first behind a ';'. -/
def confAcc : ByteArray → Nat → List Db → ByteArray
  | s, _, [] => s
  | s, i, x :: xs => confAcc ((if i = 0 then s else s ++ (⟨#[59]⟩ : ByteArray)) ++ ba (itemL x)) (i + 1) xs
theorem confAcc_eq (xs : List Db) : ∀ (L : List UInt8) (i : Nat), i ≠ 0 → confAcc (ba L) i xs = ba (L ++ xs.flatMap (fun x => 59 :: itemL x)) := by
  induction xs with
  | nil => intro L i _; simp [confAcc]
  | cons x xs ih =>
    intro L i hi
    rw [confAcc, if_neg hi, show (⟨#[59]⟩ : ByteArray) = ba [59] from rfl, ba_append, ba_append, ih _ _ (by omega)]
    simp
theorem join_eq (x : Db) (xs : List Db) : Lib.join ((x :: xs).map itemL) [59] = itemL x ++ xs.flatMap (fun x => 59 :: itemL x) := by
  unfold Lib.join
  induction xs generalizing x with
  | nil => simp [List.intercalate]
  | cons y ys ih =>
    have := ih y
    simp only [List.intercalate, List.map_cons, List.intersperse, List.flatten_cons, List.flatMap_cons] at this ⊢
    cases ys with
    | nil => simp
    | cons z zs =>
      simp only [List.map_cons, List.intersperse, List.flatten_cons] at this ⊢
      rw [this]
      simp
noncomputable def confText (l : List Db) : ByteArray := if confFrom l 0 l.length = true then confAcc (⟨#[]⟩ : ByteArray) 0 l else (⟨#[]⟩ : ByteArray)
theorem spec_ConfText_j2 (l : List Db) (hl : l.length ≤ 3) (i : Nat) (hi : i < l.length) (hok : dbOk l[i] = true) (s : ByteArray) (hs : s.size ≤ 1000) (b : ByteArray) (hb : Ev (fun k => spec_ConfText.l0 k l (s ++ ba (itemL l[i])) ((i + 1 : Nat) : Int)) b) :
    Ev (fun k => spec_ConfText.j2 k l s (i : Int)) b := by
  have he : rd_T90 l (i : Int) = l[i] := getD_nat l _ (by omega)
  obtain ⟨hn, h1, h2, h3, h4⟩ := dbOk_of hok
  have e1 := itoa_small (n := l[i].f1) (by omega) (by omega)
  have e2 := itoa_small (n := l[i].f2) (by omega) (by omega)
  have e3 := itoa_small (n := l[i].f3) (by omega) (by omega)
  have e4 := itoa_small (n := l[i].f4) (by omega) (by omega)
  have z1 : ∀ a : UInt8, (⟨#[a]⟩ : ByteArray).size = 1 := fun _ => rfl
  refine Ev.step (fun k => spec_ConfText.j2.eq_2 _ _ _ k) (Ev.pos (by omega) (Ev.pos (by omega) ?_))
  rw [he]
  refine Ev.pos (by omega) (Ev.pos (by simp only [size_append]; omega) (Ev.bind (spec_numText _ (by omega) (by omega)) (Ev.pos (by simp only [size_append, ba_size, z1]; omega) (Ev.pos (by simp only [size_append, ba_size, z1]; omega) ?_))))
  refine Ev.bind (spec_numText _ (by omega) (by omega)) (Ev.pos (by simp only [size_append, ba_size, z1]; omega) (Ev.pos (by simp only [size_append, ba_size, z1]; omega) ?_))
  refine Ev.bind (spec_numText _ (by omega) (by omega)) (Ev.pos (by simp only [size_append, ba_size, z1]; omega) (Ev.pos (by simp only [size_append, ba_size, z1]; omega) ?_))
  refine Ev.bind (spec_numText _ (by omega) (by omega)) (Ev.pos (by simp only [size_append, ba_size, z1]; omega) ?_)
  rw [item_behind, w64 (n := (i : Int) + 1) (by omega) (by omega), cast_succ]
  exact hb
theorem spec_ConfText_l0 (l : List Db) (hl : l.length ≤ 3) (hg : ∀ x ∈ l, x.f0.size ≤ 9223372036854775807) (hc : confFrom l 0 l.length = true) (d : Nat) : ∀ (i : Nat) (s : ByteArray), i + d = l.length → s.size ≤ 101 * i → Ev (fun k => spec_ConfText.l0 k l s (i : Int)) (confAcc s i (l.drop i)) := by
  obtain ⟨_, hall⟩ := confFrom_all l l.length 0 (by omega) hc
  induction d with
  | zero =>
    intro i s hi hs
    refine Ev.step (fun k => spec_ConfText.l0.eq_2 _ _ _ k) (Ev.neg (by omega) (Ev.step (fun k => spec_ConfText.j1.eq_2 _ _ _ _ k) (Ev.neg (by decide) (Ev.done ?_))))
    rw [List.drop_of_length_le (by omega)]
    rfl
  | succ d ih =>
    intro i s hi hs
    have hok := hall i (by omega) (by omega)
    have hil := itemL_length hok
    rw [List.drop_eq_getElem_cons (by omega), confAcc]
    have hc' := spec_confOk l (by omega) hg
    rw [hc] at hc'
    refine Ev.step (fun k => spec_ConfText.l0.eq_2 _ _ _ k) (Ev.pos (by omega) (Ev.bind hc' (Ev.step (fun k => spec_ConfText.j1.eq_2 _ _ _ _ k) (Ev.pos rfl ?_))))
    by_cases h0 : i = 0
    · subst h0
      rw [if_pos rfl]
      exact Ev.neg (by omega) (spec_ConfText_j2 l hl 0 (by omega) hok s (by omega) _ (ih 1 _ (by omega) (by rw [size_append, ba_size]; omega)))
    · rw [if_neg h0]
      have z1 : ∀ a : UInt8, (⟨#[a]⟩ : ByteArray).size = 1 := fun _ => rfl
      exact Ev.pos (by omega) (Ev.pos (by omega) (spec_ConfText_j2 l hl i (by omega) hok _ (by rw [size_append, z1]; omega) _ (ih (i + 1) _ (by omega) (by rw [size_append, size_append, ba_size, z1]; omega))))
theorem spec_confText (l : List Db) (hl : l.length ≤ 1048577) (hg : ∀ x ∈ l, x.f0.size ≤ 9223372036854775807) : Ev (fun k => spec_ConfText.f k l) (confText l) := by
  unfold spec_ConfText.f confText
  by_cases hc : confFrom l 0 l.length = true
  · rw [if_pos hc]
    obtain ⟨h3, _⟩ := confFrom_all l l.length 0 (by omega) hc
    exact spec_ConfText_l0 l h3 hg hc l.length 0 _ (by omega) (by decide)
  · rw [if_neg hc]
    have hc' := spec_confOk l hl hg
    rw [Bool.not_eq_true] at hc
    rw [hc] at hc'
    refine Ev.step (fun k => spec_ConfText.l0.eq_2 _ _ _ k) ?_
    by_cases h0 : l.length = 0
    · exact Ev.neg (by omega) (Ev.step (fun k => spec_ConfText.j1.eq_2 _ _ _ _ k) (Ev.neg (by decide) (Ev.done rfl)))
    · exact Ev.pos (by omega) (Ev.bind hc' (Ev.step (fun k => spec_ConfText.j1.eq_2 _ _ _ _ k) (Ev.neg (by decide) (Ev.done rfl))))
theorem impl_ConfText_l0 (l : List Db) (hl : l.length ≤ 3) (hall : ∀ (j : Nat) (hj : j < l.length), 0 ≤ j → dbOk l[j] = true) (d : Nat) : ∀ (i : Nat), i + d = l.length → Ev (fun k => impl_ConfText.l0 k ((l.take i).map (fun x => ba (itemL x))) l (l.length : Int) (i : Int)) (ba (Lib.join (l.map itemL) [59])) := by
  induction d with
  | zero =>
    intro i hi
    refine Ev.step (fun k => impl_ConfText.l0.eq_2 _ _ _ _ k) (Ev.neg (by omega) (Ev.then (a := ba (Lib.join (l.map itemL) [59])) ?_ (Ev.done rfl)))
    have ht : l.take i = l := List.take_of_length_le (by omega)
    have hm : ((l.take i).map (fun x => ba (itemL x))).map (fun x => x.data.toList) = l.map itemL := by
      rw [ht, List.map_map]
      exact List.map_congr_left (fun x _ => by simp [ba])
    unfold strings_Join.f
    rw [show (⟨#[59]⟩ : ByteArray).data.toList = [59] from rfl, hm, if_pos]
    · rfl
    · refine ⟨by rw [List.length_map, List.length_take]; omega, ?_⟩
      cases l with
      | nil => simp [Lib.join, List.intercalate]
      | cons x xs =>
        rw [join_eq]
        have b : ∀ ys : List Db, (∀ y ∈ ys, dbOk y = true) → (ys.flatMap (fun x => 59 :: itemL x)).length ≤ 101 * ys.length := by
          intro ys
          induction ys with
          | nil => intro _; simp
          | cons y ys ih =>
            intro hy
            have := ih (fun z hz => hy z (List.mem_cons_of_mem _ hz))
            have h1 := itemL_length (hy y (List.mem_cons_self ..))
            simp only [List.flatMap_cons, List.length_append, List.length_cons]
            omega
        have hmem : ∀ y ∈ x :: xs, dbOk y = true := by
          intro y hy
          obtain ⟨j, hj, rfl⟩ := List.getElem_of_mem hy
          exact hall j hj (by omega)
        have h1 := itemL_length (hmem x (List.mem_cons_self ..))
        have h2 := b xs (fun y hy => hmem y (List.mem_cons_of_mem _ hy))
        simp only [List.length_cons] at hl
        rw [List.length_append]
        omega
  | succ d ih =>
    intro i hi
    have he : rd_T90 l (i : Int) = l[i] := getD_nat l _ (by omega)
    have hok := hall i (by omega) (by omega)
    obtain ⟨hn, h1, h2, h3, h4⟩ := dbOk_of hok
    have e1 := itoa_small (n := l[i].f1) (by omega) (by omega)
    have e2 := itoa_small (n := l[i].f2) (by omega) (by omega)
    have e3 := itoa_small (n := l[i].f3) (by omega) (by omega)
    have e4 := itoa_small (n := l[i].f4) (by omega) (by omega)
    have z1 : ∀ a : UInt8, (⟨#[a]⟩ : ByteArray).size = 1 := fun _ => rfl
    refine Ev.step (fun k => impl_ConfText.l0.eq_2 _ _ _ _ k) (Ev.pos (by omega) (Ev.pos (by omega) (Ev.pos (by omega) ?_)))
    rw [he]
    refine Ev.pos (by omega) (Ev.then (impl_numText _ (by omega) (by omega)) (Ev.pos (by simp only [size_append, ba_size, z1]; omega) (Ev.pos (by simp only [size_append, ba_size, z1]; omega) ?_)))
    refine Ev.then (impl_numText _ (by omega) (by omega)) (Ev.pos (by simp only [size_append, ba_size, z1]; omega) (Ev.pos (by simp only [size_append, ba_size, z1]; omega) ?_))
    refine Ev.then (impl_numText _ (by omega) (by omega)) (Ev.pos (by simp only [size_append, ba_size, z1]; omega) (Ev.pos (by simp only [size_append, ba_size, z1]; omega) ?_))
    refine Ev.then (impl_numText _ (by omega) (by omega)) (Ev.pos (by simp only [size_append, ba_size, z1]; omega) (Ev.pos (by rw [List.length_map, List.length_take]; omega) ?_))
    rw [item_eq, w64 (n := (i : Int) + 1) (by omega) (by omega), cast_succ]
    have hx := ih (i + 1) (by omega)
    rw [List.take_succ_eq_append_getElem (by omega), List.map_append] at hx
    exact hx
theorem impl_confText (l : List Db) (hl : l.length ≤ 1048577) (hg : ∀ x ∈ l, x.f0.size ≤ 9223372036854775807) : Ev (fun k => impl_ConfText.f k l) (confText l) := by
  unfold impl_ConfText.f confText
  refine Ev.bind (impl_confOk l hl hg) ?_
  by_cases hc : confFrom l 0 l.length = true
  · rw [if_pos hc]
    obtain ⟨h3, hall⟩ := confFrom_all l l.length 0 (by omega) hc
    refine Ev.pos hc (Ev.eq (impl_ConfText_l0 l h3 hall l.length 0 (by omega)) ?_)
    cases l with
    | nil => simp [confFrom] at hc
    | cons x xs =>
      rw [join_eq, confAcc, if_pos rfl, show (⟨#[]⟩ : ByteArray) = ba [] from rfl, ba_append, List.nil_append, confAcc_eq _ _ _ (by omega)]
  · exact Ev.neg hc (Ev.done (if_neg hc).symm)
end Go.Proofs.YtldfehmaophfjaaDoor.Fn
