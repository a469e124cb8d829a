/- The row of FnExactParseConf under the tables that it lists, and its card. -/
/- Texts of this claim, put together: ParseImpl, Mark, DbMarks, PureFnExactParseConf, CardFnExactParseConf -/
import Derived.Test.YthkepmicdpgbbaaDoorPackFnExactParseConf3
import Derived.Lib.Bytes
import Derived.Test.YthkepmicdpgbbaaDoorRows
import Derived.Test.YthkepmicdpgbbaaDoorCards
import Derived.Test.YthkepmicdpgbbaaDoorTie
import Derived.SevenTiedAt
import Derived.WalkKit
import Derived.ProofKit
import Derived.OpenShut
import Derived.ShutString
import Derived.ChangeOld
import Derived.Below
import Derived.SizedLaws
/- What the program's printed function that reads a configuration comes to: the reference's answer. -/
namespace Go.Proofs.YthkepmicdpgbbaaDoor.Fn
set_option linter.unusedVariables false
set_option linter.unusedSimpArgs false
open Go.RowKit Go.Proofs.YthkepmicdpgbbaaDoorW.PrintWords Go.Proofs.YthkepmicdpgbbaaDoor.P Go.Proofs.YthkepmicdpgbbaaDoor.Base

noncomputable def numAt (ws : List ByteArray) (j : Nat) : Int := if h : j < ws.length then (parseNum ws[j] 20).1 else 0
def wsOf (rest : ByteArray) : List ByteArray := Lib.splitB (⟨#[47]⟩ : ByteArray) 0 (min (4 : Int).toNat (rest.size + 1) - 1) rest
def upd (f : Nat → Int) (i : Nat) (v : Int) (j : Nat) : Int := if j = i then v else f j
noncomputable def implItem (p : ByteArray) : Db :=
  ⟨ba (Lib.cut p.data.toList [58]).1, numAt (wsOf (ba (Lib.cut p.data.toList [58]).2.1)) 0, numAt (wsOf (ba (Lib.cut p.data.toList [58]).2.1)) 1, numAt (wsOf (ba (Lib.cut p.data.toList [58]).2.1)) 2, numAt (wsOf (ba (Lib.cut p.data.toList [58]).2.1)) 3⟩
theorem splitB_sizes (sep : ByteArray) (save : Nat) : ∀ (k : Nat) (s : ByteArray), ∀ p ∈ Lib.splitB sep save k s, p.size ≤ s.size
  | 0, s, p, hp => by
    rw [Lib.splitB_zero, List.mem_singleton] at hp
    rw [hp]; exact Nat.le_refl _
  | k + 1, s, p, hp => by
    unfold Lib.splitB at hp
    split at hp
    · rw [List.mem_singleton] at hp
      rw [hp]; exact Nat.le_refl _
    · rcases List.mem_cons.1 hp with rfl | hp
      · rw [ByteArray.size_extract]; omega
      · have := splitB_sizes sep save k _ p hp
        rw [ByteArray.size_extract] at this
        omega
theorem impl_PC_l1 (s : ByteArray) (out : List Db) (a : ByteArray) (P : List ByteArray) (i : Nat) (hi : i ≤ 1048577) (ho : out.length ≤ 1048577) (ws : List ByteArray) (h4 : ws.length ≤ 4) (r : List Db × Bool) (d : Nat) : ∀ (j : Nat) (f : Nat → Int), j + d = ws.length →
    (∀ g : Nat → Int, (∀ m, g m = if j ≤ m ∧ m < ws.length then numAt ws m else f m) → Ev (fun k => impl_ParseConf.l0 k s (out ++ [⟨a, g 0, g 1, g 2, g 3⟩]) P (P.length : Int) ((i + 1 : Nat) : Int)) r) →
    Ev (fun k => impl_ParseConf.l1 k s out a P (P.length : Int) (i : Int) ws (ws.length : Int) (j : Int) (f 0) (f 1) (f 2) (f 3)) r := by
  induction d with
  | zero =>
    intro j f hj h
    refine Ev.step (fun k => impl_ParseConf.l1.eq_2 _ _ _ _ _ _ _ _ _ _ _ _ _ k) (Ev.neg (by omega) (Ev.pos (by omega) ?_))
    rw [w64 (n := (i : Int) + 1) (by omega) (by omega), cast_succ]
    exact h f (fun m => by rw [if_neg (by omega)])
  | succ d ih =>
    intro j f hj h
    have he : rdOf ByteArray.empty ws (j : Int) = ws[j]'(by omega) := getD_nat ws _ (by omega)
    have hv : numAt ws j = (parseNum (ws[j]'(by omega)) 20).1 := dif_pos (by omega)
    have key := ih (j + 1) (upd f j (numAt ws j)) (by omega) (fun g hg => h g (fun m => by
      rw [hg m]
      unfold upd
      by_cases e : m = j
      · subst e
        rw [if_neg (by omega), if_pos rfl, if_pos (by omega)]
      · rw [if_neg e]
        by_cases c : j + 1 ≤ m ∧ m < ws.length
        · rw [if_pos c, if_pos (by omega)]
        · rw [if_neg c, if_neg (by omega)]))
    rw [← cast_succ] at key
    refine Ev.step (fun k => impl_ParseConf.l1.eq_2 _ _ _ _ _ _ _ _ _ _ _ _ _ k) (Ev.pos (by omega) (Ev.pos (by omega) (Ev.pos (by omega) ?_)))
    rw [he]
    refine Ev.bind (impl_parseNum _ _) (Ev.pos (by omega) ?_)
    rw [← hv, w64 (n := (j : Int) + 1) (by omega) (by omega)]
    rcases (show j = 0 ∨ j = 1 ∨ j = 2 ∨ j = 3 by omega) with rfl | rfl | rfl | rfl
    · exact Ev.pos (by omega) key
    · exact Ev.neg (by omega) (Ev.pos (by omega) key)
    · exact Ev.neg (by omega) (Ev.neg (by omega) (Ev.pos (by omega) key))
    · exact Ev.neg (by omega) (Ev.neg (by omega) (Ev.neg (by omega) (Ev.pos (by omega) key)))
theorem cut_short (p : List UInt8) : (Lib.cut p [58]).1.length ≤ p.length ∧ (Lib.cut p [58]).2.1.length ≤ p.length := by
  unfold Lib.cut
  split
  · simp only [List.length_take, List.length_drop]; omega
  · simp
noncomputable def implFin (s : ByteArray) (out : List Db) : List Db × Bool := if s.toList = ([] : List UInt8) then ([], false) else if (confText out).toList = s.toList then (out, true) else ([], false)
theorem impl_PC_l0 (s : ByteArray) (P : List ByteArray) (hP : P.length ≤ 1048577) (hsz : ∀ p ∈ P, p.size ≤ 1048576) (d : Nat) : ∀ (i : Nat) (out : List Db), i + d = P.length → out.length = i → (∀ x ∈ out, x.f0.size ≤ 9223372036854775807) →
    Ev (fun k => impl_ParseConf.l0 k s out P (P.length : Int) (i : Int)) (implFin s (out ++ (P.drop i).map implItem)) := by
  induction d with
  | zero =>
    intro i out hi ho hg
    rw [List.drop_of_length_le (by omega), List.map_nil, List.append_nil]
    refine Ev.step (fun k => impl_ParseConf.l0.eq_2 _ _ _ _ _ k) (Ev.neg (by omega) ?_)
    by_cases h0 : s.toList = ([] : List UInt8)
    · exact Ev.pos h0 (Ev.done (if_pos h0).symm)
    · refine Ev.neg h0 (Ev.bind (impl_confText out (by omega) hg) ?_)
      by_cases h1 : (confText out).toList = s.toList
      · exact Ev.pos h1 (Ev.done ((if_neg h0).trans (if_pos h1)).symm)
      · exact Ev.neg h1 (Ev.done ((if_neg h0).trans (if_neg h1)).symm)
  | succ d ih =>
    intro i out hi ho hg
    have hlt : i < P.length := by omega
    have he : rdOf ByteArray.empty P (i : Int) = P[i] := getD_nat P _ hlt
    have hpz := hsz _ (List.getElem_mem hlt)
    have hL : (P[i]).data.toList.length = (P[i]).size := rfl
    obtain ⟨c1, c2⟩ := cut_short (P[i]).data.toList
    refine Ev.step (fun k => impl_ParseConf.l0.eq_2 _ _ _ _ _ k) (Ev.pos (by omega) (Ev.pos (by omega) (Ev.pos (by omega) ?_)))
    rw [he]
    refine Ev.then (a := (ba (Lib.cut (P[i]).data.toList [58]).1, ba (Lib.cut (P[i]).data.toList [58]).2.1, (Lib.cut (P[i]).data.toList [58]).2.2)) ?_ ?_
    · unfold strings_Cut.f
      rw [if_pos (by omega)]
      rfl
    have hws : (wsOf (ba (Lib.cut (P[i]).data.toList [58]).2.1)).length ≤ 4 := by
      have := Lib.splitB_length_le (⟨#[47]⟩ : ByteArray) 0 (min (4 : Int).toNat ((ba (Lib.cut (P[i]).data.toList [58]).2.1).size + 1) - 1) (ba (Lib.cut (P[i]).data.toList [58]).2.1)
      have h4 : (4 : Int).toNat = 4 := rfl
      unfold wsOf
      omega
    refine Ev.then (a := wsOf (ba (Lib.cut (P[i]).data.toList [58]).2.1)) ?_ ?_
    · unfold strings_SplitN.f
      rw [if_pos ⟨by show (ba _).size < _; rw [ba_size]; omega, by decide, by decide, by decide⟩]
      rfl
    refine impl_PC_l1 s out _ P i (by omega) (by omega) _ hws _ _ 0 (fun _ => 0) (Nat.zero_add _) (fun g hg' => ?_)
    have hn : ∀ m, g m = numAt (wsOf (ba (Lib.cut (P[i]).data.toList [58]).2.1)) m := by
      intro m
      rw [hg' m]
      by_cases c : 0 ≤ m ∧ m < (wsOf (ba (Lib.cut (P[i]).data.toList [58]).2.1)).length
      · rw [if_pos c]
      · rw [if_neg c, numAt, dif_neg (by omega)]
    rw [hn, hn, hn, hn]
    refine Ev.eq (ih (i + 1) _ (by omega) (by simp [ho]) (fun y hy => ?_)) ?_
    · rcases List.mem_append.1 hy with hy | hy
      · exact hg y hy
      · rw [List.mem_singleton] at hy
        rw [hy]
        show (ba _).size ≤ _
        rw [ba_size]; omega
    · rw [List.drop_eq_getElem_cons hlt, List.map_cons, List.append_assoc]
      rfl
/-! ### what was written is read again -/
theorem map_ba (ws : List ByteArray) : (ws.map (·.data.toList)).map ba = ws := by
  rw [List.map_map]
  refine (List.map_congr_left (g := id) fun x _ => ?_).trans (List.map_id _)
  exact (ba_of x).symm
theorem num_small {n : Int} (h0 : 0 ≤ n) (h1 : n ≤ 20) : (parseNum (ba (Lib.itoa n)) 20).1 = n := by
  obtain ⟨m, rfl⟩ := Int.eq_ofNat_of_zero_le h0
  rw [parse_num m 20 h1 (by omega)]
theorem implItem_item {x : Db} (h : dbOk x = true) (p : ByteArray) (hp : p.data.toList = itemL x) : implItem p = x := by
  obtain ⟨hn, h1, h2, h3, h4⟩ := dbOk_of h
  have e1 := itoa_two x.f1 (by omega) (by omega)
  have e2 := itoa_two x.f2 (by omega) (by omega)
  have e3 := itoa_two x.f3 (by omega) (by omega)
  have e4 := itoa_two x.f4 (by omega) (by omega)
  have hc : Lib.cut p.data.toList [58] = (x.f0.data.toList, restL x, true) := by
    rw [hp, item_rest, cut_join 58 _ _ (name_free h 58 (by decide))]
  have hlen : 7 ≤ (restL x).length := by
    simp only [restL, joinA, List.flatMap_cons, List.flatMap_nil, List.length_append, List.length_cons, List.append_nil]
    omega
  have hw : wsOf (ba (restL x)) = [ba (Lib.itoa x.f1), ba (Lib.itoa x.f2), ba (Lib.itoa x.f3), ba (Lib.itoa x.f4)] := by
    have hd := Lib.splitB_data (⟨#[47]⟩ : ByteArray) 0 (min (4 : Int).toNat ((ba (restL x)).size + 1) - 1) (ba (restL x))
    rw [ba_data, show (min (4 : Int).toNat ((ba (restL x)).size + 1) - 1) = [Lib.itoa x.f2, Lib.itoa x.f3, Lib.itoa x.f4].length by rw [ba_size]; have h4 : (4 : Int).toNat = 4 := rfl; simp only [List.length_cons, List.length_nil]; omega] at hd
    have hk : Lib.splitK [47] 0 [Lib.itoa x.f2, Lib.itoa x.f3, Lib.itoa x.f4].length (restL x) = [Lib.itoa x.f1, Lib.itoa x.f2, Lib.itoa x.f3, Lib.itoa x.f4] := by
      refine splitK_join 47 [Lib.itoa x.f2, Lib.itoa x.f3, Lib.itoa x.f4] _ (num_free _ (by omega) 47 (.inl (by decide))) ?_
      intro y hy
      simp only [List.mem_cons, List.not_mem_nil, or_false] at hy
      rcases hy with rfl | rfl | rfl
      · exact num_free _ (by omega) 47 (.inl (by decide))
      · exact num_free _ (by omega) 47 (.inl (by decide))
      · exact num_free _ (by omega) 47 (.inl (by decide))
    have hd' := hd.trans hk
    have e := congrArg (List.map ba) hd'
    rw [map_ba] at e
    unfold wsOf
    rw [show (min (4 : Int).toNat ((ba (restL x)).size + 1) - 1) = [Lib.itoa x.f2, Lib.itoa x.f3, Lib.itoa x.f4].length by rw [ba_size]; have h4 : (4 : Int).toNat = 4 := rfl; simp only [List.length_cons, List.length_nil]; omega]
    exact e
  unfold implItem
  rw [hc]
  simp only
  rw [hw]
  have n0 : numAt [ba (Lib.itoa x.f1), ba (Lib.itoa x.f2), ba (Lib.itoa x.f3), ba (Lib.itoa x.f4)] 0 = x.f1 := (dif_pos (by simp)).trans (num_small (n := x.f1) (by omega) (by omega))
  have n1 : numAt [ba (Lib.itoa x.f1), ba (Lib.itoa x.f2), ba (Lib.itoa x.f3), ba (Lib.itoa x.f4)] 1 = x.f2 := (dif_pos (by simp)).trans (num_small (n := x.f2) (by omega) (by omega))
  have n2 : numAt [ba (Lib.itoa x.f1), ba (Lib.itoa x.f2), ba (Lib.itoa x.f3), ba (Lib.itoa x.f4)] 2 = x.f3 := (dif_pos (by simp)).trans (num_small (n := x.f3) (by omega) (by omega))
  have n3 : numAt [ba (Lib.itoa x.f1), ba (Lib.itoa x.f2), ba (Lib.itoa x.f3), ba (Lib.itoa x.f4)] 3 = x.f4 := (dif_pos (by simp)).trans (num_small (n := x.f4) (by omega) (by omega))
  rw [n0, n1, n2, n3, ← ba_of]
def piecesOf (s : ByteArray) : List ByteArray := Lib.splitB (⟨#[59]⟩ : ByteArray) 0 (Lib.countB s (⟨#[59]⟩ : ByteArray)) s
theorem pieces_text {l : List Db} (h : confFrom l 0 l.length = true) : (piecesOf (confText l)).map implItem = l := by
  obtain ⟨x, xs, rfl, _, hall⟩ := conf_cons h
  have hf := item_free (hall x (List.mem_cons_self ..))
  have hfs : ∀ y ∈ xs.map itemL, (59 : UInt8) ∉ y := by
    intro y hy
    obtain ⟨z, hz, rfl⟩ := List.mem_map.1 hy
    exact item_free (hall z (List.mem_cons_of_mem _ hz))
  have hcnt : Lib.countB (confText (x :: xs)) (⟨#[59]⟩ : ByteArray) = (xs.map itemL).length := by
    show Lib.count (confText (x :: xs)).data.toList [59] = _
    rw [confText_join x xs h, ba_data, Lib.count_one, count_join 59 _ _ hf hfs]
  have hd := Lib.splitB_data (⟨#[59]⟩ : ByteArray) 0 (Lib.countB (confText (x :: xs)) (⟨#[59]⟩ : ByteArray)) (confText (x :: xs))
  have hk : (piecesOf (confText (x :: xs))).map (·.data.toList) = (x :: xs).map itemL := by
    refine hd.trans ?_
    rw [hcnt, show (⟨#[59]⟩ : ByteArray).data.toList = [59] from rfl]
    conv => lhs; rw [confText_join x xs h, ba_data]
    exact splitK_join 59 _ _ hf hfs
  have hlen : (piecesOf (confText (x :: xs))).length = (x :: xs).length := by
    have := congrArg List.length hk
    simpa using this
  apply List.ext_getElem
  · rw [List.length_map]; exact hlen
  · intro j h1 h2
    rw [List.getElem_map]
    refine implItem_item (hall _ (List.getElem_mem h2)) _ ?_
    have hj : j < (piecesOf (confText (x :: xs))).length := by rw [hlen]; exact h2
    have e := congrArg (fun L : List (List UInt8) => L[j]?) hk
    simp only [List.getElem?_map, List.getElem?_eq_getElem hj, List.getElem?_eq_getElem h2, Option.map_some, Option.some.injEq] at e
    exact e
theorem impl_parseConf (s : ByteArray) (hs : s.size ≤ 1048576) : Ev (fun k => impl_ParseConf.f k s) (parseConf s) := by
  unfold impl_ParseConf.f
  have hcl := Lib.countB_le (⟨#[59]⟩ : ByteArray) (by decide) s.size s (Nat.le_refl _)
  have hpl : (piecesOf s).length ≤ 1048577 := by
    have := Lib.splitB_all (⟨#[59]⟩ : ByteArray) (by decide) 0 _ s rfl
    unfold piecesOf
    omega
  refine Ev.then (a := piecesOf s) ?_ ?_
  · unfold strings_Split.f
    rw [if_pos ⟨by omega, by decide⟩]
    rfl
  refine Ev.eq (impl_PC_l0 s (piecesOf s) hpl (fun p hp => Nat.le_trans (splitB_sizes _ _ _ _ p hp) hs) (piecesOf s).length 0 [] (by omega) rfl (fun x hx => by cases hx)) ?_
  rw [List.drop_zero, List.nil_append]
  unfold implFin
  rcases parseConf_back s with h | ⟨l, hl, hc, rfl⟩
  · rw [h]
    split
    · rfl
    · rename_i h0
      split
      · rename_i h1
        have e := text_inj h1
        by_cases hc : confFrom ((piecesOf s).map implItem) 0 ((piecesOf s).map implItem).length = true
        · have := parseConf_text hc
          rw [e, h] at this
          exact absurd (congrArg Prod.snd this) (by simp)
        · exact absurd (by rw [← e, confText, if_neg hc]; exact text_nil.2 rfl) h0
      · rfl
  · rw [hl, pieces_text hc]
    have hsz := confText_size hc
    rw [if_neg (fun e => by rw [text_nil.1 e] at hsz; revert hsz; decide), if_pos rfl]
end Go.Proofs.YthkepmicdpgbbaaDoor.Fn

/- What the laws' own texts that mark come to. No memory is in sight here. -/
namespace Go.Proofs.YthkepmicdpgbbaaDoor.Fn
set_option linter.unusedVariables false
set_option linter.unusedSimpArgs false
open Go.RowKit Go.Proofs.YthkepmicdpgbbaaDoorW.PrintWords Go.Proofs.YthkepmicdpgbbaaDoor.P Go.Proofs.YthkepmicdpgbbaaDoor.Base

theorem markText_l0 (n : Nat) : ∀ (x : Int) (s : ByteArray), x.toNat ≤ n → 0 ≤ x → (s.size : Int) + x ≤ 4611686018427387904 → ∃ t, Ev (fun k => laws_markText.l0 k x s) t := by
  induction n with
  | zero =>
    intro x s hn h0 hs
    exact ⟨_, Ev.step (fun k => laws_markText.l0.eq_2 _ _ k) (Ev.neg (by omega) (Ev.pos (by omega) (Ev.done rfl)))⟩
  | succ n ih =>
    intro x s hn h0 hs
    by_cases hx : x > 0
    · have hd : Int.tdiv x 10 = x / 10 := Int.tdiv_eq_ediv_of_nonneg h0
      have hsz : ((strOfNums [(wrap64 (48 + Int.tmod x 10)) % 256] ++ s).size : Int) = 1 + s.size := by rw [size_append, size_strOfNums]; simp
      obtain ⟨t, e⟩ := ih (x / 10) (strOfNums [(wrap64 (48 + Int.tmod x 10)) % 256] ++ s) (by omega) (by omega) (by omega)
      refine ⟨t, Ev.step (fun k => laws_markText.l0.eq_2 _ _ k) (Ev.pos hx (Ev.then rfl (Ev.pos ?_ ?_)))⟩
      · rw [size_strOfNums]; simp; omega
      · rw [hd, w64 (n := x / 10) (by omega) (by omega)]
        exact e
    · exact ⟨_, Ev.step (fun k => laws_markText.l0.eq_2 _ _ k) (Ev.neg hx (Ev.pos (by omega) (Ev.done rfl)))⟩
noncomputable def markT (x : Int) : ByteArray := @dite _ (∃ t, Ev (fun k => laws_markText.f k x) t) (Classical.propDecidable _) (fun h => h.choose) (fun _ => ⟨#[]⟩)
theorem markText (x : Int) (h : x ≤ 4611686018427387904) : Ev (fun k => laws_markText.f k x) (markT x) := by
  have ht : ∃ t, Ev (fun k => laws_markText.f k x) t := by
    unfold laws_markText.f
    by_cases hx : x ≤ 0
    · exact ⟨_, Ev.pos hx (Ev.done rfl)⟩
    · obtain ⟨t, e⟩ := markText_l0 x.toNat x ⟨#[]⟩ (Nat.le_refl _) (by omega) (by rw [show (⟨#[]⟩ : ByteArray).size = 0 from rfl]; omega)
      exact ⟨t, Ev.neg hx e⟩
  unfold markT
  rw [dif_pos ht]
  exact ht.choose_spec
end Go.Proofs.YthkepmicdpgbbaaDoor.Fn

/- What the laws' own marks on databases come to. -/
namespace Go.Proofs.YthkepmicdpgbbaaDoor.Fn
set_option linter.unusedVariables false
set_option linter.unusedSimpArgs false
open Go.RowKit Go.Proofs.YthkepmicdpgbbaaDoorW.PrintWords Go.Proofs.YthkepmicdpgbbaaDoor.P Go.Proofs.YthkepmicdpgbbaaDoor.Base

noncomputable def markD (c : Int) : Nat → List Db
  | 0 => []
  | n + 1 => ⟨markT c, c + 1, c + 2, c + 3, c + 4⟩ :: markD (c + 5) n
theorem markD_length (c : Int) (n : Nat) : (markD c n).length = n := by
  induction n generalizing c with
  | zero => rfl
  | succ n ih => simp [markD, ih]
theorem markD_get (c : Int) (n i : Nat) (h : i < n) : (markD c n)[i]'(by rw [markD_length]; exact h) = ⟨markT (c + 5 * i), c + 5 * i + 1, c + 5 * i + 2, c + 5 * i + 3, c + 5 * i + 4⟩ := by
  induction n generalizing c i with
  | zero => omega
  | succ n ih =>
    cases i with
    | zero => simp [markD]
    | succ i =>
      simp only [markD, List.getElem_cons_succ]
      rw [ih (c + 5) i (by omega), show c + 5 + 5 * (i : Int) = c + 5 * ((i + 1 : Nat) : Int) by omega]
theorem markDbS_l0 (n : Nat) (c : Int) (hc : 0 ≤ c) (hn : c + 5 * n ≤ 4611686018427387900) (d : Nat) : ∀ (i : Nat) (o : List Db), i + d = n → o.length = n → o.take i = (markD c n).take i → Ev (fun k => laws_markDbS.l0 k o (c + 5 * i) (i : Int)) (c + 5 * n, markD c n) := by
  induction d with
  | zero =>
    intro i o hi ho ht
    refine Ev.step (fun k => laws_markDbS.l0.eq_2 _ _ _ k) (Ev.neg (by omega) (Ev.done ?_))
    rw [take_all (by rw [markD_length]; exact ho) (by rw [markD_length]; omega) ht, show i = n by omega]
  | succ d ih =>
    intro i o hi ho ht
    refine Ev.step (fun k => laws_markDbS.l0.eq_2 _ _ _ k) (Ev.pos (by omega) (Ev.bind (markText _ (by omega)) (Ev.pos (by omega) (Ev.then rfl (Ev.then rfl (Ev.then rfl (Ev.then rfl ?_)))))))
    have hol : i < o.length := by omega
    rw [w64 (n := c + 5 * i + 1) (by omega) (by omega), w64 (n := c + 5 * i + 1 + 1) (by omega) (by omega), w64 (n := c + 5 * i + 1 + 1 + 1) (by omega) (by omega), w64 (n := c + 5 * i + 1 + 1 + 1 + 1) (by omega) (by omega), w64 (n := c + 5 * i + 1 + 1 + 1 + 1 + 1) (by omega) (by omega), w64 (n := (i : Int) + 1) (by omega) (by omega), cast_succ]
    have he : ∀ x : Db, rd_T55 (o.set i x) (i : Int) = x := fun x => getD_set o z55 hol x
    simp only [Int.toNat_natCast, List.set_set, he]
    rw [show c + 5 * (i : Int) + 1 + 1 + 1 + 1 + 1 = c + 5 * ((i + 1 : Nat) : Int) by omega]
    refine ih (i + 1) _ (by omega) (by rw [List.length_set]; exact ho) (set_take (by rw [markD_length]; exact ho) (by rw [markD_length]; omega) ht ?_)
    rw [markD_get c n i (by omega), show c + 5 * (i : Int) + 1 + 1 = c + 5 * i + 2 by omega, show c + 5 * (i : Int) + 2 + 1 = c + 5 * i + 3 by omega, show c + 5 * (i : Int) + 3 + 1 = c + 5 * i + 4 by omega]
theorem markDbS (l : List Db) (hl : l.length ≤ 1048576) : Ev (fun k => laws_markDbS.f k l 1) (1 + 5 * l.length, markD 1 l.length) := by
  unfold laws_markDbS.f
  have h := markDbS_l0 l.length 1 (by omega) (by omega) l.length 0 l (by omega) rfl (by simp)
  rwa [show (1 : Int) + 5 * ((0 : Nat) : Int) = 1 by omega] at h
theorem heldDbS_l0 (n : Nat) (c : Int) (hc : 0 ≤ c) (hn : c + 5 * n ≤ 4611686018427387900) (d : Nat) : ∀ (i : Nat), i + d = n → Ev (fun k => laws_heldDbS.l0 k (markD c n) (c + 5 * i) (i : Int)) (c + 5 * n) := by
  induction d with
  | zero =>
    intro i hi
    refine Ev.step (fun k => laws_heldDbS.l0.eq_2 _ _ _ k) (Ev.neg (by rw [markD_length]; omega) (Ev.done ?_))
    rw [show i = n by omega]
  | succ d ih =>
    intro i hi
    have he : rd_T55 (markD c n) (i : Int) = ⟨markT (c + 5 * i), c + 5 * i + 1, c + 5 * i + 2, c + 5 * i + 3, c + 5 * i + 4⟩ := by
      unfold rd_T55
      rw [getD_nat _ _ (by rw [markD_length]; omega), markD_get c n i (by omega)]
    refine Ev.step (fun k => laws_heldDbS.l0.eq_2 _ _ _ k) (Ev.pos (by rw [markD_length]; omega) (Ev.pos (by omega) (Ev.bind (markText _ (by omega)) ?_)))
    rw [he, w64 (n := c + 5 * i + 1) (by omega) (by omega), w64 (n := c + 5 * i + 1 + 1) (by omega) (by omega), w64 (n := c + 5 * i + 1 + 1 + 1) (by omega) (by omega), w64 (n := c + 5 * i + 1 + 1 + 1 + 1) (by omega) (by omega), w64 (n := c + 5 * i + 1 + 1 + 1 + 1 + 1) (by omega) (by omega), w64 (n := (i : Int) + 1) (by omega) (by omega), cast_succ]
    refine Ev.pos rfl (Ev.pos rfl (Ev.pos (by simp only []; omega) (Ev.pos (by simp only []; omega) (Ev.pos (by simp only []; omega) ?_))))
    rw [show c + 5 * (i : Int) + 1 + 1 + 1 + 1 + 1 = c + 5 * ((i + 1 : Nat) : Int) by omega]
    exact ih (i + 1) (by omega)
theorem heldDbS (n : Nat) (hn : n ≤ 1048576) : Ev (fun k => laws_heldDbS.f k (markD 1 n) 1) (1 + 5 * n) := by
  unfold laws_heldDbS.f
  have h := heldDbS_l0 n 1 (by omega) (by omega) n 0 (by omega)
  rwa [show (1 : Int) + 5 * ((0 : Nat) : Int) = 1 by omega] at h
end Go.Proofs.YthkepmicdpgbbaaDoor.Fn

/- The pure statement of the law FnExactParseConf: the program's ParseConf and the reference's come to one answer, and nothing is shared. -/
namespace Go.Proofs.YthkepmicdpgbbaaDoor.Pure
set_option linter.unusedVariables false
set_option linter.unusedSimpArgs false
open Go.RowKit Go.Proofs.YthkepmicdpgbbaaDoorW.PrintWords Go.Proofs.YthkepmicdpgbbaaDoor.P Go.Proofs.YthkepmicdpgbbaaDoor.Base Go.Proofs.YthkepmicdpgbbaaDoor.Fn
theorem parseConf_length (s : ByteArray) : (parseConf s).1.length ≤ 1048576 := by
  rcases parseConf_back s with h | ⟨l, hl, hc, _⟩
  · rw [h]; simp
  · rw [hl]
    obtain ⟨h3, _⟩ := confFrom_all l l.length 0 (by omega) hc
    show l.length ≤ _
    omega
theorem FnExactParseConf : laws_FnExactParseConf.Pure := by
  intro s hs
  refine Ev.rounds ?_
  unfold laws_FnExactParseConf.f
  by_cases h : (s.size : Int) > 1048576
  · exact Ev.pos h (Ev.done rfl)
  have hl := parseConf_length s
  have hi := impl_parseConf s (by omega)
  refine Ev.neg h (Ev.bind (spec_parseConf s (by omega)) (Ev.bind hi (Ev.bind (eqDbS _ _ hl) (Ev.pos (eqB_same _) ?_))))
  refine Ev.step (fun k => laws_FnExactParseConf.j0.eq_2 _ _ _ _ _ k) (Ev.neg (by simp) (Ev.bind (markDbS _ hl) (Ev.bind (heldDbS _ hl) (Ev.neg (by omega) (Ev.pos rfl (Ev.bind hi (Ev.bind (eqDbS _ _ hl) (Ev.pos (eqB_same _) ?_))))))))
  exact Ev.step (fun k => laws_FnExactParseConf.j1.eq_2 _ _ _ k) (Ev.neg (by simp) (Ev.bind (heldDbS _ hl) (Ev.neg (by omega) (Ev.pos rfl (Ev.done rfl)))))
end Go.Proofs.YthkepmicdpgbbaaDoor.Pure

/- The row of FnExactParseConf under the tables that it lists, and its card. -/
namespace Go.Proofs.YthkepmicdpgbbaaDoor.fnExactParseConf
open Go.ChangeShapes Go.WideShapes Go.ChangeAt Go.RowKit
open Go.ChangeMaps (open_string shut_string)
set_option linter.unusedVariables false
theorem own : ownKnob Tryd.prog.godebug = none := by kernel_rfl
theorem laid_met (os : Os) (args : Array Value) : laidMetH Tryd.prog Rows.fnExactParseConfRow.laid ((World.laidAll Tryd.prog os Rows.fnExactParseConfRow.laid).forCall (fun _ _ => 0) ⟨#[], args, []⟩).memory := by
  rw [MakeChecks.laidMetH_plain _ _ _ (by kernel_rfl)]
  exact laidMet_laidAll args (by kernel_rfl) (by kernel_rfl)
set_option maxRecDepth 100000 in
theorem lifted (os : Os) (started : os.Started) (H : Type) (enc : TypeId × Value → H) :
    ReturnsInHanded {} Tryd.checked os 3 .any (fun w args => (Rows.fnExactParseConfSpec.pre enc Tryd.prog Tryd.f3 Rows.fnExactParseConfRow.domain false w args ∧ laidMetH Tryd.prog Rows.fnExactParseConfRow.laid w) ∧ sizedMet enc Tryd.prog Tryd.f3 (OpenSpec.ofChange Rows.fnExactParseConfSpec) false w args) (Rows.fnExactParseConfSpec.post enc Tryd.prog Tryd.f3 false true false false) := by
  refine Card.returns_both (C := Tryd.checked) (X := fun w _ => laidMetH Tryd.prog Rows.fnExactParseConfRow.laid w) (fun _ _ _ hh h => h.of_heap hh) own started (by kernel_rfl) Tryd.func3
    (ChangeSpec.witness_at (enc := enc) (C := Tryd.checked) (os := os) (X := fun w _ => laidMetH Tryd.prog Rows.fnExactParseConfRow.laid w) false (World.laidAll Tryd.prog os Rows.fnExactParseConfRow.laid) #[.string ByteArray.empty] 8 (World.laidAll_os _ _ _) (by kernel_rfl) (by kernel_rfl) (by kernel_rfl) (by kernel_rfl) (by kernel_rfl) (laid_met os _)) ?_
  intro W base args ds gs before hval0 hW hcnd hsz0 hL hShape _
  have hGW : Go.Proofs.YthkepmicdpgbbaaDoor.P.GW W := Card.gw hL (by kernel_rfl) (by kernel_rfl) hShape
  have hsz : (DataW.weightsEach Tryd.prog (Tryd.f3.params.toList ++ Rows.fnExactParseConfSpec.plain.varTypes Tryd.prog) (ds ++ gs)).all (· ≤ reachBytes) = true := hsz0
  have hval : ∀ (j : Nat) t v, Tryd.f3.params[j]? = some t → args[j]? = some v → Value.okWide Tryd.prog W .any base t v := hval0
  have hW' := hW
  obtain ⟨p, q, hA0, hV, rfl, hfz, hnd⟩ := hW
  have hA : DataW.TrodAll enc Tryd.prog W 0 (fun _ => true) true Tryd.f3.params.toList args.toList ds p := hA0
  rw [Tryd.params3] at hA hval hsz
  obtain ⟨v0, vs0, d0, ds0, p0, q0, hargs, rfl, rfl, h0, r0⟩ := trodAll_cons hA
  obtain ⟨rfl, rfl, rfl⟩ := trodAll_nil r0
  obtain rfl : args = #[v0] := by cases args; simp_all
  obtain ⟨rfl, rfl⟩ := trodVars_none hV
  obtain ⟨a0, rfl, rfl, rfl, y0⟩ := open_string Tryd.underlying9 (hval 0 9 v0 rfl rfl) h0
  have w0 : a0.size ≤ 140737488351232 := by
    have z := sized_string hsz (j := 0) (t := 9) rfl rfl
    rw [Array.length_toList] at z
    exact z
  clear hA0 hval0 hsz0 hsz
  refine (P.laws_FnExactParseConf.walk Pure.FnExactParseConf a0 W hGW w0).mono fun e W' ⟨he, bel⟩ => ?_
  subst he
  exact ⟨_, rfl, _, _, _, [], _, [], hW', trodAll_mk1 (shut_bool Tryd.underlying4 _), (trodAll_cons_mk (shut_string Tryd.underlying9 y0) trodAll_mk0), rfl, bel.frame _, fun h => by cases h⟩
theorem over : Rows.fnExactParseConfRow.holds Tryd.pinned (OpenSpec.ofChange Rows.fnExactParseConfSpec) :=
  OpenClaim.holds_of_wide 3 Tryd.f3 rfl rfl rfl rfl rfl rfl rfl ⟨rfl, rfl, rfl, rfl, rfl⟩ rfl rfl rfl rfl rfl (by kernel_rfl) Tryd.func3 (by kernel_rfl)
    (of_decide_eq_true (by kernel_rfl)) (by unfold Func.isWrapper; first | (rw [if_pos (by decide +kernel)]; kernel_rfl) | (rw [if_neg (by decide +kernel)]; exact ⟨rfl, rfl⟩))
    (fun os started H enc _ => lifted os started H enc)
theorem proved : Rows.FnExactParseConfSaid := over
theorem card : Rows.FnExactParseConfCardSaid :=
  Claim7.holds_tied_plain_at .later [] [.data, .data, .data, .data, .pinned] true (true, "2bf4e307c9a18cbf5060393fa9f3b2bac9b7f5cccf8076f37bed0e9f1a4a7918") false
    over (fun _ h => by cases h) (by kernel_rfl) (fun _ h => by cases h) fnExactParseConf_row_tie rfl ⟨rfl, rfl⟩ (by kernel_rfl) rfl
    (fun f fn hf hfn => by
      obtain rfl : f = 3 := Option.some.inj ((show Tryd.prog.funcNamed Rows.fnExactParseConfRow.func = some 3 by kernel_rfl).symm.trans hf) |>.symm
      obtain rfl : fn = Tryd.f3 := (Option.some.inj (Tryd.func3.symm.trans hfn)).symm
      refine ⟨by kernel_rfl, fun j t ht => ?_⟩
      have hall : Tryd.f3.params.toList.all (fun t => !(Tryd.prog.wantsStandIn t)) = true := by kernel_rfl
      have hm : t ∈ Tryd.f3.params.toList := by
        rw [← Array.getElem?_toList] at ht
        exact List.mem_of_getElem? ht
      have h3 : Tryd.prog.wantsStandIn t = false := by simpa using List.all_eq_true.1 hall t hm
      exact h3)
    (by kernel_rfl)
#print axioms card
end Go.Proofs.YthkepmicdpgbbaaDoor.fnExactParseConf
namespace Go.Proofs.YthkepmicdpgbbaaDoor
/-- The card, under a short name, for the claim. -/
theorem fnExactParseConf_holds : Rows.FnExactParseConfCardSaid := fnExactParseConf.card
end Go.Proofs.YthkepmicdpgbbaaDoor
