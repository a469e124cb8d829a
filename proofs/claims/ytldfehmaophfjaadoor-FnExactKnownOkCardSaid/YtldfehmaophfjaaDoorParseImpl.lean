/- What the program's printed function that reads a configuration comes to: the reference's answer. -/
import Derived.Test.YtldfehmaophfjaaDoorPxd
import Derived.Test.YtldfehmaophfjaaDoorParseConf
namespace Go.Proofs.YtldfehmaophfjaaDoor.Fn
set_option linter.unusedVariables false
set_option linter.unusedSimpArgs false
open Go.RowKit Go.Proofs.YtldfehmaophfjaaDoorW.PrintWords Go.Proofs.YtldfehmaophfjaaDoor.P Go.Proofs.YtldfehmaophfjaaDoor.Base

noncomputable def numAt (ws : List ByteArray) (j : Nat) : Int := if h : j < ws.length then (parseNum ws[j] 20).1 else 0
def wsOf (rest : ByteArray) : List ByteArray := Lib.splitB (⟨#[47]⟩ : ByteArray) 0 (min (4 : Int).toNat (rest.size + 1) - 1) rest
def upd (f : Nat → Int) (i : Nat) (v : Int) (j : Nat) : Int := if j = i then v else f j
noncomputable def implItem (p : ByteArray) : Db :=
  ⟨ba (Lib.cut p.data.toList [58]).1, numAt (wsOf (ba (Lib.cut p.data.toList [58]).2.1)) 0, numAt (wsOf (ba (Lib.cut p.data.toList [58]).2.1)) 1, numAt (wsOf (ba (Lib.cut p.data.toList [58]).2.1)) 2, numAt (wsOf (ba (Lib.cut p.data.toList [58]).2.1)) 3⟩
theorem splitB_sizes (sep : ByteArray) (save : Nat) : ∀ (k : Nat) (s : ByteArray), ∀ p ∈ Lib.splitB sep save k s, p.size ≤ s.size
  | 0, s, p, hp => by
    rw [Lib.splitB_zero, List.mem_singleton] at hp
    rw [hp]; exact Nat.le_refl _
  | k + 1, s, p, hp => by
    unfold Lib.splitB at hp
    split at hp
    · rw [List.mem_singleton] at hp
      rw [hp]; exact Nat.le_refl _
    · rcases List.mem_cons.1 hp with rfl | hp
      · rw [ByteArray.size_extract]; omega
      · have := splitB_sizes sep save k _ p hp
        rw [ByteArray.size_extract] at this
        omega
theorem impl_PC_l1 (s : ByteArray) (out : List Db) (a : ByteArray) (P : List ByteArray) (i : Nat) (hi : i ≤ 1048577) (ho : out.length ≤ 1048577) (ws : List ByteArray) (h4 : ws.length ≤ 4) (r : List Db × Bool) (d : Nat) : ∀ (j : Nat) (f : Nat → Int), j + d = ws.length →
    (∀ g : Nat → Int, (∀ m, g m = if j ≤ m ∧ m < ws.length then numAt ws m else f m) → Ev (fun k => impl_ParseConf.l0 k s (out ++ [⟨a, g 0, g 1, g 2, g 3⟩]) P (P.length : Int) ((i + 1 : Nat) : Int)) r) →
    Ev (fun k => impl_ParseConf.l1 k s out a P (P.length : Int) (i : Int) ws (ws.length : Int) (j : Int) (f 0) (f 1) (f 2) (f 3)) r := by
  induction d with
  | zero =>
    intro j f hj h
    refine Ev.step (fun k => impl_ParseConf.l1.eq_2 _ _ _ _ _ _ _ _ _ _ _ _ _ k) (Ev.neg (by omega) (Ev.pos (by omega) ?_))
    rw [w64 (n := (i : Int) + 1) (by omega) (by omega), cast_succ]
    exact h f (fun m => by rw [if_neg (by omega)])
  | succ d ih =>
    intro j f hj h
    have he : rdOf ByteArray.empty ws (j : Int) = ws[j]'(by omega) := getD_nat ws _ (by omega)
    have hv : numAt ws j = (parseNum (ws[j]'(by omega)) 20).1 := dif_pos (by omega)
    have key := ih (j + 1) (upd f j (numAt ws j)) (by omega) (fun g hg => h g (fun m => by
      rw [hg m]
      unfold upd
      by_cases e : m = j
      · subst e
        rw [if_neg (by omega), if_pos rfl, if_pos (by omega)]
      · rw [if_neg e]
        by_cases c : j + 1 ≤ m ∧ m < ws.length
        · rw [if_pos c, if_pos (by omega)]
        · rw [if_neg c, if_neg (by omega)]))
    rw [← cast_succ] at key
    refine Ev.step (fun k => impl_ParseConf.l1.eq_2 _ _ _ _ _ _ _ _ _ _ _ _ _ k) (Ev.pos (by omega) (Ev.pos (by omega) (Ev.pos (by omega) ?_)))
    rw [he]
    refine Ev.bind (impl_parseNum _ _) (Ev.pos (by omega) ?_)
    rw [← hv, w64 (n := (j : Int) + 1) (by omega) (by omega)]
    rcases (show j = 0 ∨ j = 1 ∨ j = 2 ∨ j = 3 by omega) with rfl | rfl | rfl | rfl
    · exact Ev.pos (by omega) key
    · exact Ev.neg (by omega) (Ev.pos (by omega) key)
    · exact Ev.neg (by omega) (Ev.neg (by omega) (Ev.pos (by omega) key))
    · exact Ev.neg (by omega) (Ev.neg (by omega) (Ev.neg (by omega) (Ev.pos (by omega) key)))
theorem cut_short (p : List UInt8) : (Lib.cut p [58]).1.length ≤ p.length ∧ (Lib.cut p [58]).2.1.length ≤ p.length := by
  unfold Lib.cut
  split
  · simp only [List.length_take, List.length_drop]; omega
  · simp
noncomputable def implFin (s : ByteArray) (out : List Db) : List Db × Bool := if s.toList = ([] : List UInt8) then ([], false) else if (confText out).toList = s.toList then (out, true) else ([], false)
theorem impl_PC_l0 (s : ByteArray) (P : List ByteArray) (hP : P.length ≤ 1048577) (hsz : ∀ p ∈ P, p.size ≤ 1048576) (d : Nat) : ∀ (i : Nat) (out : List Db), i + d = P.length → out.length = i → (∀ x ∈ out, x.f0.size ≤ 9223372036854775807) →
    Ev (fun k => impl_ParseConf.l0 k s out P (P.length : Int) (i : Int)) (implFin s (out ++ (P.drop i).map implItem)) := by
  induction d with
  | zero =>
    intro i out hi ho hg
    rw [List.drop_of_length_le (by omega), List.map_nil, List.append_nil]
    refine Ev.step (fun k => impl_ParseConf.l0.eq_2 _ _ _ _ _ k) (Ev.neg (by omega) ?_)
    by_cases h0 : s.toList = ([] : List UInt8)
    · exact Ev.pos h0 (Ev.done (if_pos h0).symm)
    · refine Ev.neg h0 (Ev.bind (impl_confText out (by omega) hg) ?_)
      by_cases h1 : (confText out).toList = s.toList
      · exact Ev.pos h1 (Ev.done ((if_neg h0).trans (if_pos h1)).symm)
      · exact Ev.neg h1 (Ev.done ((if_neg h0).trans (if_neg h1)).symm)
  | succ d ih =>
    intro i out hi ho hg
    have hlt : i < P.length := by omega
    have he : rdOf ByteArray.empty P (i : Int) = P[i] := getD_nat P _ hlt
    have hpz := hsz _ (List.getElem_mem hlt)
    have hL : (P[i]).data.toList.length = (P[i]).size := rfl
    obtain ⟨c1, c2⟩ := cut_short (P[i]).data.toList
    refine Ev.step (fun k => impl_ParseConf.l0.eq_2 _ _ _ _ _ k) (Ev.pos (by omega) (Ev.pos (by omega) (Ev.pos (by omega) ?_)))
    rw [he]
    refine Ev.then (a := (ba (Lib.cut (P[i]).data.toList [58]).1, ba (Lib.cut (P[i]).data.toList [58]).2.1, (Lib.cut (P[i]).data.toList [58]).2.2)) ?_ ?_
    · unfold strings_Cut.f
      rw [if_pos (by omega)]
      rfl
    have hws : (wsOf (ba (Lib.cut (P[i]).data.toList [58]).2.1)).length ≤ 4 := by
      have := Lib.splitB_length_le (⟨#[47]⟩ : ByteArray) 0 (min (4 : Int).toNat ((ba (Lib.cut (P[i]).data.toList [58]).2.1).size + 1) - 1) (ba (Lib.cut (P[i]).data.toList [58]).2.1)
      have h4 : (4 : Int).toNat = 4 := rfl
      unfold wsOf
      omega
    refine Ev.then (a := wsOf (ba (Lib.cut (P[i]).data.toList [58]).2.1)) ?_ ?_
    · unfold strings_SplitN.f
      rw [if_pos ⟨by show (ba _).size < _; rw [ba_size]; omega, by decide, by decide, by decide⟩]
      rfl
    refine impl_PC_l1 s out _ P i (by omega) (by omega) _ hws _ _ 0 (fun _ => 0) (Nat.zero_add _) (fun g hg' => ?_)
    have hn : ∀ m, g m = numAt (wsOf (ba (Lib.cut (P[i]).data.toList [58]).2.1)) m := by
      intro m
      rw [hg' m]
      by_cases c : 0 ≤ m ∧ m < (wsOf (ba (Lib.cut (P[i]).data.toList [58]).2.1)).length
      · rw [if_pos c]
      · rw [if_neg c, numAt, dif_neg (by omega)]
    rw [hn, hn, hn, hn]
    refine Ev.eq (ih (i + 1) _ (by omega) (by simp [ho]) (fun y hy => ?_)) ?_
    · rcases List.mem_append.1 hy with hy | hy
      · exact hg y hy
      · rw [List.mem_singleton] at hy
        rw [hy]
        show (ba _).size ≤ _
        rw [ba_size]; omega
    · rw [List.drop_eq_getElem_cons hlt, List.map_cons, List.append_assoc]
      rfl
/-! ### what was written is read again -/
theorem map_ba (ws : List ByteArray) : (ws.map (·.data.toList)).map ba = ws := by
  rw [List.map_map]
  refine (List.map_congr_left (g := id) fun x _ => ?_).trans (List.map_id _)
  exact (ba_of x).symm
theorem num_small {n : Int} (h0 : 0 ≤ n) (h1 : n ≤ 20) : (parseNum (ba (Lib.itoa n)) 20).1 = n := by
  obtain ⟨m, rfl⟩ := Int.eq_ofNat_of_zero_le h0
  rw [parse_num m 20 h1 (by omega)]
theorem implItem_item {x : Db} (h : dbOk x = true) (p : ByteArray) (hp : p.data.toList = itemL x) : implItem p = x := by
  obtain ⟨hn, h1, h2, h3, h4⟩ := dbOk_of h
  have e1 := itoa_two x.f1 (by omega) (by omega)
  have e2 := itoa_two x.f2 (by omega) (by omega)
  have e3 := itoa_two x.f3 (by omega) (by omega)
  have e4 := itoa_two x.f4 (by omega) (by omega)
  have hc : Lib.cut p.data.toList [58] = (x.f0.data.toList, restL x, true) := by
    rw [hp, item_rest, cut_join 58 _ _ (name_free h 58 (by decide))]
  have hlen : 7 ≤ (restL x).length := by
    simp only [restL, joinA, List.flatMap_cons, List.flatMap_nil, List.length_append, List.length_cons, List.append_nil]
    omega
  have hw : wsOf (ba (restL x)) = [ba (Lib.itoa x.f1), ba (Lib.itoa x.f2), ba (Lib.itoa x.f3), ba (Lib.itoa x.f4)] := by
    have hd := Lib.splitB_data (⟨#[47]⟩ : ByteArray) 0 (min (4 : Int).toNat ((ba (restL x)).size + 1) - 1) (ba (restL x))
    rw [ba_data, show (min (4 : Int).toNat ((ba (restL x)).size + 1) - 1) = [Lib.itoa x.f2, Lib.itoa x.f3, Lib.itoa x.f4].length by rw [ba_size]; have h4 : (4 : Int).toNat = 4 := rfl; simp only [List.length_cons, List.length_nil]; omega] at hd
    have hk : Lib.splitK [47] 0 [Lib.itoa x.f2, Lib.itoa x.f3, Lib.itoa x.f4].length (restL x) = [Lib.itoa x.f1, Lib.itoa x.f2, Lib.itoa x.f3, Lib.itoa x.f4] := by
      refine splitK_join 47 [Lib.itoa x.f2, Lib.itoa x.f3, Lib.itoa x.f4] _ (num_free _ (by omega) 47 (.inl (by decide))) ?_
      intro y hy
      simp only [List.mem_cons, List.not_mem_nil, or_false] at hy
      rcases hy with rfl | rfl | rfl
      · exact num_free _ (by omega) 47 (.inl (by decide))
      · exact num_free _ (by omega) 47 (.inl (by decide))
      · exact num_free _ (by omega) 47 (.inl (by decide))
    have hd' := hd.trans hk
    have e := congrArg (List.map ba) hd'
    rw [map_ba] at e
    unfold wsOf
    rw [show (min (4 : Int).toNat ((ba (restL x)).size + 1) - 1) = [Lib.itoa x.f2, Lib.itoa x.f3, Lib.itoa x.f4].length by rw [ba_size]; have h4 : (4 : Int).toNat = 4 := rfl; simp only [List.length_cons, List.length_nil]; omega]
    exact e
  unfold implItem
  rw [hc]
  simp only
  rw [hw]
  have n0 : numAt [ba (Lib.itoa x.f1), ba (Lib.itoa x.f2), ba (Lib.itoa x.f3), ba (Lib.itoa x.f4)] 0 = x.f1 := (dif_pos (by simp)).trans (num_small (n := x.f1) (by omega) (by omega))
  have n1 : numAt [ba (Lib.itoa x.f1), ba (Lib.itoa x.f2), ba (Lib.itoa x.f3), ba (Lib.itoa x.f4)] 1 = x.f2 := (dif_pos (by simp)).trans (num_small (n := x.f2) (by omega) (by omega))
  have n2 : numAt [ba (Lib.itoa x.f1), ba (Lib.itoa x.f2), ba (Lib.itoa x.f3), ba (Lib.itoa x.f4)] 2 = x.f3 := (dif_pos (by simp)).trans (num_small (n := x.f3) (by omega) (by omega))
  have n3 : numAt [ba (Lib.itoa x.f1), ba (Lib.itoa x.f2), ba (Lib.itoa x.f3), ba (Lib.itoa x.f4)] 3 = x.f4 := (dif_pos (by simp)).trans (num_small (n := x.f4) (by omega) (by omega))
  rw [n0, n1, n2, n3, ← ba_of]
def piecesOf (s : ByteArray) : List ByteArray := Lib.splitB (⟨#[59]⟩ : ByteArray) 0 (Lib.countB s (⟨#[59]⟩ : ByteArray)) s
theorem pieces_text {l : List Db} (h : confFrom l 0 l.length = true) : (piecesOf (confText l)).map implItem = l := by
  obtain ⟨x, xs, rfl, _, hall⟩ := conf_cons h
  have hf := item_free (hall x (List.mem_cons_self ..))
  have hfs : ∀ y ∈ xs.map itemL, (59 : UInt8) ∉ y := by
    intro y hy
    obtain ⟨z, hz, rfl⟩ := List.mem_map.1 hy
    exact item_free (hall z (List.mem_cons_of_mem _ hz))
  have hcnt : Lib.countB (confText (x :: xs)) (⟨#[59]⟩ : ByteArray) = (xs.map itemL).length := by
    show Lib.count (confText (x :: xs)).data.toList [59] = _
    rw [confText_join x xs h, ba_data, Lib.count_one, count_join 59 _ _ hf hfs]
  have hd := Lib.splitB_data (⟨#[59]⟩ : ByteArray) 0 (Lib.countB (confText (x :: xs)) (⟨#[59]⟩ : ByteArray)) (confText (x :: xs))
  have hk : (piecesOf (confText (x :: xs))).map (·.data.toList) = (x :: xs).map itemL := by
    refine hd.trans ?_
    rw [hcnt, show (⟨#[59]⟩ : ByteArray).data.toList = [59] from rfl]
    conv => lhs; rw [confText_join x xs h, ba_data]
    exact splitK_join 59 _ _ hf hfs
  have hlen : (piecesOf (confText (x :: xs))).length = (x :: xs).length := by
    have := congrArg List.length hk
    simpa using this
  apply List.ext_getElem
  · rw [List.length_map]; exact hlen
  · intro j h1 h2
    rw [List.getElem_map]
    refine implItem_item (hall _ (List.getElem_mem h2)) _ ?_
    have hj : j < (piecesOf (confText (x :: xs))).length := by rw [hlen]; exact h2
    have e := congrArg (fun L : List (List UInt8) => L[j]?) hk
    simp only [List.getElem?_map, List.getElem?_eq_getElem hj, List.getElem?_eq_getElem h2, Option.map_some, Option.some.injEq] at e
    exact e
theorem impl_parseConf (s : ByteArray) (hs : s.size ≤ 1048576) : Ev (fun k => impl_ParseConf.f k s) (parseConf s) := by
  unfold impl_ParseConf.f
  have hcl := Lib.countB_le (⟨#[59]⟩ : ByteArray) (by decide) s.size s (Nat.le_refl _)
  have hpl : (piecesOf s).length ≤ 1048577 := by
    have := Lib.splitB_all (⟨#[59]⟩ : ByteArray) (by decide) 0 _ s rfl
    unfold piecesOf
    omega
  refine Ev.then (a := piecesOf s) ?_ ?_
  · unfold strings_Split.f
    rw [if_pos ⟨by omega, by decide⟩]
    rfl
  refine Ev.eq (impl_PC_l0 s (piecesOf s) hpl (fun p hp => Nat.le_trans (splitB_sizes _ _ _ _ p hp) hs) (piecesOf s).length 0 [] (by omega) rfl (fun x hx => by cases hx)) ?_
  rw [List.drop_zero, List.nil_append]
  unfold implFin
  rcases parseConf_back s with h | ⟨l, hl, hc, rfl⟩
  · rw [h]
    split
    · rfl
    · rename_i h0
      split
      · rename_i h1
        have e := text_inj h1
        by_cases hc : confFrom ((piecesOf s).map implItem) 0 ((piecesOf s).map implItem).length = true
        · have := parseConf_text hc
          rw [e, h] at this
          exact absurd (congrArg Prod.snd this) (by simp)
        · exact absurd (by rw [← e, confText, if_neg hc]; exact text_nil.2 rfl) h0
      · rfl
  · rw [hl, pieces_text hc]
    have hsz := confText_size hc
    rw [if_neg (fun e => by rw [text_nil.1 e] at hsz; revert hsz; decide), if_pos rfl]
end Go.Proofs.YtldfehmaophfjaaDoor.Fn
