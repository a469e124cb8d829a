/- What the printed functions that read a configuration come to. -/
import Derived.Test.YtldfehmaophfjaaDoorPxd
import Derived.Test.YtldfehmaophfjaaDoorConfText
import Derived.Test.YtldfehmaophfjaaDoorSplit
import Derived.Test.YtldfehmaophfjaaDoorParse
namespace Go.Proofs.YtldfehmaophfjaaDoor.Fn
set_option linter.unusedVariables false
set_option linter.unusedSimpArgs false
open Go.RowKit Go.Proofs.YtldfehmaophfjaaDoorW.PrintWords Go.Proofs.YtldfehmaophfjaaDoor.P Go.Proofs.YtldfehmaophfjaaDoor.Base

/-! ### what a configuration's text is made of -/
theorem name_bytes {s : ByteArray} (h : nameOk s = true) : ∀ c ∈ s.data.toList, 97 ≤ c.toNat ∧ c.toNat ≤ 122 := by
  intro c hc
  obtain ⟨i, hi, rfl⟩ := List.getElem_of_mem hc
  have hb := bt_ba s.data.toList i hi
  rw [← ba_of s] at hb
  have := ((nameOk_iff s).1 h).2 i hi
  omega
def restL (x : Db) : List UInt8 := joinA 47 (Lib.itoa x.f1) [Lib.itoa x.f2, Lib.itoa x.f3, Lib.itoa x.f4]
theorem item_rest (x : Db) : itemL x = x.f0.data.toList ++ 58 :: restL x := by simp [itemL, restL, joinA]
theorem item_join (x : Db) : itemL x = joinA 58 x.f0.data.toList [restL x] := by rw [item_rest]; simp [joinA]
def Pos4 (x : Db) : Prop := 0 ≤ x.f1 ∧ 0 ≤ x.f2 ∧ 0 ≤ x.f3 ∧ 0 ≤ x.f4
theorem dbOk_pos {x : Db} (h : dbOk x = true) : Pos4 x := by
  obtain ⟨_, h1, h2, h3, h4⟩ := dbOk_of h
  exact ⟨by omega, by omega, by omega, by omega⟩
theorem rest_free {x : Db} (h : Pos4 x) (c : UInt8) (hc : 57 < c.toNat) : c ∉ restL x := by
  obtain ⟨h1, h2, h3, h4⟩ := h
  intro hm
  have n1 := num_free _ h1 c (.inr hc)
  have n2 := num_free _ h2 c (.inr hc)
  have n3 := num_free _ h3 c (.inr hc)
  have n4 := num_free _ h4 c (.inr hc)
  have ne : ¬ c = 47 := fun e => by rw [e] at hc; revert hc; decide
  simp only [restL, joinA, List.flatMap_cons, List.flatMap_nil, List.mem_append, List.mem_cons, List.append_nil, List.cons_append] at hm
  simp only [n1, n2, n3, n4, ne, false_or, or_false] at hm
theorem rest_split {x : Db} (h : Pos4 x) : splitA 47 [] (restL x) = [Lib.itoa x.f1, Lib.itoa x.f2, Lib.itoa x.f3, Lib.itoa x.f4] := by
  obtain ⟨h1, h2, h3, h4⟩ := h
  rw [restL, splitA_join 47 _ _ _ (num_free _ h1 47 (.inl (by decide))) (by
    intro y hy
    simp only [List.mem_cons, List.not_mem_nil, or_false] at hy
    rcases hy with rfl | rfl | rfl
    · exact num_free _ h2 47 (.inl (by decide))
    · exact num_free _ h3 47 (.inl (by decide))
    · exact num_free _ h4 47 (.inl (by decide)))]
  rfl
theorem name_free {x : Db} (h : dbOk x = true) (c : UInt8) (hc : c.toNat < 97) : c ∉ x.f0.data.toList := by
  intro hm
  unfold dbOk at h
  simp only [Bool.and_eq_true] at h
  have := name_bytes h.1 c hm
  omega
theorem item_split {x : Db} (h : dbOk x = true) : splitA 58 [] (itemL x) = [x.f0.data.toList, restL x] := by
  rw [item_join, splitA_join 58 _ _ _ (name_free h 58 (by decide)) (by
    intro y hy
    simp only [List.mem_cons, List.not_mem_nil, or_false] at hy
    subst hy
    exact rest_free (dbOk_pos h) 58 (by decide))]
  rfl
theorem item_free {x : Db} (h : dbOk x = true) : (59 : UInt8) ∉ itemL x := by
  have n1 := name_free h 59 (by decide)
  have n2 := rest_free (dbOk_pos h) 59 (by decide)
  rw [item_rest]
  intro hm
  simp only [List.mem_append, List.mem_cons, n1, n2, false_or, or_false] at hm
  revert hm
  decide
theorem itemL_short {x : Db} (h : dbOk x = true) : (itemL x).length ≤ 20 ∧ 1 ≤ (itemL x).length := by
  obtain ⟨hn, h1, h2, h3, h4⟩ := dbOk_of h
  have e1 := itoa_two x.f1 (by omega) (by omega)
  have e2 := itoa_two x.f2 (by omega) (by omega)
  have e3 := itoa_two x.f3 (by omega) (by omega)
  have e4 := itoa_two x.f4 (by omega) (by omega)
  have e0 : x.f0.data.toList.length = x.f0.size := rfl
  simp only [itemL, List.length_append, List.length_singleton, e0]
  omega
theorem conf_cons {l : List Db} (h : confFrom l 0 l.length = true) : ∃ x xs, l = x :: xs ∧ xs.length ≤ 2 ∧ ∀ y ∈ l, dbOk y = true := by
  obtain ⟨h3, hall⟩ := confFrom_all l l.length 0 (by omega) h
  have hm : ∀ y ∈ l, dbOk y = true := by
    intro y hy
    obtain ⟨j, hj, rfl⟩ := List.getElem_of_mem hy
    exact hall j hj (by omega)
  cases l with
  | nil => simp [confFrom] at h
  | cons x xs => exact ⟨x, xs, rfl, by simp only [List.length_cons] at h3; omega, hm⟩
theorem confText_join (x : Db) (xs : List Db) (h : confFrom (x :: xs) 0 (x :: xs).length = true) : confText (x :: xs) = ba (joinA 59 (itemL x) (xs.map itemL)) := by
  unfold confText
  rw [if_pos h, confAcc, if_pos rfl, show (⟨#[]⟩ : ByteArray) = ba [] from rfl, ba_append, List.nil_append, confAcc_eq _ _ _ (by omega), joinA, List.flatMap_map]
theorem conf_split {l : List Db} (h : confFrom l 0 l.length = true) : splitA 59 [] (confText l).data.toList = l.map itemL := by
  obtain ⟨x, xs, rfl, _, hall⟩ := conf_cons h
  rw [confText_join x xs h, show (ba (joinA 59 (itemL x) (xs.map itemL))).data.toList = joinA 59 (itemL x) (xs.map itemL) by simp [ba], splitA_join 59 _ _ _ (item_free (hall x (List.mem_cons_self ..))) (by
    intro y hy
    obtain ⟨z, hz, rfl⟩ := List.mem_map.1 hy
    exact item_free (hall z (List.mem_cons_of_mem _ hz)))]
  rfl
theorem confText_size {l : List Db} (h : confFrom l 0 l.length = true) : 1 ≤ (confText l).size ∧ (confText l).size ≤ 100 := by
  obtain ⟨x, xs, rfl, h2, hall⟩ := conf_cons h
  rw [confText_join x xs h, ba_size, joinA, List.length_append]
  have hx := itemL_short (hall x (List.mem_cons_self ..))
  have b : ∀ ys : List Db, (∀ y ∈ ys, dbOk y = true) → ((ys.map itemL).flatMap (fun y => (59 : UInt8) :: y)).length ≤ 21 * ys.length := by
    intro ys
    induction ys with
    | nil => intro _; simp
    | cons y ys ih =>
      intro hy
      have := ih (fun z hz => hy z (List.mem_cons_of_mem _ hz))
      have h1 := itemL_short (hy y (List.mem_cons_self ..))
      simp only [List.map_cons, List.flatMap_cons, List.length_append, List.length_cons]
      omega
  have := b xs (fun y hy => hall y (List.mem_cons_of_mem _ hy))
  omega
/-! ### a configuration out of its pieces -/
noncomputable def parsed (q : List UInt8) : Option Int := if (parseNum (ba q) 99).2 = true then some (parseNum (ba q) 99).1 else none
theorem parsed_num {n : Int} (h0 : 0 ≤ n) (h1 : n ≤ 99) : parsed (Lib.itoa n) = some n := by
  obtain ⟨m, rfl⟩ := Int.eq_ofNat_of_zero_le h0
  rw [parsed, parse_num m 99 h1 (by omega), if_pos rfl]
theorem parsed_back {q : List UInt8} {n : Int} (h : parsed q = some n) : Lib.itoa n = q := by
  unfold parsed at h
  split at h
  · rename_i hp
    have e := (parse_back _ _ hp).2.2
    obtain rfl := Option.some.inj h
    have := congrArg (fun b : ByteArray => b.data.toList) e
    simpa [ba] using this
  · cases h
noncomputable def numsOf (a : List UInt8) : List (List UInt8) → Option Db
  | [q0, q1, q2, q3] => (parsed q0).bind fun n0 => (parsed q1).bind fun n1 => (parsed q2).bind fun n2 => (parsed q3).bind fun n3 => some ⟨ba a, n0, n1, n2, n3⟩
  | _ => none
noncomputable def partsOf : List (List UInt8) → Option Db
  | [a, b] => numsOf a (splitA 47 [] b)
  | _ => none
noncomputable def itemOf (p : List UInt8) : Option Db := partsOf (splitA 58 [] p)
noncomputable def itemsOf : List (List UInt8) → Option (List Db)
  | [] => some []
  | p :: ps => (itemOf p).bind fun x => (itemsOf ps).bind fun xs => some (x :: xs)
theorem itemOf_item {x : Db} (h : dbOk x = true) : itemOf (itemL x) = some x := by
  obtain ⟨hn, h1, h2, h3, h4⟩ := dbOk_of h
  rw [itemOf, item_split h, partsOf, rest_split (dbOk_pos h), numsOf, parsed_num (by omega) (by omega), parsed_num (by omega) (by omega), parsed_num (by omega) (by omega), parsed_num (by omega) (by omega)]
  simp only [Option.bind_some]
  rw [← ba_of]
theorem itemOf_back {p : List UInt8} {x : Db} (h : itemOf p = some x) : itemL x = p := by
  unfold itemOf at h
  obtain ⟨a, us, e, hj⟩ := splitA_back 58 p []
  rw [e] at h
  rcases us with _ | ⟨b, _ | ⟨c, cs⟩⟩
  · cases h
  · obtain ⟨q0, qs, e2, hj2⟩ := splitA_back 47 b []
    rw [partsOf, e2] at h
    rcases qs with _ | ⟨q1, _ | ⟨q2, _ | ⟨q3, _ | ⟨q4, qs⟩⟩⟩⟩
    · cases h
    · cases h
    · cases h
    · rw [numsOf] at h
      simp only [Option.bind_eq_some_iff] at h
      obtain ⟨n0, p0, n1, p1, n2, p2, n3, p3, hx⟩ := h
      obtain rfl := Option.some.inj hx
      rw [item_join, restL]
      simp only
      rw [parsed_back p0, parsed_back p1, parsed_back p2, parsed_back p3, ← hj2, List.nil_append]
      rw [List.nil_append] at hj
      rw [hj]
      simp [ba]
    · cases h
  · cases h
theorem itemsOf_items : ∀ (l : List Db), (∀ x ∈ l, dbOk x = true) → itemsOf (l.map itemL) = some l
  | [], _ => rfl
  | x :: xs, h => by
    rw [List.map_cons, itemsOf, itemOf_item (h x (List.mem_cons_self ..)), itemsOf_items xs (fun y hy => h y (List.mem_cons_of_mem _ hy))]
    rfl
theorem itemsOf_back : ∀ (ps : List (List UInt8)) (l : List Db), itemsOf ps = some l → l.map itemL = ps
  | [], l, h => by obtain rfl := Option.some.inj h; rfl
  | p :: ps, l, h => by
    rw [itemsOf] at h
    simp only [Option.bind_eq_some_iff] at h
    obtain ⟨x, hx, xs, hxs, he⟩ := h
    obtain rfl := Option.some.inj he
    rw [List.map_cons, itemOf_back hx, itemsOf_back ps xs hxs]
noncomputable def confFin : Option (List Db) → List Db × Bool
  | some l => if confFrom l 0 l.length = true then (l, true) else ([], false)
  | none => ([], false)
noncomputable def parseConf (s : ByteArray) : List Db × Bool := confFin (itemsOf (splitA 59 [] s.data.toList))
theorem parseConf_text {l : List Db} (h : confFrom l 0 l.length = true) : parseConf (confText l) = (l, true) := by
  obtain ⟨x, xs, rfl, _, hall⟩ := conf_cons h
  rw [parseConf, conf_split h, itemsOf_items _ hall, confFin, if_pos h]
theorem parseConf_back (s : ByteArray) : parseConf s = ([], false) ∨ ∃ l, parseConf s = (l, true) ∧ confFrom l 0 l.length = true ∧ confText l = s := by
  unfold parseConf
  cases h : itemsOf (splitA 59 [] s.data.toList) with
  | none => exact .inl rfl
  | some l =>
    by_cases hc : confFrom l 0 l.length = true
    · refine .inr ⟨l, by rw [confFin, if_pos hc], hc, ?_⟩
      have e := itemsOf_back _ _ h
      obtain ⟨x, xs, rfl, _, hall⟩ := conf_cons hc
      obtain ⟨y, ys, e2, hj⟩ := splitA_back 59 s.data.toList []
      rw [e2, List.map_cons] at e
      injection e with e3 e4
      rw [confText_join x xs hc, e3, e4, ← hj, List.nil_append]
      exact (ba_of s).symm
    · exact .inl (by rw [confFin, if_neg hc])
theorem parseConf_long {s : ByteArray} (h : 100 < s.size) : parseConf s = ([], false) := by
  rcases parseConf_back s with h' | ⟨l, _, hc, rfl⟩
  · exact h'
  · have := confText_size hc; omega
/-! ### the reference -/
theorem extract_ba (s : ByteArray) (a b : Nat) : s.extract a b = ba ((s.data.toList.drop a).take (b - a)) := by
  rw [← Lib.extract_data]
  exact ba_of _
theorem spec_l3Split_l0 (s : ByteArray) (hs : s.size ≤ 1048576) (c : UInt8) (d : Nat) : ∀ (i fr : Nat) (out : List ByteArray), i + d = s.size → fr ≤ i → out.length ≤ i →
    Ev (fun k => spec_l3Split.l0 k s (c.toNat : Int) out (fr : Int) (i : Int)) (out ++ (splitA c ((s.data.toList.drop fr).take (i - fr)) (s.data.toList.drop i)).map ba) := by
  have hL : s.data.toList.length = s.size := rfl
  induction d with
  | zero =>
    intro i fr out hi hf ho
    refine Ev.step (fun k => spec_l3Split.l0.eq_2 _ _ _ _ _ k) (Ev.pos (by omega) (Ev.pos (by omega) (Ev.pos (by omega) (Ev.pos (by omega) (Ev.pos (by omega) ?_)))))
    rw [w64 (n := (i : Int) + 1) (by omega) (by omega), cast_succ]
    refine Ev.step (fun k => spec_l3Split.l0.eq_2 _ _ _ _ _ k) (Ev.neg (by omega) (Ev.done ?_))
    rw [List.drop_of_length_le (l := s.data.toList) (i := i) (by omega), splitA, Int.toNat_natCast, Int.toNat_natCast, extract_ba]
    rfl
  | succ d ih =>
    intro i fr out hi hf ho
    have hlt : i < s.data.toList.length := by omega
    have hb := bt_ba s.data.toList i hlt
    rw [← ba_of s] at hb
    refine Ev.step (fun k => spec_l3Split.l0.eq_2 _ _ _ _ _ k) (Ev.pos (by omega) (Ev.neg (by omega) (Ev.pos (by omega) (Ev.pos (by omega) ?_))))
    rw [w64 (n := (i : Int) + 1) (by omega) (by omega), cast_succ, List.drop_eq_getElem_cons hlt, splitA]
    by_cases h : s.data.toList[i] = c
    · refine Ev.pos (by rw [hb, h]) (Ev.pos (by omega) (Ev.pos (by omega) (Ev.pos (by omega) ?_)))
      rw [Int.toNat_natCast, Int.toNat_natCast, extract_ba, if_pos h]
      refine Ev.eq (ih (i + 1) (i + 1) _ (by omega) (by omega) (by simp; omega)) ?_
      rw [Nat.sub_self, List.take_zero, List.map_cons, List.append_assoc]
      rfl
    · have hne : ¬ bt s (i : Int) = (c.toNat : Int) := by
        rw [hb]
        intro e
        exact h (UInt8.toNat_inj.1 (by omega))
      refine Ev.neg hne ?_
      rw [if_neg h]
      refine Ev.eq (ih (i + 1) fr _ (by omega) (by omega) (by omega)) ?_
      rw [show i + 1 - fr = (i - fr) + 1 by omega, List.take_succ_eq_append_getElem (by rw [List.length_drop]; omega), List.getElem_drop]
      have e : s.data.toList[fr + (i - fr)]'(by omega) = s.data.toList[i] := by congr 1; omega
      rw [e]
theorem spec_l3Split (s : ByteArray) (hs : s.size ≤ 1048576) (c : UInt8) : Ev (fun k => spec_l3Split.f k s (c.toNat : Int)) ((splitA c [] s.data.toList).map ba) := spec_l3Split_l0 s hs c s.size 0 0 [] (by omega) (by omega) (by simp)
theorem ba_data (l : List UInt8) : (ba l).data.toList = l := by simp [ba]
theorem spec_PC_step (P : List ByteArray) (out : List Db) (I : Int) (p q : List ByteArray) (nums : List Int) (j : Nat) (hj : j < 4) (hq : q.length = 4) (hn : nums.length = 4) (r : List Db × Bool)
    (h : ∀ n, parseNum (q[j]'(by omega)) 99 = (n, true) → Ev (fun k => spec_ParseConf.l1 k P out I p q (nums.set j n) ((j + 1 : Nat) : Int)) r) (hb : (parseNum (q[j]'(by omega)) 99).2 = false → r = ([], false)) :
    Ev (fun k => spec_ParseConf.l1 k P out I p q nums (j : Int)) r := by
  have he : rdOf ByteArray.empty q (j : Int) = q[j]'(by omega) := getD_nat q _ (by omega)
  refine Ev.step (fun k => spec_ParseConf.l1.eq_2 _ _ _ _ _ _ _ k) (Ev.pos (by omega) (Ev.pos (by omega) (Ev.pos (by omega) ?_)))
  rw [he]
  refine Ev.bind (spec_parseNum _ _) ?_
  cases hv : parseNum (q[j]'(by omega)) 99 with
  | mk n b =>
    cases b
    · exact Ev.neg (by simp) (Ev.done (hb (by rw [hv])).symm)
    · refine Ev.pos rfl (Ev.pos (by omega) ?_)
      rw [w64 (n := (j : Int) + 1) (by omega) (by omega), cast_succ, Int.toNat_natCast]
      exact h n hv
theorem spec_PC_end (P : List ByteArray) (out : List Db) (i : Nat) (hi : i ≤ 1048576) (a b : ByteArray) (q : List ByteArray) (n0 n1 n2 n3 : Int) (ho : out.length ≤ 1048577) (r : List Db × Bool)
    (h : Ev (fun k => spec_ParseConf.l0 k P (out ++ [⟨a, n0, n1, n2, n3⟩]) ((i + 1 : Nat) : Int)) r) : Ev (fun k => spec_ParseConf.l1 k P out (i : Int) [a, b] q [n0, n1, n2, n3] ((4 : Nat) : Int)) r := by
  refine Ev.step (fun k => spec_ParseConf.l1.eq_2 _ _ _ _ _ _ _ k) (Ev.neg (by omega) (Ev.pos (by simp) (Ev.pos (by simp) (Ev.pos (by simp) (Ev.pos (by simp) (Ev.pos (by simp) (Ev.pos (by omega) ?_)))))))
  rw [w64 (n := (i : Int) + 1) (by omega) (by omega), cast_succ]
  exact h
theorem spec_PC_nums (P : List ByteArray) (out : List Db) (i : Nat) (hi : i ≤ 1048576) (a : List UInt8) (b : ByteArray) (Q : List (List UInt8)) (hQ : Q.length = 4) (ho : out.length ≤ 1048577) (r : List Db × Bool)
    (h : ∀ x, numsOf a Q = some x → Ev (fun k => spec_ParseConf.l0 k P (out ++ [x]) ((i + 1 : Nat) : Int)) r) (hb : numsOf a Q = none → r = ([], false)) :
    Ev (fun k => spec_ParseConf.l1 k P out (i : Int) [ba a, b] (Q.map ba) [0, 0, 0, 0] ((0 : Nat) : Int)) r := by
  rcases Q with _ | ⟨q0, _ | ⟨q1, _ | ⟨q2, _ | ⟨q3, _ | ⟨q4, qs⟩⟩⟩⟩⟩
  · simp at hQ
  · simp at hQ
  · simp at hQ
  · simp at hQ
  · have no : ∀ q : List UInt8, (parseNum (ba q) 99).2 = false → parsed q = none := fun q hq => by rw [parsed, if_neg (by rw [hq]; decide)]
    have yes : ∀ (q : List UInt8) (n : Int), parseNum (ba q) 99 = (n, true) → parsed q = some n := fun q n hq => by rw [parsed, hq, if_pos rfl]
    refine spec_PC_step P out i _ _ _ 0 (by omega) rfl rfl r (fun n0 p0 => ?_) (fun p0 => hb ?_)
    · refine spec_PC_step P out i _ _ _ 1 (by omega) rfl rfl r (fun n1 p1 => ?_) (fun p1 => hb ?_)
      · refine spec_PC_step P out i _ _ _ 2 (by omega) rfl rfl r (fun n2 p2 => ?_) (fun p2 => hb ?_)
        · refine spec_PC_step P out i _ _ _ 3 (by omega) rfl rfl r (fun n3 p3 => ?_) (fun p3 => hb ?_)
          · refine spec_PC_end P out i hi _ _ _ n0 n1 n2 n3 ho r (h _ ?_)
            rw [numsOf, yes _ _ p0, yes _ _ p1, yes _ _ p2, yes _ _ p3]
            rfl
          · rw [numsOf, yes _ _ p0, yes _ _ p1, yes _ _ p2, no _ p3]; rfl
        · rw [numsOf, yes _ _ p0, yes _ _ p1, no _ p2]; rfl
      · rw [numsOf, yes _ _ p0, no _ p1]; rfl
    · rw [numsOf, no _ p0]; rfl
  · simp at hQ
theorem spec_PC_item (P : List ByteArray) (out : List Db) (i : Nat) (hi : i < P.length) (hP : P.length ≤ 1048577) (piece : List UInt8) (hp : P[i] = ba piece) (hl : piece.length ≤ 1048576) (ho : out.length ≤ 1048577) (r : List Db × Bool)
    (h : ∀ x, itemOf piece = some x → Ev (fun k => spec_ParseConf.l0 k P (out ++ [x]) ((i + 1 : Nat) : Int)) r) (hb : itemOf piece = none → r = ([], false)) :
    Ev (fun k => spec_ParseConf.l0 k P out (i : Int)) r := by
  have he : rdOf ByteArray.empty P (i : Int) = ba piece := (getD_nat P _ hi).trans hp
  refine Ev.step (fun k => spec_ParseConf.l0.eq_2 _ _ _ k) (Ev.pos (by omega) (Ev.pos (by omega) ?_))
  rw [he]
  have e1 : Ev (fun k => spec_l3Split.f k (ba piece) 58) ((splitA 58 [] piece).map ba) := by
    have := spec_l3Split (ba piece) (by rw [ba_size]; exact hl) 58
    rw [ba_data] at this
    exact this
  refine Ev.bind e1 ?_
  obtain ⟨a, us, e, hj⟩ := splitA_back 58 piece []
  unfold itemOf at h hb
  rw [e] at h hb ⊢
  rcases us with _ | ⟨b, _ | ⟨c, cs⟩⟩
  · exact Ev.neg (by simp) (Ev.done (hb rfl).symm)
  · refine Ev.pos (by simp) (Ev.pos (by simp) ?_)
    have hlb : b.length ≤ 1048576 := by
      have := congrArg List.length hj
      simp [joinA] at this
      omega
    have e2 : Ev (fun k => spec_l3Split.f k (rdOf ByteArray.empty ([a, b].map ba) 1) 47) ((splitA 47 [] b).map ba) := by
      have := spec_l3Split (ba b) (by rw [ba_size]; exact hlb) 47
      rw [ba_data] at this
      exact this
    refine Ev.bind e2 ?_
    by_cases h4 : (splitA 47 [] b).length = 4
    · refine Ev.pos (by rw [List.length_map, h4]; rfl) ?_
      exact spec_PC_nums P out i (by omega) a (ba b) _ h4 ho r (fun x hx => h x hx) (fun hx => hb hx)
    · refine Ev.neg (by rw [List.length_map]; omega) (Ev.done (hb ?_).symm)
      rw [partsOf]
      match hq : splitA 47 [] b with
      | [] => rfl
      | [_] => rfl
      | [_, _] => rfl
      | [_, _, _] => rfl
      | [_, _, _, _] => rw [hq] at h4; simp at h4
      | _ :: _ :: _ :: _ :: _ :: _ => rfl
  · refine Ev.neg (by simp; omega) (Ev.done (hb rfl).symm)
theorem spec_PC_l0 (ps : List (List UInt8)) (hps : ps.length ≤ 1048577) (hsz : ∀ p ∈ ps, p.length ≤ 1048576) (d : Nat) : ∀ (i : Nat) (out : List Db), i + d = ps.length → out.length = i → (∀ x ∈ out, x.f0.size ≤ 9223372036854775807) →
    Ev (fun k => spec_ParseConf.l0 k (ps.map ba) out (i : Int)) (confFin ((itemsOf (ps.drop i)).map (out ++ ·))) := by
  induction d with
  | zero =>
    intro i out hi ho hg
    rw [List.drop_of_length_le (by omega), itemsOf]
    refine Ev.step (fun k => spec_ParseConf.l0.eq_2 _ _ _ k) (Ev.neg (by rw [List.length_map]; omega) (Ev.bind (spec_confOk out (by omega) hg) ?_))
    simp only [Option.map_some, confFin, List.append_nil]
    by_cases hc : confFrom out 0 out.length = true
    · exact Ev.pos hc (Ev.done (if_pos hc).symm)
    · exact Ev.neg hc (Ev.done (if_neg hc).symm)
  | succ d ih =>
    intro i out hi ho hg
    have hlt : i < ps.length := by omega
    rw [List.drop_eq_getElem_cons hlt, itemsOf]
    refine spec_PC_item (ps.map ba) out i (by simpa using hlt) (by simpa using hps) ps[i] (by simp) (hsz _ (List.getElem_mem _)) (by omega) _ (fun x hx => ?_) (fun hx => ?_)
    · have hxs : x.f0.size ≤ 9223372036854775807 := by
        have e := congrArg List.length (itemOf_back hx)
        have := hsz _ (List.getElem_mem hlt)
        rw [item_rest, List.length_append] at e
        have e0 : x.f0.data.toList.length = x.f0.size := rfl
        omega
      refine Ev.eq (ih (i + 1) (out ++ [x]) (by omega) (by simp [ho]) (fun y hy => ?_)) ?_
      · rcases List.mem_append.1 hy with hy | hy
        · exact hg y hy
        · rw [List.mem_singleton] at hy; rw [hy]; exact hxs
      · rw [hx]
        cases itemsOf (ps.drop (i + 1)) with
        | none => rfl
        | some xs => simp
    · rw [hx]; rfl
theorem pieces_length (c : UInt8) (s : List UInt8) : ∀ acc, (splitA c acc s).length ≤ s.length + 1 ∧ ∀ p ∈ splitA c acc s, p.length ≤ acc.length + s.length := by
  induction s with
  | nil => intro acc; simp [splitA]
  | cons x xs ih =>
    intro acc
    rw [splitA]
    split
    · obtain ⟨h1, h2⟩ := ih []
      refine ⟨by simp only [List.length_cons]; omega, fun p hp => ?_⟩
      rcases List.mem_cons.1 hp with rfl | hp
      · simp
      · have := h2 p hp
        simp only [List.length_cons, List.length_nil] at this ⊢
        omega
    · obtain ⟨h1, h2⟩ := ih (acc ++ [x])
      refine ⟨by simp only [List.length_cons]; omega, fun p hp => ?_⟩
      have := h2 p hp
      simp only [List.length_append, List.length_cons, List.length_nil] at this ⊢
      omega
theorem spec_parseConf (s : ByteArray) (hs : s.size ≤ 1048576) : Ev (fun k => spec_ParseConf.f k s) (parseConf s) := by
  unfold spec_ParseConf.f
  by_cases h : (s.size : Int) > 100
  · exact Ev.pos h (Ev.done (parseConf_long (by omega)).symm)
  · refine Ev.neg h ?_
    have e1 : Ev (fun k => spec_l3Split.f k s 59) ((splitA 59 [] s.data.toList).map ba) := spec_l3Split s hs 59
    have hL : s.data.toList.length = s.size := rfl
    obtain ⟨h1, h2⟩ := pieces_length 59 s.data.toList []
    refine Ev.bind e1 (Ev.eq (spec_PC_l0 _ (by omega) (fun p hp => by have := h2 p hp; simp only [List.length_nil] at this; omega) (splitA 59 [] s.data.toList).length 0 [] (by omega) rfl (fun x hx => by cases hx)) ?_)
    rw [parseConf, List.drop_zero]
    cases itemsOf (splitA 59 [] s.data.toList) <;> rfl
end Go.Proofs.YtldfehmaophfjaaDoor.Fn
