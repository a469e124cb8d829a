/- The pure statement of the law FnNumbers: words, texts and numerals are read as what they were written from. -/
import Derived.Test.YtldfehmaophfjaaDoorPxd
import Derived.Test.YtldfehmaophfjaaDoorDrawNums
import Derived.Test.YtldfehmaophfjaaDoorGetText
import Derived.Test.YtldfehmaophfjaaDoorWord
namespace Go.Proofs.YtldfehmaophfjaaDoor.Pure
set_option linter.unusedVariables false
set_option linter.unusedSimpArgs false
open Go.RowKit Go.Proofs.YtldfehmaophfjaaDoorW.PrintWords Go.Proofs.YtldfehmaophfjaaDoor.P Go.Proofs.YtldfehmaophfjaaDoor.Base Go.Proofs.YtldfehmaophfjaaDoor.Fn
theorem same_self' (l : List Int) : laws_same.f l l = some true := by unfold laws_same.f; simp
theorem and65535_mod (x : Int) : Go.bits .and .i64 x 65535 = x % 65536 := by
  have hk : IntKind.i64.bits = 64 := rfl
  have h1 : (65535 : Nat) % 2 ^ IntKind.i64.bits = 65535 := by decide
  rw [show (65535 : Int) = ((65535 : Nat) : Int) from rfl]
  simp only [Go.bits, BitVec.ofInt_natCast, BitVec.toNat_and, BitVec.toNat_ofNat, h1]
  rw [show (65535 : Nat) = 2 ^ 16 - 1 by decide, Nat.and_two_pow_sub_one_eq_mod, BitVec.toNat_ofInt, hk, wraps_i64 _ (by omega) (by omega)]
  omega
theorem strOfNums_bytesOf (s : ByteArray) : strOfNums (bytesOf s) = s := by
  unfold strOfNums bytesOf
  rw [List.map_map]
  have h : ((fun n : Int => UInt8.ofNat n.toNat) ∘ fun b : UInt8 => (b.toNat : Int)) = id := by funext b; simp
  rw [h, List.map_id]
theorem bytesOf_length (s : ByteArray) : (bytesOf s).length = s.size := by
  unfold bytesOf
  rw [List.length_map]
  rfl
theorem getText_putText (c : List Int) (s : ByteArray) (h : textOk s = true) : getText (putText c s) (c.length : Int) = (s, ((putText c s).length : Int), true) := by
  have hs := textOk_size h
  have hl : (putText c s).length = c.length + 1 + s.size := by rw [putText, if_pos h, List.length_append, List.length_append, bytesOf_length]; simp
  have hr : rd (putText c s) (c.length : Int) = (s.size : Int) := by
    rw [rd_getElem (by omega)]
    simp [putText, h]
  have ht : textAt (putText c s) (c.length : Int) = s := by
    unfold textAt
    rw [hr, show ((c.length : Int) + 1 + (s.size : Int)).toNat = c.length + 1 + s.size by omega, show ((c.length : Int) + 1).toNat = c.length + 1 by omega, ← hl, List.take_length, putText, if_pos h, List.drop_left' (by simp), strOfNums_bytesOf]
  unfold getText
  rw [if_neg (by omega), ht, if_pos h, hr, hl]
  congr 2
theorem getText_cut (c : List Int) (s : ByteArray) (h : textOk s = true) : (getText ((putText c s).take ((putText c s).length - 1)) (c.length : Int)).2.2 = false := by
  have hl : (putText c s).length = c.length + 1 + s.size := by rw [putText, if_pos h, List.length_append, List.length_append, bytesOf_length]; simp
  unfold getText
  rw [if_pos]
  · rfl
  · rw [List.length_take, hl]
    by_cases h0 : s.size = 0
    · omega
    · have hr : rd ((putText c s).take (c.length + 1 + s.size - 1)) (c.length : Int) = (s.size : Int) := by
        rw [rd_getElem (by rw [List.length_take]; omega), List.getElem_take]
        simp [putText, h]
      rw [hr]
      omega
theorem j0_ok (c : List Int) (hc : Bytes c) (hl : c.length ≤ 2) (s : ByteArray) (hs : s.size ≤ 101) : Ev (fun k => laws_FnNumbers.j0 k c s (putText c s) false) true := by
  refine Ev.step (fun k => laws_FnNumbers.j0.eq_2 _ _ _ _ k) (Ev.neg (by decide) (Ev.bind (impl_textOk s (by omega)) ?_))
  have hq := putText_bytes hc s
  have hql := putText_length c s
  by_cases h : textOk s = true
  · have hqe : (putText c s).length = c.length + 1 + s.size := by rw [putText, if_pos h, List.length_append, List.length_append, bytesOf_length]; simp
    refine Ev.pos h (Ev.bind (impl_getText _ _ hq (by omega)) ?_)
    rw [getText_putText c s h, w64 (n := ((putText c s).length : Int) - 1) (by omega) (by omega)]
    refine Ev.pos (by omega) (Ev.pos (by omega) (Ev.bind (impl_getText _ _ (hq.take _) (by rw [List.length_take]; omega)) ?_))
    rw [show (((putText c s).length : Int) - 1).toNat = (putText c s).length - 1 by omega, getText_cut c s h]
    exact Ev.pos rfl (Ev.pos rfl (Ev.pos rfl (Ev.done rfl)))
  · have hp : putText c s = c := by rw [putText, if_neg h]
    rw [hp]
    rw [Bool.not_eq_true] at h
    refine Ev.neg (by rw [h]; decide) (Ev.then (same_self' c) (Ev.pos rfl (Ev.bind (spec_textOk s (by omega)) (Ev.done (by rw [h]; rfl)))))
theorem FnNumbers : laws_FnNumbers.Pure := by
  intro l hl1 hl2 hl3
  refine Ev.rounds ?_
  unfold laws_FnNumbers.f
  refine Ev.then (a := decide ((l.length : Int) > 1048576)) rfl ?_
  by_cases hbig : (l.length : Int) > 1048576
  · exact Ev.pos (by simpa using hbig) (Ev.done rfl)
  refine Ev.neg (by simpa using hbig) ?_
  obtain ⟨b, n, e1, hb, hbl⟩ := drawPutWord l (by omega)
  obtain ⟨c, s, e2, hc, hcl, hs⟩ := drawPutText l (by omega)
  obtain ⟨m, e3, m0, m1⟩ := drawNumText l (by omega)
  obtain ⟨u, most, e4⟩ := drawParseNum l (by omega)
  have hw : Bytes (b ++ wordBytes n) := hb.append (wordBytes_bytes n)
  have hwl : (b ++ wordBytes n).length = b.length + 2 := by rw [List.length_append, wordBytes_length]
  have hword : word (b ++ wordBytes n) (b.length : Int) = (n % 65536, (b.length : Int) + 2, true) := by
    unfold word
    have r0 : rd (b ++ wordBytes n) (b.length : Int) = n / 256 % 256 := by rw [rd_getElem (by omega)]; simp [wordBytes]
    have r1 : rd (b ++ wordBytes n) ((b.length : Int) + 1) = n % 256 := by rw [cast_succ, rd_getElem (by omega)]; simp [wordBytes]
    rw [if_neg (by omega), r0, r1]
    congr 1
    omega
  obtain ⟨p1, p2⟩ := parse_itoa m
  refine Ev.bind e1 (Ev.then (impl_putWord b n (by omega)) (Ev.then (impl_getWord _ _ hw (by omega)) (Ev.bind e2 (Ev.bind (impl_putText c s (by omega) (by omega)) (Ev.bind e3 (Ev.then (impl_numText m m0 m1) (Ev.bind (impl_parseNum _ _) (Ev.bind e4 (Ev.bind (impl_parseNum _ _) (Ev.bind (spec_parseNum _ _) ?_))))))))))
  rw [hword]
  refine Ev.pos rfl (Ev.pos (and65535_mod n).symm (Ev.pos (by dsimp only; omega) (Ev.then (impl_numText m m0 m1) (Ev.bind (spec_numText m m0 m1) (Ev.pos rfl ?_)))))
  have hj := j0_ok c hc hcl s hs
  have X : Ev (fun k => if ((parseNum u most).2 != (parseNum u most).2) = true then (laws_FnNumbers.j0 k c s (putText c s) true) else (if (parseNum u most).2 = true then ((impl_NumText.f (parseNum u most).1).bind fun t => (if t.toList = u.toList then (laws_FnNumbers.j0 k c s (putText c s) (decide ((parseNum u most).1 > most))) else (laws_FnNumbers.j0 k c s (putText c s) true))) else (laws_FnNumbers.j0 k c s (putText c s) false))) true := by
    refine Ev.neg (by simp) ?_
    by_cases h : (parseNum u most).2 = true
    · obtain ⟨q1, q2, q3, q4⟩ := itoa_parse u most h
      refine Ev.pos h (Ev.then (impl_numText _ q2 q3) (Ev.pos (by rw [q4]) ?_))
      rw [decide_eq_false (by omega)]
      exact hj
    · exact Ev.neg h hj
  by_cases hm : m ≥ 0
  · refine Ev.pos hm (Ev.neg (by rw [p1]; simp [hm]) ?_)
    by_cases hi : (parseNum (ba (Lib.itoa m)) 65535).2 = true
    · exact Ev.pos hi (Ev.pos (p2 hi) X)
    · exact Ev.neg hi X
  · have hf : (parseNum (ba (Lib.itoa m)) 65535).2 = false := by rw [p1, decide_eq_false (by omega)]
    exact Ev.neg hm (Ev.neg (by rw [hf]; decide) (Ev.neg (by rw [hf]; decide) X))
end Go.Proofs.YtldfehmaophfjaaDoor.Pure
