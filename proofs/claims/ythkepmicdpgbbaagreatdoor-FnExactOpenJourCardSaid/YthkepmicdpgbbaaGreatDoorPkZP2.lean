/- Texts of this seat's claims, put together: PutRec, GetText, GetRec, Draw, DrawFrames, DrawConf, Head, GetHead, Heads, RecBack, PureFnRecs, WSized, Open, Disk, DiskOk, ReadSec, KnownOk, Apply, Replay, PureFnExactReplay -/
import Derived.SizedLaws
import Derived.ChangeSlices
import Derived.Deep.Slices
import Derived.ChangeArms
import Derived.Test.YthkepmicdpgbbaaGreatDoorPkZB5
import Derived.Test.YthkepmicdpgbbaaGreatDoorPkZP1
/- What the printed functions that write and read a record come to. -/
namespace Go.Proofs.YthkepmicdpgbbaaGreatDoor.Fn
set_option linter.unusedVariables false
set_option linter.unusedSimpArgs false
open Go.RowKit Go.Proofs.YthkepmicdpgbbaaGreatDoorW.PrintWords Go.Proofs.YthkepmicdpgbbaaGreatDoor.P Go.Proofs.YthkepmicdpgbbaaGreatDoor.Base

def recHead (gen place kind n owner : Int) : List Int := wordBytes gen ++ wordBytes place ++ [kind % 256] ++ wordBytes n ++ [owner % 256]
theorem recHead_bytes (gen place kind n owner : Int) : Bytes (recHead gen place kind n owner) :=
  ((((wordBytes_bytes gen).append (wordBytes_bytes place)).append (Bytes.cons (by omega) Bytes.nil)).append (wordBytes_bytes n)).append (Bytes.cons (by omega) Bytes.nil)
theorem recHead_length (gen place kind n owner : Int) : (recHead gen place kind n owner).length = 8 := by simp [recHead, wordBytes]
def recBody (gen place kind n owner : Int) (s : ByteArray) : List Int := putText (recHead gen place kind n owner) s
theorem recBody_bytes (gen place kind n owner : Int) (s : ByteArray) : Bytes (recBody gen place kind n owner s) := putText_bytes (recHead_bytes gen place kind n owner) s
theorem recBody_length (gen place kind n owner : Int) (s : ByteArray) : (recBody gen place kind n owner s).length ≤ 109 := by
  have := putText_length (recHead gen place kind n owner) s
  rw [recHead_length] at this
  exact this
abbrev wordIn (n : Int) : Prop := 0 ≤ n ∧ n ≤ 65535
noncomputable def putRec (gen place kind n owner : Int) (s : ByteArray) : List Int :=
  @ite _ (recOk kind n owner s = true ∧ wordIn gen ∧ wordIn place) (Classical.propDecidable _) (recBody gen place kind n owner s ++ wordBytes (crc (recBody gen place kind n owner s))) []
theorem putRec_yes {gen place kind n owner : Int} {s : ByteArray} (h : recOk kind n owner s = true ∧ wordIn gen ∧ wordIn place) : putRec gen place kind n owner s = recBody gen place kind n owner s ++ wordBytes (crc (recBody gen place kind n owner s)) := if_pos h
theorem putRec_no {gen place kind n owner : Int} {s : ByteArray} (h : ¬ (recOk kind n owner s = true ∧ wordIn gen ∧ wordIn place)) : putRec gen place kind n owner s = [] := if_neg h
theorem putRec_bytes (gen place kind n owner : Int) (s : ByteArray) : Bytes (putRec gen place kind n owner s) := by
  by_cases h : recOk kind n owner s = true ∧ wordIn gen ∧ wordIn place
  · rw [putRec_yes h]; exact (recBody_bytes gen place kind n owner s).append (wordBytes_bytes _)
  · rw [putRec_no h]; exact Bytes.nil
theorem putRec_length (gen place kind n owner : Int) (s : ByteArray) : (putRec gen place kind n owner s).length ≤ 111 := by
  by_cases h : recOk kind n owner s = true ∧ wordIn gen ∧ wordIn place
  · have := recBody_length gen place kind n owner s
    rw [putRec_yes h, List.length_append, wordBytes_length]; omega
  · rw [putRec_no h]; simp
theorem spec_putRec (gen place kind n owner : Int) (s : ByteArray) (hs : s.size ≤ 1048576) : Ev (fun k => spec_PutRec.f k gen place kind n owner s) (putRec gen place kind n owner s) := by
  unfold spec_PutRec.f
  have bad : ¬ (recOk kind n owner s = true ∧ wordIn gen ∧ wordIn place) → ∀ b : Bool, b = true → Ev (fun k => spec_PutRec.j0 k gen place b kind n owner s) (putRec gen place kind n owner s) := fun hn b hb => Ev.step (fun k => spec_PutRec.j0.eq_2 _ _ _ _ _ _ _ k) (Ev.pos hb (Ev.done (putRec_no hn).symm))
  refine Ev.bind (spec_recOk kind n owner s hs) ?_
  by_cases h1 : recOk kind n owner s = true
  case neg => exact Ev.neg h1 (bad (fun h => h1 h.1) _ rfl)
  refine Ev.pos h1 ?_
  have e1 : ∀ x : Int, spec_l4Word.f x = some (decide (wordIn x)) := fun x => by unfold spec_l4Word.f; rw [l1In]; rfl
  refine Ev.then (e1 gen) ?_
  by_cases h2 : wordIn gen
  case neg => exact Ev.neg (by simpa using h2) (bad (fun h => h2 h.2.1) _ rfl)
  refine Ev.pos (by simpa using h2) (Ev.then (e1 place) ?_)
  by_cases h3 : wordIn place
  case neg => exact bad (fun h => h3 h.2.2) _ (by rw [decide_eq_false h3]; rfl)
  rw [putRec_yes ⟨h1, h2, h3⟩]
  have hb := recBody_length gen place kind n owner s
  refine Ev.step (fun k => spec_PutRec.j0.eq_2 _ _ _ _ _ _ _ k) (Ev.neg (by simpa using h3) ?_)
  refine Ev.then (spec_putWord _ _ (by simp)) (Ev.then (spec_putWord _ _ (by simp [wordBytes])) (Ev.then rfl (Ev.pos (by simp [wordBytes]) (Ev.then (spec_putWord _ _ (by simp [wordBytes])) (Ev.then rfl (Ev.pos (by simp [wordBytes]) ?_))))))
  rw [List.nil_append]
  exact Ev.bind (spec_putText (recHead gen place kind n owner) s (by rw [recHead_length]; omega) (by omega)) (Ev.bind (spec_sum _ (recBody_bytes gen place kind n owner s) (by unfold recBody at hb; omega)) (Ev.then (spec_putWord _ _ (by unfold recBody at hb; omega)) (Ev.then rfl (Ev.done rfl))))
theorem impl_putRec (gen place kind n owner : Int) (s : ByteArray) (hs : s.size ≤ 1048576) : Ev (fun k => impl_PutRec.f k gen place kind n owner s) (putRec gen place kind n owner s) := by
  unfold impl_PutRec.f
  have bad : ¬ (recOk kind n owner s = true ∧ wordIn gen ∧ wordIn place) → ∀ b : Bool, b = true → Ev (fun k => impl_PutRec.j0 k gen place b kind n owner s) (putRec gen place kind n owner s) := fun hn b hb => Ev.step (fun k => impl_PutRec.j0.eq_2 _ _ _ _ _ _ _ k) (Ev.pos hb (Ev.done (putRec_no hn).symm))
  refine Ev.bind (impl_recOk kind n owner s hs) ?_
  by_cases h1 : recOk kind n owner s = true
  case neg => exact Ev.neg h1 (bad (fun h => h1 h.1) _ rfl)
  refine Ev.pos h1 ?_
  have e1 : ∀ x : Int, impl_wordOk.f x = some (decide (wordIn x)) := fun x => by unfold impl_wordOk.f; rw [isIn]; rfl
  refine Ev.then (e1 gen) ?_
  by_cases h2 : wordIn gen
  case neg => exact Ev.neg (by simpa using h2) (bad (fun h => h2 h.2.1) _ rfl)
  refine Ev.pos (by simpa using h2) (Ev.then (e1 place) ?_)
  by_cases h3 : wordIn place
  case neg => exact bad (fun h => h3 h.2.2) _ (by rw [decide_eq_false h3]; rfl)
  rw [putRec_yes ⟨h1, h2, h3⟩]
  have hb := recBody_length gen place kind n owner s
  refine Ev.step (fun k => impl_PutRec.j0.eq_2 _ _ _ _ _ _ _ k) (Ev.neg (by simpa using h3) ?_)
  refine Ev.then (impl_putWord _ _ (by simp)) (Ev.then (impl_putWord _ _ (by simp [wordBytes])) (Ev.then rfl (Ev.pos (by simp [wordBytes]) (Ev.then (impl_putWord _ _ (by simp [wordBytes])) (Ev.then rfl (Ev.pos (by simp [wordBytes]) ?_))))))
  rw [List.nil_append]
  exact Ev.bind (impl_putText (recHead gen place kind n owner) s (by rw [recHead_length]; omega) (by omega)) (Ev.bind (impl_sum _ (recBody_bytes gen place kind n owner s) (by unfold recBody at hb; omega)) (Ev.then (impl_putWord _ _ (by unfold recBody at hb; omega)) (Ev.then rfl (Ev.done rfl))))
end Go.Proofs.YthkepmicdpgbbaaGreatDoor.Fn

/- What the printed functions that read a text come to. No memory is in sight here. -/
namespace Go.Proofs.YthkepmicdpgbbaaGreatDoor.Fn
set_option linter.unusedVariables false
set_option linter.unusedSimpArgs false
open Go.RowKit Go.Proofs.YthkepmicdpgbbaaGreatDoorW.PrintWords Go.Proofs.YthkepmicdpgbbaaGreatDoor.P Go.Proofs.YthkepmicdpgbbaaGreatDoor.Base

/-! ### texts out of bytes -/
def noText : ByteArray × Int × Bool := (⟨#[]⟩, 0, false)
/-- The bytes of l from a + 1 on, as many as byte a tells. -/
def textAt (l : List Int) (a : Int) : ByteArray := strOfNums ((l.take (a + 1 + rd l a).toNat).drop (a + 1).toNat)
def getText (l : List Int) (a : Int) : ByteArray × Int × Bool :=
  if a < 0 ∨ (l.length : Int) ≤ a ∨ (l.length : Int) - a - 1 < rd l a then noText
  else if textOk (textAt l a) = true then (textAt l a, a + 1 + rd l a, true) else noText
theorem textAt_size (l : List Int) (a : Int) (hl : l.length ≤ 140737488351232) : (textAt l a).size ≤ 9223372036854775807 := by
  unfold textAt
  rw [size_strOfNums, List.length_drop, List.length_take]
  omega
theorem spec_getText (l : List Int) (a : Int) (hb : Bytes l) (hl : l.length ≤ 140737488351232) : Ev (fun k => spec_GetText.f k l a) (getText l a) := by
  unfold spec_GetText.f getText
  have bad : ∀ b : Bool, b = true → Ev (fun k => spec_GetText.j0 k l a b) noText := fun b hb => Ev.step (fun k => spec_GetText.j0.eq_2 _ _ _ k) (Ev.pos hb (Ev.done rfl))
  by_cases h0 : a < 0
  · rw [if_pos (.inl h0)]; exact Ev.pos h0 (bad _ rfl)
  refine Ev.neg h0 ?_
  by_cases h1 : (l.length : Int) ≤ a
  · rw [if_pos (.inr (.inl h1))]; exact bad _ (by simpa using h1)
  have hr := rd_byte hb a
  refine Ev.step (fun k => spec_GetText.j0.eq_2 _ _ _ k) (Ev.neg (by simpa using h1) (Ev.pos (by omega) (Ev.pos (by omega) ?_)))
  rw [w64_byte hb, w64 (n := (l.length : Int) - a) (by omega) (by omega), w64 (n := (l.length : Int) - a - 1) (by omega) (by omega)]
  by_cases h2 : (l.length : Int) - a - 1 < rd l a
  · rw [if_pos (.inr (.inr h2))]; exact Ev.pos h2 (Ev.done rfl)
  rw [if_neg (by omega), w64 (n := a + 1) (by omega) (by omega), w64 (n := a + 1 + rd l a) (by omega) (by omega)]
  refine Ev.neg h2 (Ev.pos (by omega) (Ev.pos (by omega) (Ev.pos (by omega) (Ev.bind (spec_textOk (textAt l a) (textAt_size l a hl)) ?_))))
  by_cases h3 : textOk (textAt l a) = true
  · exact Ev.pos h3 (Ev.done (if_pos h3).symm)
  · exact Ev.neg h3 (Ev.done (if_neg h3).symm)
theorem impl_getText (l : List Int) (a : Int) (hb : Bytes l) (hl : l.length ≤ 140737488351232) : Ev (fun k => impl_GetText.f k l a) (getText l a) := by
  unfold impl_GetText.f getText
  have bad : ∀ b : Bool, b = true → Ev (fun k => impl_GetText.j0 k l a b) noText := fun b hb => Ev.step (fun k => impl_GetText.j0.eq_2 _ _ _ k) (Ev.pos hb (Ev.done rfl))
  rw [isIn, w64 (n := (l.length : Int) - 1) (by omega) (by omega)]
  by_cases h0 : a < 0 ∨ (l.length : Int) ≤ a
  · rw [if_pos (by omega)]
    exact Ev.neg (by simp; omega) (bad _ rfl)
  have hr := rd_byte hb a
  refine Ev.pos (by simp; omega) (Ev.pos (by omega) (Ev.pos (by omega) ?_))
  rw [w64_byte hb, w64 (n := (l.length : Int) - a) (by omega) (by omega), w64 (n := (l.length : Int) - a - 1) (by omega) (by omega)]
  by_cases h2 : (l.length : Int) - a - 1 < rd l a
  · rw [if_pos (.inr (.inr h2))]; exact bad _ (by simpa using h2)
  rw [if_neg (by omega)]
  refine Ev.step (fun k => impl_GetText.j0.eq_2 _ _ _ k) (Ev.neg (by simpa using h2) (Ev.pos (by omega) (Ev.pos (by omega) ?_)))
  rw [w64_byte hb, w64 (n := a + 1) (by omega) (by omega), w64 (n := a + 1 + rd l a) (by omega) (by omega)]
  refine Ev.pos (by omega) (Ev.pos (by omega) (Ev.pos (by omega) (Ev.bind (impl_textOk (textAt l a) (textAt_size l a hl)) ?_)))
  by_cases h3 : textOk (textAt l a) = true
  · exact Ev.pos h3 (Ev.done (if_pos h3).symm)
  · exact Ev.neg h3 (Ev.done (if_neg h3).symm)
end Go.Proofs.YthkepmicdpgbbaaGreatDoor.Fn

/- What the printed functions that read a record come to. -/
namespace Go.Proofs.YthkepmicdpgbbaaGreatDoor.Fn
set_option linter.unusedVariables false
set_option linter.unusedSimpArgs false
open Go.RowKit Go.Proofs.YthkepmicdpgbbaaGreatDoorW.PrintWords Go.Proofs.YthkepmicdpgbbaaGreatDoor.P Go.Proofs.YthkepmicdpgbbaaGreatDoor.Base

theorem sameBytes' {l m : List Int} (hl : Bytes l) (hm : Bytes m) : ((strOfNums l).toList == (strOfNums m).toList) = eqB l m := by
  rw [Bool.eq_iff_iff, beq_iff_eq, eqB_iff, strOfNums_inj hl hm]
noncomputable def recAt (l : List Int) : List Int := putRec (word l 0).1 (word l 2).1 (rd l 4) (word l 5).1 (rd l 7) (getText l 8).1
def IsRec (l : List Int) : Prop := 9 ≤ l.length ∧ recAt l = l
noncomputable def getRec (l : List Int) : Int × Int × Int × Int × Int × ByteArray × Bool :=
  @ite _ (IsRec l) (Classical.propDecidable _) ((word l 0).1, (word l 2).1, rd l 4, (word l 5).1, rd l 7, (getText l 8).1, true) (0, 0, 0, 0, 0, ⟨#[]⟩, false)
theorem getRec_yes {l : List Int} (h : IsRec l) : getRec l = ((word l 0).1, (word l 2).1, rd l 4, (word l 5).1, rd l 7, (getText l 8).1, true) := if_pos h
theorem getRec_no {l : List Int} (h : ¬ IsRec l) : getRec l = (0, 0, 0, 0, 0, ⟨#[]⟩, false) := if_neg h
theorem getText_short (l : List Int) (a : Int) : (getText l a).1.size ≤ 100 := by
  unfold getText
  split
  · decide
  · split
    · rename_i h; exact textOk_size h
    · decide
theorem getText_ok (l : List Int) (a : Int) : textOk (getText l a).1 = true := by
  unfold getText
  have he : textOk (⟨#[]⟩ : ByteArray) = true := by
    rw [textOk_iff]
    exact ⟨by decide, fun i hi => absurd hi (Nat.not_lt_zero _)⟩
  split
  · exact he
  · split
    · rename_i h; exact h
    · exact he
/-- What is a record is told so by the reference, too. -/
theorem isRec_more {l : List Int} (hb : Bytes l) (h : IsRec l) : 11 ≤ l.length ∧ recOk (rd l 4) (word l 5).1 (rd l 7) (getText l 8).1 = true ∧ (getText l 8).2.2 = true := by
  obtain ⟨h9, he⟩ := h
  by_cases hc : recOk (rd l 4) (word l 5).1 (rd l 7) (getText l 8).1 = true ∧ wordIn (word l 0).1 ∧ wordIn (word l 2).1
  case neg =>
    unfold recAt at he
    rw [putRec_no hc] at he
    rw [← he] at h9
    simp at h9
  have hput : recAt l = (recHead (word l 0).1 (word l 2).1 (rd l 4) (word l 5).1 (rd l 7) ++ [((getText l 8).1.size : Int)] ++ bytesOf (getText l 8).1) ++ wordBytes (crc (recBody (word l 0).1 (word l 2).1 (rd l 4) (word l 5).1 (rd l 7) (getText l 8).1)) := by
    unfold recAt
    rw [putRec_yes hc, recBody, putText, if_pos (getText_ok l 8)]
  have hlen : l.length = 8 + 1 + (getText l 8).1.size + 2 := by
    conv => lhs; rw [← he, hput]
    simp only [List.length_append, recHead_length, bytesOf_length, wordBytes_length, List.length_singleton]
  have h8 : rd l 8 = ((getText l 8).1.size : Int) := by
    rw [show (8 : Int) = ((8 : Nat) : Int) from rfl, rd_getElem (by omega)]
    have e : l[8]? = some ((getText l 8).1.size : Int) := by
      conv => lhs; rw [← he, hput]
      rw [List.append_assoc, List.append_assoc, List.getElem?_append_right (by rw [recHead_length]; omega), recHead_length]
      rfl
    rw [List.getElem?_eq_getElem (by omega)] at e
    exact Option.some.inj e
  refine ⟨by omega, hc.1, ?_⟩
  unfold getText
  rw [if_neg (by rw [h8]; omega)]
  by_cases ht : textOk (textAt l 8) = true
  · rw [if_pos ht]
  · exfalso
    have hz : (getText l 8).1.size = 0 := by
      unfold getText
      rw [if_neg (by rw [h8]; omega), if_neg ht]
      rfl
    have hr : rd l 8 = 0 := by rw [h8, hz]; rfl
    apply ht
    have e : (textAt l 8).size = 0 := by
      unfold textAt
      rw [size_strOfNums, hr, List.length_drop, List.length_take]
      omega
    rw [textOk_iff]
    exact ⟨by omega, fun i hi => absurd hi (by omega)⟩
theorem impl_getRec (l : List Int) (hb : Bytes l) (hl : l.length ≤ 140737488351232) : Ev (fun k => impl_GetRec.f k l) (getRec l) := by
  unfold impl_GetRec.f
  by_cases h9 : (l.length : Int) < 9
  · rw [getRec_no (fun h => by have := h.1; omega)]; exact Ev.pos h9 (Ev.done rfl)
  have hs := getText_short l 8
  refine Ev.neg h9 (Ev.then (impl_getWord l 0 hb hl) (Ev.then (impl_getWord l 2 hb hl) (Ev.then (impl_getWord l 5 hb hl) (Ev.bind (impl_getText l 8 hb hl) (Ev.pos (by omega) (Ev.pos (by omega) ?_))))))
  rw [w64_byte hb, w64_byte hb]
  refine Ev.bind (impl_putRec _ _ _ _ _ _ (by omega)) ?_
  unfold bytes_Equal.f
  rw [sameBytes' (putRec_bytes _ _ _ _ _ _) hb]
  by_cases h : recAt l = l
  · rw [getRec_yes ⟨by omega, h⟩]
    exact Ev.then rfl (Ev.pos (eqB_iff.2 h) (Ev.done rfl))
  · rw [getRec_no (fun e => h e.2)]
    have hn : ¬ (putRec (word l 0).1 (word l 2).1 (rd l 4) (word l 5).1 (rd l 7) (getText l 8).1 = l) := h
    exact Ev.then rfl (Ev.neg (by rw [eqB_not hn]; decide) (Ev.done rfl))
theorem spec_getRec (l : List Int) (hb : Bytes l) (hl : l.length ≤ 140737488351232) : Ev (fun k => spec_GetRec.f k l) (getRec l) := by
  unfold spec_GetRec.f
  by_cases h11 : (l.length : Int) < 11
  · rw [getRec_no (fun h => by have := (isRec_more hb h).1; omega)]; exact Ev.pos h11 (Ev.done rfl)
  have hs := getText_short l 8
  refine Ev.neg h11 (Ev.then (spec_getWord l 0 hb hl) (Ev.then (spec_getWord l 2 hb hl) (Ev.then (spec_getWord l 5 hb hl) (Ev.bind (spec_getText l 8 hb hl) (Ev.pos (by omega) (Ev.pos (by omega) ?_))))))
  rw [w64_byte hb, w64_byte hb]
  by_cases ht : (getText l 8).2.2 = true
  case neg => rw [getRec_no (fun h => ht (isRec_more hb h).2.2)]; exact Ev.neg ht (Ev.done rfl)
  refine Ev.pos ht (Ev.bind (spec_recOk _ _ _ _ (by omega)) ?_)
  by_cases hr : recOk (rd l 4) (word l 5).1 (rd l 7) (getText l 8).1 = true
  case neg => rw [getRec_no (fun h => hr (isRec_more hb h).2.1)]; exact Ev.neg hr (Ev.done rfl)
  refine Ev.pos hr (Ev.bind (spec_putRec _ _ _ _ _ _ (by omega)) ?_)
  unfold spec_l1Same.f
  rw [sameBytes' (putRec_bytes _ _ _ _ _ _) hb]
  by_cases h : recAt l = l
  · rw [getRec_yes ⟨by omega, h⟩]
    exact Ev.then rfl (Ev.pos (eqB_iff.2 h) (Ev.done rfl))
  · rw [getRec_no (fun e => h e.2)]
    have hn : ¬ (putRec (word l 0).1 (word l 2).1 (rd l 4) (word l 5).1 (rd l 7) (getText l 8).1 = l) := h
    exact Ev.then rfl (Ev.neg (by rw [eqB_not hn]; decide) (Ev.done rfl))
end Go.Proofs.YthkepmicdpgbbaaGreatDoor.Fn

/- What the printed functions that draw come to: whatever they draw, it lies in its range. No memory is in sight here. -/
namespace Go.Proofs.YthkepmicdpgbbaaGreatDoor.Fn
set_option linter.unusedVariables false
set_option linter.unusedSimpArgs false
open Go.RowKit Go.Proofs.YthkepmicdpgbbaaGreatDoorW.PrintWords Go.Proofs.YthkepmicdpgbbaaGreatDoor.P Go.Proofs.YthkepmicdpgbbaaGreatDoor.Base

/-- A cursor over the bytes l, at place i. -/
def Cur (l : List Int) (i : Int) : Prop := 0 ≤ i ∧ i ≤ l.length ∧ l.length ≤ 140737488351232
theorem and_range (x : Int) (m : Nat) (hm : m < 2 ^ 63) : 0 ≤ Go.bits .and .i64 x m ∧ Go.bits .and .i64 x m ≤ m := by
  have hk : IntKind.i64.bits = 64 := rfl
  have hm' : m % 2 ^ IntKind.i64.bits = m := Nat.mod_eq_of_lt (by rw [hk]; omega)
  have hle : (BitVec.ofInt IntKind.i64.bits x).toNat &&& m ≤ m := Nat.and_le_right
  simp only [Go.bits, BitVec.ofInt_natCast, BitVec.toNat_and, BitVec.toNat_ofNat, hm']
  rw [wraps_i64 _ (by omega) (by omega)]
  omega
theorem and255 (x : Int) : 0 ≤ Go.bits .and .i64 x 255 ∧ Go.bits .and .i64 x 255 ≤ 255 := and_range x 255 (by decide)
theorem l1New_l0 (l : List Int) (hl : l.length ≤ 140737488351232) (d : Nat) : ∀ (i : Nat) (h : Int), i + d = l.length → ∃ h', Ev (fun k => spec_l1New.l0 k l h (i : Int)) (l, 0, h') := by
  induction d with
  | zero =>
    intro i h hi
    exact ⟨h, Ev.step (fun k => spec_l1New.l0.eq_2 _ _ _ k) (Ev.neg (by omega) (Ev.done rfl))⟩
  | succ d ih =>
    intro i h hi
    by_cases h4 : (i : Int) < 4000
    · obtain ⟨h', hh⟩ := ih (i + 1) (Go.bits .and .i64 (wrap64 ((wrap64 ((wrap64 (h * 137)) + (wrap64 (rd l i)))) + 11)) 1073741823) (by omega)
      refine ⟨h', Ev.step (fun k => spec_l1New.l0.eq_2 _ _ _ k) (Ev.pos (by omega) (Ev.pos h4 (Ev.pos (by omega) ?_)))⟩
      rw [w64 (n := (i : Int) + 1) (by omega) (by omega), cast_succ]
      exact hh
    · exact ⟨h, Ev.step (fun k => spec_l1New.l0.eq_2 _ _ _ k) (Ev.pos (by omega) (Ev.neg h4 (Ev.done rfl)))⟩
theorem l1New (l : List Int) (hl : l.length ≤ 140737488351232) : ∃ h, Ev (fun k => spec_l1New.f k l) (l, 0, h) := by
  unfold spec_l1New.f
  exact l1New_l0 l hl l.length 0 _ (by omega)
theorem Cur.zero {l : List Int} (hl : l.length ≤ 140737488351232) : Cur l 0 := ⟨by omega, by omega, hl⟩
theorem l1Byte {l : List Int} {i : Int} (hc : Cur l i) (h : Int) : ∃ r i' h', spec_l1Byte.f l i h = some (r, i', h') ∧ 0 ≤ r ∧ r ≤ 255 ∧ Cur l i' := by
  obtain ⟨h0, h1, h2⟩ := hc
  unfold spec_l1Byte.f
  by_cases hi : i < (l.length : Int)
  · rw [if_pos hi, if_pos h0, w64 (n := i + 1) (by omega) (by omega)]
    exact ⟨_, _, _, rfl, (and255 _).1, (and255 _).2, by omega, by omega, h2⟩
  · rw [if_neg hi]
    exact ⟨_, _, _, rfl, (and255 _).1, (and255 _).2, h0, h1, h2⟩
theorem tmod_range {x n : Int} (hx : 0 ≤ x) (hn : 0 < n) : 0 ≤ Int.tmod x n ∧ Int.tmod x n < n := by
  rw [Int.tmod_eq_emod_of_nonneg hx]
  exact ⟨Int.emod_nonneg _ (by omega), Int.emod_lt_of_pos _ hn⟩
theorem l1Below {l : List Int} {i : Int} (hc : Cur l i) (h n : Int) : ∃ r i' h', spec_l1Below.f l i h n = some (r, i', h') ∧ 0 ≤ r ∧ (0 < n → r < n) ∧ (n ≤ 0 → r = 0) ∧ Cur l i' := by
  unfold spec_l1Below.f
  by_cases h0 : n ≤ 0
  · rw [if_pos h0]; exact ⟨0, i, h, rfl, by omega, by omega, fun _ => rfl, hc⟩
  rw [if_neg h0]
  by_cases h1 : n ≤ 256
  · rw [if_pos h1]
    obtain ⟨r, i1, h1', e1, r0, r1, hc1⟩ := l1Byte hc h
    rw [e1]
    simp only [Option.bind_some]
    rw [if_neg (by omega)]
    have := tmod_range r0 (show 0 < n by omega)
    exact ⟨_, _, _, rfl, this.1, fun _ => this.2, by omega, hc1⟩
  · rw [if_neg h1]
    obtain ⟨x, i1, h1', e1, x0, x1, hc1⟩ := l1Byte hc h
    obtain ⟨y, i2, h2', e2, y0, y1, hc2⟩ := l1Byte hc1 h1'
    obtain ⟨z, i3, h3', e3, z0, z1, hc3⟩ := l1Byte hc2 h2'
    simp only [e1, e2, e3, Option.bind_some]
    rw [if_neg (by omega), w64 (n := x * 65536) (by omega) (by omega), w64 (n := y * 256) (by omega) (by omega), w64 (n := x * 65536 + y * 256) (by omega) (by omega), w64 (by omega) (by omega)]
    have := tmod_range (show 0 ≤ x * 65536 + y * 256 + z by omega) (show 0 < n by omega)
    exact ⟨_, _, _, rfl, this.1, fun _ => this.2, by omega, hc3⟩
theorem big (l : List Int) : laws_big.f l = some (decide ((l.length : Int) > 1048576)) := rfl
theorem at_ (l : List Int) (hb : Bytes l) (hl : l.length ≤ 1048576) (i : Int) (h0 : 0 ≤ i) (h1 : i ≤ 100) : ∃ r, laws_at.f l i = some r ∧ 0 ≤ r ∧ r ≤ 255 := by
  unfold laws_at.f
  by_cases h : i < (l.length : Int)
  · rw [if_pos h, if_pos h0, w64_byte hb]
    have := rd_byte hb i
    exact ⟨_, rfl, this⟩
  · rw [if_neg h, w64 (n := i * 31) (by omega) (by omega), w64 (n := (l.length : Int) * 7) (by omega) (by omega), w64 (by omega) (by omega)]
    have := tmod_range (x := i * 31 + (l.length : Int) * 7) (n := 256) (by omega) (by omega)
    exact ⟨_, rfl, this.1, by omega⟩
theorem xor_u8 {a b : Int} (ha : 0 ≤ a ∧ a ≤ 255) (hb : 0 ≤ b ∧ b ≤ 255) : Go.bits .xor .u8 a b = ((a.toNat ^^^ b.toNat : Nat) : Int) ∧ a.toNat ^^^ b.toNat < 256 := by
  obtain ⟨x, rfl⟩ := Int.eq_ofNat_of_zero_le ha.1
  obtain ⟨y, rfl⟩ := Int.eq_ofNat_of_zero_le hb.1
  have hk : IntKind.u8.bits = 8 := rfl
  have hx : x % 2 ^ IntKind.u8.bits = x := Nat.mod_eq_of_lt (by rw [hk]; omega)
  have hy : y % 2 ^ IntKind.u8.bits = y := Nat.mod_eq_of_lt (by rw [hk]; omega)
  have hc : x ^^^ y < 2 ^ 8 := Nat.xor_lt_two_pow (by omega) (by omega)
  refine ⟨?_, by simpa using hc⟩
  simp only [Go.bits, BitVec.ofInt_natCast, BitVec.toNat_xor, BitVec.toNat_ofNat, hx, hy, IntKind.wrap_u8, Int.toNat_natCast]
  omega
/-- A byte of b, if it has one, is turned. -/
def Turned (b x : List Int) : Prop := b = [] ∧ x = [] ∨ ∃ (i : Nat) (hi : i < b.length) (y : Int), x = b.set i y ∧ 0 ≤ y ∧ y ≤ 255 ∧ y ≠ b[i]
theorem bent (l b : List Int) (hb : Bytes l) (hl : l.length ≤ 1048576) (hB : Bytes b) (hlb : b.length ≤ 140737488351232) : ∃ x, laws_bent.f l b = some x ∧ Turned b x := by
  unfold laws_bent.f
  simp only [Option.bind_some, List.nil_append, List.length_nil, Nat.zero_add]
  rw [if_pos (by omega)]
  by_cases h : (b.length : Int) > 0
  · rw [if_pos h]
    obtain ⟨t2, e2, a2, b2⟩ := at_ l hb hl 2 (by omega) (by omega)
    obtain ⟨t3, e3, a3, b3⟩ := at_ l hb hl 3 (by omega) (by omega)
    obtain ⟨t4, e4, a4, b4⟩ := at_ l hb hl 4 (by omega) (by omega)
    simp only [e2, e3, e4, Option.bind_some]
    rw [if_neg (by omega), w64 (n := t2 * 256) (by omega) (by omega), w64 (n := t2 * 256 + t3) (by omega) (by omega)]
    have hi := tmod_range (x := t2 * 256 + t3) (by omega) h
    have ht := tmod_range (x := t4) (n := 255) (by omega) (by omega)
    rw [if_pos hi.1, if_pos hi.2, w64 (n := 1 + Int.tmod t4 255) (by omega) (by omega), Int.emod_eq_of_lt (a := 1 + Int.tmod t4 255) (by omega) (by omega)]
    obtain ⟨i, hi'⟩ := Int.eq_ofNat_of_zero_le hi.1
    rw [hi'] at hi ⊢
    have hr := rd_byte hB (i : Int)
    have hx := xor_u8 hr (show 0 ≤ 1 + Int.tmod t4 255 ∧ 1 + Int.tmod t4 255 ≤ 255 by omega)
    refine ⟨_, rfl, .inr ⟨i, by omega, _, by rw [Int.toNat_natCast], by rw [hx.1]; omega, by rw [hx.1]; omega, ?_⟩⟩
    rw [hx.1, ← rd_getElem (by omega)]
    intro he
    have h2 : (rd b (i : Int)).toNat ^^^ (1 + Int.tmod t4 255).toNat = (rd b (i : Int)).toNat ^^^ 0 := by rw [Nat.xor_zero]; omega
    have := Crc.xor_cancel h2
    omega
  · rw [if_neg h]
    have : b = [] := List.eq_nil_of_length_eq_zero (by omega)
    exact ⟨b, rfl, .inl ⟨this, this⟩⟩
theorem Turned.bytes {b x : List Int} (h : Turned b x) (hb : Bytes b) : Bytes x := by
  rcases h with ⟨rfl, rfl⟩ | ⟨i, hi, y, rfl, h0, h1, _⟩
  · exact hb
  · intro z hz
    rcases List.mem_or_eq_of_mem_set hz with hz | rfl
    · exact hb z hz
    · exact ⟨h0, h1⟩
theorem Turned.length {b x : List Int} (h : Turned b x) : x.length = b.length := by
  rcases h with ⟨rfl, rfl⟩ | ⟨i, hi, y, rfl, _⟩
  · rfl
  · rw [List.length_set]
theorem Turned.crc {b x : List Int} (h : Turned b x) (hb : Bytes b) (h0 : 0 < b.length) : crc x ≠ crc b := by
  rcases h with ⟨rfl, rfl⟩ | ⟨i, hi, y, rfl, h1, _, h3⟩
  · simp at h0
  · intro he
    unfold Fn.crc at he
    have hx := hb _ (List.getElem_mem hi)
    exact Crc.sum_set b 65535 i hi y h1 hx.1 h3 (by exact_mod_cast he)
theorem l1Once {l : List Int} {i : Int} (hc : Cur l i) (h n : Int) : ∃ r i' h', spec_l1Once.f l i h n = some (r, i', h') ∧ Cur l i' := by
  unfold spec_l1Once.f
  obtain ⟨r, i1, h1, e1, _, _, _, hc1⟩ := l1Below hc h n
  rw [e1]
  exact ⟨_, _, _, rfl, hc1⟩
theorem l1Str {l : List Int} {i : Int} (hc : Cur l i) (h : Int) (L : List ByteArray) (h0 : L ≠ []) : ∃ r i' h', spec_l1Str.f l i h L = some (r, i', h') ∧ r ∈ L ∧ Cur l i' := by
  unfold spec_l1Str.f
  obtain ⟨r, i1, h1, e1, r0, r1, _, hc1⟩ := l1Below hc h L.length
  have hl : 0 < L.length := List.length_pos_iff.2 h0
  have hr := r1 (by omega)
  rw [e1]
  simp only [Option.bind_some]
  rw [if_pos r0, if_pos hr]
  refine ⟨_, _, _, rfl, ?_, hc1⟩
  unfold rdOf
  rw [List.getD_eq_getElem?_getD, List.getElem?_eq_getElem (by omega)]
  exact List.getElem_mem _
theorem l1Int {l : List Int} {i : Int} (hc : Cur l i) (h : Int) (L : List Int) (h0 : L ≠ []) : ∃ r i' h', spec_l1Int.f l i h L = some (r, i', h') ∧ Cur l i' := by
  unfold spec_l1Int.f
  obtain ⟨r, i1, h1, e1, r0, r1, _, hc1⟩ := l1Below hc h L.length
  have hl : 0 < L.length := List.length_pos_iff.2 h0
  have hr := r1 (by omega)
  rw [e1]
  simp only [Option.bind_some]
  rw [if_pos r0, if_pos hr]
  exact ⟨_, _, _, rfl, hc1⟩
end Go.Proofs.YthkepmicdpgbbaaGreatDoor.Fn

/- What the printed functions that draw frames come to: bytes, and not many. -/
namespace Go.Proofs.YthkepmicdpgbbaaGreatDoor.Fn
set_option linter.unusedVariables false
set_option linter.unusedSimpArgs false
open Go.RowKit Go.Proofs.YthkepmicdpgbbaaGreatDoorW.PrintWords Go.Proofs.YthkepmicdpgbbaaGreatDoor.P Go.Proofs.YthkepmicdpgbbaaGreatDoor.Base

theorem l1Bend {l : List Int} {i : Int} (hc : Cur l i) (h : Int) (b : List Int) (hb : Bytes b) (hl : b.length ≤ 1048576) : ∃ r i' h', spec_l1Bend.f l i h b = some (r, i', h') ∧ Bytes r ∧ r.length ≤ b.length + 1 ∧ Cur l i' := by
  unfold spec_l1Bend.f
  obtain ⟨q, i1, h1, e1, q0, q1, _, hc1⟩ := l1Below hc h 8
  simp only [Option.bind_some, List.nil_append, List.length_nil]
  rw [if_pos (by omega), e1, Option.bind_some]
  dsimp only
  by_cases k0 : q = 0
  · rw [if_pos k0]
    by_cases hp : (b.length : Int) > 0
    · rw [if_pos hp]
      obtain ⟨r, i2, h2, e2, r0, r1, _, hc2⟩ := l1Below hc1 h1 b.length
      obtain ⟨z, i3, h3, e3, z0, z1, _, hc3⟩ := l1Below hc2 h2 255
      have hr := r1 hp
      have hz := z1 (by omega)
      rw [e2]
      simp only [Option.bind_some]
      rw [if_pos r0, if_pos hr, e3]
      simp only [Option.bind_some]
      refine ⟨_, _, _, rfl, ?_, by rw [List.length_set]; (try dsimp only); omega, hc3⟩
      intro x hx
      rcases List.mem_or_eq_of_mem_set hx with hx | rfl
      · exact hb x hx
      · rw [w64 (n := 1 + z) (by omega) (by omega)]
        obtain ⟨h1, h2⟩ := xor_u8 (rd_byte hb r) (show 0 ≤ (1 + z) % 256 ∧ (1 + z) % 256 ≤ 255 by omega)
        rw [h1]
        omega
    · rw [if_neg hp]
      exact ⟨_, _, _, rfl, hb, by omega, hc1⟩
  rw [if_neg k0]
  by_cases k1 : q = 1
  · rw [if_pos k1]
    by_cases hp : (b.length : Int) > 0
    · rw [if_pos hp]
      obtain ⟨r, i2, h2, e2, r0, r1, _, hc2⟩ := l1Below hc1 h1 b.length
      have hr := r1 hp
      rw [e2]
      simp only [Option.bind_some]
      rw [if_pos r0, if_pos (by omega)]
      exact ⟨_, _, _, rfl, hb.take _, by rw [List.length_take]; omega, hc2⟩
    · rw [if_neg hp]
      exact ⟨_, _, _, rfl, hb, by omega, hc1⟩
  rw [if_neg k1]
  by_cases k2 : q = 2
  · rw [if_pos k2]
    obtain ⟨r, i2, h2, e2, r0, r1, hc2⟩ := l1Byte hc1 h1
    rw [e2]
    simp only [Option.bind_some]
    rw [if_pos (by omega)]
    exact ⟨_, _, _, rfl, hb.append (Bytes.cons (by omega) Bytes.nil), by simp, hc2⟩
  · rw [if_neg k2]
    exact ⟨_, _, _, rfl, hb, by omega, hc1⟩
end Go.Proofs.YthkepmicdpgbbaaGreatDoor.Fn

/- What the functions that draw configurations and records come to: whatever they draw is right. No memory is in sight here. -/
namespace Go.Proofs.YthkepmicdpgbbaaGreatDoor.Fn
set_option linter.unusedVariables false
set_option linter.unusedSimpArgs false
open Go.RowKit Go.Proofs.YthkepmicdpgbbaaGreatDoorW.PrintWords Go.Proofs.YthkepmicdpgbbaaGreatDoor.P Go.Proofs.YthkepmicdpgbbaaGreatDoor.Base

theorem l1IntM {l : List Int} {i : Int} (hc : Cur l i) (h : Int) (L : List Int) (h0 : L ≠ []) : ∃ r i' h', spec_l1Int.f l i h L = some (r, i', h') ∧ r ∈ L ∧ Cur l i' := by
  unfold spec_l1Int.f
  obtain ⟨r, i1, h1, e1, r0, r1, _, hc1⟩ := l1Below hc h L.length
  have hl : 0 < L.length := List.length_pos_iff.2 h0
  have hr := r1 (by omega)
  rw [e1]
  simp only [Option.bind_some]
  rw [if_pos r0, if_pos hr]
  refine ⟨_, _, _, rfl, ?_, hc1⟩
  unfold rd
  rw [List.getD_eq_getElem?_getD, List.getElem?_eq_getElem (by omega)]
  exact List.getElem_mem _
theorem emptyT_nil : emptyT (⟨#[]⟩ : ByteArray) = true := by
  have : (⟨#[]⟩ : ByteArray).toList = [] := by unfold ByteArray.toList; unfold ByteArray.toList.loop; rfl
  unfold emptyT
  rw [this]
  rfl
abbrev Apart (L : List Db) : Prop := L.Pairwise fun a b => a.f0.toList ≠ b.f0.toList
theorem noneAt_mk (l : List Db) (name : ByteArray) (e : Nat) : ∀ (j : Nat), (∀ q, j ≤ q → q < j + e → (rd_T138 l (q : Int)).f0.toList ≠ name.toList) → noneAt l name j e = true := by
  induction e with
  | zero => intro j _; rfl
  | succ e ih =>
    intro j hj
    unfold noneAt
    rw [ih (j + 1) (fun q h1 h2 => hj q (by omega) (by omega))]
    have := hj j (Nat.le_refl _) (by omega)
    simpa using this
theorem confFrom_mk (l : List Db) (h0 : 1 ≤ l.length ∧ l.length ≤ 3) (hok : ∀ x ∈ l, dbOk x = true) (hap : Apart l) (d : Nat) : ∀ (i : Nat), i + d = l.length → confFrom l i d = true := by
  induction d with
  | zero =>
    intro i hi
    unfold confFrom
    rw [decide_eq_true_eq]
    omega
  | succ d ih =>
    intro i hi
    have he : rd_T138 l (i : Int) = l[i] := getD_nat l _ (by omega)
    unfold confFrom
    rw [he, hok _ (List.getElem_mem _), ih (i + 1) (by omega), noneAt_mk l _ i 0 (fun q h1 h2 => ?_)]
    · rfl
    · have hq : rd_T138 l (q : Int) = l[q] := getD_nat l _ (by omega)
      rw [hq]
      exact (List.pairwise_iff_getElem.1 hap) q i (by omega) (by omega) (by omega)
theorem l3One {l : List Int} {i : Int} (hc : Cur l i) (h : Int) : ∃ (x : Db) (i' h' : Int), spec_l3One.f l i h = some (x.f0, x.f1, x.f2, x.f3, x.f4, i', h') ∧ dbOk x = true ∧ Cur l i' := by
  unfold spec_l3One.f
  obtain ⟨s, i1, h1, e1, hs, hc1⟩ := l1Str hc h [(⟨#[109, 97, 105, 110]⟩ : ByteArray), (⟨#[109, 97, 105, 110]⟩ : ByteArray), (⟨#[108, 111, 103, 115]⟩ : ByteArray), (⟨#[120]⟩ : ByteArray)] (by simp)
  obtain ⟨a, i2, h2, e2, a0, a1, _, hc2⟩ := l1Below hc1 h1 3
  obtain ⟨b, i3, h3, e3, b0, b1, _, hc3⟩ := l1Below hc2 h2 5
  obtain ⟨c, i4, h4, e4, c0, hc4⟩ := l1IntM hc3 h3 [1, 2, 5, 20] (by simp)
  obtain ⟨d, i5, h5, e5, d0, hc5⟩ := l1IntM hc4 h4 [1, 3, 20] (by simp)
  have a2 := a1 (by omega)
  have b2 := b1 (by omega)
  refine ⟨⟨s, 1 + a, b, c, d⟩, i5, h5, ?_, ?_, hc5⟩
  · simp only [e1, e2, e3, e4, e5, Option.bind_some, w64 (n := 1 + a) (by omega) (by omega)]
  · have hn : nameOk s = true := by
      rw [nameOk_iff]
      simp only [List.mem_cons, List.not_mem_nil, or_false] at hs
      rcases hs with rfl | rfl | rfl | rfl <;> decide
    simp only [List.mem_cons, List.not_mem_nil, or_false] at c0 d0
    unfold dbOk
    rw [hn]
    simp only [Bool.true_and, Bool.and_eq_true, decide_eq_true_eq]
    omega
theorem l3Draw_l0 {l : List Int} (d : Nat) : ∀ (i h : Int) (L : List Db), Cur l i → L.length + d ≤ 3 → (∀ x ∈ L, dbOk x = true) → Apart L → (L = [] → 1 ≤ d) →
    ∃ L' i' h', Ev (fun k => spec_l3Draw.l0 k L (d : Int) l i h) (L', i', h') ∧ (1 ≤ L'.length ∧ L'.length ≤ 3) ∧ (∀ x ∈ L', dbOk x = true) ∧ Apart L' ∧ Cur l i' := by
  induction d with
  | zero =>
    intro i h L hc hL hok hap h0
    refine ⟨L, i, h, Ev.step (fun k => spec_l3Draw.l0.eq_2 _ _ _ _ _ k) (Ev.neg (by omega) (Ev.done rfl)), ⟨?_, by omega⟩, hok, hap, hc⟩
    cases L with
    | nil => have := h0 rfl; omega
    | cons _ _ => simp
  | succ d ih =>
    intro i h L hc hL hok hap h0
    obtain ⟨x, i1, h1, e1, hx, hc1⟩ := l3One hc h
    have hw : wrap64 (((d + 1 : Nat) : Int) - 1) = (d : Int) := by rw [w64 (by omega) (by omega)]; omega
    cases hf : dbAt L x.f0 with
    | some y =>
      obtain ⟨L', i', h', e, r⟩ := ih i1 h1 L hc1 (by omega) hok hap (fun hn => by subst hn; simp [dbAt] at hf)
      refine ⟨L', i', h', Ev.step (fun k => spec_l3Draw.l0.eq_2 _ _ _ _ _ k) (Ev.pos (by omega) (Ev.then e1 (Ev.bind (spec_dbAt L x.f0 (by omega)) ?_))), r⟩
      rw [hf, hw]
      exact Ev.pos rfl e
    | none =>
      have hne : ∀ y ∈ L, y.f0.toList ≠ x.f0.toList := fun y hy => by
        have := List.find?_eq_none.1 hf y hy
        simpa using this
      obtain ⟨L', i', h', e, r⟩ := ih i1 h1 (L ++ [x]) hc1 (by simp; omega) (fun y hy => by
        rcases List.mem_append.1 hy with hy | hy
        · exact hok y hy
        · rw [List.mem_singleton.1 hy]; exact hx) (List.pairwise_append.2 ⟨hap, List.pairwise_singleton _ _, fun a ha b hb => by rw [List.mem_singleton.1 hb]; exact hne a ha⟩) (fun hn => by simp at hn)
      refine ⟨L', i', h', Ev.step (fun k => spec_l3Draw.l0.eq_2 _ _ _ _ _ k) (Ev.pos (by omega) (Ev.then e1 (Ev.bind (spec_dbAt L x.f0 (by omega)) ?_))), r⟩
      rw [hf, hw]
      exact Ev.neg (by decide) (Ev.pos (by omega) e)
theorem l3Draw {l : List Int} {i : Int} (hc : Cur l i) (h : Int) : ∃ L i' h', Ev (fun k => spec_l3Draw.f k l i h) (L, i', h') ∧ confFrom L 0 L.length = true ∧ (∀ x ∈ L, dbOk x = true) ∧ (1 ≤ L.length ∧ L.length ≤ 3) ∧ Cur l i' := by
  unfold spec_l3Draw.f
  obtain ⟨a, i1, h1, e1, a0, a1, _, hc1⟩ := l1Below hc h 3
  have a2 := a1 (by omega)
  obtain ⟨L, i', h', e, hl, hok, hap, hc'⟩ := l3Draw_l0 (1 + a).toNat i1 h1 [] hc1 (by simp; omega) (fun x hx => by cases hx) List.Pairwise.nil (fun _ => by omega)
  refine ⟨L, i', h', Ev.then e1 ?_, confFrom_mk L hl hok hap L.length 0 (by omega), hok, hl, hc'⟩
  rw [w64 (n := 1 + a) (by omega) (by omega)]
  rwa [Int.toNat_of_nonneg (by omega)] at e
theorem db_short {L : List Db} (hok : ∀ x ∈ L, dbOk x = true) : ∀ x ∈ L, x.f0.size ≤ 9223372036854775807 := fun x hx => by
  have := (dbOk_of (hok x hx)).1
  omega
theorem l3Text {l : List Int} {i : Int} (hc : Cur l i) (h : Int) : ∃ s i' h', Ev (fun k => spec_l3Text.f k l i h) (s, i', h') ∧ s.size ≤ 100 ∧ Cur l i' := by
  unfold spec_l3Text.f
  obtain ⟨o, i1, h1, e1, hc1⟩ := l1Once hc h 3
  cases o
  · obtain ⟨L, i2, h2, e2, hL, hok, hl, hc2⟩ := l3Draw hc1 h1
    exact ⟨_, i2, h2, Ev.then e1 (Ev.neg (by simp) (Ev.bind e2 (Ev.bind (spec_confText L (by omega) (db_short hok)) (Ev.done rfl)))), (confText_size hL).2, hc2⟩
  · obtain ⟨s, i2, h2, e2, hs, hc2⟩ := l1Str hc1 h1 [(⟨#[]⟩ : ByteArray), (⟨#[109, 97, 105, 110]⟩ : ByteArray), (⟨#[109, 97, 105, 110, 58, 49]⟩ : ByteArray), (⟨#[109, 97, 105, 110, 58, 49, 47, 50, 47, 51]⟩ : ByteArray), (⟨#[109, 97, 105, 110, 58, 48, 49, 47, 50, 47, 51, 47, 52]⟩ : ByteArray), (⟨#[109, 97, 105, 110, 58, 49, 47, 50, 47, 51, 47, 52, 59]⟩ : ByteArray), (⟨#[59, 109, 97, 105, 110, 58, 49, 47, 50, 47, 51, 47, 52]⟩ : ByteArray), (⟨#[109, 97, 105, 110, 58, 49, 47, 50, 47, 51, 47, 52, 59, 109, 97, 105, 110, 58, 49, 47, 49, 47, 49, 47, 49]⟩ : ByteArray), (⟨#[109, 97, 105, 110, 58, 49, 47, 50, 47, 51, 47, 52, 47, 53]⟩ : ByteArray), (⟨#[109, 97, 105, 110, 58, 52, 47, 50, 47, 51, 47, 52]⟩ : ByteArray), (⟨#[109, 97, 105, 110, 58, 49, 47, 53, 47, 51, 47, 52]⟩ : ByteArray), (⟨#[109, 97, 105, 110, 58, 49, 47, 50, 47, 48, 47, 52]⟩ : ByteArray), (⟨#[109, 97, 105, 110, 58, 49, 47, 50, 47, 51, 47, 49, 48, 48]⟩ : ByteArray), (⟨#[77, 97, 105, 110, 58, 49, 47, 50, 47, 51, 47, 52]⟩ : ByteArray), (⟨#[109, 97, 105, 110, 58, 49, 47, 50, 47, 51, 47, 52, 32]⟩ : ByteArray), (⟨#[58, 49, 47, 50, 47, 51, 47, 52]⟩ : ByteArray), (⟨#[97, 58, 49, 47, 48, 47, 49, 47, 49, 59, 98, 58, 49, 47, 48, 47, 49, 47, 49, 59, 99, 58, 49, 47, 48, 47, 49, 47, 49, 59, 100, 58, 49, 47, 48, 47, 49, 47, 49]⟩ : ByteArray), (⟨#[97, 58, 98, 58, 49, 47, 50, 47, 51, 47, 52]⟩ : ByteArray)] (by simp)
    refine ⟨s, i2, h2, Ev.then e1 (Ev.pos rfl (Ev.then e2 (Ev.done rfl))), ?_, hc2⟩
    simp only [List.mem_cons, List.not_mem_nil, or_false] at hs
    rcases hs with rfl | rfl | rfl | rfl | rfl | rfl | rfl | rfl | rfl | rfl | rfl | rfl | rfl | rfl | rfl | rfl | rfl | rfl <;> decide
theorem recOk_prep {n : Int} {L : List Db} (hn : 1 ≤ n ∧ n ≤ 60000) (hL : confFrom L 0 L.length = true) : recOk 1 n 0 (confText L) = true := by
  unfold recOk confB
  rw [decide_eq_true hn, parseConf_text hL]
  rfl
theorem l4Draw {l : List Int} {i : Int} (hc : Cur l i) (h : Int) : ∃ kind n owner text i' h', Ev (fun k => spec_l4Draw.f k l i h) (kind, n, owner, text, i', h') ∧ recOk kind n owner text = true ∧ (1 ≤ kind ∧ kind ≤ 3) ∧ (1 ≤ n ∧ n ≤ 6) ∧ (kind = 1 → ∃ L, confFrom L 0 L.length = true ∧ text = confText L) ∧ (kind ≠ 1 → text = ⟨#[]⟩) ∧ (kind ≠ 3 → owner = 0) ∧ (0 ≤ owner ∧ owner ≤ 1) ∧ text.size ≤ 100 ∧ Cur l i' := by
  unfold spec_l4Draw.f
  obtain ⟨a, i1, h1, e1, a0, a1, _, hc1⟩ := l1Below hc h 3
  obtain ⟨b, i2, h2, e2, b0, b1, _, hc2⟩ := l1Below hc1 h1 6
  have a2 := a1 (by omega)
  have b2 := b1 (by omega)
  have wa : wrap64 (1 + a) = 1 + a := w64 (by omega) (by omega)
  have wb : wrap64 (1 + b) = 1 + b := w64 (by omega) (by omega)
  by_cases hk : a = 0
  · subst hk
    obtain ⟨L, i3, h3, e3, hL, hok, hl, hc3⟩ := l3Draw hc2 h2
    refine ⟨1, 1 + b, 0, confText L, i3, h3, Ev.then e1 (Ev.then e2 ?_), recOk_prep (by omega) hL, by omega, by omega, fun _ => ⟨L, hL, rfl⟩, fun hx => absurd rfl hx, fun _ => rfl, by omega, (confText_size hL).2, hc3⟩
    simp only [wa, wb]
    exact Ev.pos (by omega) (Ev.bind e3 (Ev.bind (spec_confText L (by omega) (db_short hok)) (Ev.neg (by omega) (Ev.done (by simp)))))
  · have et : (⟨#[]⟩ : ByteArray).size ≤ 100 := by decide
    by_cases h3 : a = 2
    · subst h3
      obtain ⟨o, i3, h3, e3, o0, o1, _, hc3⟩ := l1Below hc2 h2 2
      have o2 := o1 (by omega)
      refine ⟨3, 1 + b, o, ⟨#[]⟩, i3, h3, Ev.then e1 (Ev.then e2 ?_), ?_, by omega, by omega, fun hx => by omega, fun _ => rfl, fun hx => absurd rfl hx, by omega, et, hc3⟩
      · simp only [wa, wb]
        exact Ev.neg (by omega) (Ev.pos (by omega) (Ev.then e3 (Ev.done (by simp))))
      · unfold recOk
        rw [decide_eq_true (by omega), emptyT_nil, decide_eq_true (show 0 ≤ o ∧ o ≤ 1 by omega)]
        rfl
    · obtain rfl : a = 1 := by omega
      refine ⟨2, 1 + b, 0, ⟨#[]⟩, i2, h2, Ev.then e1 (Ev.then e2 ?_), ?_, by omega, by omega, fun hx => by omega, fun _ => rfl, fun _ => rfl, by omega, et, hc2⟩
      · simp only [wa, wb]
        exact Ev.neg (by omega) (Ev.neg (by omega) (Ev.done (by simp)))
      · unfold recOk
        rw [decide_eq_true (by omega), emptyT_nil]
        rfl
theorem l4Any {l : List Int} {i : Int} (hc : Cur l i) (h : Int) : ∃ kind n owner text i' h', Ev (fun k => spec_l4Any.f k l i h) (kind, n, owner, text, i', h') ∧ text.size ≤ 100 ∧ Cur l i' := by
  unfold spec_l4Any.f
  obtain ⟨kind, n, owner, text, i1, h1, e1, _, _, _, _, _, _, _, ht, hc1⟩ := l4Draw hc h
  obtain ⟨a, i2, h2, e2, a0, a1, _, hc2⟩ := l1Below hc1 h1 12
  by_cases k0 : a = 0
  · obtain ⟨x, i3, h3, e3, hc3⟩ := l1Int hc2 h2 [0, 1, 2, 4] (by simp)
    exact ⟨x, n, owner, text, i3, h3, Ev.bind e1 (Ev.then e2 (Ev.pos k0 (Ev.then e3 (Ev.done rfl)))), ht, hc3⟩
  by_cases k1 : a = 1
  · obtain ⟨x, i3, h3, e3, hc3⟩ := l1Int hc2 h2 [0, 60000, 60001, (-1)] (by simp)
    exact ⟨kind, x, owner, text, i3, h3, Ev.bind e1 (Ev.then e2 (Ev.neg k0 (Ev.pos k1 (Ev.then e3 (Ev.done rfl))))), ht, hc3⟩
  by_cases k2 : a = 2
  · obtain ⟨x, i3, h3, e3, hc3⟩ := l1Int hc2 h2 [(-1), 1, 2] (by simp)
    exact ⟨kind, n, x, text, i3, h3, Ev.bind e1 (Ev.then e2 (Ev.neg k0 (Ev.neg k1 (Ev.pos k2 (Ev.then e3 (Ev.done rfl)))))), ht, hc3⟩
  by_cases k3 : a = 3
  · obtain ⟨x, i3, h3, e3, hx, hc3⟩ := l3Text hc2 h2
    exact ⟨kind, n, owner, x, i3, h3, Ev.bind e1 (Ev.then e2 (Ev.neg k0 (Ev.neg k1 (Ev.neg k2 (Ev.pos k3 (Ev.bind e3 (Ev.done rfl))))))), hx, hc3⟩
  · exact ⟨kind, n, owner, text, i2, h2, Ev.bind e1 (Ev.then e2 (Ev.neg k0 (Ev.neg k1 (Ev.neg k2 (Ev.neg k3 (Ev.done rfl)))))), ht, hc2⟩
theorem drawPutRec (l : List Int) (hl : l.length ≤ 140737488351232) : ∃ g p kind n owner text, Ev (fun k => spec_DrawPutRec.f k l) (g, p, kind, n, owner, text) ∧ text.size ≤ 100 := by
  unfold spec_DrawPutRec.f
  obtain ⟨h0, e0⟩ := l1New l hl
  obtain ⟨kind, n, owner, text, i1, h1, e1, ht, hc1⟩ := l4Any (Cur.zero hl) h0
  obtain ⟨g, i2, h2, e2, hc2⟩ := l1Int hc1 h1 [0, 1, 300, 65535, 65536, (-1)] (by simp)
  obtain ⟨p, i3, h3, e3, hc3⟩ := l1Int hc2 h2 [0, 1, 15, 65535, 65536, (-1)] (by simp)
  exact ⟨g, p, kind, n, owner, text, Ev.bind e0 (Ev.bind e1 (Ev.then e2 (Ev.then e3 (Ev.done rfl)))), ht⟩
theorem drawGetRec (l : List Int) (hl : l.length ≤ 140737488351232) : ∃ c, Ev (fun k => spec_DrawGetRec.f k l) c ∧ Bytes c ∧ c.length ≤ 200 := by
  unfold spec_DrawGetRec.f
  obtain ⟨h0, e0⟩ := l1New l hl
  obtain ⟨g, i1, h1, e1, g0, g1, _, hc1⟩ := l1Below (Cur.zero hl) h0 9
  obtain ⟨p, i2, h2, e2, p0, p1, _, hc2⟩ := l1Below hc1 h1 16
  obtain ⟨kind, n, owner, text, i3, h3, e3, _, _, _, _, _, _, _, ht, hc3⟩ := l4Draw hc2 h2
  obtain ⟨o, i4, h4, e4, hc4⟩ := l1Once hc3 h3 4
  have hb := putRec_bytes g p kind n owner text
  have hlen := putRec_length g p kind n owner text
  have ep := spec_putRec g p kind n owner text (by omega)
  have no : ∃ c, Ev (fun k => spec_DrawGetRec.j0 k (putRec g p kind n owner text) false l i4 h4) c ∧ Bytes c ∧ c.length ≤ 200 := by
    obtain ⟨c, i5, h5, e5, hcb, hcl, _⟩ := l1Bend hc4 h4 (putRec g p kind n owner text) hb (by omega)
    exact ⟨c, Ev.step (fun k => spec_DrawGetRec.j0.eq_2 _ _ _ _ _ k) (Ev.neg (by decide) (Ev.then e5 (Ev.done rfl))), hcb, by omega⟩
  have all : ∀ b : Bool, (b = true → 11 < (putRec g p kind n owner text).length) → ∃ c, Ev (fun k => spec_DrawGetRec.j0 k (putRec g p kind n owner text) b l i4 h4) c ∧ Bytes c ∧ c.length ≤ 200 := by
    intro b hbt
    cases b with
    | false => exact no
    | true =>
      have h11 := hbt rfl
      obtain ⟨q, i5, h5, e5, q0, q1, _, hc5⟩ := l1Below hc4 h4 4
      have q2 := q1 (by omega)
      obtain ⟨v, i6, h6, e6, v0, v1, _, hc6⟩ := l1Below hc5 h5 5
      generalize hB : putRec g p kind n owner text = B at *
      have w1 : wrap64 ((B.length : Int) - 2) = (B.length : Int) - 2 := w64 (by omega) (by omega)
      have w2 : wrap64 (4 + q) = 4 + q := w64 (by omega) (by omega)
      have hx : Bytes ((B.take ((B.length : Int) - 2).toNat).set (4 + q).toNat (v % 256)) := by
        intro x hx
        rcases List.mem_or_eq_of_mem_set hx with hx | rfl
        · exact hb x (List.mem_of_mem_take hx)
        · omega
      have hxl : ((B.take ((B.length : Int) - 2).toNat).set (4 + q).toNat (v % 256)).length = B.length - 2 := by
        rw [List.length_set, List.length_take]
        omega
      refine ⟨((B.take ((B.length : Int) - 2).toNat).set (4 + q).toNat (v % 256)) ++ wordBytes (crc ((B.take ((B.length : Int) - 2).toNat).set (4 + q).toNat (v % 256))), Ev.step (fun k => spec_DrawGetRec.j0.eq_2 _ _ _ _ _ k) (Ev.pos rfl (Ev.then rfl ?_)), hx.append (wordBytes_bytes _), by rw [List.length_append, hxl, wordBytes_length]; omega⟩
      rw [w1]
      refine Ev.pos (by omega) (Ev.pos (by omega) (Ev.then rfl (Ev.pos (by rw [List.length_take, List.length_nil]; omega) (Ev.then rfl ?_))))
      rw [List.nil_append]
      exact Ev.then e5 (Ev.then e6 (by
        simp only [w2]
        exact Ev.pos (by omega) (Ev.pos (by rw [List.length_take]; omega) (Ev.then rfl (Ev.bind (spec_sum _ hx (by rw [hxl]; omega)) (Ev.then (spec_putWord _ _ (by rw [hxl]; omega)) (Ev.done rfl)))))))
  cases o with
  | false =>
    obtain ⟨c, e5, hcb, hcl⟩ := no
    exact ⟨c, Ev.bind e0 (Ev.then e1 (Ev.then e2 (Ev.bind e3 (Ev.bind ep (Ev.then e4 (Ev.neg (by simp) e5)))))), hcb, hcl⟩
  | true =>
    obtain ⟨c, e5, hcb, hcl⟩ := all (decide (((putRec g p kind n owner text).length : Int) > 11)) (fun h => by rw [decide_eq_true_eq] at h; omega)
    exact ⟨c, Ev.bind e0 (Ev.then e1 (Ev.then e2 (Ev.bind e3 (Ev.bind ep (Ev.then e4 (Ev.pos rfl e5)))))), hcb, hcl⟩
end Go.Proofs.YthkepmicdpgbbaaGreatDoor.Fn

/- What the printed functions on heads come to. No memory is in sight here. -/
namespace Go.Proofs.YthkepmicdpgbbaaGreatDoor.Fn
set_option linter.unusedVariables false
set_option linter.unusedSimpArgs false
open Go.RowKit Go.Proofs.YthkepmicdpgbbaaGreatDoorW.PrintWords Go.Proofs.YthkepmicdpgbbaaGreatDoor.P Go.Proofs.YthkepmicdpgbbaaGreatDoor.Base

/-- Bytes, and the checksum behind them. -/
def summed (l : List Int) : List Int := l ++ wordBytes (crc l)
def headOf (g n : Int) : List Int := if 1 ≤ g ∧ g ≤ 60000 ∧ 0 ≤ n ∧ n ≤ 18 then summed (wordBytes g ++ wordBytes n) else []
theorem headBytes (g n : Int) : Bytes (wordBytes g ++ wordBytes n) := (wordBytes_bytes g).append (wordBytes_bytes n)
theorem summed_bytes {l : List Int} (h : Bytes l) : Bytes (summed l) := h.append (wordBytes_bytes _)
theorem headOf_bytes (g n : Int) : Bytes (headOf g n) := by
  unfold headOf
  split
  · exact summed_bytes (headBytes g n)
  · exact Bytes.nil
theorem spec_headOf (g n : Int) : Ev (fun k => spec_HeadOf.f k g n) (headOf g n) := by
  unfold spec_HeadOf.f headOf
  have bad : ∀ b : Bool, b = true → Ev (fun k => spec_HeadOf.j0 k g n b) [] := fun b hb => Ev.step (fun k => spec_HeadOf.j0.eq_2 _ _ _ k) (Ev.pos hb (Ev.done rfl))
  refine Ev.then (l1In _ _ _) ?_
  by_cases hg : 1 ≤ g ∧ g ≤ 60000
  · refine Ev.pos (by simpa using hg) (Ev.then (l1In _ _ _) ?_)
    by_cases hn : 0 ≤ n ∧ n ≤ 18
    · rw [if_pos ⟨hg.1, hg.2, hn⟩]
      refine Ev.step (fun k => spec_HeadOf.j0.eq_2 _ _ _ k) (Ev.neg (by simp; omega) (Ev.then (spec_putWord _ _ (by simp)) (Ev.then (spec_putWord _ _ (by simp [wordBytes])) (Ev.bind (spec_sum _ (headBytes g n) (by simp [wordBytes])) (Ev.then (spec_putWord _ _ (by simp [wordBytes])) (Ev.done rfl))))))
    · rw [if_neg (by omega)]
      exact bad _ (by simp; omega)
  · rw [if_neg (by omega)]
    exact Ev.neg (by simp; omega) (bad _ rfl)
theorem impl_headOf (g n : Int) : Ev (fun k => impl_HeadOf.f k g n) (headOf g n) := by
  unfold impl_HeadOf.f headOf
  have bad : ∀ b : Bool, b = true → Ev (fun k => impl_HeadOf.j0 k g n b) [] := fun b hb => Ev.step (fun k => impl_HeadOf.j0.eq_2 _ _ _ k) (Ev.pos hb (Ev.done rfl))
  refine Ev.then (isIn _ _ _) ?_
  by_cases hg : 1 ≤ g ∧ g ≤ 60000
  · refine Ev.pos (by simpa using hg) (Ev.then (isIn _ _ _) ?_)
    by_cases hn : 0 ≤ n ∧ n ≤ 18
    · rw [if_pos ⟨hg.1, hg.2, hn⟩]
      refine Ev.step (fun k => impl_HeadOf.j0.eq_2 _ _ _ k) (Ev.neg (by simp; omega) (Ev.then (impl_putWord _ _ (by simp)) (Ev.then (impl_putWord _ _ (by simp [wordBytes])) (Ev.bind (impl_sum _ (headBytes g n) (by simp [wordBytes])) (Ev.then (impl_putWord _ _ (by simp [wordBytes])) (Ev.done rfl))))))
    · rw [if_neg (by omega)]
      exact bad _ (by simp; omega)
  · rw [if_neg (by omega)]
    exact Ev.neg (by simp; omega) (bad _ rfl)
end Go.Proofs.YthkepmicdpgbbaaGreatDoor.Fn

/- What the printed functions that read heads come to. No memory is in sight here. -/
namespace Go.Proofs.YthkepmicdpgbbaaGreatDoor.Fn
set_option linter.unusedVariables false
set_option linter.unusedSimpArgs false
open Go.RowKit Go.Proofs.YthkepmicdpgbbaaGreatDoorW.PrintWords Go.Proofs.YthkepmicdpgbbaaGreatDoor.P Go.Proofs.YthkepmicdpgbbaaGreatDoor.Base

theorem sameBytes {l m : List Int} (hl : Bytes l) (hm : Bytes m) : ((strOfNums l).toList == (strOfNums m).toList) = eqB l m := by
  rw [Bool.eq_iff_iff, beq_iff_eq, eqB_iff, strOfNums_inj hl hm]
noncomputable def getHead (l : List Int) : Int × Int × Bool :=
  @ite _ (l ≠ [] ∧ headOf (word l 0).1 (word l 2).1 = l) (Classical.propDecidable _) ((word l 0).1, (word l 2).1, true) (0, 0, false)
theorem getHead_yes {l : List Int} (h : l ≠ [] ∧ headOf (word l 0).1 (word l 2).1 = l) : getHead l = ((word l 0).1, (word l 2).1, true) := if_pos h
theorem getHead_no {l : List Int} (h : ¬ (l ≠ [] ∧ headOf (word l 0).1 (word l 2).1 = l)) : getHead l = (0, 0, false) := if_neg h
theorem headOf_six {g n : Int} (h : headOf g n ≠ []) : (headOf g n).length = 6 := by
  unfold headOf at h ⊢
  split
  · simp [summed, wordBytes]
  · rename_i hc
    rw [if_neg hc] at h
    exact absurd rfl h
theorem impl_getHead (l : List Int) (hb : Bytes l) (hl : l.length ≤ 140737488351232) : Ev (fun k => impl_GetHead.f k l) (getHead l) := by
  unfold impl_GetHead.f
  refine Ev.then (impl_getWord l 0 hb hl) (Ev.then (impl_getWord l 2 hb hl) ?_)
  by_cases h0 : l = []
  · rw [getHead_no (fun h => h.1 h0)]
    exact Ev.pos (by rw [h0]; rfl) (Ev.done rfl)
  have h0' : l.length ≠ 0 := fun e => h0 (List.eq_nil_of_length_eq_zero e)
  refine Ev.neg (by omega) (Ev.bind (impl_headOf _ _) ?_)
  unfold bytes_Equal.f
  rw [sameBytes (headOf_bytes _ _) hb]
  by_cases h : headOf (word l 0).1 (word l 2).1 = l
  · rw [getHead_yes ⟨h0, h⟩]
    exact Ev.then rfl (Ev.pos (eqB_iff.2 h) (Ev.done rfl))
  · rw [getHead_no (fun e => h e.2)]
    exact Ev.then rfl (Ev.neg (by rw [eqB_not h]; decide) (Ev.done rfl))
theorem spec_getHead (l : List Int) (hb : Bytes l) (hl : l.length ≤ 140737488351232) : Ev (fun k => spec_GetHead.f k l) (getHead l) := by
  unfold spec_GetHead.f
  refine Ev.then (spec_getWord l 0 hb hl) (Ev.then (spec_getWord l 2 hb hl) ?_)
  by_cases hl6 : l.length = 6
  · have h0 : l ≠ [] := fun e => by rw [e] at hl6; cases hl6
    refine Ev.pos (by unfold word; rw [if_neg (by omega)]) (Ev.pos (by omega) (Ev.bind (spec_headOf _ _) ?_))
    unfold spec_l1Same.f
    rw [sameBytes (headOf_bytes _ _) hb]
    by_cases h : headOf (word l 0).1 (word l 2).1 = l
    · rw [getHead_yes ⟨h0, h⟩]
      exact Ev.then rfl (Ev.pos (eqB_iff.2 h) (Ev.done rfl))
    · rw [getHead_no (fun e => h e.2)]
      exact Ev.then rfl (Ev.neg (by rw [eqB_not h]; decide) (Ev.done rfl))
  · have hno : ¬ (l ≠ [] ∧ headOf (word l 0).1 (word l 2).1 = l) := by
      rintro ⟨h0, h⟩
      have := headOf_six (g := (word l 0).1) (n := (word l 2).1) (by rw [h]; exact h0)
      rw [h] at this
      exact hl6 this
    rw [getHead_no hno]
    by_cases h2 : (word l 2).2.2 = true
    · exact Ev.pos h2 (Ev.neg (by omega) (Ev.done rfl))
    · exact Ev.neg h2 (Ev.done rfl)
end Go.Proofs.YthkepmicdpgbbaaGreatDoor.Fn

/- A byte changed in what has its checksum behind it; and what the functions that draw heads come to. -/
namespace Go.Proofs.YthkepmicdpgbbaaGreatDoor.Fn
set_option linter.unusedVariables false
set_option linter.unusedSimpArgs false
open Go.RowKit Go.Proofs.YthkepmicdpgbbaaGreatDoorW.PrintWords Go.Proofs.YthkepmicdpgbbaaGreatDoor.P Go.Proofs.YthkepmicdpgbbaaGreatDoor.Base

theorem crc_word {l : List Int} (hl : Bytes l) : 0 ≤ crc l ∧ crc l < 65536 := by
  unfold crc
  have := Crc.sum_lt l hl (s := 65535) (by decide)
  omega
theorem wordBytes_inj {a b : Int} (ha : 0 ≤ a ∧ a < 65536) (hb : 0 ≤ b ∧ b < 65536) (h : wordBytes a = wordBytes b) : a = b := by
  unfold wordBytes at h
  injection h with h1 h2
  injection h2 with h2 _
  omega
theorem turned_summed {h h' : List Int} (hb : Bytes h) (hb' : Bytes h') (hl : h'.length = h.length) (h0 : 0 < h.length) (ht : Turned (summed h) (summed h')) : False := by
  rcases ht with ⟨he, _⟩ | ⟨i, hi, y, hx, y0, y1, hne⟩
  · have := congrArg List.length he
    simp [summed, wordBytes] at this
  · unfold summed at hx hi hne
    by_cases hlt : i < h.length
    · rw [List.set_append_left _ _ hlt] at hx
      have e1 := List.append_inj_left hx (by rw [List.length_set]; exact hl)
      have e2 := List.append_inj_right hx (by rw [List.length_set]; exact hl)
      have hc := wordBytes_inj (crc_word hb') (crc_word hb) e2
      have hy : y ≠ h[i] := by rwa [List.getElem_append_left hlt] at hne
      exact Turned.crc (b := h) (x := h') (.inr ⟨i, hlt, y, e1, y0, y1, hy⟩) hb h0 hc
    · rw [List.set_append_right _ _ (by omega)] at hx
      have e1 := List.append_inj_left hx hl
      have e2 := List.append_inj_right hx hl
      rw [e1] at e2
      have hj : i - h.length < (wordBytes (crc h)).length := by rw [List.length_append] at hi; omega
      have e3 := congrArg (fun L : List Int => L[i - h.length]?) e2
      simp only [List.getElem?_set_self hj, List.getElem?_eq_getElem hj] at e3
      rw [List.getElem_append_right (by omega)] at hne
      exact hne (Option.some.inj e3).symm
end Go.Proofs.YthkepmicdpgbbaaGreatDoor.Fn

/- A record comes back of its bytes, and not of bytes with one turned. No memory is in sight here. -/
namespace Go.Proofs.YthkepmicdpgbbaaGreatDoor.Fn
set_option linter.unusedVariables false
set_option linter.unusedSimpArgs false
open Go.RowKit Go.Proofs.YthkepmicdpgbbaaGreatDoorW.PrintWords Go.Proofs.YthkepmicdpgbbaaGreatDoor.P Go.Proofs.YthkepmicdpgbbaaGreatDoor.Base

/-! ### the text of a configuration is a text -/
theorem textOk_ba {L : List UInt8} (hl : L.length ≤ 100) (h : ∀ c ∈ L, 32 ≤ c.toNat ∧ c.toNat ≤ 126) : textOk (ba L) = true := by
  rw [textOk_iff]
  refine ⟨by rw [ba_size]; omega, fun i hi => ?_⟩
  rw [ba_size] at hi
  rw [bt_ba L i hi]
  have := h _ (List.getElem_mem hi)
  omega
theorem itoa_chars {n : Int} (h : 0 ≤ n) : ∀ c ∈ Lib.itoa n, 48 ≤ c.toNat ∧ c.toNat ≤ 57 := by
  intro c hc
  by_cases hx : 48 ≤ c.toNat ∧ c.toNat ≤ 57
  · exact hx
  · exact absurd hc (num_free n h c (by omega))
theorem itemL_chars {x : Db} (h : dbOk x = true) : ∀ c ∈ itemL x, 32 ≤ c.toNat ∧ c.toNat ≤ 126 := by
  intro c hc
  have hp := dbOk_pos h
  have hn : nameOk x.f0 = true := by
    unfold dbOk at h
    simp only [Bool.and_eq_true] at h
    exact h.1
  unfold itemL at hc
  simp only [List.mem_append, List.mem_singleton] at hc
  rcases hc with (((((((hc | rfl) | hc) | rfl) | hc) | rfl) | hc) | rfl) | hc
  · have := name_bytes hn c hc; omega
  · decide
  · have := itoa_chars hp.1 c hc; omega
  · decide
  · have := itoa_chars hp.2.1 c hc; omega
  · decide
  · have := itoa_chars hp.2.2.1 c hc; omega
  · decide
  · have := itoa_chars hp.2.2.2 c hc; omega
theorem confText_textOk {l : List Db} (h : confFrom l 0 l.length = true) : textOk (confText l) = true := by
  obtain ⟨x, xs, rfl, _, hall⟩ := conf_cons h
  have hs := (confText_size h).2
  rw [confText_join x xs h] at hs ⊢
  rw [ba_size] at hs
  refine textOk_ba hs fun c hc => ?_
  unfold joinA at hc
  rcases List.mem_append.1 hc with hc | hc
  · exact itemL_chars (hall x (by simp)) c hc
  · obtain ⟨y, hy, hc⟩ := List.mem_flatMap.1 hc
    obtain ⟨z, hz, rfl⟩ := List.mem_map.1 hy
    rcases List.mem_cons.1 hc with rfl | hc
    · decide
    · exact itemL_chars (hall z (List.mem_cons_of_mem _ hz)) c hc
theorem emptyT_eq {s : ByteArray} (h : emptyT s = true) : s = ⟨#[]⟩ := by
  unfold emptyT at h
  have h1 : s.toList = [] := by simpa using h
  have h2 : (⟨#[]⟩ : ByteArray).toList = [] := by unfold ByteArray.toList; unfold ByteArray.toList.loop; rfl
  exact text_inj (h1.trans h2.symm)
/-- What a record that is right bears. -/
theorem recOk_parts {kind n owner : Int} {s : ByteArray} (h : recOk kind n owner s = true) : (1 ≤ n ∧ n ≤ 60000) ∧ (1 ≤ kind ∧ kind ≤ 3) ∧ (0 ≤ owner ∧ owner ≤ 1) ∧ textOk s = true ∧ s.size ≤ 100 := by
  have he : textOk (⟨#[]⟩ : ByteArray) = true := by
    rw [textOk_iff]
    exact ⟨by decide, fun i hi => absurd hi (Nat.not_lt_zero _)⟩
  unfold recOk at h
  simp only [Bool.and_eq_true, decide_eq_true_eq] at h
  obtain ⟨hn, h⟩ := h
  have key : (1 ≤ kind ∧ kind ≤ 3) ∧ (0 ≤ owner ∧ owner ≤ 1) ∧ textOk s = true := by
    split at h
    · rename_i hk
      simp only [Bool.and_eq_true, decide_eq_true_eq] at h
      refine ⟨by omega, by omega, ?_⟩
      have hc : (parseConf s).2 = true := h.2
      rcases parseConf_back s with hb | ⟨l, hb, hl, rfl⟩
      · rw [hb] at hc; cases hc
      · exact confText_textOk hl
    · split at h
      · simp only [Bool.and_eq_true, decide_eq_true_eq] at h
        rw [emptyT_eq h.2]
        exact ⟨by omega, by omega, he⟩
      · split at h
        · simp only [Bool.and_eq_true, decide_eq_true_eq] at h
          rw [emptyT_eq h.2]
          exact ⟨by omega, by omega, he⟩
        · cases h
  exact ⟨hn, key.1, key.2.1, key.2.2, textOk_size key.2.2⟩

/-! ### the record's bytes, place by place -/
theorem strOfNums_bytesOf (s : ByteArray) : strOfNums (bytesOf s) = s := by
  unfold strOfNums bytesOf
  rw [List.map_map]
  have h : ((fun n : Int => UInt8.ofNat n.toNat) ∘ fun b : UInt8 => (b.toNat : Int)) = id := by funext b; simp
  rw [h, List.map_id]
theorem rd_app_left {a b : List Int} {i : Nat} (h : i < a.length) : rd (a ++ b) (i : Int) = rd a (i : Int) := by
  rw [rd_getElem (by rw [List.length_append]; omega), rd_getElem h, List.getElem_append_left h]
theorem rec_bytes {gen place kind n owner : Int} {s : ByteArray} (hg : wordIn gen) (hp : wordIn place) (h : recOk kind n owner s = true) :
    putRec gen place kind n owner s = [gen / 256 % 256, gen % 256, place / 256 % 256, place % 256, kind % 256, n / 256 % 256, n % 256, owner % 256, (s.size : Int)] ++ (bytesOf s ++ wordBytes (crc (recBody gen place kind n owner s))) := by
  obtain ⟨_, _, _, ht, _⟩ := recOk_parts h
  have e : recBody gen place kind n owner s = [gen / 256 % 256, gen % 256, place / 256 % 256, place % 256, kind % 256, n / 256 % 256, n % 256, owner % 256, (s.size : Int)] ++ bytesOf s := by
    rw [recBody, putText, if_pos ht]
    simp [recHead, wordBytes]
  rw [putRec_yes ⟨h, hg, hp⟩, ← List.append_assoc, ← e]
theorem word_two {a b : Int} {i : Nat} {l : List Int} (hl : i + 1 < l.length) (ha : rd l (i : Int) = a) (hb : rd l ((i : Int) + 1) = b) : (word l (i : Int)).1 = a * 256 + b := by
  unfold word
  rw [if_neg (by omega), ha, hb]
theorem getRec_put {gen place kind n owner : Int} {s : ByteArray} (hg : wordIn gen) (hp : wordIn place) (h : recOk kind n owner s = true) : getRec (putRec gen place kind n owner s) = (gen, place, kind, n, owner, s, true) := by
  obtain ⟨hn, hk, ho, ht, hs⟩ := recOk_parts h
  have e := rec_bytes hg hp h
  generalize hB : putRec gen place kind n owner s = B at e
  have hlen : B.length = 9 + (s.size + 2) := by
    rw [e, List.length_append, List.length_append, bytesOf_length, wordBytes_length]
    rfl
  have at_ : ∀ i : Nat, i < 9 → rd B (i : Int) = rd [gen / 256 % 256, gen % 256, place / 256 % 256, place % 256, kind % 256, n / 256 % 256, n % 256, owner % 256, (s.size : Int)] (i : Int) := fun i hi => by
    rw [e]
    exact rd_app_left (by simpa using hi)
  have w0 : (word B 0).1 = gen := by
    rw [show (0 : Int) = ((0 : Nat) : Int) from rfl, word_two (i := 0) (by omega) (at_ 0 (by omega)) (at_ 1 (by omega))]
    simp [rd]
    omega
  have w2 : (word B 2).1 = place := by
    rw [show (2 : Int) = ((2 : Nat) : Int) from rfl, word_two (i := 2) (by omega) (at_ 2 (by omega)) (at_ 3 (by omega))]
    simp [rd]
    omega
  have w5 : (word B 5).1 = n := by
    rw [show (5 : Int) = ((5 : Nat) : Int) from rfl, word_two (i := 5) (by omega) (at_ 5 (by omega)) (at_ 6 (by omega))]
    simp [rd]
    omega
  have r4 : rd B 4 = kind := by
    have := at_ 4 (by omega)
    rw [show (4 : Int) = ((4 : Nat) : Int) from rfl, this]
    simp [rd]
    omega
  have r7 : rd B 7 = owner := by
    have := at_ 7 (by omega)
    rw [show (7 : Int) = ((7 : Nat) : Int) from rfl, this]
    simp [rd]
    omega
  have r8 : rd B 8 = (s.size : Int) := by
    have := at_ 8 (by omega)
    rw [show (8 : Int) = ((8 : Nat) : Int) from rfl, this]
    simp [rd]
  have hx : textAt B 8 = s := by
    unfold textAt
    rw [r8]
    have e3 : ((B.take ((8 : Int) + 1 + (s.size : Int)).toNat).drop ((8 : Int) + 1).toNat) = bytesOf s := by
      have t1 : ((8 : Int) + 1 + (s.size : Int)).toNat = 9 + s.size := by omega
      have t2 : ((8 : Int) + 1).toNat = 9 := rfl
      rw [t1, t2, e, List.take_append, List.take_of_length_le (by simp), List.drop_append, List.drop_of_length_le (by simp)]
      simp [List.take_append, bytesOf_length, List.take_of_length_le]
    rw [e3]
    exact strOfNums_bytesOf s
  have tx : getText B 8 = (s, 8 + 1 + (s.size : Int), true) := by
    unfold getText
    rw [if_neg (by rw [r8]; omega), hx, if_pos ht, r8]
  have hrec : IsRec B := by
    refine ⟨by omega, ?_⟩
    unfold recAt
    rw [w0, w2, r4, w5, r7, tx]
    exact hB
  rw [getRec_yes hrec, w0, w2, r4, w5, r7, tx]
theorem getRec_turned {gen place kind n owner : Int} {s : ByteArray} (hg : wordIn gen) (hp : wordIn place) (h : recOk kind n owner s = true) {x : List Int} (hx : Turned (putRec gen place kind n owner s) x) : (getRec x).2.2.2.2.2.2 = false := by
  by_cases hr : IsRec x
  · exfalso
    have hb : Bytes x := hx.bytes (putRec_bytes _ _ _ _ _ _)
    obtain ⟨h9, he⟩ := hr
    have hl := hx.length
    rw [putRec_yes ⟨h, hg, hp⟩] at hx hl
    by_cases hc : recOk (rd x 4) (word x 5).1 (rd x 7) (getText x 8).1 = true ∧ wordIn (word x 0).1 ∧ wordIn (word x 2).1
    · unfold recAt at he
      rw [putRec_yes hc] at he
      have hl2 := congrArg List.length he
      rw [List.length_append, wordBytes_length] at hl2
      rw [List.length_append, wordBytes_length] at hl
      have h0 : 0 < (recBody gen place kind n owner s).length := by omega
      rw [← he] at hx
      exact turned_summed (recBody_bytes gen place kind n owner s) (recBody_bytes _ _ _ _ _ _) (by omega) h0 hx
    · unfold recAt at he
      rw [putRec_no hc] at he
      rw [← he] at h9
      simp at h9
  · rw [getRec_no hr]
end Go.Proofs.YthkepmicdpgbbaaGreatDoor.Fn

/- The pure statement of the law FnRecs: a record is decoded from its encoding, and rejected if a byte is changed. -/
namespace Go.Proofs.YthkepmicdpgbbaaGreatDoor.Pure
set_option linter.unusedVariables false
set_option linter.unusedSimpArgs false
open Go.RowKit Go.Proofs.YthkepmicdpgbbaaGreatDoorW.PrintWords Go.Proofs.YthkepmicdpgbbaaGreatDoor.P Go.Proofs.YthkepmicdpgbbaaGreatDoor.Base Go.Proofs.YthkepmicdpgbbaaGreatDoor.Fn
theorem same_ (l m : List Int) (hl : Bytes l) (hm : Bytes m) : laws_same.f l m = some (eqB l m) := by
  unfold laws_same.f
  rw [sameBytes' hl hm]
theorem FnRecs : laws_FnRecs.Pure := by
  intro l hm hl hw
  have hb := Bytes.of_wf hw
  refine Ev.rounds ?_
  unfold laws_FnRecs.f
  refine Ev.then (big l) ?_
  by_cases h : (l.length : Int) > 1048576
  · exact Ev.pos (by simpa using h) (Ev.done rfl)
  refine Ev.neg (by simpa using h) ?_
  obtain ⟨g, p, kind, n, owner, s, e1, hs⟩ := drawPutRec l (by omega)
  obtain ⟨c, e2, hc, hcl⟩ := drawGetRec l (by omega)
  refine Ev.bind e1 (Ev.bind (impl_putRec g p kind n owner s (by omega)) (Ev.bind e2 (Ev.bind (impl_getRec c hc (by omega)) (Ev.bind (spec_getRec c hc (by omega)) (Ev.bind (impl_recOk kind n owner s (by omega)) (Ev.bind (spec_recOk kind n owner s (by omega)) (Ev.neg (by simp) (Ev.neg (by simp) ?_))))))))
  have hpb := putRec_bytes g p kind n owner s
  have hpl := putRec_length g p kind n owner s
  have j1 : ∀ b : Bool, (b = true → ¬ (recOk kind n owner s = true ∧ wordIn g ∧ wordIn p)) → (b = false → recOk kind n owner s = true ∧ wordIn g ∧ wordIn p) → Ev (fun k => laws_FnRecs.j1 k l g p (putRec g p kind n owner s) b kind n owner s) true := by
    intro b b1 b2
    refine Ev.step (fun k => laws_FnRecs.j1.eq_2 _ _ _ _ _ _ _ _ _ k) ?_
    cases b
    · obtain ⟨h1, h2, h3⟩ := b2 rfl
      obtain ⟨x, ex, hx⟩ := bent l (putRec g p kind n owner s) hb (by omega) hpb (by omega)
      have hxl := hx.length
      refine Ev.neg (by decide) (Ev.bind (impl_getRec _ hpb (by omega)) (Ev.then ex (Ev.bind (impl_getRec x (hx.bytes hpb) (by omega)) ?_)))
      rw [getRec_put h2 h3 h1, getRec_turned h2 h3 h1 hx]
      exact Ev.pos rfl (Ev.pos rfl (Ev.pos rfl (Ev.pos (by simp) (Ev.neg (by decide) (Ev.done (by simp; omega))))))
    · rw [putRec_no (b1 rfl)]
      exact Ev.pos rfl (Ev.done rfl)
  have j0 : Ev (fun k => laws_FnRecs.j0 k l g p (putRec g p kind n owner s) false kind n owner s) true := by
    refine Ev.step (fun k => laws_FnRecs.j0.eq_2 _ _ _ _ _ _ _ _ _ k) (Ev.neg (by decide) (Ev.bind (impl_recOk kind n owner s (by omega)) ?_))
    by_cases h0 : recOk kind n owner s = true
    case neg => exact Ev.neg h0 (j1 true (fun _ q => h0 q.1) (fun e => by cases e))
    refine Ev.pos h0 ?_
    by_cases h1 : g < 0
    · exact Ev.pos h1 (j1 true (fun _ q => by have := q.2.1.1; omega) (fun e => by cases e))
    refine Ev.neg h1 ?_
    by_cases h2 : g > 65535
    · exact Ev.pos h2 (j1 true (fun _ q => by have := q.2.1.2; omega) (fun e => by cases e))
    refine Ev.neg h2 ?_
    by_cases h3 : p < 0
    · exact Ev.pos h3 (j1 true (fun _ q => by have := q.2.2.1; omega) (fun e => by cases e))
    refine Ev.neg h3 (j1 _ (fun e q => by have := q.2.2.2; simp at e; omega) (fun e => ⟨h0, ⟨by omega, by omega⟩, by omega, by simp at e; omega⟩))
  by_cases hi : IsRec c
  · rw [getRec_yes hi]
    refine Ev.pos rfl (Ev.bind (impl_putRec (word c 0).1 (word c 2).1 (rd c 4) (word c 5).1 (rd c 7) (getText c 8).1 (by have := getText_short c 8; omega)) (Ev.then (same_ _ _ (putRec_bytes _ _ _ _ _ _) hc) ?_))
    have he : putRec (word c 0).1 (word c 2).1 (rd c 4) (word c 5).1 (rd c 7) (getText c 8).1 = c := hi.2
    simp only []
    rw [he, eqB_same]
    exact j0
  · rw [getRec_no hi]
    exact Ev.neg (by decide) j0
end Go.Proofs.YthkepmicdpgbbaaGreatDoor.Pure

-- PRINTED BY print.sh 35421559b90ae4d0a3588c463048766b98c2df88dd9212a6774a882060cdf62d: not written by this session
-- PRINTED WORDS (module Derived/Print/Sized.lean): go-gate-2's, for the rows of laws over slices: an AI agent of Go's test side, Tue Nov 17 2026; no person has read it. Lean checks it.
namespace Go.Proofs.YthkepmicdpgbbaaGreatDoorW.PrintWords
open Go.ChangeShapes Go.WideShapes
/-- A row's slice of whole numbers is no longer than its weight allows. -/
theorem sized_ints {H : Type} {enc : TypeId × Value → H} {P : Program} {W : World} {base : Nat} {spare : Nat → Bool} {held : Bool} {t e : TypeId} {k : IntKind} {a : Option Addr} {len cap : Nat} {d : DataW H} {ps : List MemPlace} {ts : List TypeId} {ds : List (DataW H)} {j : Nat}
    (hsz : (DataW.weightsEach P ts ds).all (· ≤ reachBytes) = true) (ht : ts[j]? = some t) (hd : ds[j]? = some d) (hu : P.underlying t = some (.slice e)) (he : P.underlying e = some (.int k)) (hc : P.cellsOf e = 1) {B : Nat} (hB : P.bytesOf e = B)
    (h : DataW.Trod enc P W base spare held t (.slice a len cap) d ps) : len * B ≤ 140737488351232 := by
  obtain ⟨fuel, hf⟩ := h
  rcases open_ints hu he hc hf with ⟨hcs, _⟩ | ⟨x, l, c, zs, hcs, _, hl, _, hz, hx, _, _⟩
  · simp [Value.cells] at hcs
    obtain ⟨rfl, rfl, rfl⟩ := hcs
    simp
  · simp [Value.cells] at hcs
    obtain ⟨rfl, rfl, rfl⟩ := hcs
    obtain ⟨hx, _⟩ := Prod.mk.inj hx
    subst hx
    have z := sized_slice hsz ht hd hu
    rw [hB] at z
    have hl2 : len ≤ zs.length := by
      rw [hz]
      split
      · exact hl
      · exact Nat.le_refl _
    have h1 : (lits (H := H) k (zs.take len)).length + (lits (H := H) k (zs.drop len)).length = zs.length := by
      simp [lits]
      omega
    rw [h1] at z
    exact Nat.le_trans (Nat.mul_le_mul_right _ hl2) z
end Go.Proofs.YthkepmicdpgbbaaGreatDoorW.PrintWords

/- How an argument that reads as data is opened, whatever its type (numbers, bools, texts, slices and structs of these): it is a value of the print's kind. No function of the program is in sight here. -/
namespace Go.Proofs.YthkepmicdpgbbaaGreatDoor.Open
set_option linter.unusedVariables false
set_option linter.unusedSimpArgs false
open Go.RowKit Go.Proofs.YthkepmicdpgbbaaGreatDoorW.PrintWords Go.ChangeShapes Go.WideShapes Go.Deep

/-- What reads as data of type t is a value of the kind d, of which 'good' holds. -/
def Opens {α : Type} (P : Program) (t : TypeId) (d : Kd α) (good : α → Prop) : Prop :=
  ∀ {H : Type} (enc : TypeId × Value → H) (w : World) (base : Nat) (spare : Nat → Bool) (held : Bool) (fuel : Nat) (cs : List Value) (x : DataW H × List MemPlace), DataW.trod enc P w base spare held fuel t cs = some x → ∃ y, d.K w y cs ∧ good y
def FieldsOpen {α : Type} (P : Program) (off : Nat) (fs : List Field) (d : Kd α) (good : α → Prop) : Prop :=
  ∀ {H : Type} (enc : TypeId × Value → H) (w : World) (base : Nat) (spare : Nat → Bool) (held : Bool) (n : Nat) (cs : List Value), (∀ f ∈ fs, ∃ y, DataW.trod enc P w base spare held n f.type ((cs.drop f.offset).take (P.cellsOf f.type)) = some y) → cs.length = off + d.sz → ∃ y, d.K w y (cs.drop off) ∧ good y
section
variable {P : Program} {t e : TypeId} {α β : Type}
theorem Opens.int {k : IntKind} (ht : P.underlying t = some (.int k)) : Opens P t (Kd.int k) (fun n => (Lit.int k n).wf = true) := by
  intro H enc w base spare held fuel cs x h
  obtain ⟨n, rfl, rfl, hw⟩ := DataW.trod_int ht h
  exact ⟨n, rfl, hw⟩
theorem Opens.string (ht : P.underlying t = some .string) : Opens P t Kd.string (fun s => s.size ≤ maxLen) := by
  intro H enc w base spare held fuel cs x h
  obtain ⟨s, rfl, rfl, hw⟩ := DataW.trod_string ht h
  exact ⟨s, rfl, hw⟩
theorem Opens.bool (ht : P.underlying t = some .bool) : Opens P t Kd.bool (fun _ => True) := by
  intro H enc w base spare held fuel cs x h
  obtain ⟨b, rfl, rfl⟩ := DataW.trod_bool ht h
  exact ⟨b, rfl, trivial⟩
theorem Opens.slice {d : Kd α} {good : α → Prop} (e' : Nat) (ht : P.underlying t = some (.slice e)) (hc : P.cellsOf e = d.sz) (he : Opens P e d good) : Opens P t (Kd.slice e' d) (fun l => l.length ≤ maxLen ∧ ∀ x ∈ l, good x) := by
  intro H enc w base spare held fuel cs x h
  rcases open_slice ht h with ⟨rfl, rfl⟩ | ⟨a, len, cap, m, n, D, Pl, rfl, hb, hl, hm, hmm, rfl, hx⟩
  · exact ⟨[], ⟨none, 0, rfl, Nat.le_refl _, ⟨rfl, by simp, fun h => by simp at h⟩⟩, by simp, fun x hx => by cases hx⟩
  · have hlm : len ≤ m := by rw [hmm]; split <;> omega
    have each : ∀ i, i < len → ∃ p : α × List Value, (w.cells? base (a.add (i * P.cellsOf e)) (P.cellsOf e)) = some p.2 ∧ d.K w p.1 p.2 ∧ good p.1 := by
      intro i hi
      obtain ⟨c, h1, h2⟩ := hx i (by omega)
      obtain ⟨y, hy, hg⟩ := he enc w base spare held n c _ h2
      exact ⟨(y, c), h1, hy, hg⟩
    have hml : maxLen = 9223372036854775807 := by decide
    rcases Nat.eq_zero_or_pos len with h0 | h0
    · subst h0
      exact ⟨[], ⟨some a, cap, rfl, Nat.zero_le _, ⟨rfl, by simp, fun h => by simp at h⟩⟩, by simp, fun x hx => by cases hx⟩
    obtain ⟨q0, _⟩ := each 0 h0
    have : Inhabited (α × List Value) := ⟨q0⟩
    obtain ⟨p, hp⟩ := choose_lt each
    have hlen : ((List.range len).map fun i => (p i).1).length = len := by simp
    refine ⟨(List.range len).map fun i => (p i).1, ⟨some a, cap, by rw [hlen], by rw [hlen]; exact hl, ?_⟩, by rw [hlen]; omega, ?_⟩
    · refine ⟨rfl, by rw [hlen]; omega, fun _ => ⟨a, rfl, fun j q hj => ?_⟩⟩
      have hjl : j < len := by have := (List.getElem?_eq_some_iff.1 hj).1; rwa [hlen] at this
      obtain ⟨h1, h2, h3⟩ := hp j hjl
      have hq : (p j).1 = q := by
        rw [List.getElem?_map, List.getElem?_range hjl] at hj
        simpa using hj
      subst hq
      have hk := World.cells?_some h1
      refine ⟨(p j).2, by rw [hk.2.1, hc], h2, fun i u hu => ?_⟩
      have hi : i < P.cellsOf e := by rw [← hk.2.1]; exact (List.getElem?_eq_some_iff.1 hu).1
      have := hk.2.2 i hi
      rw [hu, hc, Addr.add_add] at this
      exact this
    · intro y hy
      obtain ⟨i, hi, rfl⟩ := List.mem_map.1 hy
      exact (hp i (List.mem_range.1 hi)).2.2
theorem FieldsOpen.one {a : Kd α} {ga : α → Prop} {f : Field} {off : Nat} (hf : Opens P f.type a ga) (ho : f.offset = off) (hc : P.cellsOf f.type = a.sz) : FieldsOpen P off [f] a ga := by
  intro H enc w base spare held n cs h hl
  obtain ⟨y, hy⟩ := h f (List.mem_singleton.2 rfl)
  rw [ho, hc, List.take_of_length_le (by rw [List.length_drop]; omega)] at hy
  exact hf enc w base spare held n _ _ hy
theorem FieldsOpen.cons {a : Kd α} {b : Kd β} {ga : α → Prop} {gb : β → Prop} {f : Field} {fs : List Field} {off : Nat} (hf : Opens P f.type a ga) (ho : f.offset = off) (hc : P.cellsOf f.type = a.sz) (hfs : FieldsOpen P (off + a.sz) fs b gb) :
    FieldsOpen P off (f :: fs) (Kd.pair a b) (fun x => ga x.1 ∧ gb x.2) := by
  intro H enc w base spare held n cs h hl
  have hl' : cs.length = off + (a.sz + b.sz) := hl
  obtain ⟨y, hy⟩ := h f (List.mem_cons_self ..)
  rw [ho, hc] at hy
  obtain ⟨u, hu, gu⟩ := hf enc w base spare held n _ _ hy
  obtain ⟨v, hv, gv⟩ := hfs enc w base spare held n cs (fun g hg => h g (List.mem_cons_of_mem _ hg)) (by omega)
  refine ⟨(u, v), ⟨(cs.drop off).take a.sz, cs.drop (off + a.sz), ?_, hu, hv⟩, gu, gv⟩
  rw [← List.drop_drop, List.take_append_drop]
theorem Opens.struct {d : Kd α} {good : α → Prop} {fs : Array Field} (f : β → α) (g : α → β) (hg : ∀ y, f (g y) = y) (ht : P.underlying t = some (.struct fs)) (hC : P.cellsOf t = d.sz) (h : FieldsOpen P 0 fs.toList d good) :
    Opens P t (Kd.iso d f) (fun x => good (f x)) := by
  intro H enc w base spare held fuel cs x hx
  obtain ⟨xs, n, _, rfl, hl, hlen, hf⟩ := DataW.trod_struct ht hx
  obtain ⟨y, hy, gy⟩ := h enc w base spare held n cs (fun q hq => by
    obtain ⟨i, hi⟩ := List.getElem?_of_mem hq
    rw [Array.getElem?_toList] at hi
    have hil : i < xs.length := by rw [hlen]; exact (Array.getElem?_eq_some_iff.1 hi).1
    exact ⟨xs[i], by rw [hf i q hi, List.getElem?_eq_getElem hil]⟩) (by omega)
  refine ⟨g y, ?_, by show good (f (g y)); rw [hg]; exact gy⟩
  show d.K w (f (g y)) cs
  rw [hg]
  exact hy
end
end Go.Proofs.YthkepmicdpgbbaaGreatDoor.Open

/- What the printed functions that size, copy, compare and test disks come to. No memory is in sight here. -/
namespace Go.Proofs.YthkepmicdpgbbaaGreatDoor.Fn
set_option linter.unusedVariables false
set_option linter.unusedSimpArgs false
open Go.RowKit Go.Proofs.YthkepmicdpgbbaaGreatDoorW.PrintWords Go.Proofs.YthkepmicdpgbbaaGreatDoor.P Go.Proofs.YthkepmicdpgbbaaGreatDoor.Base

abbrev LWr := S125
abbrev Wr := S109
def wrOf (x : LWr) : Wr := ⟨x.f0, x.f1⟩
/-- A disk, as the printed functions hand it. -/
structure Dk where
  secs : List (List Int)
  cache : List Wr
  fuse : Int
  down : Bool
theorem wr_eq {x y : Wr} (h0 : x.f0 = y.f0) (h1 : x.f1 = y.f1) : x = y := by cases x; cases y; simp_all
/-! ### sizes -/
theorem szByteS (l : List Int) (left : Int) (hl : l.length ≤ maxLen) (h0 : 0 ≤ left) (h1 : left ≤ 1048576) : ∃ r, laws_szByteS.f l left = some r ∧ r ≤ left ∧ (0 ≤ r → (l.length : Int) ≤ left) := by
  unfold laws_szByteS.f
  have hm : maxLen = 9223372036854775807 := by decide
  rw [w64 (n := left - (l.length : Int)) (by omega) (by omega)]
  by_cases h : left - (l.length : Int) < 0
  · rw [if_pos h]; exact ⟨-1, rfl, by omega, by omega⟩
  · rw [if_neg h]; exact ⟨_, rfl, by omega, by omega⟩
theorem szByteSS_l0 (l : List (List Int)) (hl : l.length ≤ 1048576) (hg : ∀ x ∈ l, x.length ≤ maxLen) (d : Nat) : ∀ (i : Nat) (left : Int), i + d = l.length → 0 ≤ left → left ≤ 1048576 → ∃ r, Ev (fun k => laws_szByteSS.l0 k l left (i : Int)) r ∧ r ≤ left ∧ (0 ≤ r → ∀ x ∈ l.drop i, x.length ≤ 1048576) := by
  induction d with
  | zero =>
    intro i left hi h0 h1
    refine ⟨left, Ev.step (fun k => laws_szByteSS.l0.eq_2 _ _ _ k) (Ev.neg (by omega) (Ev.done rfl)), Int.le_refl _, fun _ x hx => ?_⟩
    rw [List.drop_of_length_le (by omega)] at hx
    cases hx
  | succ d ih =>
    intro i left hi h0 h1
    have he : rd_L6 l (i : Int) = l[i] := getD_nat l _ (by omega)
    obtain ⟨r, e, hr, hrl⟩ := szByteS l[i] left (hg _ (List.getElem_mem _)) h0 h1
    by_cases h : r < 0
    · exact ⟨-1, Ev.step (fun k => laws_szByteSS.l0.eq_2 _ _ _ k) (Ev.pos (by omega) (Ev.pos (by omega) (by rw [he]; exact Ev.then e (Ev.pos h (Ev.done rfl))))), by omega, by omega⟩
    · obtain ⟨q, e2, hq, hql⟩ := ih (i + 1) r (by omega) (by omega) (by omega)
      refine ⟨q, Ev.step (fun k => laws_szByteSS.l0.eq_2 _ _ _ k) (Ev.pos (by omega) (Ev.pos (by omega) ?_)), by omega, fun hq0 x hx => ?_⟩
      · rw [he]
        refine Ev.then e (Ev.neg h ?_)
        rw [w64 (n := (i : Int) + 1) (by omega) (by omega), cast_succ]
        exact e2
      · rw [List.drop_eq_getElem_cons (by omega)] at hx
        rcases List.mem_cons.1 hx with rfl | hx
        · have := hrl (by omega); omega
        · exact hql hq0 x hx
theorem szByteSS (l : List (List Int)) (left : Int) (hl : l.length ≤ maxLen) (hg : ∀ x ∈ l, x.length ≤ maxLen) (h0 : 0 ≤ left) (h1 : left ≤ 1048576) : ∃ r, Ev (fun k => laws_szByteSS.f k l left) r ∧ r ≤ left ∧ (0 ≤ r → l.length ≤ 1048576 ∧ ∀ x ∈ l, x.length ≤ 1048576) := by
  unfold laws_szByteSS.f
  have hm : maxLen = 9223372036854775807 := by decide
  rw [w64 (n := left - (l.length : Int)) (by omega) (by omega)]
  by_cases h : left - (l.length : Int) < 0
  · exact ⟨-1, Ev.pos h (Ev.done rfl), by omega, by omega⟩
  · obtain ⟨r, e, hr, hrl⟩ := szByteSS_l0 l (by omega) hg l.length 0 (left - l.length) (by omega) (by omega) (by omega)
    exact ⟨r, Ev.neg h e, by omega, fun hr0 => ⟨by omega, by simpa using hrl hr0⟩⟩
theorem szWr (x : LWr) (left : Int) (hl : x.f1.length ≤ maxLen) (h0 : 0 ≤ left) (h1 : left ≤ 1048576) : ∃ r, laws_szWr.f x.f0 x.f1 left = some r ∧ r ≤ left ∧ (0 ≤ r → (x.f1.length : Int) ≤ left) := by
  unfold laws_szWr.f
  obtain ⟨r, e, hr, hrl⟩ := szByteS x.f1 left hl h0 h1
  rw [e]
  simp only [Option.bind_some]
  by_cases h : r < 0
  · rw [if_pos h]; exact ⟨-1, rfl, by omega, by omega⟩
  · rw [if_neg h]; exact ⟨r, rfl, hr, hrl⟩
theorem szWrS_l0 (l : List LWr) (hl : l.length ≤ 1048576) (hg : ∀ x ∈ l, x.f1.length ≤ maxLen) (d : Nat) : ∀ (i : Nat) (left : Int), i + d = l.length → 0 ≤ left → left ≤ 1048576 → ∃ r, Ev (fun k => laws_szWrS.l0 k l left (i : Int)) r ∧ r ≤ left ∧ (0 ≤ r → ∀ x ∈ l.drop i, x.f1.length ≤ 1048576) := by
  induction d with
  | zero =>
    intro i left hi h0 h1
    refine ⟨left, Ev.step (fun k => laws_szWrS.l0.eq_2 _ _ _ k) (Ev.neg (by omega) (Ev.done rfl)), Int.le_refl _, fun _ x hx => ?_⟩
    rw [List.drop_of_length_le (by omega)] at hx
    cases hx
  | succ d ih =>
    intro i left hi h0 h1
    have he : rd_T125 l (i : Int) = l[i] := getD_nat l _ (by omega)
    obtain ⟨r, e, hr, hrl⟩ := szWr l[i] left (hg _ (List.getElem_mem _)) h0 h1
    by_cases h : r < 0
    · exact ⟨-1, Ev.step (fun k => laws_szWrS.l0.eq_2 _ _ _ k) (Ev.pos (by omega) (Ev.pos (by omega) (by rw [he]; exact Ev.then e (Ev.pos h (Ev.done rfl))))), by omega, by omega⟩
    · obtain ⟨q, e2, hq, hql⟩ := ih (i + 1) r (by omega) (by omega) (by omega)
      refine ⟨q, Ev.step (fun k => laws_szWrS.l0.eq_2 _ _ _ k) (Ev.pos (by omega) (Ev.pos (by omega) ?_)), by omega, fun hq0 x hx => ?_⟩
      · rw [he]
        refine Ev.then e (Ev.neg h ?_)
        rw [w64 (n := (i : Int) + 1) (by omega) (by omega), cast_succ]
        exact e2
      · rw [List.drop_eq_getElem_cons (by omega)] at hx
        rcases List.mem_cons.1 hx with rfl | hx
        · have := hrl (by omega); omega
        · exact hql hq0 x hx
theorem szWrS (l : List LWr) (left : Int) (hl : l.length ≤ maxLen) (hg : ∀ x ∈ l, x.f1.length ≤ maxLen) (h0 : 0 ≤ left) (h1 : left ≤ 1048576) : ∃ r, Ev (fun k => laws_szWrS.f k l left) r ∧ r ≤ left ∧ (0 ≤ r → l.length ≤ 1048576 ∧ ∀ x ∈ l, x.f1.length ≤ 1048576) := by
  unfold laws_szWrS.f
  have hm : maxLen = 9223372036854775807 := by decide
  rw [w64 (n := left - (l.length : Int)) (by omega) (by omega)]
  by_cases h : left - (l.length : Int) < 0
  · exact ⟨-1, Ev.pos h (Ev.done rfl), by omega, by omega⟩
  · obtain ⟨r, e, hr, hrl⟩ := szWrS_l0 l (by omega) hg l.length 0 (left - l.length) (by omega) (by omega) (by omega)
    exact ⟨r, Ev.neg h e, by omega, fun hr0 => ⟨by omega, by simpa using hrl hr0⟩⟩
/-- What a disk is known to be where its size is not above the bound. -/
def Fits (d : Dk) : Prop := d.secs.length ≤ 1048576 ∧ (∀ x ∈ d.secs, x.length ≤ 1048576 ∧ Bytes x) ∧ d.cache.length ≤ 1048576 ∧ ∀ x ∈ d.cache, x.f1.length ≤ 1048576 ∧ Bytes x.f1
theorem szDisk (secs : List (List Int)) (cache : List LWr) (fuse : Int) (down : Bool) (left : Int) (hs : secs.length ≤ maxLen ∧ ∀ x ∈ secs, x.length ≤ maxLen) (hc : cache.length ≤ maxLen ∧ ∀ x ∈ cache, x.f1.length ≤ maxLen) (h0 : 0 ≤ left) (h1 : left ≤ 1048576) :
    ∃ r, Ev (fun k => laws_szDisk.f k secs cache fuse down left) r ∧ r ≤ left ∧ (0 ≤ r → (secs.length ≤ 1048576 ∧ ∀ x ∈ secs, x.length ≤ 1048576) ∧ (cache.length ≤ 1048576 ∧ ∀ x ∈ cache, x.f1.length ≤ 1048576)) := by
  unfold laws_szDisk.f
  obtain ⟨r, e, hr, hrl⟩ := szByteSS secs left hs.1 hs.2 h0 h1
  by_cases h : r < 0
  · exact ⟨-1, Ev.bind e (Ev.pos h (Ev.done rfl)), by omega, by omega⟩
  · obtain ⟨q, e2, hq, hql⟩ := szWrS cache r hc.1 hc.2 (by omega) (by omega)
    by_cases h' : q < 0
    · exact ⟨-1, Ev.bind e (Ev.neg h (Ev.bind e2 (Ev.pos h' (Ev.done rfl)))), by omega, by omega⟩
    · exact ⟨q, Ev.bind e (Ev.neg h (Ev.bind e2 (Ev.neg h' (Ev.done rfl)))), by omega, fun hq0 => ⟨hrl (by omega), hql hq0⟩⟩
/-! ### copies -/
theorem toByteSS_l0 (l : List (List Int)) (hl : l.length ≤ 1048576) (hg : ∀ x ∈ l, x.length ≤ 1048576) (d : Nat) : ∀ (i : Nat) (o : List (List Int)), i + d = l.length → o.length = l.length → o.take i = l.take i → Ev (fun k => laws_toByteSS.l0 k l o (i : Int)) l := by
  induction d with
  | zero =>
    intro i o hi ho ht
    exact Ev.step (fun k => laws_toByteSS.l0.eq_2 _ _ _ k) (Ev.neg (by omega) (Ev.done (take_all ho (by omega) ht)))
  | succ d ih =>
    intro i o hi ho ht
    have he : rd_L6 l (i : Int) = l[i] := getD_nat l _ (by omega)
    have hx := hg l[i] (List.getElem_mem _)
    refine Ev.step (fun k => laws_toByteSS.l0.eq_2 _ _ _ k) (Ev.pos (by omega) (Ev.pos (by omega) ?_))
    rw [he]
    refine Ev.bind (toByteS l[i] (by omega)) (Ev.pos (by omega) ?_)
    rw [w64 (n := (i : Int) + 1) (by omega) (by omega), cast_succ, Int.toNat_natCast]
    exact ih (i + 1) _ (by omega) (by rw [List.length_set]; exact ho) (set_take ho (by omega) ht rfl)
theorem toByteSS (l : List (List Int)) (hl : l.length ≤ 1048576) (hg : ∀ x ∈ l, x.length ≤ 1048576) : Ev (fun k => laws_toByteSS.f k l) l := by
  unfold laws_toByteSS.f
  refine Ev.pos (by omega) (Ev.pos (by omega) ?_)
  rw [Int.toNat_natCast]
  exact toByteSS_l0 l hl hg l.length 0 _ (by omega) (by simp) (by simp)
theorem toWr (x : LWr) (hx : x.f1.length ≤ 1048576) : Ev (fun k => laws_toWr.f k x.f0 x.f1) (x.f0, x.f1) := by
  unfold laws_toWr.f
  exact Ev.bind (toByteS x.f1 (by omega)) (Ev.done rfl)
theorem toWrS_l0 (l : List LWr) (hl : l.length ≤ 1048576) (hg : ∀ x ∈ l, x.f1.length ≤ 1048576) (d : Nat) : ∀ (i : Nat) (o : List Wr), i + d = l.length → o.length = l.length → o.take i = (l.map wrOf).take i → Ev (fun k => laws_toWrS.l0 k l o (i : Int)) (l.map wrOf) := by
  induction d with
  | zero =>
    intro i o hi ho ht
    exact Ev.step (fun k => laws_toWrS.l0.eq_2 _ _ _ k) (Ev.neg (by omega) (Ev.done (take_all (by simpa using ho) (by simp; omega) ht)))
  | succ d ih =>
    intro i o hi ho ht
    have he : rd_T125 l (i : Int) = l[i] := getD_nat l _ (by omega)
    refine Ev.step (fun k => laws_toWrS.l0.eq_2 _ _ _ k) (Ev.pos (by omega) (Ev.pos (by omega) ?_))
    rw [he]
    refine Ev.bind (toWr l[i] (hg _ (List.getElem_mem _))) (Ev.pos (by omega) ?_)
    rw [w64 (n := (i : Int) + 1) (by omega) (by omega), cast_succ, Int.toNat_natCast]
    exact ih (i + 1) _ (by omega) (by rw [List.length_set]; exact ho) (set_take (by simpa using ho) (by simp; omega) ht (by rw [List.getElem_map]; rfl))
theorem toWrS (l : List LWr) (hl : l.length ≤ 1048576) (hg : ∀ x ∈ l, x.f1.length ≤ 1048576) : Ev (fun k => laws_toWrS.f k l) (l.map wrOf) := by
  unfold laws_toWrS.f
  refine Ev.pos (by omega) (Ev.pos (by omega) ?_)
  rw [Int.toNat_natCast]
  exact toWrS_l0 l hl hg l.length 0 _ (by omega) (by simp) (by simp)
def Dk.tuple (d : Dk) : List (List Int) × List Wr × Int × Bool := (d.secs, d.cache, d.fuse, d.down)
theorem toDisk (secs : List (List Int)) (cache : List LWr) (fuse : Int) (down : Bool) (hs : secs.length ≤ 1048576 ∧ ∀ x ∈ secs, x.length ≤ 1048576) (hc : cache.length ≤ 1048576 ∧ ∀ x ∈ cache, x.f1.length ≤ 1048576) :
    Ev (fun k => laws_toDisk.f k secs cache fuse down) (secs, cache.map wrOf, fuse, down) := by
  unfold laws_toDisk.f
  exact Ev.bind (toByteSS secs hs.1 hs.2) (Ev.bind (toWrS cache hc.1 hc.2) (Ev.done rfl))
/-! ### comparisons -/
theorem eqByteS' (l m : List Int) (hl : l.length ≤ 140737488351232) : Ev (fun k => laws_eqByteS.f k l m) (eqB l m) := by
  refine Ev.eq (eqByteS l m hl) ?_
  rw [Bool.eq_iff_iff, eqB_iff, decide_eq_true_eq]
theorem eqByteSS_l0 (l m : List (List Int)) (hl : l.length ≤ 1048576) (hg : ∀ x ∈ l, x.length ≤ 1048576) (hm : l.length = m.length) (d : Nat) : ∀ (i : Nat), i + d = l.length → Ev (fun k => laws_eqByteSS.l0 k l m (i : Int)) (eqB (l.drop i) (m.drop i)) := by
  induction d with
  | zero =>
    intro i hi
    refine Ev.step (fun k => laws_eqByteSS.l0.eq_2 _ _ _ k) (Ev.neg (by omega) (Ev.done ?_))
    rw [List.drop_of_length_le (by omega), List.drop_of_length_le (by omega), eqB_same]
  | succ d ih =>
    intro i hi
    have he : rd_L6 l (i : Int) = l[i] := getD_nat l _ (by omega)
    have he' : rd_L6 m (i : Int) = m[i] := getD_nat m _ (by omega)
    have hx := hg l[i] (List.getElem_mem _)
    refine Ev.step (fun k => laws_eqByteSS.l0.eq_2 _ _ _ k) (Ev.pos (by omega) (Ev.pos (by omega) (Ev.pos (by omega) ?_)))
    rw [he, he']
    refine Ev.bind (eqByteS' _ _ (by omega)) ?_
    rw [List.drop_eq_getElem_cons (show i < l.length by omega), List.drop_eq_getElem_cons (show i < m.length by omega), w64 (n := (i : Int) + 1) (by omega) (by omega), cast_succ, eqB_cons]
    by_cases h : eqB l[i] m[i] = true
    · refine Ev.pos h (Ev.eq (ih (i + 1) (by omega)) (by rw [h, Bool.true_and]))
    · refine Ev.neg h (Ev.done ?_)
      rw [Bool.not_eq_true] at h
      rw [h, Bool.false_and]
theorem eqByteSS (l m : List (List Int)) (hl : l.length ≤ 1048576) (hg : ∀ x ∈ l, x.length ≤ 1048576) : Ev (fun k => laws_eqByteSS.f k l m) (eqB l m) := by
  unfold laws_eqByteSS.f
  by_cases h : l.length = m.length
  · exact Ev.pos (by omega) (eqByteSS_l0 l m hl hg h l.length 0 (by omega))
  · exact Ev.neg (by omega) (Ev.done (eqB_not (fun e => h (by rw [e]))).symm)
theorem eqWr (x y : Wr) (hx : x.f1.length ≤ 1048576) : Ev (fun k => laws_eqWr.f k x.f0 x.f1 y.f0 y.f1) (eqB x y) := by
  unfold laws_eqWr.f
  by_cases h0 : x.f0 = y.f0
  · refine Ev.pos h0 (Ev.bind (eqByteS' _ _ (by omega)) ?_)
    by_cases h1 : x.f1 = y.f1
    · rw [wr_eq h0 h1]
      exact Ev.pos (eqB_same _) (Ev.done (eqB_same _).symm)
    · exact Ev.neg (by rw [eqB_not h1]; decide) (Ev.done (eqB_not (fun e => h1 (by rw [e]))).symm)
  · exact Ev.neg h0 (Ev.done (eqB_not (fun e => h0 (by rw [e]))).symm)
theorem eqWrS_l0 (l m : List Wr) (hl : l.length ≤ 1048576) (hg : ∀ x ∈ l, x.f1.length ≤ 1048576) (hm : l.length = m.length) (d : Nat) : ∀ (i : Nat), i + d = l.length → Ev (fun k => laws_eqWrS.l0 k l m (i : Int)) (eqB (l.drop i) (m.drop i)) := by
  induction d with
  | zero =>
    intro i hi
    refine Ev.step (fun k => laws_eqWrS.l0.eq_2 _ _ _ k) (Ev.neg (by omega) (Ev.done ?_))
    rw [List.drop_of_length_le (by omega), List.drop_of_length_le (by omega), eqB_same]
  | succ d ih =>
    intro i hi
    have he : rd_T109 l (i : Int) = l[i] := getD_nat l _ (by omega)
    have he' : rd_T109 m (i : Int) = m[i] := getD_nat m _ (by omega)
    have hx := hg l[i] (List.getElem_mem _)
    refine Ev.step (fun k => laws_eqWrS.l0.eq_2 _ _ _ k) (Ev.pos (by omega) (Ev.pos (by omega) (Ev.pos (by omega) ?_)))
    rw [he, he']
    refine Ev.bind (eqWr l[i] m[i] hx) ?_
    rw [List.drop_eq_getElem_cons (show i < l.length by omega), List.drop_eq_getElem_cons (show i < m.length by omega), w64 (n := (i : Int) + 1) (by omega) (by omega), cast_succ, eqB_cons]
    by_cases h : eqB l[i] m[i] = true
    · refine Ev.pos h (Ev.eq (ih (i + 1) (by omega)) (by rw [h, Bool.true_and]))
    · refine Ev.neg h (Ev.done ?_)
      rw [Bool.not_eq_true] at h
      rw [h, Bool.false_and]
theorem eqWrS (l m : List Wr) (hl : l.length ≤ 1048576) (hg : ∀ x ∈ l, x.f1.length ≤ 1048576) : Ev (fun k => laws_eqWrS.f k l m) (eqB l m) := by
  unfold laws_eqWrS.f
  by_cases h : l.length = m.length
  · exact Ev.pos (by omega) (eqWrS_l0 l m hl hg h l.length 0 (by omega))
  · exact Ev.neg (by omega) (Ev.done (eqB_not (fun e => h (by rw [e]))).symm)
theorem eqDisk_same (d : Dk) (hd : Fits d) : Ev (fun k => laws_eqDisk.f k d.secs d.cache d.fuse d.down d.secs d.cache d.fuse d.down) true := by
  obtain ⟨h1, h2, h3, h4⟩ := hd
  unfold laws_eqDisk.f
  refine Ev.bind (eqByteSS _ _ h1 (fun x hx => (h2 x hx).1)) (Ev.pos (eqB_same _) (Ev.bind (eqWrS _ _ h3 (fun x hx => (h4 x hx).1)) (Ev.pos (eqB_same _) (Ev.pos rfl (Ev.neg (by simp) (Ev.done rfl))))))
end Go.Proofs.YthkepmicdpgbbaaGreatDoor.Fn

/- What the printed functions that test disks come to. No memory is in sight here. -/
namespace Go.Proofs.YthkepmicdpgbbaaGreatDoor.Fn
set_option linter.unusedVariables false
set_option linter.unusedSimpArgs false
open Go.RowKit Go.Proofs.YthkepmicdpgbbaaGreatDoorW.PrintWords Go.Proofs.YthkepmicdpgbbaaGreatDoor.P Go.Proofs.YthkepmicdpgbbaaGreatDoor.Base

def WrOk (n : Int) (x : Wr) : Prop := (0 ≤ x.f0 ∧ x.f0 ≤ n - 1) ∧ x.f1.length ≤ 160
def DiskOk (d : Dk) : Prop := (1 ≤ d.secs.length ∧ d.secs.length ≤ 40) ∧ d.cache.length ≤ 30 ∧ (-1 ≤ d.fuse ∧ d.fuse ≤ 1000) ∧ (∀ x ∈ d.secs, x.length ≤ 160) ∧ ∀ x ∈ d.cache, WrOk d.secs.length x
noncomputable def diskOk (d : Dk) : Bool := @decide (DiskOk d) (Classical.propDecidable _)
theorem diskOk_iff (d : Dk) : diskOk d = true ↔ DiskOk d := by unfold diskOk; simp
theorem diskOk_no {d : Dk} (h : ¬ DiskOk d) : diskOk d = false := by rw [← Bool.not_eq_true, diskOk_iff]; exact h
theorem drop_all {α : Type} {P : α → Prop} {l : List α} {i : Nat} (hi : i < l.length) (h : P l[i]) : (∀ x ∈ l.drop i, P x) ↔ ∀ x ∈ l.drop (i + 1), P x := by
  have e := List.drop_eq_getElem_cons hi
  constructor
  · intro H x hx
    exact H x (by rw [e]; exact List.mem_cons_of_mem _ hx)
  · intro H x hx
    rw [e] at hx
    rcases List.mem_cons.1 hx with rfl | hx
    · exact h
    · exact H x hx
theorem impl_DiskOk_l1 (d : Dk) (hs : d.secs.length ≤ 1048576) (hc : d.cache.length ≤ 1048576) (hpre : (1 ≤ d.secs.length ∧ d.secs.length ≤ 40) ∧ d.cache.length ≤ 30 ∧ (-1 ≤ d.fuse ∧ d.fuse ≤ 1000) ∧ (∀ x ∈ d.secs, x.length ≤ 160)) (n : Nat) :
    ∀ (i : Nat), i + n = d.cache.length → ((∀ x ∈ d.cache, WrOk d.secs.length x) ↔ ∀ x ∈ d.cache.drop i, WrOk d.secs.length x) → Ev (fun k => impl_DiskOk.l1 k d.cache (d.cache.length : Int) (i : Int) d.secs d.cache d.fuse d.down) (diskOk d) := by
  induction n with
  | zero =>
    intro i hi hiff
    refine Ev.step (fun k => impl_DiskOk.l1.eq_2 _ _ _ _ _ _ _ k) (Ev.neg (by omega) (Ev.done ?_))
    rw [List.drop_of_length_le (by omega)] at hiff
    exact ((diskOk_iff d).2 ⟨hpre.1, hpre.2.1, hpre.2.2.1, hpre.2.2.2, hiff.2 (fun x hx => by cases hx)⟩).symm
  | succ n ih =>
    intro i hi hiff
    have he : rd_T109 d.cache (i : Int) = d.cache[i] := getD_nat d.cache _ (by omega)
    have no : ¬ WrOk d.secs.length d.cache[i] → ¬ DiskOk d := fun h hd => h (hd.2.2.2.2 _ (List.getElem_mem _))
    refine Ev.step (fun k => impl_DiskOk.l1.eq_2 _ _ _ _ _ _ _ k) (Ev.pos (by omega) (Ev.pos (by omega) (Ev.pos (by omega) ?_)))
    rw [he, w64 (n := (d.secs.length : Int) - 1) (by omega) (by omega)]
    refine Ev.then (isIn _ _ _) ?_
    by_cases h1 : 0 ≤ d.cache[i].f0 ∧ d.cache[i].f0 ≤ (d.secs.length : Int) - 1
    · refine Ev.pos (by simpa using h1) ?_
      by_cases h2 : (d.cache[i].f1.length : Int) > 160
      · exact Ev.pos h2 (Ev.done (diskOk_no (no (fun h => by have := h.2; omega))).symm)
      · refine Ev.neg h2 ?_
        rw [w64 (n := (i : Int) + 1) (by omega) (by omega), cast_succ]
        exact ih (i + 1) (by omega) (hiff.trans (drop_all (by omega) ⟨h1, by omega⟩))
    · exact Ev.neg (by simpa using h1) (Ev.done (diskOk_no (no (fun h => h1 h.1))).symm)
theorem impl_DiskOk_l0 (d : Dk) (hs : d.secs.length ≤ 1048576) (hc : d.cache.length ≤ 1048576) (hpre : (1 ≤ d.secs.length ∧ d.secs.length ≤ 40) ∧ d.cache.length ≤ 30 ∧ (-1 ≤ d.fuse ∧ d.fuse ≤ 1000)) (n : Nat) :
    ∀ (i : Nat), i + n = d.secs.length → ((∀ x ∈ d.secs, x.length ≤ 160) ↔ ∀ x ∈ d.secs.drop i, x.length ≤ 160) → Ev (fun k => impl_DiskOk.l0 k d.secs (d.secs.length : Int) (i : Int) d.secs d.cache d.fuse d.down) (diskOk d) := by
  induction n with
  | zero =>
    intro i hi hiff
    rw [List.drop_of_length_le (by omega)] at hiff
    refine Ev.step (fun k => impl_DiskOk.l0.eq_2 _ _ _ _ _ _ _ k) (Ev.neg (by omega) ?_)
    exact impl_DiskOk_l1 d hs hc ⟨hpre.1, hpre.2.1, hpre.2.2, hiff.2 (fun x hx => by cases hx)⟩ d.cache.length 0 (by omega) (by simp)
  | succ n ih =>
    intro i hi hiff
    have he : rd_L6 d.secs (i : Int) = d.secs[i] := getD_nat d.secs _ (by omega)
    refine Ev.step (fun k => impl_DiskOk.l0.eq_2 _ _ _ _ _ _ _ k) (Ev.pos (by omega) (Ev.pos (by omega) (Ev.pos (by omega) ?_)))
    rw [he]
    by_cases h2 : (d.secs[i].length : Int) > 160
    · exact Ev.pos h2 (Ev.done (diskOk_no (fun h => by have := h.2.2.2.1 _ (List.getElem_mem (show i < d.secs.length by omega)); omega)).symm)
    · refine Ev.neg h2 ?_
      rw [w64 (n := (i : Int) + 1) (by omega) (by omega), cast_succ]
      exact ih (i + 1) (by omega) (hiff.trans (drop_all (by omega) (by omega)))
theorem impl_diskOk (d : Dk) (hs : d.secs.length ≤ 1048576) (hc : d.cache.length ≤ 1048576) : Ev (fun k => impl_DiskOk.f k d.secs d.cache d.fuse d.down) (diskOk d) := by
  unfold impl_DiskOk.f
  have bad : ¬ DiskOk d → ∀ b : Bool, b = true → Ev (fun k => impl_DiskOk.j0 k b d.secs d.cache d.fuse d.down) (diskOk d) := fun h b hb => Ev.step (fun k => impl_DiskOk.j0.eq_2 _ _ _ _ _ k) (Ev.pos hb (Ev.done (diskOk_no h).symm))
  refine Ev.then (isIn _ _ _) ?_
  by_cases h1 : 1 ≤ d.secs.length ∧ d.secs.length ≤ 40
  · refine Ev.pos (by simp; omega) ?_
    by_cases h2 : (d.cache.length : Int) > 30
    · exact Ev.pos h2 (bad (fun h => by have := h.2.1; omega) _ rfl)
    · refine Ev.neg h2 (Ev.then (isIn _ _ _) ?_)
      by_cases h3 : -1 ≤ d.fuse ∧ d.fuse ≤ 1000
      · refine Ev.step (fun k => impl_DiskOk.j0.eq_2 _ _ _ _ _ k) (Ev.neg (by simp; omega) ?_)
        exact impl_DiskOk_l0 d hs hc ⟨h1, by omega, h3⟩ d.secs.length 0 (by omega) (by simp)
      · exact bad (fun h => h3 h.2.2.1) _ (by simp; omega)
  · exact Ev.neg (by simp; omega) (bad (fun h => h1 h.1) _ rfl)
theorem spec_DiskOk_l1 (d : Dk) (hs : d.secs.length ≤ 1048576) (hc : d.cache.length ≤ 1048576) (hpre : ∀ x ∈ d.secs, x.length ≤ 160) (n : Nat) :
    ∀ (i : Nat), i + n = d.cache.length → ((∀ x ∈ d.cache, WrOk d.secs.length x) ↔ ∀ x ∈ d.cache.drop i, WrOk d.secs.length x) → Ev (fun k => spec_DiskOk.l1 k (i : Int) d.secs d.cache d.fuse d.down) (diskOk d) := by
  induction n with
  | zero =>
    intro i hi hiff
    rw [List.drop_of_length_le (by omega)] at hiff
    have hall := hiff.2 (fun x hx => by cases hx)
    refine Ev.step (fun k => spec_DiskOk.l1.eq_2 _ _ _ _ _ k) (Ev.neg (by omega) (Ev.then (l1In _ _ _) ?_))
    by_cases h1 : 1 ≤ d.secs.length ∧ d.secs.length ≤ 40
    · refine Ev.pos (by simp; omega) ?_
      by_cases h2 : (d.cache.length : Int) ≤ 30
      · refine Ev.pos h2 (Ev.then (l1In _ _ _) (Ev.done ?_))
        by_cases h3 : -1 ≤ d.fuse ∧ d.fuse ≤ 1000
        · rw [(diskOk_iff d).2 ⟨h1, by omega, h3, hpre, hall⟩]; simpa using h3
        · rw [diskOk_no (fun h => h3 h.2.2.1)]; simpa using h3
      · exact Ev.neg h2 (Ev.done (diskOk_no (fun h => by have := h.2.1; omega)).symm)
    · exact Ev.neg (by simp; omega) (Ev.done (diskOk_no (fun h => h1 h.1)).symm)
  | succ n ih =>
    intro i hi hiff
    have he : rd_T109 d.cache (i : Int) = d.cache[i] := getD_nat d.cache _ (by omega)
    have no : ¬ WrOk d.secs.length d.cache[i] → ¬ DiskOk d := fun h hd => h (hd.2.2.2.2 _ (List.getElem_mem _))
    refine Ev.step (fun k => spec_DiskOk.l1.eq_2 _ _ _ _ _ k) (Ev.pos (by omega) (Ev.pos (by omega) ?_))
    rw [he, w64 (n := (d.secs.length : Int) - 1) (by omega) (by omega)]
    refine Ev.then (l1In _ _ _) ?_
    by_cases h1 : 0 ≤ d.cache[i].f0 ∧ d.cache[i].f0 ≤ (d.secs.length : Int) - 1
    · refine Ev.pos (by simpa using h1) ?_
      by_cases h2 : (d.cache[i].f1.length : Int) > 160
      · exact Ev.pos h2 (Ev.done (diskOk_no (no (fun h => by have := h.2; omega))).symm)
      · refine Ev.neg h2 ?_
        rw [w64 (n := (i : Int) + 1) (by omega) (by omega), cast_succ]
        exact ih (i + 1) (by omega) (hiff.trans (drop_all (by omega) ⟨h1, by omega⟩))
    · exact Ev.neg (by simpa using h1) (Ev.done (diskOk_no (no (fun h => h1 h.1))).symm)
theorem spec_DiskOk_l0 (d : Dk) (hs : d.secs.length ≤ 1048576) (hc : d.cache.length ≤ 1048576) (n : Nat) :
    ∀ (i : Nat), i + n = d.secs.length → ((∀ x ∈ d.secs, x.length ≤ 160) ↔ ∀ x ∈ d.secs.drop i, x.length ≤ 160) → Ev (fun k => spec_DiskOk.l0 k (i : Int) d.secs d.cache d.fuse d.down) (diskOk d) := by
  induction n with
  | zero =>
    intro i hi hiff
    rw [List.drop_of_length_le (by omega)] at hiff
    refine Ev.step (fun k => spec_DiskOk.l0.eq_2 _ _ _ _ _ k) (Ev.neg (by omega) ?_)
    exact spec_DiskOk_l1 d hs hc (hiff.2 (fun x hx => by cases hx)) d.cache.length 0 (by omega) (by simp)
  | succ n ih =>
    intro i hi hiff
    have he : rd_L6 d.secs (i : Int) = d.secs[i] := getD_nat d.secs _ (by omega)
    refine Ev.step (fun k => spec_DiskOk.l0.eq_2 _ _ _ _ _ k) (Ev.pos (by omega) (Ev.pos (by omega) ?_))
    rw [he]
    by_cases h2 : (d.secs[i].length : Int) > 160
    · exact Ev.pos h2 (Ev.done (diskOk_no (fun h => by have := h.2.2.2.1 _ (List.getElem_mem (show i < d.secs.length by omega)); omega)).symm)
    · refine Ev.neg h2 ?_
      rw [w64 (n := (i : Int) + 1) (by omega) (by omega), cast_succ]
      exact ih (i + 1) (by omega) (hiff.trans (drop_all (by omega) (by omega)))
theorem spec_diskOk (d : Dk) (hs : d.secs.length ≤ 1048576) (hc : d.cache.length ≤ 1048576) : Ev (fun k => spec_DiskOk.f k d.secs d.cache d.fuse d.down) (diskOk d) := by
  unfold spec_DiskOk.f
  exact spec_DiskOk_l0 d hs hc d.secs.length 0 (by omega) (by simp)
/-- What a law's disk is: the one that came in, copied, and what is known of it where its size is not above the bound. -/
theorem fits_of {secs : List (List Int)} {cache : List LWr} (fuse : Int) (down : Bool) (hs : ∀ x ∈ secs, (x.length ≤ maxLen ∧ ∀ y ∈ x, (Lit.int .u8 y).wf = true)) (hc : ∀ x ∈ cache, ((Lit.int .i64 x.f0).wf = true ∧ (x.f1.length ≤ maxLen ∧ ∀ y ∈ x.f1, (Lit.int .u8 y).wf = true)))
    (h : (secs.length ≤ 1048576 ∧ ∀ x ∈ secs, x.length ≤ 1048576) ∧ (cache.length ≤ 1048576 ∧ ∀ x ∈ cache, x.f1.length ≤ 1048576)) : Fits ⟨secs, cache.map wrOf, fuse, down⟩ := by
  refine ⟨h.1.1, fun x hx => ⟨h.1.2 x hx, Bytes.of_wf (hs x hx).2⟩, by simpa using h.2.1, fun x hx => ?_⟩
  obtain ⟨y, hy, rfl⟩ := List.mem_map.1 hx
  exact ⟨h.2.2 y hy, Bytes.of_wf (hc y hy).2.2⟩
end Go.Proofs.YthkepmicdpgbbaaGreatDoor.Fn

/- What the printed functions that read a sector come to. -/
namespace Go.Proofs.YthkepmicdpgbbaaGreatDoor.Fn
set_option linter.unusedVariables false
set_option linter.unusedSimpArgs false
open Go.RowKit Go.Proofs.YthkepmicdpgbbaaGreatDoorW.PrintWords Go.Proofs.YthkepmicdpgbbaaGreatDoor.P Go.Proofs.YthkepmicdpgbbaaGreatDoor.Base

/-- The last of the writes to sector n, or what stood there. -/
def lookB (n : Int) : List Wr → List Int → List Int
  | [], b => b
  | x :: xs, b => lookB n xs (if x.f0 = n then x.f1 else b)
theorem lookB_snoc (n : Int) (xs : List Wr) (x : Wr) : ∀ b, lookB n (xs ++ [x]) b = if x.f0 = n then x.f1 else lookB n xs b := by
  induction xs with
  | nil => intro b; rfl
  | cons y ys ih => intro b; exact ih _
theorem lookB_all {P : List Int → Prop} (n : Int) (xs : List Wr) (hx : ∀ x ∈ xs, P x.f1) : ∀ b, P b → P (lookB n xs b) := by
  induction xs with
  | nil => intro b hb; exact hb
  | cons y ys ih =>
    intro b hb
    refine ih (fun x h => hx x (List.mem_cons_of_mem _ h)) _ ?_
    split
    · exact hx y (List.mem_cons_self ..)
    · exact hb
noncomputable def readSec (d : Dk) (n : Int) : List Int :=
  @ite _ (DiskOk d ∧ 0 ≤ n ∧ n ≤ (d.secs.length : Int) - 1) (Classical.propDecidable _) (lookB n d.cache (d.secs.getD n.toNat [])) []
theorem readSec_yes {d : Dk} {n : Int} (h : DiskOk d ∧ 0 ≤ n ∧ n ≤ (d.secs.length : Int) - 1) : readSec d n = lookB n d.cache (d.secs.getD n.toNat []) := if_pos h
theorem readSec_no {d : Dk} {n : Int} (h : ¬ (DiskOk d ∧ 0 ≤ n ∧ n ≤ (d.secs.length : Int) - 1)) : readSec d n = [] := if_neg h
theorem readSec_all {P : List Int → Prop} (h0 : P []) (d : Dk) (n : Int) (hs : ∀ x ∈ d.secs, P x) (hc : ∀ x ∈ d.cache, P x.f1) : P (readSec d n) := by
  by_cases h : DiskOk d ∧ 0 ≤ n ∧ n ≤ (d.secs.length : Int) - 1
  · rw [readSec_yes h]
    refine lookB_all n d.cache hc _ ?_
    rw [List.getD_eq_getElem?_getD, List.getElem?_eq_getElem (by omega)]
    exact hs _ (List.getElem_mem _)
  · rw [readSec_no h]; exact h0
theorem readSec_bytes {d : Dk} (hd : Fits d) (n : Int) : Bytes (readSec d n) := readSec_all Bytes.nil d n (fun x hx => (hd.2.1 x hx).2) (fun x hx => (hd.2.2.2 x hx).2)
theorem readSec_length {d : Dk} (hd : Fits d) (n : Int) : (readSec d n).length ≤ 1048576 := readSec_all (P := fun l => l.length ≤ 1048576) (by simp) d n (fun x hx => (hd.2.1 x hx).1) (fun x hx => (hd.2.2.2 x hx).1)
theorem spec_ReadSec_l0 (d : Dk) (hd : Fits d) (n : Int) (m : Nat) : ∀ (i : Nat) (b : List Int), i + m = d.cache.length → b.length ≤ 1048576 → Ev (fun k => spec_ReadSec.l0 k n b (i : Int) d.secs d.cache d.fuse d.down) (lookB n (d.cache.drop i) b) := by
  induction m with
  | zero =>
    intro i b hi hb
    rw [List.drop_of_length_le (by omega)]
    exact Ev.step (fun k => spec_ReadSec.l0.eq_2 _ _ _ _ _ _ _ k) (Ev.neg (by omega) (Ev.then rfl (Ev.pos (by simp; omega) (Ev.done rfl))))
  | succ m ih =>
    intro i b hi hb
    have hlt : i < d.cache.length := by omega
    have he : rd_T109 d.cache (i : Int) = d.cache[i] := getD_nat d.cache _ hlt
    have hcl := hd.2.2.1
    rw [List.drop_eq_getElem_cons hlt, lookB]
    refine Ev.step (fun k => spec_ReadSec.l0.eq_2 _ _ _ _ _ _ _ k) (Ev.pos (by omega) (Ev.pos (by omega) ?_))
    rw [he, w64 (n := (i : Int) + 1) (by omega) (by omega), cast_succ]
    by_cases h : d.cache[i].f0 = n
    · rw [if_pos h]
      exact Ev.pos h (ih (i + 1) _ (by omega) (hd.2.2.2 _ (List.getElem_mem hlt)).1)
    · rw [if_neg h]
      exact Ev.neg h (ih (i + 1) _ (by omega) hb)
theorem spec_readSec (d : Dk) (hd : Fits d) (n : Int) : Ev (fun k => spec_ReadSec.f k d.secs d.cache d.fuse d.down n) (readSec d n) := by
  unfold spec_ReadSec.f
  have hsl := hd.1
  have bad : ¬ (DiskOk d ∧ 0 ≤ n ∧ n ≤ (d.secs.length : Int) - 1) → ∀ b : Bool, b = true → Ev (fun k => spec_ReadSec.j0 k n b d.secs d.cache d.fuse d.down) (readSec d n) := fun hn b hb => Ev.step (fun k => spec_ReadSec.j0.eq_2 _ _ _ _ _ _ k) (Ev.pos hb (Ev.done (readSec_no hn).symm))
  refine Ev.bind (spec_diskOk d hd.1 hd.2.2.1) ?_
  by_cases h1 : DiskOk d
  case neg =>
    rw [diskOk_no h1]
    exact Ev.neg (by decide) (bad (fun h => h1 h.1) _ rfl)
  rw [(diskOk_iff d).2 h1, w64 (n := (d.secs.length : Int) - 1) (by omega) (by omega)]
  refine Ev.pos rfl (Ev.then (l1In _ _ _) ?_)
  by_cases h2 : 0 ≤ n ∧ n ≤ (d.secs.length : Int) - 1
  case neg => exact bad (fun h => h2 h.2) _ (by rw [decide_eq_false h2]; rfl)
  rw [readSec_yes ⟨h1, h2⟩]
  obtain ⟨i, rfl⟩ := Int.eq_ofNat_of_zero_le h2.1
  have hlt : i < d.secs.length := by omega
  have he : rd_L6 d.secs (i : Int) = d.secs[i] := getD_nat d.secs _ hlt
  refine Ev.step (fun k => spec_ReadSec.j0.eq_2 _ _ _ _ _ _ k) (Ev.neg (by rw [decide_eq_true h2]; decide) (Ev.pos (by omega) (Ev.pos (by omega) ?_)))
  rw [he, getD_nat d.secs [] hlt]
  exact spec_ReadSec_l0 d hd _ d.cache.length 0 _ (by omega) (hd.2.1 _ (List.getElem_mem hlt)).1
theorem impl_ReadSec_l0 (d : Dk) (hd : Fits d) (n : Nat) (hn : n < d.secs.length) : ∀ (i : Nat), i ≤ d.cache.length → Ev (fun k => impl_ReadSec.l0 k (n : Int) ((i : Int) - 1) d.secs d.cache d.fuse d.down) (lookB (n : Int) (d.cache.take i) d.secs[n]) := by
  intro i
  have hsn := (hd.2.1 _ (List.getElem_mem hn)).1
  induction i with
  | zero =>
    intro _
    have he : rd_L6 d.secs (n : Int) = d.secs[n] := getD_nat d.secs _ hn
    refine Ev.step (fun k => impl_ReadSec.l0.eq_2 _ _ _ _ _ _ k) (Ev.neg (by omega) (Ev.pos (by omega) (Ev.pos (by omega) ?_)))
    rw [he]
    exact Ev.then (clone _ (by omega)) (Ev.done rfl)
  | succ i ih =>
    intro hi
    have hlt : i < d.cache.length := by omega
    have hcl := hd.2.2.1
    have he : rd_T109 d.cache (i : Int) = d.cache[i] := getD_nat d.cache _ hlt
    have hci := (hd.2.2.2 _ (List.getElem_mem hlt)).1
    rw [show (((i + 1 : Nat) : Int) - 1) = (i : Int) by omega, List.take_succ_eq_append_getElem hlt, lookB_snoc]
    refine Ev.step (fun k => impl_ReadSec.l0.eq_2 _ _ _ _ _ _ k) (Ev.pos (by omega) (Ev.pos (by omega) (Ev.pos (by omega) ?_)))
    rw [he]
    by_cases h : d.cache[i].f0 = (n : Int)
    · rw [if_pos h]
      exact Ev.pos h (Ev.then (clone _ (by omega)) (Ev.done rfl))
    · rw [if_neg h, w64 (n := (i : Int) - 1) (by omega) (by omega)]
      exact Ev.neg h (ih (by omega))
theorem impl_readSec (d : Dk) (hd : Fits d) (n : Int) : Ev (fun k => impl_ReadSec.f k d.secs d.cache d.fuse d.down n) (readSec d n) := by
  unfold impl_ReadSec.f
  have hsl := hd.1
  have hcl := hd.2.2.1
  have bad : ¬ (DiskOk d ∧ 0 ≤ n ∧ n ≤ (d.secs.length : Int) - 1) → ∀ b : Bool, b = true → Ev (fun k => impl_ReadSec.j0 k n b d.secs d.cache d.fuse d.down) (readSec d n) := fun hn b hb => Ev.step (fun k => impl_ReadSec.j0.eq_2 _ _ _ _ _ _ k) (Ev.pos hb (Ev.done (readSec_no hn).symm))
  refine Ev.bind (impl_diskOk d hd.1 hd.2.2.1) ?_
  by_cases h1 : DiskOk d
  case neg =>
    rw [diskOk_no h1]
    exact Ev.neg (by decide) (bad (fun h => h1 h.1) _ rfl)
  rw [(diskOk_iff d).2 h1, w64 (n := (d.secs.length : Int) - 1) (by omega) (by omega)]
  refine Ev.pos rfl (Ev.then (isIn _ _ _) ?_)
  by_cases h2 : 0 ≤ n ∧ n ≤ (d.secs.length : Int) - 1
  case neg => exact bad (fun h => h2 h.2) _ (by rw [decide_eq_false h2]; rfl)
  rw [readSec_yes ⟨h1, h2⟩]
  obtain ⟨i, rfl⟩ := Int.eq_ofNat_of_zero_le h2.1
  have hlt : i < d.secs.length := by omega
  refine Ev.step (fun k => impl_ReadSec.j0.eq_2 _ _ _ _ _ _ k) (Ev.neg (by rw [decide_eq_true h2]; decide) ?_)
  rw [getD_nat d.secs [] hlt, w64 (n := (d.cache.length : Int) - 1) (by omega) (by omega)]
  have := impl_ReadSec_l0 d hd i hlt d.cache.length (Nat.le_refl _)
  rwa [List.take_length] at this
end Go.Proofs.YthkepmicdpgbbaaGreatDoor.Fn

/- What the printed functions that check the known state come to. -/
namespace Go.Proofs.YthkepmicdpgbbaaGreatDoor.Fn
set_option linter.unusedVariables false
set_option linter.unusedSimpArgs false
open Go.RowKit Go.Proofs.YthkepmicdpgbbaaGreatDoorW.PrintWords Go.Proofs.YthkepmicdpgbbaaGreatDoor.P Go.Proofs.YthkepmicdpgbbaaGreatDoor.Base

noncomputable def genOk (n : Int) (s : ByteArray) : Bool := if n = 0 then emptyT s else decide (1 ≤ n ∧ n ≤ 60000) && confB s
noncomputable def knownOk (g : Int) (t : ByteArray) (pg : Int) (pt : ByteArray) (e o : Int) : Bool :=
  genOk g t && (genOk pg pt && (decide (0 ≤ e ∧ e ≤ 60000) && (decide (0 ≤ o ∧ o ≤ 1) && (decide (0 < e ∨ o = 0) && decide (pg = 0 ∨ g < pg)))))
theorem impl_genOk (n : Int) (s : ByteArray) (hs : s.size ≤ 1048576) : Ev (fun k => impl_genOk.f k n s) (genOk n s) := by
  unfold impl_genOk.f genOk
  by_cases h0 : n = 0
  · exact Ev.eq (Ev.pos h0 (Ev.done rfl)) (if_pos h0).symm
  refine Ev.eq (Ev.neg h0 (Ev.then (isIn _ _ _) ?_)) (if_neg h0).symm
  by_cases h : 1 ≤ n ∧ n ≤ 60000
  · rw [decide_eq_true h, Bool.true_and]; exact Ev.pos rfl (Ev.bind (impl_confB s hs) (Ev.done rfl))
  · rw [decide_eq_false h, Bool.false_and]; exact Ev.neg (by decide) (Ev.done rfl)
theorem impl_knownOk (g : Int) (t : ByteArray) (pg : Int) (pt : ByteArray) (e o : Int) (ht : t.size ≤ 1048576) (hp : pt.size ≤ 1048576) : Ev (fun k => impl_KnownOk.f k g t pg pt e o) (knownOk g t pg pt e o) := by
  unfold impl_KnownOk.f knownOk
  refine Ev.bind (impl_genOk g t ht) ?_
  cases genOk g t
  · exact Ev.neg (by decide) (Ev.done rfl)
  refine Ev.pos rfl (Ev.bind (impl_genOk pg pt hp) ?_)
  cases genOk pg pt
  · exact Ev.neg (by decide) (Ev.done rfl)
  refine Ev.pos rfl (Ev.then (isIn _ _ _) ?_)
  by_cases h : 0 ≤ e ∧ e ≤ 60000
  case neg => rw [decide_eq_false h]; exact Ev.neg (by decide) (Ev.done rfl)
  rw [decide_eq_true h]
  refine Ev.pos rfl (Ev.then (isIn _ _ _) ?_)
  by_cases h' : 0 ≤ o ∧ o ≤ 1
  case neg => rw [decide_eq_false h']; exact Ev.neg (by decide) (Ev.done rfl)
  rw [decide_eq_true h']
  refine Ev.pos rfl ?_
  have fin : Ev (fun _ : Nat => if pg = 0 then some true else some (decide (pg > g))) (decide (pg = 0 ∨ g < pg)) := by
    by_cases hz : pg = 0
    · exact Ev.pos hz (Ev.done (decide_eq_true (.inl hz)).symm)
    · refine Ev.neg hz (Ev.done ?_)
      rw [decide_eq_decide]
      omega
  by_cases he : e > 0
  · rw [decide_eq_true (.inl he : 0 < e ∨ o = 0)]; exact Ev.pos he fin
  refine Ev.neg he ?_
  by_cases ho : o = 0
  · rw [decide_eq_true (.inr ho : 0 < e ∨ o = 0)]; exact Ev.pos ho fin
  · rw [decide_eq_false (by omega : ¬ (0 < e ∨ o = 0))]; exact Ev.neg ho (Ev.done rfl)
noncomputable def genT (g : Int) (t : ByteArray) : Bool := if g = 0 then emptyT t else confB t
theorem genOk_in {g : Int} {t : ByteArray} (h : 0 ≤ g ∧ g ≤ 60000) : genOk g t = genT g t := by
  unfold genOk genT
  by_cases h0 : g = 0
  · rw [if_pos h0, if_pos h0]
  · rw [if_neg h0, if_neg h0, decide_eq_true (by omega), Bool.true_and]
theorem genOk_out {g : Int} {t : ByteArray} (h : ¬ (0 ≤ g ∧ g ≤ 60000)) : genOk g t = false := by
  unfold genOk
  rw [if_neg (by omega), decide_eq_false (by omega), Bool.false_and]
theorem spec_KnownOk_j1 (b : Bool) (g : Int) (t : ByteArray) (pg : Int) (pt : ByteArray) (e o : Int) (hp : pt.size ≤ 1048576) : Ev (fun k => spec_KnownOk.j1 k b g t pg pt e o) (!b && (genT pg pt && decide (pg = 0 ∨ g < pg))) := by
  refine Ev.step (fun k => spec_KnownOk.j1.eq_2 _ _ _ _ _ _ _ k) ?_
  cases b
  · refine Ev.neg (by decide) ?_
    unfold genT
    by_cases hz : pg = 0
    · refine Ev.eq (Ev.pos hz (Ev.done rfl)) ?_
      rw [if_pos hz, decide_eq_true (.inl hz : pg = 0 ∨ g < pg)]
      simp [emptyT]
    · refine Ev.neg hz ?_
      rw [if_neg hz]
      by_cases hgt : pg > g
      · refine Ev.eq (Ev.pos hgt (Ev.bind (spec_l4Text pt hp) (Ev.done rfl))) ?_
        rw [decide_eq_true (.inr hgt : pg = 0 ∨ g < pg)]
        simp
      · refine Ev.eq (Ev.neg hgt (Ev.done rfl)) ?_
        rw [decide_eq_false (by omega : ¬ (pg = 0 ∨ g < pg))]
        simp
  · exact Ev.pos rfl (Ev.done rfl)
theorem spec_KnownOk_j0 (b : Bool) (g : Int) (t : ByteArray) (pg : Int) (pt : ByteArray) (e o : Int) (hg : b = true ∨ 0 ≤ g) (ht : t.size ≤ 1048576) (hp : pt.size ≤ 1048576) : Ev (fun k => spec_KnownOk.j0 k b g t pg pt e o) (!b && (genT g t && (genT pg pt && decide (pg = 0 ∨ g < pg)))) := by
  refine Ev.step (fun k => spec_KnownOk.j0.eq_2 _ _ _ _ _ _ _ k) ?_
  cases b
  · have hg' : 0 ≤ g := hg.resolve_left (by decide)
    refine Ev.neg (by decide) ?_
    unfold genT
    by_cases hz : g = 0
    · rw [if_pos hz]
      refine Ev.pos hz ?_
      by_cases hn : t.toList = ([] : List UInt8)
      · refine Ev.eq (Ev.pos hn (Ev.neg (by omega) (spec_KnownOk_j1 _ _ _ _ _ _ _ hp))) ?_
        simp [emptyT, hn, genT]
      · refine Ev.eq (Ev.neg hn (spec_KnownOk_j1 _ _ _ _ _ _ _ hp)) ?_
        simp [emptyT, hn]
    · rw [if_neg hz]
      refine Ev.neg hz (Ev.eq (Ev.pos (by omega) (Ev.bind (spec_l4Text t ht) (spec_KnownOk_j1 _ _ _ _ _ _ _ hp))) ?_)
      simp [genT]
  · exact Ev.pos rfl (Ev.done rfl)
theorem spec_knownOk (g : Int) (t : ByteArray) (pg : Int) (pt : ByteArray) (e o : Int) (ht : t.size ≤ 1048576) (hp : pt.size ≤ 1048576) : Ev (fun k => spec_KnownOk.f k g t pg pt e o) (knownOk g t pg pt e o) := by
  unfold spec_KnownOk.f knownOk
  have bad : Ev (fun k => spec_KnownOk.j0 k true g t pg pt e o) false := spec_KnownOk_j0 true g t pg pt e o (.inl rfl) ht hp
  refine Ev.then (l1In _ _ _) ?_
  by_cases h1 : 0 ≤ g ∧ g ≤ 60000
  case neg => rw [genOk_out h1]; exact Ev.neg (by simpa using h1) bad
  rw [genOk_in h1]
  refine Ev.pos (by simpa using h1) (Ev.then (l1In _ _ _) ?_)
  by_cases h2 : 0 ≤ pg ∧ pg ≤ 60000
  case neg => rw [genOk_out h2]; exact Ev.eq (Ev.neg (by simpa using h2) bad) (by simp)
  rw [genOk_in h2]
  refine Ev.pos (by simpa using h2) (Ev.then (l1In _ _ _) ?_)
  by_cases h3 : 0 ≤ e ∧ e ≤ 60000
  case neg => rw [decide_eq_false h3]; exact Ev.eq (Ev.neg (by decide) bad) (by simp)
  rw [decide_eq_true h3]
  refine Ev.pos rfl (Ev.then (l1In _ _ _) ?_)
  by_cases h4 : 0 ≤ o ∧ o ≤ 1
  case neg => rw [decide_eq_false h4]; exact Ev.eq (Ev.neg (by decide) bad) (by simp)
  rw [decide_eq_true h4]
  refine Ev.pos rfl ?_
  by_cases he : e = 0
  · refine Ev.eq (Ev.pos he (spec_KnownOk_j0 _ g t pg pt e o (.inr h1.1) ht hp)) ?_
    by_cases ho : o = 0
    · rw [decide_eq_true (.inr ho : 0 < e ∨ o = 0)]; simp [ho]
    · rw [decide_eq_false (by omega : ¬ (0 < e ∨ o = 0))]; simp [ho]
  · refine Ev.eq (Ev.neg he (spec_KnownOk_j0 _ g t pg pt e o (.inr h1.1) ht hp)) ?_
    rw [decide_eq_true (by omega : 0 < e ∨ o = 0)]; simp
end Go.Proofs.YthkepmicdpgbbaaGreatDoor.Fn

/- What the printed functions that apply a record to the known state come to. -/
namespace Go.Proofs.YthkepmicdpgbbaaGreatDoor.Fn
set_option linter.unusedVariables false
set_option linter.unusedSimpArgs false
open Go.RowKit Go.Proofs.YthkepmicdpgbbaaGreatDoorW.PrintWords Go.Proofs.YthkepmicdpgbbaaGreatDoor.P Go.Proofs.YthkepmicdpgbbaaGreatDoor.Base

noncomputable def applyK (g : Int) (t : ByteArray) (pg : Int) (pt : ByteArray) (e o : Int) (kind n ow : Int) (s : ByteArray) : Int × ByteArray × Int × ByteArray × Int × Int × Bool :=
  if knownOk g t pg pt e o = true then
    if recOk kind n ow s = true then
      if kind = 1 ∧ g < n then (g, t, n, s, e, o, true)
      else if kind = 2 ∧ n = pg then (n, pt, 0, ⟨#[]⟩, e, o, true)
      else if kind = 3 ∧ e < n then (g, t, pg, pt, n, ow, true)
      else (g, t, pg, pt, e, o, false)
    else (g, t, pg, pt, e, o, false)
  else (g, t, pg, pt, e, o, false)
theorem recOk_kind {kind n ow : Int} {s : ByteArray} (h : recOk kind n ow s = true) : kind = 1 ∨ kind = 2 ∨ kind = 3 := by
  unfold recOk at h
  rw [Bool.and_eq_true] at h
  have h := h.2
  split at h
  · omega
  split at h
  · omega
  split at h
  · omega
  · cases h
theorem impl_apply (g : Int) (t : ByteArray) (pg : Int) (pt : ByteArray) (e o : Int) (kind n ow : Int) (s : ByteArray) (ht : t.size ≤ 1048576) (hp : pt.size ≤ 1048576) (hs : s.size ≤ 1048576) : Ev (fun k => impl_Apply.f k g t pg pt e o kind n ow s) (applyK g t pg pt e o kind n ow s) := by
  unfold impl_Apply.f applyK
  refine Ev.bind (impl_knownOk g t pg pt e o ht hp) ?_
  by_cases h1 : knownOk g t pg pt e o = true
  case neg =>
    rw [if_neg h1]
    exact Ev.neg h1 (Ev.step (fun k => impl_Apply.j0.eq_2 _ _ _ _ _ _ _ _ _ _ _ k) (Ev.pos rfl (Ev.done rfl)))
  rw [if_pos h1]
  refine Ev.pos h1 (Ev.bind (impl_recOk kind n ow s hs) ?_)
  refine Ev.step (fun k => impl_Apply.j0.eq_2 _ _ _ _ _ _ _ _ _ _ _ k) ?_
  by_cases h2 : recOk kind n ow s = true
  case neg => rw [if_neg h2]; exact Ev.pos (by simpa using h2) (Ev.done rfl)
  rw [if_pos h2]
  refine Ev.neg (by simpa using h2) ?_
  have tail : ∀ b : Bool, b = decide (kind = 2 ∧ n = pg) → ¬ (kind = 1 ∧ g < n) → Ev (fun k => impl_Apply.j2 k b g t pg pt e o kind n ow s) (if kind = 2 ∧ n = pg then (n, pt, 0, ⟨#[]⟩, e, o, true) else if kind = 3 ∧ e < n then (g, t, pg, pt, n, ow, true) else (g, t, pg, pt, e, o, false)) := by
    intro b hb _
    refine Ev.step (fun k => impl_Apply.j2.eq_2 _ _ _ _ _ _ _ _ _ _ _ k) ?_
    by_cases h : kind = 2 ∧ n = pg
    · exact Ev.pos (by rw [hb]; exact decide_eq_true h) (Ev.done (if_pos h).symm)
    refine Ev.eq (Ev.neg (by rw [hb, decide_eq_false h]; decide) ?_) (if_neg h).symm
    by_cases h3 : kind = 3
    · by_cases h4 : n > e
      · exact Ev.pos h3 (Ev.pos h4 (Ev.done (if_pos ⟨h3, h4⟩).symm))
      · exact Ev.pos h3 (Ev.neg h4 (Ev.done (if_neg (fun q => h4 q.2)).symm))
    · exact Ev.neg h3 (Ev.done (if_neg (fun q => h3 q.1)).symm)
  have mid : ∀ b : Bool, b = decide (kind = 1 ∧ g < n) → Ev (fun k => impl_Apply.j1 k b g t pg pt e o kind n ow s) (if kind = 1 ∧ g < n then (g, t, n, s, e, o, true) else if kind = 2 ∧ n = pg then (n, pt, 0, ⟨#[]⟩, e, o, true) else if kind = 3 ∧ e < n then (g, t, pg, pt, n, ow, true) else (g, t, pg, pt, e, o, false)) := by
    intro b hb
    refine Ev.step (fun k => impl_Apply.j1.eq_2 _ _ _ _ _ _ _ _ _ _ _ k) ?_
    by_cases h : kind = 1 ∧ g < n
    · exact Ev.pos (by rw [hb]; exact decide_eq_true h) (Ev.done (if_pos h).symm)
    refine Ev.eq (Ev.neg (by rw [hb, decide_eq_false h]; decide) ?_) (if_neg h).symm
    by_cases h2' : kind = 2
    · exact Ev.pos h2' (tail _ (by rw [Bool.eq_iff_iff]; simp [h2']) h)
    · exact Ev.neg h2' (tail _ (by rw [eq_comm, decide_eq_false_iff_not]; exact fun q => h2' q.1) h)
  by_cases h3 : kind = 1
  · exact Ev.pos h3 (mid _ (by rw [Bool.eq_iff_iff]; simp [h3]))
  · exact Ev.neg h3 (mid _ (by rw [eq_comm, decide_eq_false_iff_not]; exact fun q => h3 q.1))
theorem spec_apply (g : Int) (t : ByteArray) (pg : Int) (pt : ByteArray) (e o : Int) (kind n ow : Int) (s : ByteArray) (ht : t.size ≤ 1048576) (hp : pt.size ≤ 1048576) (hs : s.size ≤ 1048576) : Ev (fun k => spec_Apply.f k g t pg pt e o kind n ow s) (applyK g t pg pt e o kind n ow s) := by
  unfold spec_Apply.f applyK
  refine Ev.bind (spec_knownOk g t pg pt e o ht hp) ?_
  by_cases h1 : knownOk g t pg pt e o = true
  case neg =>
    rw [if_neg h1]
    exact Ev.neg h1 (Ev.step (fun k => spec_Apply.j0.eq_2 _ _ _ _ _ _ _ _ _ _ _ k) (Ev.pos rfl (Ev.done rfl)))
  rw [if_pos h1]
  refine Ev.pos h1 (Ev.bind (spec_recOk kind n ow s hs) ?_)
  refine Ev.step (fun k => spec_Apply.j0.eq_2 _ _ _ _ _ _ _ _ _ _ _ k) ?_
  by_cases h2 : recOk kind n ow s = true
  case neg => rw [if_neg h2]; exact Ev.pos (by simpa using h2) (Ev.done rfl)
  rw [if_pos h2]
  refine Ev.neg (by simpa using h2) ?_
  rcases recOk_kind h2 with rfl | rfl | rfl
  · refine Ev.pos rfl ?_
    by_cases h : n ≤ g
    · exact Ev.pos h (Ev.done (by rw [if_neg (by omega), if_neg (by omega), if_neg (by omega)]))
    · exact Ev.neg h (Ev.done (by rw [if_pos (by omega)]))
  · refine Ev.neg (by decide) (Ev.pos rfl ?_)
    by_cases h : n = pg
    · exact Ev.pos h (Ev.done (by rw [if_neg (by omega), if_pos (by omega), h]))
    · exact Ev.neg h (Ev.done (by rw [if_neg (by omega), if_neg (by omega), if_neg (by omega)]))
  · refine Ev.neg (by decide) (Ev.neg (by decide) ?_)
    by_cases h : n ≤ e
    · exact Ev.pos h (Ev.done (by rw [if_neg (by omega), if_neg (by omega), if_neg (by omega)]))
    · exact Ev.neg h (Ev.done (by rw [if_neg (by omega), if_neg (by omega), if_pos (by omega)]))
theorem eqKnown_same (a : Int) (s : ByteArray) (b : Int) (u : ByteArray) (c d : Int) : laws_eqKnown.f a s b u c d a s b u c d = some true := by
  unfold laws_eqKnown.f
  simp
end Go.Proofs.YthkepmicdpgbbaaGreatDoor.Fn

/- What the printed functions that replay a journal come to. -/
namespace Go.Proofs.YthkepmicdpgbbaaGreatDoor.Fn
set_option linter.unusedVariables false
set_option linter.unusedSimpArgs false
open Go.RowKit Go.Proofs.YthkepmicdpgbbaaGreatDoorW.PrintWords Go.Proofs.YthkepmicdpgbbaaGreatDoor.P Go.Proofs.YthkepmicdpgbbaaGreatDoor.Base

structure Kn where
  g : Int
  t : ByteArray
  pg : Int
  pt : ByteArray
  e : Int
  o : Int
def Kn.zero : Kn := ⟨0, ⟨#[]⟩, 0, ⟨#[]⟩, 0, 0⟩
def Kn.Short (K : Kn) : Prop := K.t.size ≤ 100 ∧ K.pt.size ≤ 100
def Kn.at (K : Kn) (i : Int) : Int × ByteArray × Int × ByteArray × Int × Int × Int := (K.g, K.t, K.pg, K.pt, K.e, K.o, i)
abbrev RecT := Int × Int × Int × Int × Int × ByteArray × Bool
noncomputable def Kn.apply (K : Kn) (r : RecT) : Int × ByteArray × Int × ByteArray × Int × Int × Bool := applyK K.g K.t K.pg K.pt K.e K.o r.2.2.1 r.2.2.2.1 r.2.2.2.2.1 r.2.2.2.2.2.1
noncomputable def Kn.next (K : Kn) (r : RecT) : Kn := ⟨(K.apply r).1, (K.apply r).2.1, (K.apply r).2.2.1, (K.apply r).2.2.2.1, (K.apply r).2.2.2.2.1, (K.apply r).2.2.2.2.2.1⟩
theorem Kn.next_short {K : Kn} (h : K.Short) (r : RecT) (hr : r.2.2.2.2.2.1.size ≤ 100) : (K.next r).Short := by
  have he : (⟨#[]⟩ : ByteArray).size ≤ 100 := by decide
  unfold Kn.next Kn.apply applyK Kn.Short
  repeat' split
  all_goals first | exact ⟨h.1, hr⟩ | exact ⟨h.2, he⟩ | exact h
def sector (g : Int) (i : Int) : Int := 2 + 18 * Int.tmod g 2 + i
noncomputable def recOf (d : Dk) (g : Int) (i : Nat) : RecT := getRec (readSec d (sector g (i : Int)))
noncomputable def replayFrom (d : Dk) (g : Int) : Nat → Nat → Kn → Kn × Int
  | 0, _, K => (K, 18)
  | n + 1, i, K => if (recOf d g i).2.2.2.2.2.2 = true ∧ (recOf d g i).1 = g ∧ (recOf d g i).2.1 = (i : Int) then (if (K.apply (recOf d g i)).2.2.2.2.2.2 = true then replayFrom d g n (i + 1) (K.next (recOf d g i)) else (K, (i : Int))) else (K, (i : Int))
noncomputable def replay (d : Dk) (g : Int) : Kn × Int := if 1 ≤ g ∧ g ≤ 60000 then replayFrom d g 18 0 Kn.zero else (Kn.zero, 0)
theorem getRec_short (l : List Int) : (getRec l).2.2.2.2.2.1.size ≤ 100 := by
  by_cases h : IsRec l
  · rw [getRec_yes h]; exact getText_short l 8
  · rw [getRec_no h]; decide
theorem tmod_two (g : Int) (hg : 1 ≤ g) : 0 ≤ Int.tmod g 2 ∧ Int.tmod g 2 ≤ 1 := by
  rw [Int.tmod_eq_emod_of_nonneg (by omega)]
  omega
theorem sector_w (g : Int) (i : Nat) (hg : 1 ≤ g) (hi : i ≤ 100) : wrap64 (wrap64 (2 + wrap64 (18 * Int.tmod g 2)) + (i : Int)) = sector g (i : Int) := by
  have := tmod_two g hg
  rw [w64 (n := 18 * Int.tmod g 2) (by omega) (by omega), w64 (n := 2 + 18 * Int.tmod g 2) (by omega) (by omega), w64 (by omega) (by omega)]
  rfl
theorem spec_Replay_l0 (d : Dk) (hd : Fits d) (g : Int) (hg : 1 ≤ g ∧ g ≤ 60000) (n : Nat) : ∀ (i : Nat) (K : Kn), i + n = 18 → K.Short →
    Ev (fun k => spec_Replay.l0 k g (i : Int) d.secs d.cache d.fuse d.down K.g K.t K.pg K.pt K.e K.o) ((replayFrom d g n i K).1.at (replayFrom d g n i K).2) := by
  induction n with
  | zero =>
    intro i K hi _
    exact Ev.step (fun k => spec_Replay.l0.eq_2 _ _ _ _ _ _ _ _ _ _ _ _ k) (Ev.neg (by omega) (Ev.done rfl))
  | succ n ih =>
    intro i K hi hK
    have hrs := getRec_short (readSec d (sector g (i : Int)))
    have e0 : spec_l5At.f g (i : Int) = some (sector g (i : Int)) := by
      unfold spec_l5At.f
      rw [sector_w g i hg.1 (by omega)]
    refine Ev.step (fun k => spec_Replay.l0.eq_2 _ _ _ _ _ _ _ _ _ _ _ _ k) (Ev.pos (by omega) (Ev.then e0 (Ev.bind (spec_readSec d hd _) (Ev.bind (spec_getRec _ (readSec_bytes hd _) (by have := readSec_length hd (sector g (i : Int)); omega)) ?_))))
    rw [replayFrom]
    show Ev (fun k => if (recOf d g i).2.2.2.2.2.2 = true then _ else _) _
    have bad : ¬ ((recOf d g i).2.2.2.2.2.2 = true ∧ (recOf d g i).1 = g ∧ (recOf d g i).2.1 = (i : Int)) → ∀ b : Bool, b = true → Ev (fun k => spec_Replay.j1 k g (i : Int) b d.secs d.cache d.fuse d.down K.g K.t K.pg K.pt K.e K.o (recOf d g i).2.2.1 (recOf d g i).2.2.2.1 (recOf d g i).2.2.2.2.1 (recOf d g i).2.2.2.2.2.1) (K.at (i : Int)) := fun _ b hb =>
      Ev.step (fun k => spec_Replay.j1.eq_2 _ _ _ _ _ _ _ _ _ _ _ _ _ _ _ _ _ k) (Ev.pos hb (Ev.done rfl))
    by_cases h1 : (recOf d g i).2.2.2.2.2.2 = true
    case neg => rw [if_neg (fun h => h1 h.1)]; exact Ev.neg h1 (bad (fun h => h1 h.1) _ rfl)
    refine Ev.pos h1 ?_
    by_cases h2 : (recOf d g i).1 = g
    case neg => rw [if_neg (fun h => h2 h.2.1)]; exact Ev.neg h2 (bad (fun h => h2 h.2.1) _ rfl)
    refine Ev.pos h2 ?_
    by_cases h3 : (recOf d g i).2.1 = (i : Int)
    case neg => rw [if_neg (fun h => h3 h.2.2)]; exact bad (fun h => h3 h.2.2) _ (bne_iff_ne.2 h3)
    rw [if_pos ⟨h1, h2, h3⟩]
    have ea := spec_apply K.g K.t K.pg K.pt K.e K.o (recOf d g i).2.2.1 (recOf d g i).2.2.2.1 (recOf d g i).2.2.2.2.1 (recOf d g i).2.2.2.2.2.1 (by have := hK.1; omega) (by have := hK.2; omega) (by unfold recOf; omega)
    refine Ev.step (fun k => spec_Replay.j1.eq_2 _ _ _ _ _ _ _ _ _ _ _ _ _ _ _ _ _ k) (Ev.neg (fun q => (bne_iff_ne.1 q) h3) (Ev.bind ea ?_))
    by_cases h4 : (K.apply (recOf d g i)).2.2.2.2.2.2 = true
    · rw [if_pos h4, w64 (n := (i : Int) + 1) (by omega) (by omega), cast_succ]
      exact Ev.pos h4 (ih (i + 1) (K.next (recOf d g i)) (by omega) (Kn.next_short hK _ hrs))
    · rw [if_neg h4]
      exact Ev.neg h4 (Ev.done rfl)
theorem impl_Replay_l0 (d : Dk) (hd : Fits d) (g : Int) (hg : 1 ≤ g ∧ g ≤ 60000) (n : Nat) : ∀ (i : Nat) (K : Kn), i + n = 18 → K.Short →
    Ev (fun k => impl_Replay.l0 k g (i : Int) d.secs d.cache d.fuse d.down K.g K.t K.pg K.pt K.e K.o) ((replayFrom d g n i K).1.at (replayFrom d g n i K).2) := by
  induction n with
  | zero =>
    intro i K hi _
    exact Ev.step (fun k => impl_Replay.l0.eq_2 _ _ _ _ _ _ _ _ _ _ _ _ k) (Ev.neg (by omega) (Ev.done rfl))
  | succ n ih =>
    intro i K hi hK
    have hrs := getRec_short (readSec d (sector g (i : Int)))
    have e0 : impl_sectorOf.f g (i : Int) = some (sector g (i : Int)) := by
      unfold impl_sectorOf.f
      rw [sector_w g i hg.1 (by omega)]
    refine Ev.step (fun k => impl_Replay.l0.eq_2 _ _ _ _ _ _ _ _ _ _ _ _ k) (Ev.pos (by omega) (Ev.then e0 (Ev.bind (impl_readSec d hd _) (Ev.bind (impl_getRec _ (readSec_bytes hd _) (by have := readSec_length hd (sector g (i : Int)); omega)) ?_))))
    rw [replayFrom]
    show Ev (fun k => if (recOf d g i).2.2.2.2.2.2 = true then _ else _) _
    have bad : ¬ ((recOf d g i).2.2.2.2.2.2 = true ∧ (recOf d g i).1 = g ∧ (recOf d g i).2.1 = (i : Int)) → ∀ b : Bool, b = true → Ev (fun k => impl_Replay.j1 k g (i : Int) (i : Int) b d.secs d.cache d.fuse d.down K.g K.t K.pg K.pt K.e K.o (recOf d g i).2.2.1 (recOf d g i).2.2.2.1 (recOf d g i).2.2.2.2.1 (recOf d g i).2.2.2.2.2.1) (K.at (i : Int)) := fun _ b hb =>
      Ev.step (fun k => impl_Replay.j1.eq_2 _ _ _ _ _ _ _ _ _ _ _ _ _ _ _ _ _ _ k) (Ev.pos hb (Ev.done rfl))
    by_cases h1 : (recOf d g i).2.2.2.2.2.2 = true
    case neg => rw [if_neg (fun h => h1 h.1)]; exact Ev.neg h1 (bad (fun h => h1 h.1) _ rfl)
    refine Ev.pos h1 ?_
    by_cases h2 : (recOf d g i).1 = g
    case neg => rw [if_neg (fun h => h2 h.2.1)]; exact Ev.neg h2 (bad (fun h => h2 h.2.1) _ rfl)
    refine Ev.pos h2 ?_
    by_cases h3 : (recOf d g i).2.1 = (i : Int)
    case neg => rw [if_neg (fun h => h3 h.2.2)]; exact bad (fun h => h3 h.2.2) _ (bne_iff_ne.2 h3)
    rw [if_pos ⟨h1, h2, h3⟩]
    have ea := impl_apply K.g K.t K.pg K.pt K.e K.o (recOf d g i).2.2.1 (recOf d g i).2.2.2.1 (recOf d g i).2.2.2.2.1 (recOf d g i).2.2.2.2.2.1 (by have := hK.1; omega) (by have := hK.2; omega) (by unfold recOf; omega)
    refine Ev.step (fun k => impl_Replay.j1.eq_2 _ _ _ _ _ _ _ _ _ _ _ _ _ _ _ _ _ _ k) (Ev.neg (fun q => (bne_iff_ne.1 q) h3) (Ev.bind ea ?_))
    by_cases h4 : (K.apply (recOf d g i)).2.2.2.2.2.2 = true
    · rw [if_pos h4, w64 (n := (i : Int) + 1) (by omega) (by omega), cast_succ]
      exact Ev.pos h4 (ih (i + 1) (K.next (recOf d g i)) (by omega) (Kn.next_short hK _ hrs))
    · rw [if_neg h4]
      exact Ev.neg h4 (Ev.done rfl)
theorem Kn.zero_short : Kn.zero.Short := ⟨by decide, by decide⟩
theorem spec_replay (d : Dk) (hd : Fits d) (g : Int) : Ev (fun k => spec_Replay.f k d.secs d.cache d.fuse d.down g) ((replay d g).1.at (replay d g).2) := by
  unfold spec_Replay.f replay
  refine Ev.then (l1In _ _ _) ?_
  by_cases h : 1 ≤ g ∧ g ≤ 60000
  · rw [if_pos h]
    exact Ev.pos (by simpa using h) (spec_Replay_l0 d hd g h 18 0 Kn.zero (by omega) Kn.zero_short)
  · rw [if_neg h]
    exact Ev.neg (by simpa using h) (Ev.done rfl)
theorem impl_replay (d : Dk) (hd : Fits d) (g : Int) : Ev (fun k => impl_Replay.f k d.secs d.cache d.fuse d.down g) ((replay d g).1.at (replay d g).2) := by
  unfold impl_Replay.f replay
  refine Ev.then (isIn _ _ _) ?_
  by_cases h : 1 ≤ g ∧ g ≤ 60000
  · rw [if_pos h]
    exact Ev.pos (by simpa using h) (impl_Replay_l0 d hd g h 18 0 Kn.zero (by omega) Kn.zero_short)
  · rw [if_neg h]
    exact Ev.neg (by simpa using h) (Ev.done rfl)
end Go.Proofs.YthkepmicdpgbbaaGreatDoor.Fn

/- The pure statement of the law FnExactReplay: the program's Replay and the reference's come to one answer, and the disk stays. -/
namespace Go.Proofs.YthkepmicdpgbbaaGreatDoor.Pure
set_option linter.unusedVariables false
set_option linter.unusedSimpArgs false
open Go.RowKit Go.Proofs.YthkepmicdpgbbaaGreatDoorW.PrintWords Go.Proofs.YthkepmicdpgbbaaGreatDoor.P Go.Proofs.YthkepmicdpgbbaaGreatDoor.Base Go.Proofs.YthkepmicdpgbbaaGreatDoor.Fn
theorem FnExactReplay : laws_FnExactReplay.Pure := by
  rintro secs cache fuse down g ⟨hs, hgs⟩ ⟨hc, hgc⟩ hf hg
  refine Ev.rounds ?_
  unfold laws_FnExactReplay.f
  obtain ⟨r, e, h1, h2⟩ := szDisk secs cache fuse down 1048576 ⟨hs, fun x hx => (hgs x hx).1⟩ ⟨hc, fun x hx => (hgc x hx).2.1⟩ (by omega) (by omega)
  refine Ev.bind e ?_
  by_cases h : r < 0
  · exact Ev.pos h (Ev.done rfl)
  have h3 := h2 (by omega)
  have hd := fits_of fuse down hgs hgc h3
  have td := toDisk secs cache fuse down h3.1 h3.2
  refine Ev.neg h (Ev.bind td (Ev.bind (spec_replay ⟨secs, cache.map wrOf, fuse, down⟩ hd g) (Ev.bind td (Ev.bind (impl_replay ⟨secs, cache.map wrOf, fuse, down⟩ hd g) (Ev.then (eqKnown_same _ _ _ _ _ _) (Ev.pos rfl ?_))))))
  exact Ev.step (fun k => laws_FnExactReplay.j0.eq_2 _ _ _ _ _ _ _ _ _ k) (Ev.neg (by simp) (Ev.bind td (Ev.bind (eqDisk_same _ hd) (Ev.pos rfl (Ev.done rfl)))))
end Go.Proofs.YthkepmicdpgbbaaGreatDoor.Pure
