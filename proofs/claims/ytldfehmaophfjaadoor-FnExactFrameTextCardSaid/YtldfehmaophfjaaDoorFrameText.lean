/- What the printed functions that write a frame in words come to. -/
import Derived.Test.YtldfehmaophfjaaDoorPxd
import Derived.Test.YtldfehmaophfjaaDoorFrame
import Derived.Test.YtldfehmaophfjaaDoorNumText
namespace Go.Proofs.YtldfehmaophfjaaDoor.Fn
set_option linter.unusedVariables false
set_option linter.unusedSimpArgs false
open Go.RowKit Go.Proofs.YtldfehmaophfjaaDoorW.PrintWords Go.Proofs.YtldfehmaophfjaaDoor.P Go.Proofs.YtldfehmaophfjaaDoor.Base

theorem app3 (a b c : ByteArray) : a ++ (b ++ c) = (a ++ b) ++ c := by
  apply ByteArray.ext
  simp
def behind (nm s : ByteArray) : ByteArray := (nm ++ (⟨#[32]⟩ : ByteArray)) ++ s
noncomputable def wordsOf (nm s : ByteArray) : ByteArray := if s.toList = ([] : List UInt8) then nm else behind nm s
theorem sp_size : (⟨#[32]⟩ : ByteArray).size = 1 := rfl
theorem frameOk_kind {kind : Int} {s : ByteArray} {st : Int} (h : frameOk kind s st = true) : kind = 1 ∨ kind = 2 ∨ kind = 3 ∨ kind = 4 ∨ (kind = 5 ∧ 0 ≤ st ∧ st ≤ 2) ∨ kind = 6 := by
  unfold frameOk at h
  split at h
  · omega
  split at h
  · omega
  split at h
  · simp only [Bool.and_eq_true, decide_eq_true_eq] at h
    omega
  split at h
  · omega
  · cases h
theorem spec_words (nm s : ByteArray) (hn : nm.size ≤ 10) (hs : s.size ≤ 1048576) : Ev (fun _ : Nat => if s.toList = ([] : List UInt8) then some nm else if nm.size + 1 ≤ 9223372036854775807 then (if (nm ++ (⟨#[32]⟩ : ByteArray)).size + s.size ≤ 9223372036854775807 then some ((nm ++ (⟨#[32]⟩ : ByteArray)) ++ s) else none) else none) (wordsOf nm s) := by
  by_cases h : s.toList = ([] : List UInt8)
  · exact Ev.pos h (Ev.done (if_pos h).symm)
  · exact Ev.neg h (Ev.pos (by omega) (Ev.pos (by rw [size_append, sp_size]; omega) (Ev.done (if_neg h).symm)))
theorem impl_words (nm s : ByteArray) (n : Nat) (hn : n ≤ 10) (hs : s.size ≤ 1048576) : Ev (fun _ : Nat => if s.toList = ([] : List UInt8) then some nm else if 1 + s.size ≤ 9223372036854775807 then (if n + ((⟨#[32]⟩ : ByteArray) ++ s).size ≤ 9223372036854775807 then some (nm ++ ((⟨#[32]⟩ : ByteArray) ++ s)) else none) else none) (wordsOf nm s) := by
  by_cases h : s.toList = ([] : List UInt8)
  · exact Ev.pos h (Ev.done (if_pos h).symm)
  · exact Ev.neg h (Ev.pos (by omega) (Ev.pos (by rw [size_append, sp_size]; omega) (Ev.done ((app3 _ _ _).trans (if_neg h).symm))))
noncomputable def frameText (kind : Int) (s : ByteArray) (st : Int) : ByteArray :=
  if frameOk kind s st = true then (if kind = 1 then wordsOf (⟨#[104, 101, 108, 108, 111]⟩ : ByteArray) s else if kind = 2 then wordsOf (⟨#[113, 117, 101, 114, 121]⟩ : ByteArray) s else if kind = 3 then wordsOf (⟨#[98, 121, 101]⟩ : ByteArray) s else if kind = 4 then wordsOf (⟨#[114, 111, 119]⟩ : ByteArray) s else if kind = 5 then behind (⟨#[114, 101, 97, 100, 121]⟩ : ByteArray) (ba (Lib.itoa st)) else wordsOf (⟨#[101, 114, 114, 111, 114]⟩ : ByteArray) s) else (⟨#[]⟩ : ByteArray)
theorem spec_frameText (kind : Int) (s : ByteArray) (st : Int) (hs : s.size ≤ 1048576) : Ev (fun k => spec_FrameText.f k kind s st) (frameText kind s st) := by
  unfold spec_FrameText.f frameText
  by_cases hf : frameOk kind s st = true
  · rw [if_pos hf]
    rcases frameOk_kind hf with rfl | rfl | rfl | rfl | ⟨rfl, h0, h2⟩ | rfl
    · rw [show wrap64 ((1 : Int) - 1) = 0 by rw [w64 (by omega) (by omega)]; rfl]
      exact Ev.then rfl (Ev.bind (spec_frameOk 1 s st (by omega)) (Ev.pos hf (Ev.pos (by decide) (Ev.pos (by decide) (Ev.neg (by decide) (spec_words (⟨#[104, 101, 108, 108, 111]⟩ : ByteArray) s (by decide) hs))))))
    · rw [show wrap64 ((2 : Int) - 1) = 1 by rw [w64 (by omega) (by omega)]; rfl]
      exact Ev.then rfl (Ev.bind (spec_frameOk 2 s st (by omega)) (Ev.pos hf (Ev.pos (by decide) (Ev.pos (by decide) (Ev.neg (by decide) (spec_words (⟨#[113, 117, 101, 114, 121]⟩ : ByteArray) s (by decide) hs))))))
    · rw [show wrap64 ((3 : Int) - 1) = 2 by rw [w64 (by omega) (by omega)]; rfl]
      exact Ev.then rfl (Ev.bind (spec_frameOk 3 s st (by omega)) (Ev.pos hf (Ev.pos (by decide) (Ev.pos (by decide) (Ev.neg (by decide) (spec_words (⟨#[98, 121, 101]⟩ : ByteArray) s (by decide) hs))))))
    · rw [show wrap64 ((4 : Int) - 1) = 3 by rw [w64 (by omega) (by omega)]; rfl]
      exact Ev.then rfl (Ev.bind (spec_frameOk 4 s st (by omega)) (Ev.pos hf (Ev.pos (by decide) (Ev.pos (by decide) (Ev.neg (by decide) (spec_words (⟨#[114, 111, 119]⟩ : ByteArray) s (by decide) hs))))))
    · rw [show wrap64 ((5 : Int) - 1) = 4 by rw [w64 (by omega) (by omega)]; rfl]
      exact Ev.then rfl (Ev.bind (spec_frameOk 5 s st (by omega)) (Ev.pos hf (Ev.pos (by decide) (Ev.pos (by decide) (Ev.pos rfl (Ev.pos (by decide) (Ev.bind (spec_numText st (by omega) (by omega)) (Ev.pos (by rw [size_append, ba_size]; exact Nat.le_trans (Nat.add_le_add_left (Lib.itoa_length_le st (by omega) (by omega)) _) (by decide)) (Ev.done rfl)))))))))
    · rw [show wrap64 ((6 : Int) - 1) = 5 by rw [w64 (by omega) (by omega)]; rfl]
      exact Ev.then rfl (Ev.bind (spec_frameOk 6 s st (by omega)) (Ev.pos hf (Ev.pos (by decide) (Ev.pos (by decide) (Ev.neg (by decide) (spec_words (⟨#[101, 114, 114, 111, 114]⟩ : ByteArray) s (by decide) hs))))))
  · rw [if_neg hf]
    exact Ev.then rfl (Ev.bind (spec_frameOk kind s st (by omega)) (Ev.neg hf (Ev.done rfl)))
theorem impl_frameText (kind : Int) (s : ByteArray) (st : Int) (hs : s.size ≤ 1048576) : Ev (fun k => impl_FrameText.f k kind s st) (frameText kind s st) := by
  unfold impl_FrameText.f frameText
  by_cases hf : frameOk kind s st = true
  · rw [if_pos hf]
    rcases frameOk_kind hf with rfl | rfl | rfl | rfl | ⟨rfl, h0, h2⟩ | rfl
    · rw [show wrap64 ((1 : Int) - 1) = 0 by rw [w64 (by omega) (by omega)]; rfl]
      exact (Ev.bind (impl_frameOk 1 s st (by omega)) (Ev.pos hf (Ev.pos (by decide) (Ev.pos (by decide) (Ev.pos (by decide) (Ev.neg (by decide) (impl_words (⟨#[104, 101, 108, 108, 111]⟩ : ByteArray) s 5 (by decide) hs)))))))
    · rw [show wrap64 ((2 : Int) - 1) = 1 by rw [w64 (by omega) (by omega)]; rfl]
      exact (Ev.bind (impl_frameOk 2 s st (by omega)) (Ev.pos hf (Ev.pos (by decide) (Ev.pos (by decide) (Ev.neg (by decide) (Ev.pos (by decide) (Ev.neg (by decide) (impl_words (⟨#[113, 117, 101, 114, 121]⟩ : ByteArray) s 5 (by decide) hs))))))))
    · rw [show wrap64 ((3 : Int) - 1) = 2 by rw [w64 (by omega) (by omega)]; rfl]
      exact (Ev.bind (impl_frameOk 3 s st (by omega)) (Ev.pos hf (Ev.pos (by decide) (Ev.pos (by decide) (Ev.neg (by decide) (Ev.neg (by decide) (Ev.pos (by decide) (Ev.neg (by decide) (impl_words (⟨#[98, 121, 101]⟩ : ByteArray) s 3 (by decide) hs)))))))))
    · rw [show wrap64 ((4 : Int) - 1) = 3 by rw [w64 (by omega) (by omega)]; rfl]
      exact (Ev.bind (impl_frameOk 4 s st (by omega)) (Ev.pos hf (Ev.pos (by decide) (Ev.pos (by decide) (Ev.neg (by decide) (Ev.neg (by decide) (Ev.neg (by decide) (Ev.pos (by decide) (Ev.neg (by decide) (impl_words (⟨#[114, 111, 119]⟩ : ByteArray) s 3 (by decide) hs))))))))))
    · rw [show wrap64 ((5 : Int) - 1) = 4 by rw [w64 (by omega) (by omega)]; rfl]
      exact (Ev.bind (impl_frameOk 5 s st (by omega)) (Ev.pos hf (Ev.pos (by decide) (Ev.pos (by decide) (Ev.neg (by decide) (Ev.neg (by decide) (Ev.neg (by decide) (Ev.neg (by decide) (Ev.pos (by decide) (Ev.pos rfl (Ev.then (impl_numText st (by omega) (by omega)) (Ev.pos (by have := Lib.itoa_length_le st (by omega) (by omega); rw [ba_size]; omega) (Ev.pos (by have := Lib.itoa_length_le st (by omega) (by omega); rw [size_append, ba_size, sp_size]; omega) (Ev.done (app3 _ _ _)))))))))))))))
    · rw [show wrap64 ((6 : Int) - 1) = 5 by rw [w64 (by omega) (by omega)]; rfl]
      exact (Ev.bind (impl_frameOk 6 s st (by omega)) (Ev.pos hf (Ev.pos (by decide) (Ev.pos (by decide) (Ev.neg (by decide) (Ev.neg (by decide) (Ev.neg (by decide) (Ev.neg (by decide) (Ev.neg (by decide) (Ev.pos (by decide) (Ev.neg (by decide) (impl_words (⟨#[101, 114, 114, 111, 114]⟩ : ByteArray) s 5 (by decide) hs))))))))))))
  · rw [if_neg hf]
    exact (Ev.bind (impl_frameOk kind s st (by omega)) (Ev.neg hf (Ev.done rfl)))
end Go.Proofs.YtldfehmaophfjaaDoor.Fn
