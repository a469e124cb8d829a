/- What the printed functions that write words and texts come to. No memory is in sight here. -/
import Derived.Test.YtldfehmaophfjaaDoorPxd
import Derived.Test.YtldfehmaophfjaaDoorTextOk
import Derived.Test.YtldfehmaophfjaaDoorSum
namespace Go.Proofs.YtldfehmaophfjaaDoor.Fn
set_option linter.unusedVariables false
set_option linter.unusedSimpArgs false
open Go.RowKit Go.Proofs.YtldfehmaophfjaaDoorW.PrintWords Go.Proofs.YtldfehmaophfjaaDoor.P Go.Proofs.YtldfehmaophfjaaDoor.Base

theorem clone (l : List Int) (hl : l.length < 140737488355328) : slices_Clone_byte_byte.f l = some l := by
  unfold slices_Clone_byte_byte.f
  simp only [Option.bind_some, List.nil_append, List.length_nil, Nat.zero_add]
  rw [if_pos hl]
theorem and255_mod (x : Int) : Go.bits .and .i64 x 255 = x % 256 := by
  have hk : IntKind.i64.bits = 64 := rfl
  have h255 : (255 : Nat) % 2 ^ IntKind.i64.bits = 255 := by decide
  rw [show (255 : Int) = ((255 : Nat) : Int) from rfl]
  simp only [Go.bits, BitVec.ofInt_natCast, BitVec.toNat_and, BitVec.toNat_ofNat, h255]
  rw [show (255 : Nat) = 2 ^ 8 - 1 by decide, Nat.and_two_pow_sub_one_eq_mod, BitVec.toNat_ofInt, hk, wraps_i64 _ (by omega) (by omega)]
  omega
/-- The two bytes of a word. -/
def wordBytes (n : Int) : List Int := [n / 256 % 256, n % 256]
theorem wordBytes_bytes (n : Int) : Bytes (wordBytes n) := Bytes.cons (by omega) (Bytes.cons (by omega) Bytes.nil)
theorem wordBytes_length (n : Int) : (wordBytes n).length = 2 := rfl
theorem impl_putWord (l : List Int) (n : Int) (hl : l.length < 140737488355326) : impl_PutWord.f l n = some (l ++ wordBytes n) := by
  unfold impl_PutWord.f wordBytes
  rw [clone l (by omega)]
  simp only [Option.bind_some, List.length_cons, List.length_nil]
  rw [if_pos (by omega)]
/-- b followed by a text, if that is one. -/
def putText (l : List Int) (s : ByteArray) : List Int := if textOk s = true then l ++ [(s.size : Int)] ++ bytesOf s else l
theorem textOk_size {s : ByteArray} (h : textOk s = true) : s.size ≤ 100 := ((textOk_iff s).1 h).1
theorem impl_putText (l : List Int) (s : ByteArray) (hl : l.length < 140737488355000) (hs : s.size ≤ 9223372036854775807) : Ev (fun k => impl_PutText.f k l s) (putText l s) := by
  unfold impl_PutText.f putText
  rw [clone l (by omega)]
  simp only [Option.bind_some]
  refine Ev.bind (impl_textOk s hs) ?_
  by_cases h : textOk s = true
  · have := textOk_size h
    refine Ev.pos h (Ev.pos (by omega) (Ev.pos (by simp; omega) (Ev.done ?_)))
    rw [if_pos h, Int.emod_eq_of_lt (by omega) (by omega)]
  · exact Ev.neg h (Ev.done (if_neg h).symm)
theorem putText_bytes {l : List Int} (h : Bytes l) (s : ByteArray) : Bytes (putText l s) := by
  unfold putText
  split
  · rename_i ht
    have := textOk_size ht
    exact (h.append (Bytes.cons (by omega) Bytes.nil)).append (bytesOf_bytes s)
  · exact h
theorem putText_length (l : List Int) (s : ByteArray) : (putText l s).length ≤ l.length + 101 := by
  unfold putText
  split
  · rename_i ht
    have := textOk_size ht
    simp [bytesOf_length]; omega
  · omega
end Go.Proofs.YtldfehmaophfjaaDoor.Fn
