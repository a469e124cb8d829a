-- Written by xprint.py (by way of the kit's print program) out of the translation.
import Derived.Test.YtjjnfolkanmdeaaPx0
namespace Go.Proofs.Ytjjnfolkanmdeaa.P
open Go.RowKit Go.Proofs.YtjjnfolkanmdeaaW.PrintWords Go.Proofs.YtjjnfolkanmdeaaW.PrintLast Go.Proofs.YtjjnfolkanmdeaaW.PrintMore
attribute [local go_sem] max2_int min2_int max_two min_two max_three min_three max_four min_four   -- for this text's walks alone
set_option linter.unusedVariables false
set_option linter.unusedSimpArgs false

def laws_FnExactConstants.f  : Option (Bool) := some true
def laws_FnExactConstants.Pure : Prop := laws_FnExactConstants.f  = some true
mutual
def spec_TextOk.l0 : Nat → ByteArray → Int → Option (Bool)
  | 0, _, _ => none
  | k + 1, x0, x3 => if x3 < (x0.size : Int) then (spec_TextOk.j1 k x0 x3 (decide (x3 ≤ 100))) else (spec_TextOk.j1 k x0 x3 false)
def spec_TextOk.j1 : Nat → ByteArray → Int → Bool → Option (Bool)
  | 0, _, _, _ => none
  | k + 1, x0, x3, x11 => if x11 = true then (if 0 ≤ x3 then (if x3 < (x0.size : Int) then (if (bt x0 x3) < 32 then (some false) else (if (bt x0 x3) > 126 then (some false) else (spec_TextOk.l0 k x0 (wrap64 (x3 + 1))))) else (none)) else (none)) else (some (decide ((x0.size : Int) ≤ 100)))
end
def spec_TextOk.f (k : Nat) (a0 : ByteArray) : Option (Bool) := spec_TextOk.l0 k a0 0
def impl_TextOk.l0 : Nat → ByteArray → Int → Int → Option (Bool)
  | 0, _, _, _ => none
  | k + 1, x0, x5, x6 => if x6 < x5 then (if 0 ≤ x6 then (if x6 < (x0.size : Int) then (if (bt x0 x6) < 32 then (some false) else (if (bt x0 x6) > 126 then (some false) else (impl_TextOk.l0 k x0 x5 (wrap64 (x6 + 1))))) else (none)) else (none)) else (some (decide ((x0.size : Int) ≤ 100)))
def impl_TextOk.f (k : Nat) (a0 : ByteArray) : Option (Bool) := impl_TextOk.l0 k a0 (a0.size : Int) 0
def laws_FnExactTextOk.f (k : Nat) (a0 : ByteArray) : Option (Bool) := if (a0.size : Int) > 1048576 then (some true) else ((spec_TextOk.f k a0).bind fun t101 => ((impl_TextOk.f k a0).bind fun t102 => (if (t102 != t101) = true then (some false) else (some true))))
def laws_FnExactTextOk.Pure : Prop := ∀ (a0 : ByteArray), a0.size ≤ 140737488351232 → ∃ k, laws_FnExactTextOk.f k a0 = some true
def spec_GetWord.f (l0 : List Int) (a1 : Int) : Option (Int × Int × Bool) := if a1 < 0 then (some (0, 0, false)) else (if a1 > (wrap64 ((l0.length : Int) - 2)) then (some (0, 0, false)) else (if 0 ≤ a1 then (if a1 < (l0.length : Int) then (if 0 ≤ (wrap64 (a1 + 1)) then (if (wrap64 (a1 + 1)) < (l0.length : Int) then (some (wrap64 ((wrap64 ((wrap64 (rd l0 a1)) * 256)) + (wrap64 (rd l0 (wrap64 (a1 + 1))))), wrap64 (a1 + 2), true)) else (none)) else (none)) else (none)) else (none)))
def laws_toByteS.l0 : Nat → List Int → List Int → Int → Option (List Int)
  | 0, _, _, _ => none
  | k + 1, x0, x3, x4 => if x4 < (x0.length : Int) then (if 0 ≤ x4 then (if x4 < (x3.length : Int) then (laws_toByteS.l0 k x0 (x3.set (x4 : Int).toNat (rd x0 x4)) (wrap64 (x4 + 1))) else (none)) else (none)) else (some x3)
def laws_toByteS.f (k : Nat) (l0 : List Int) : Option (List Int) := if 0 ≤ (l0.length : Int) then (if ((l0.length : Int) : Int).toNat ≤ 281474976710656 then (laws_toByteS.l0 k l0 (List.replicate ((l0.length : Int) : Int).toNat 0) 0) else (none)) else (none)
def impl_isIn.f (a0 : Int) (a1 : Int) (a2 : Int) : Option (Bool) := if a1 ≤ a0 then (some (decide (a0 ≤ a2))) else (some false)
def impl_GetWord.f (l0 : List Int) (a1 : Int) : Option (Int × Int × Bool) := (impl_isIn.f a1 0 (wrap64 ((l0.length : Int) - 2))).bind fun t110 => (if t110 = true then (if 0 ≤ a1 then (if a1 < (l0.length : Int) then (if 0 ≤ (wrap64 (a1 + 1)) then (if (wrap64 (a1 + 1)) < (l0.length : Int) then (some (Go.bits .or .i64 (wrap64 ((wrap64 (rd l0 a1)) * 256)) (wrap64 (rd l0 (wrap64 (a1 + 1)))), wrap64 (a1 + 2), true)) else (none)) else (none)) else (none)) else (none)) else (some (0, 0, false)))
def laws_eqByteS.l0 : Nat → List Int → List Int → Int → Option (Bool)
  | 0, _, _, _ => none
  | k + 1, x0, x1, x5 => if x5 < (x0.length : Int) then (if 0 ≤ x5 then (if x5 < (x1.length : Int) then (if (rd x0 x5) = (rd x1 x5) then (laws_eqByteS.l0 k x0 x1 (wrap64 (x5 + 1))) else (some false)) else (none)) else (none)) else (some true)
def laws_eqByteS.f (k : Nat) (l0 : List Int) (l1 : List Int) : Option (Bool) := if (l0.length : Int) = (l1.length : Int) then (laws_eqByteS.l0 k l0 l1 0) else (some false)
def laws_FnExactGetWord.j0 : Nat → List Int → List Int → Bool → Option (Bool)
  | 0, _, _, _ => none
  | k + 1, x0, x8, x44 => if x44 = true then (some false) else ((laws_toByteS.f k x0).bind fun t127 => ((laws_eqByteS.f k x8 t127).bind fun t130 => (if t130 = true then (some true) else (some false))))
def laws_FnExactGetWord.f (k : Nat) (l0 : List Int) (a1 : Int) : Option (Bool) := if (l0.length : Int) > 1048576 then (some true) else ((laws_toByteS.f k l0).bind fun t115 => ((spec_GetWord.f t115 a1).bind fun bt118 => ((laws_toByteS.f k l0).bind fun t121 => ((impl_GetWord.f t121 a1).bind fun bt124 => (if bt124.1 = bt118.1 then (if bt124.2.1 = bt118.2.1 then (laws_FnExactGetWord.j0 k l0 t121 (bt124.2.2 != bt118.2.2)) else (laws_FnExactGetWord.j0 k l0 t121 true)) else (laws_FnExactGetWord.j0 k l0 t121 true))))))
def laws_FnExactGetWord.Pure : Prop := ∀ (l0 : List Int) (a1 : Int), l0.length ≤ maxLen → l0.length * 1 ≤ 140737488351232 → (∀ x ∈ l0, (Lit.int .u8 x).wf = true) → (Lit.int .i64 a1).wf = true → ∃ k, laws_FnExactGetWord.f k l0 a1 = some true
def spec_l1In.f (a0 : Int) (a1 : Int) (a2 : Int) : Option (Bool) := if a0 ≥ a1 then (some (decide (a0 ≤ a2))) else (some false)
mutual
def spec_ParseNum.j0 : Nat → ByteArray → Int → Bool → Option (Int × Bool)
  | 0, _, _, _ => none
  | k + 1, x0, x1, x29 => if x29 = true then (some (0, false)) else (spec_ParseNum.l0 k x0 x1 0 0)
def spec_ParseNum.l0 : Nat → ByteArray → Int → Int → Int → Option (Int × Bool)
  | 0, _, _, _, _ => none
  | k + 1, x0, x1, x6, x7 => if x7 < (x0.size : Int) then (if 0 ≤ x7 then ((spec_l1In.f (wrap64 (bt x0 x7)) 48 57).bind fun t131 => (if t131 = true then (spec_ParseNum.l0 k x0 x1 (wrap64 ((wrap64 (10 * x6)) + (((bt x0 x7) - 48) % 256))) (wrap64 (x7 + 1))) else (some (0, false)))) else (none)) else (if x6 > x1 then (some (0, false)) else (some (x6, true)))
end
def spec_ParseNum.f (k : Nat) (a0 : ByteArray) (a1 : Int) : Option (Int × Bool) := if (a0.size : Int) = 0 then (spec_ParseNum.j0 k a0 a1 true) else (if (a0.size : Int) > 5 then (spec_ParseNum.j0 k a0 a1 true) else (if (a0.size : Int) > 1 then (if 0 < (a0.size : Int) then (if (bt a0 0) = 48 then (spec_ParseNum.j0 k a0 a1 true) else (spec_ParseNum.j0 k a0 a1 (decide (a1 > 65535)))) else (none)) else (spec_ParseNum.j0 k a0 a1 (decide (a1 > 65535)))))
mutual
def impl_ParseNum.j0 : Nat → ByteArray → Int → Bool → Option (Int × Bool)
  | 0, _, _, _ => none
  | k + 1, x0, x1, x25 => if x25 = true then (some (0, false)) else (impl_ParseNum.l0 k x0 x1 0 (x0.size : Int) 0)
def impl_ParseNum.l0 : Nat → ByteArray → Int → Int → Int → Int → Option (Int × Bool)
  | 0, _, _, _, _, _ => none
  | k + 1, x0, x1, x6, x27, x28 => if x28 < x27 then (if 0 ≤ x28 then (if x28 < (x0.size : Int) then (if (bt x0 x28) < 48 then (some (0, false)) else (if (bt x0 x28) > 57 then (some (0, false)) else (impl_ParseNum.l0 k x0 x1 (wrap64 ((wrap64 (10 * x6)) + (((bt x0 x28) - 48) % 256))) x27 (wrap64 (x28 + 1))))) else (none)) else (none)) else (if x6 > x1 then (some (0, false)) else (some (x6, true)))
end
def impl_ParseNum.f (k : Nat) (a0 : ByteArray) (a1 : Int) : Option (Int × Bool) := if a1 > 65535 then (impl_ParseNum.j0 k a0 a1 true) else ((impl_isIn.f (a0.size : Int) 1 5).bind fun t132 => (if t132 = true then (if (a0.size : Int) > 1 then (if 0 < (a0.size : Int) then (impl_ParseNum.j0 k a0 a1 ((bt a0 0) == 48)) else (none)) else (impl_ParseNum.j0 k a0 a1 false)) else (impl_ParseNum.j0 k a0 a1 true)))
def laws_FnExactParseNum.f (k : Nat) (a0 : ByteArray) (a1 : Int) : Option (Bool) := if (a0.size : Int) > 1048576 then (some true) else ((spec_ParseNum.f k a0 a1).bind fun bt133 => ((impl_ParseNum.f k a0 a1).bind fun bt135 => (if bt135.1 = bt133.1 then (if (bt135.2 != bt133.2) = true then (some false) else (some true)) else (some false))))
def laws_FnExactParseNum.Pure : Prop := ∀ (a0 : ByteArray) (a1 : Int), a0.size ≤ 140737488351232 → (Lit.int .i64 a1).wf = true → ∃ k, laws_FnExactParseNum.f k a0 a1 = some true
mutual
def spec_Sum.l0 : Nat → List Int → Int → Int → Option (Int)
  | 0, _, _, _ => none
  | k + 1, x0, x3, x4 => if x4 < (x0.length : Int) then (if 0 ≤ x4 then (spec_Sum.l1 k x0 (Go.bits .xor .i64 x3 (wrap64 ((wrap64 (rd x0 x4)) * 256))) x4 0) else (none)) else (some (Go.bits .and .i64 x3 65535))
def spec_Sum.l1 : Nat → List Int → Int → Int → Int → Option (Int)
  | 0, _, _, _, _ => none
  | k + 1, x0, x3, x4, x5 => if x5 < 8 then (if (wrap64 (x3 * 2)) > 65535 then (spec_Sum.l1 k x0 (Go.bits .xor .i64 (wrap64 (x3 * 2)) 69665) x4 (wrap64 (x5 + 1))) else (spec_Sum.l1 k x0 (wrap64 (x3 * 2)) x4 (wrap64 (x5 + 1)))) else (spec_Sum.l0 k x0 x3 (wrap64 (x4 + 1)))
end
def spec_Sum.f (k : Nat) (l0 : List Int) : Option (Int) := spec_Sum.l0 k l0 65535 0
mutual
def impl_Sum.l0 : Nat → Int → List Int → Int → Int → Option (Int)
  | 0, _, _, _, _ => none
  | k + 1, x3, x6, x7, x8 => if x8 < x7 then (if 0 ≤ x8 then (if x8 < (x6.length : Int) then (impl_Sum.l1 k (Go.bits .xor .i64 x3 (wrap64 (256 * (wrap64 (rd x6 x8))))) x6 x7 x8 0) else (none)) else (none)) else (some (Go.bits .and .i64 x3 65535))
def impl_Sum.l1 : Nat → Int → List Int → Int → Int → Int → Option (Int)
  | 0, _, _, _, _, _ => none
  | k + 1, x3, x6, x7, x8, x17 => if x17 < 8 then (if (wrap64 (x3 * 2)) > 65535 then (impl_Sum.l1 k (Go.bits .xor .i64 (wrap64 (x3 * 2)) 69665) x6 x7 x8 (wrap64 (x17 + 1))) else (impl_Sum.l1 k (wrap64 (x3 * 2)) x6 x7 x8 (wrap64 (x17 + 1)))) else (impl_Sum.l0 k x3 x6 x7 (wrap64 (x8 + 1)))
end
def impl_Sum.f (k : Nat) (l0 : List Int) : Option (Int) := impl_Sum.l0 k 65535 l0 (l0.length : Int) 0
def laws_FnExactSum.f (k : Nat) (l0 : List Int) : Option (Bool) := if (l0.length : Int) > 1048576 then (some true) else ((laws_toByteS.f k l0).bind fun t139 => ((spec_Sum.f k t139).bind fun t142 => ((laws_toByteS.f k l0).bind fun t143 => ((impl_Sum.f k t143).bind fun t146 => (if t146 = t142 then ((laws_toByteS.f k l0).bind fun t147 => ((laws_eqByteS.f k t143 t147).bind fun t150 => (if t150 = true then (some true) else (some false)))) else (some false))))))
def laws_FnExactSum.Pure : Prop := ∀ (l0 : List Int), l0.length ≤ maxLen → l0.length * 1 ≤ 140737488351232 → (∀ x ∈ l0, (Lit.int .u8 x).wf = true) → ∃ k, laws_FnExactSum.f k l0 = some true
def spec_PutWord.f (l0 : List Int) (a1 : Int) : Option (List Int) := (some (([] : List Int) : List Int)).bind fun y151 => (if y151.length + l0.length < 140737488355328 then ((some (y151 ++ l0 : List Int)).bind fun y154 => ((some (([(Go.bits .and .i64 (a1 / 256) 255) % 256, (Go.bits .and .i64 a1 255) % 256] : List Int) : List Int)).bind fun y157 => (if y154.length + y157.length < 140737488355328 then (some (y154 ++ y157)) else (none)))) else (none))
def slices_Clone_byte_byte.f (l0 : List Int) : Option (List Int) := (some (([] : List Int) : List Int)).bind fun y163 => (if y163.length + l0.length < 140737488355328 then (some (y163 ++ l0)) else (none))
def impl_PutWord.f (l0 : List Int) (a1 : Int) : Option (List Int) := (slices_Clone_byte_byte.f l0).bind fun t169 => ((some (([(a1 / 256) % 256, (a1) % 256] : List Int) : List Int)).bind fun y172 => (if t169.length + y172.length < 140737488355328 then (some (t169 ++ y172)) else (none)))
def laws_markByteS.l0 : Nat → List Int → Int → Int → Option (Int × List Int)
  | 0, _, _, _ => none
  | k + 1, x0, x1, x5 => if x5 < (x0.length : Int) then (if 0 ≤ x5 then (laws_markByteS.l0 k (x0.set (x5 : Int).toNat ((x1) % 256)) (wrap64 (x1 + 1)) (wrap64 (x5 + 1))) else (none)) else (some (x1, x0))
def laws_markByteS.f (k : Nat) (l0 : List Int) (a1 : Int) : Option (Int × List Int) := laws_markByteS.l0 k l0 a1 0
def laws_heldByteS.l0 : Nat → List Int → Int → Int → Option (Int)
  | 0, _, _, _ => none
  | k + 1, x0, x1, x5 => if x5 < (x0.length : Int) then (if 0 ≤ x5 then (if (rd x0 x5) = ((x1) % 256) then (laws_heldByteS.l0 k x0 (wrap64 (x1 + 1)) (wrap64 (x5 + 1))) else (some (-1))) else (none)) else (some x1)
def laws_heldByteS.f (k : Nat) (l0 : List Int) (a1 : Int) : Option (Int) := laws_heldByteS.l0 k l0 a1 0
def laws_FnExactPutWord.j0 : Nat → List Int → Int → List Int → List Int → Bool → Option (Bool)
  | 0, _, _, _, _, _ => none
  | k + 1, x0, x1, x5, x7, x43 => if x43 = true then (some false) else ((laws_markByteS.f k x7 1).bind fun bt200 => ((laws_heldByteS.f k bt200.2 1).bind fun t202 => (if t202 < 0 then (some false) else (if t202 = bt200.1 then ((laws_toByteS.f k x0).bind fun t203 => ((impl_PutWord.f t203 x1).bind fun t206 => ((laws_eqByteS.f k t206 x5).bind fun t209 => (if t209 = true then ((laws_heldByteS.f k bt200.2 1).bind fun t210 => (if t210 < 0 then (some false) else (if t210 = bt200.1 then (some true) else (some false)))) else (some false))))) else (some false)))))
def laws_FnExactPutWord.f (k : Nat) (l0 : List Int) (a1 : Int) : Option (Bool) := if (l0.length : Int) > 1048576 then (some true) else ((laws_toByteS.f k l0).bind fun t180 => ((spec_PutWord.f t180 a1).bind fun t183 => ((laws_toByteS.f k l0).bind fun t186 => ((impl_PutWord.f t186 a1).bind fun t189 => ((laws_eqByteS.f k t189 t183).bind fun t192 => (if t192 = true then ((laws_toByteS.f k l0).bind fun t193 => ((laws_eqByteS.f k t186 t193).bind fun t196 => (if t196 = true then ((laws_markByteS.f k t186 1).bind fun bt197 => (if bt197.1 < 0 then (laws_FnExactPutWord.j0 k l0 a1 t183 t189 true) else ((laws_eqByteS.f k t189 t183).bind fun t199 => (laws_FnExactPutWord.j0 k l0 a1 t183 t189 (!t199))))) else (some false)))) else (some false)))))))
def laws_FnExactPutWord.Pure : Prop := ∀ (l0 : List Int) (a1 : Int), l0.length ≤ maxLen → l0.length * 1 ≤ 140737488351232 → (∀ x ∈ l0, (Lit.int .u8 x).wf = true) → (Lit.int .i64 a1).wf = true → ∃ k, laws_FnExactPutWord.f k l0 a1 = some true
def spec_GetText.j0 : Nat → List Int → Int → Bool → Option (ByteArray × Int × Bool)
  | 0, _, _, _ => none
  | k + 1, x0, x1, x15 => if x15 = true then (some ((⟨#[]⟩ : ByteArray), 0, false)) else (if 0 ≤ x1 then (if x1 < (x0.length : Int) then (if (wrap64 (rd x0 x1)) > (wrap64 ((wrap64 ((x0.length : Int) - x1)) - 1)) then (some ((⟨#[]⟩ : ByteArray), 0, false)) else (if 0 ≤ (wrap64 (x1 + 1)) then (if (wrap64 (x1 + 1)) ≤ (wrap64 ((wrap64 (x1 + 1)) + (wrap64 (rd x0 x1)))) then (if (wrap64 ((wrap64 (x1 + 1)) + (wrap64 (rd x0 x1)))) ≤ (x0.length : Int) then ((spec_TextOk.f k (strOfNums ((x0.take ((wrap64 ((wrap64 (x1 + 1)) + (wrap64 (rd x0 x1)))) : Int).toNat).drop ((wrap64 (x1 + 1)) : Int).toNat))).bind fun t213 => (if t213 = true then (some (strOfNums ((x0.take ((wrap64 ((wrap64 (x1 + 1)) + (wrap64 (rd x0 x1)))) : Int).toNat).drop ((wrap64 (x1 + 1)) : Int).toNat), wrap64 ((wrap64 (x1 + 1)) + (wrap64 (rd x0 x1))), true)) else (some ((⟨#[]⟩ : ByteArray), 0, false)))) else (none)) else (none)) else (none))) else (none)) else (none))
def spec_GetText.f (k : Nat) (l0 : List Int) (a1 : Int) : Option (ByteArray × Int × Bool) := if a1 < 0 then (spec_GetText.j0 k l0 a1 true) else (spec_GetText.j0 k l0 a1 (decide (a1 ≥ (l0.length : Int))))
def impl_GetText.j0 : Nat → List Int → Int → Bool → Option (ByteArray × Int × Bool)
  | 0, _, _, _ => none
  | k + 1, x0, x1, x27 => if x27 = true then (some ((⟨#[]⟩ : ByteArray), 0, false)) else (if 0 ≤ x1 then (if x1 < (x0.length : Int) then (if 0 ≤ (wrap64 (x1 + 1)) then (if (wrap64 (x1 + 1)) ≤ (wrap64 ((wrap64 (x1 + 1)) + (wrap64 (rd x0 x1)))) then (if (wrap64 ((wrap64 (x1 + 1)) + (wrap64 (rd x0 x1)))) ≤ (x0.length : Int) then ((impl_TextOk.f k (strOfNums ((x0.take ((wrap64 ((wrap64 (x1 + 1)) + (wrap64 (rd x0 x1)))) : Int).toNat).drop ((wrap64 (x1 + 1)) : Int).toNat))).bind fun t219 => (if t219 = true then (some (strOfNums ((x0.take ((wrap64 ((wrap64 (x1 + 1)) + (wrap64 (rd x0 x1)))) : Int).toNat).drop ((wrap64 (x1 + 1)) : Int).toNat), wrap64 ((wrap64 (x1 + 1)) + (wrap64 (rd x0 x1))), true)) else (some ((⟨#[]⟩ : ByteArray), 0, false)))) else (none)) else (none)) else (none)) else (none)) else (none))
def impl_GetText.f (k : Nat) (l0 : List Int) (a1 : Int) : Option (ByteArray × Int × Bool) := (impl_isIn.f a1 0 (wrap64 ((l0.length : Int) - 1))).bind fun t215 => (if t215 = true then (if 0 ≤ a1 then (if a1 < (l0.length : Int) then (impl_GetText.j0 k l0 a1 (decide ((wrap64 (rd l0 a1)) > (wrap64 ((wrap64 ((l0.length : Int) - a1)) - 1))))) else (none)) else (none)) else (impl_GetText.j0 k l0 a1 true))
def laws_FnExactGetText.j0 : Nat → List Int → List Int → Bool → Option (Bool)
  | 0, _, _, _ => none
  | k + 1, x0, x8, x44 => if x44 = true then (some false) else ((laws_toByteS.f k x0).bind fun t232 => ((laws_eqByteS.f k x8 t232).bind fun t235 => (if t235 = true then (some true) else (some false))))
def laws_FnExactGetText.f (k : Nat) (l0 : List Int) (a1 : Int) : Option (Bool) := if (l0.length : Int) > 1048576 then (some true) else ((laws_toByteS.f k l0).bind fun t220 => ((spec_GetText.f k t220 a1).bind fun bt223 => ((laws_toByteS.f k l0).bind fun t226 => ((impl_GetText.f k t226 a1).bind fun bt229 => (if bt229.1.toList = bt223.1.toList then (if bt229.2.1 = bt223.2.1 then (laws_FnExactGetText.j0 k l0 t226 (bt229.2.2 != bt223.2.2)) else (laws_FnExactGetText.j0 k l0 t226 true)) else (laws_FnExactGetText.j0 k l0 t226 true))))))
def laws_FnExactGetText.Pure : Prop := ∀ (l0 : List Int) (a1 : Int), l0.length ≤ maxLen → l0.length * 1 ≤ 140737488351232 → (∀ x ∈ l0, (Lit.int .u8 x).wf = true) → (Lit.int .i64 a1).wf = true → ∃ k, laws_FnExactGetText.f k l0 a1 = some true
def laws_szFrame.f (a0_0 : Int) (a0_1 : ByteArray) (a0_2 : Int) (a1 : Int) : Option (Int) := if (wrap64 (a1 - (a0_1.size : Int))) < 0 then (some (-1)) else (some (wrap64 (a1 - (a0_1.size : Int))))
def spec_l1Name.l0 : Nat → ByteArray → Int → Option (Bool)
  | 0, _, _ => none
  | k + 1, x0, x3 => if x3 < (x0.size : Int) then (if 0 ≤ x3 then (if (bt x0 x3) < 97 then (some false) else (if (bt x0 x3) > 122 then (some false) else (spec_l1Name.l0 k x0 (wrap64 (x3 + 1))))) else (none)) else ((spec_l1In.f (x0.size : Int) 1 8).bind fun t237 => (some t237))
def spec_l1Name.f (k : Nat) (a0 : ByteArray) : Option (Bool) := spec_l1Name.l0 k a0 0
def spec_FrameOk.j0 : Nat → Int → Bool → Int → ByteArray → Int → Option (Bool)
  | 0, _, _, _, _, _ => none
  | k + 1, x4, x15, x239000, x239001, x239002 => if x15 = true then ((spec_TextOk.f k x239001).bind fun t240 => (if t240 = true then (some (x239002 == 0)) else (some false))) else (if x4 = 5 then (if x239001.toList = ([] : List UInt8) then ((spec_l1In.f x239002 0 2).bind fun t241 => (some t241)) else (some false)) else (if x239000 = 3 then (if x239001.toList = ([] : List UInt8) then (some (x239002 == 0)) else (some false)) else (some false)))
def spec_FrameOk.f (k : Nat) (a0_0 : Int) (a0_1 : ByteArray) (a0_2 : Int) : Option (Bool) := if a0_0 = 1 then ((spec_l1Name.f k a0_1).bind fun t239 => (if t239 = true then (some (a0_2 == 0)) else (some false))) else (if a0_0 = 2 then (spec_FrameOk.j0 k a0_0 (a0_0 == 2) a0_0 a0_1 a0_2) else (if a0_0 = 4 then (spec_FrameOk.j0 k a0_0 (a0_0 == 4) a0_0 a0_1 a0_2) else (spec_FrameOk.j0 k a0_0 (a0_0 == 6) a0_0 a0_1 a0_2)))
def laws_toFrame.f (a0_0 : Int) (a0_1 : ByteArray) (a0_2 : Int) : Option (Int × ByteArray × Int) := some (a0_0, a0_1, a0_2)
def impl_nameOk.l0 : Nat → ByteArray → Int → Int → Option (Bool)
  | 0, _, _, _ => none
  | k + 1, x0, x5, x6 => if x6 < x5 then (if 0 ≤ x6 then (if x6 < (x0.size : Int) then (if (bt x0 x6) < 97 then (some false) else (if (bt x0 x6) > 122 then (some false) else (impl_nameOk.l0 k x0 x5 (wrap64 (x6 + 1))))) else (none)) else (none)) else ((impl_isIn.f (x0.size : Int) 1 8).bind fun t245 => (some t245))
def impl_nameOk.f (k : Nat) (a0 : ByteArray) : Option (Bool) := impl_nameOk.l0 k a0 (a0.size : Int) 0
def impl_FrameOk.j0 : Nat → Int → Bool → Int → ByteArray → Int → Option (Bool)
  | 0, _, _, _, _, _ => none
  | k + 1, x4, x15, x247000, x247001, x247002 => if x15 = true then ((impl_TextOk.f k x247001).bind fun t248 => (if t248 = true then (some (x247002 == 0)) else (some false))) else (if x4 = 5 then (if x247001.toList = ([] : List UInt8) then ((impl_isIn.f x247002 0 2).bind fun t249 => (some t249)) else (some false)) else (if x4 = 3 then (some (x247000 == 3 && (x247001.toList == ([] : List UInt8) && (x247002 == 0)))) else (some false)))
def impl_FrameOk.f (k : Nat) (a0_0 : Int) (a0_1 : ByteArray) (a0_2 : Int) : Option (Bool) := if a0_0 = 1 then ((impl_nameOk.f k a0_1).bind fun t247 => (if t247 = true then (some (a0_2 == 0)) else (some false))) else (if a0_0 = 2 then (impl_FrameOk.j0 k a0_0 (a0_0 == 2) a0_0 a0_1 a0_2) else (if a0_0 = 4 then (impl_FrameOk.j0 k a0_0 (a0_0 == 4) a0_0 a0_1 a0_2) else (impl_FrameOk.j0 k a0_0 (a0_0 == 6) a0_0 a0_1 a0_2)))
def laws_FnExactFrameOk.f (k : Nat) (a0_0 : Int) (a0_1 : ByteArray) (a0_2 : Int) : Option (Bool) := (laws_szFrame.f a0_0 a0_1 a0_2 1048576).bind fun t251 => (if t251 < 0 then (some true) else ((laws_toFrame.f a0_0 a0_1 a0_2).bind fun bt252 => ((spec_FrameOk.f k bt252.1 bt252.2.1 bt252.2.2).bind fun t255 => ((laws_toFrame.f a0_0 a0_1 a0_2).bind fun bt256 => ((impl_FrameOk.f k bt256.1 bt256.2.1 bt256.2.2).bind fun t259 => (if (t259 != t255) = true then (some false) else (some true)))))))
def laws_FnExactFrameOk.Pure : Prop := ∀ (a0_0 : Int) (a0_1 : ByteArray) (a0_2 : Int), (Lit.int .i64 a0_0).wf = true → a0_1.size ≤ maxLen → (Lit.int .i64 a0_2).wf = true → ∃ k, laws_FnExactFrameOk.f k a0_0 a0_1 a0_2 = some true
def spec_PutText.f (k : Nat) (l0 : List Int) (a1 : ByteArray) : Option (List Int) := (some (([] : List Int) : List Int)).bind fun y260 => (if y260.length + l0.length < 140737488355328 then ((some (y260 ++ l0 : List Int)).bind fun y263 => ((spec_TextOk.f k a1).bind fun t266 => (if t266 = true then (if y263.length < 140737488355328 then ((some (y263 ++ [((a1.size : Int)) % 256] : List Int)).bind fun y267 => (if y267.length + a1.size < 140737488355328 then (some (y267 ++ bytesOf a1)) else (none))) else (none)) else (some y263)))) else (none))
def impl_PutText.f (k : Nat) (l0 : List Int) (a1 : ByteArray) : Option (List Int) := (slices_Clone_byte_byte.f l0).bind fun t273 => ((impl_TextOk.f k a1).bind fun t276 => (if t276 = true then (if t273.length < 140737488355328 then ((some (t273 ++ [((a1.size : Int)) % 256] : List Int)).bind fun y277 => (if y277.length + a1.size < 140737488355328 then (some (y277 ++ bytesOf a1)) else (none))) else (none)) else (some t273)))
def laws_FnExactPutText.j0 : Nat → List Int → ByteArray → List Int → List Int → Bool → Option (Bool)
  | 0, _, _, _, _, _ => none
  | k + 1, x0, x1, x5, x7, x46 => if x46 = true then (some false) else ((laws_markByteS.f k x7 1).bind fun bt303 => ((laws_heldByteS.f k bt303.2 1).bind fun t305 => (if t305 < 0 then (some false) else (if t305 = bt303.1 then ((laws_toByteS.f k x0).bind fun t306 => ((impl_PutText.f k t306 x1).bind fun t309 => ((laws_eqByteS.f k t309 x5).bind fun t312 => (if t312 = true then ((laws_heldByteS.f k bt303.2 1).bind fun t313 => (if t313 < 0 then (some false) else (if t313 = bt303.1 then (some true) else (some false)))) else (some false))))) else (some false)))))
def laws_FnExactPutText.f (k : Nat) (l0 : List Int) (a1 : ByteArray) : Option (Bool) := if (l0.length : Int) > 1048576 then (some true) else (if (a1.size : Int) > 1048576 then (some true) else ((laws_toByteS.f k l0).bind fun t283 => ((spec_PutText.f k t283 a1).bind fun t286 => ((laws_toByteS.f k l0).bind fun t289 => ((impl_PutText.f k t289 a1).bind fun t292 => ((laws_eqByteS.f k t292 t286).bind fun t295 => (if t295 = true then ((laws_toByteS.f k l0).bind fun t296 => ((laws_eqByteS.f k t289 t296).bind fun t299 => (if t299 = true then ((laws_markByteS.f k t289 1).bind fun bt300 => (if bt300.1 < 0 then (laws_FnExactPutText.j0 k l0 a1 t286 t292 true) else ((laws_eqByteS.f k t292 t286).bind fun t302 => (laws_FnExactPutText.j0 k l0 a1 t286 t292 (!t302))))) else (some false)))) else (some false))))))))
def laws_FnExactPutText.Pure : Prop := ∀ (l0 : List Int) (a1 : ByteArray), l0.length ≤ maxLen → l0.length * 1 ≤ 140737488351232 → (∀ x ∈ l0, (Lit.int .u8 x).wf = true) → a1.size ≤ 140737488351232 → ∃ k, laws_FnExactPutText.f k l0 a1 = some true
def spec_HeadOf.j0 : Nat → Int → Int → Bool → Option (List Int)
  | 0, _, _, _ => none
  | k + 1, x0, x1, x13 => if x13 = true then (some (([] : List Int))) else ((spec_PutWord.f (([] : List Int)) x0).bind fun t322 => ((spec_PutWord.f t322 x1).bind fun t325 => ((spec_Sum.f k t325).bind fun t328 => ((spec_PutWord.f t325 t328).bind fun t329 => (some t329)))))
def spec_HeadOf.f (k : Nat) (a0 : Int) (a1 : Int) : Option (List Int) := (spec_l1In.f a0 1 60000).bind fun t314 => (if t314 = true then ((spec_l1In.f a1 0 18).bind fun t315 => (spec_HeadOf.j0 k a0 a1 (!t315))) else (spec_HeadOf.j0 k a0 a1 true))
def impl_HeadOf.j0 : Nat → Int → Int → Bool → Option (List Int)
  | 0, _, _, _ => none
  | k + 1, x0, x1, x13 => if x13 = true then (some (([] : List Int))) else ((impl_PutWord.f ([] : List Int) x0).bind fun t337 => ((impl_PutWord.f t337 x1).bind fun t340 => ((impl_Sum.f k t340).bind fun t343 => ((impl_PutWord.f t340 t343).bind fun t344 => (some t344)))))
def impl_HeadOf.f (k : Nat) (a0 : Int) (a1 : Int) : Option (List Int) := (impl_isIn.f a0 1 60000).bind fun t332 => (if t332 = true then ((impl_isIn.f a1 0 18).bind fun t333 => (impl_HeadOf.j0 k a0 a1 (!t333))) else (impl_HeadOf.j0 k a0 a1 true))
def laws_FnExactHeadOf.f (k : Nat) (a0 : Int) (a1 : Int) : Option (Bool) := (spec_HeadOf.f k a0 a1).bind fun t347 => ((impl_HeadOf.f k a0 a1).bind fun t350 => ((laws_eqByteS.f k t350 t347).bind fun t353 => (if t353 = true then ((laws_markByteS.f k t350 1).bind fun bt354 => ((laws_heldByteS.f k bt354.2 1).bind fun t356 => (if t356 < 0 then (some false) else (if t356 = bt354.1 then ((impl_HeadOf.f k a0 a1).bind fun t357 => ((laws_eqByteS.f k t357 t347).bind fun t360 => (if t360 = true then ((laws_heldByteS.f k bt354.2 1).bind fun t361 => (if t361 < 0 then (some false) else (if t361 = bt354.1 then (some true) else (some false)))) else (some false)))) else (some false))))) else (some false))))
def laws_FnExactHeadOf.Pure : Prop := ∀ (a0 : Int) (a1 : Int), (Lit.int .i64 a0).wf = true → (Lit.int .i64 a1).wf = true → ∃ k, laws_FnExactHeadOf.f k a0 a1 = some true
def laws_big.f (l0 : List Int) : Option (Bool) := some (decide ((l0.length : Int) > 1048576))
def spec_l1New.l0 : Nat → List Int → Int → Int → Option (List Int × Int × Int)
  | 0, _, _, _ => none
  | k + 1, x0, x3, x4 => if x4 < (x0.length : Int) then (if x4 < 4000 then (if 0 ≤ x4 then (spec_l1New.l0 k x0 (Go.bits .and .i64 (wrap64 ((wrap64 ((wrap64 (x3 * 137)) + (wrap64 (rd x0 x4)))) + 11)) 1073741823) (wrap64 (x4 + 1))) else (none)) else (some (x0, 0, x3))) else (some (x0, 0, x3))
def spec_l1New.f (k : Nat) (l0 : List Int) : Option (List Int × Int × Int) := spec_l1New.l0 k l0 (wrap64 (128871 + (l0.length : Int))) 0
def spec_l1Byte.f (s0_0 : List Int) (s0_1 : Int) (s0_2 : Int) : Option (Int × Int × Int) := if s0_1 < (s0_0.length : Int) then (if 0 ≤ s0_1 then (some (Go.bits .and .i64 (wrap64 ((Go.bits .and .i64 (Go.bits .xor .i64 ((wrap64 ((wrap64 (s0_2 * 6364136223846793005)) + 1442695040888963407)) / 8589934592) ((wrap64 ((wrap64 (s0_2 * 6364136223846793005)) + 1442695040888963407)) / 140737488355328)) 255) + (wrap64 (rd s0_0 s0_1)))) 255, wrap64 (s0_1 + 1), wrap64 ((wrap64 (s0_2 * 6364136223846793005)) + 1442695040888963407))) else (none)) else (some (Go.bits .and .i64 (Go.bits .xor .i64 ((wrap64 ((wrap64 (s0_2 * 6364136223846793005)) + 1442695040888963407)) / 8589934592) ((wrap64 ((wrap64 (s0_2 * 6364136223846793005)) + 1442695040888963407)) / 140737488355328)) 255, s0_1, wrap64 ((wrap64 (s0_2 * 6364136223846793005)) + 1442695040888963407)))
def spec_l1Bytes.l0 : Nat → Int → List Int → Int → List Int → Int → Int → Option (List Int × Int × Int)
  | 0, _, _, _, _, _, _ => none
  | k + 1, x1, x5, x6, x1000, x1001, x1002 => if x6 < x1 then ((spec_l1Byte.f x1000 x1001 x1002).bind fun bt369 => (if x5.length < 140737488355328 then (spec_l1Bytes.l0 k x1 (x5 ++ [(bt369.1) % 256]) (wrap64 (x6 + 1)) x1000 bt369.2.1 bt369.2.2) else (none))) else (some (x5, x1001, x1002))
def spec_l1Bytes.f (k : Nat) (s0_0 : List Int) (s0_1 : Int) (s0_2 : Int) (a1 : Int) : Option (List Int × Int × Int) := spec_l1Bytes.l0 k a1 (([] : List Int)) 0 s0_0 s0_1 s0_2
def spec_l1Below.f (s0_0 : List Int) (s0_1 : Int) (s0_2 : Int) (a1 : Int) : Option (Int × Int × Int) := if a1 ≤ 0 then (some (0, s0_1, s0_2)) else (if a1 ≤ 256 then ((spec_l1Byte.f s0_0 s0_1 s0_2).bind fun bt375 => (if a1 = 0 then (none) else (some (Int.tmod bt375.1 a1, bt375.2.1, bt375.2.2)))) else ((spec_l1Byte.f s0_0 s0_1 s0_2).bind fun bt378 => ((spec_l1Byte.f s0_0 bt378.2.1 bt378.2.2).bind fun bt381 => ((spec_l1Byte.f s0_0 bt381.2.1 bt381.2.2).bind fun bt384 => (if a1 = 0 then (none) else (some (Int.tmod (wrap64 ((wrap64 ((wrap64 (bt378.1 * 65536)) + (wrap64 (bt381.1 * 256)))) + bt384.1)) a1, bt384.2.1, bt384.2.2)))))))
def spec_l1Size.f (l0 : List Int) (a1 : Int) : Option (Int) := if (wrap64 (3 + (wrap64 ((l0.length : Int) / 12)))) > a1 then (some a1) else (some (wrap64 (3 + (wrap64 ((l0.length : Int) / 12)))))
def spec_DrawSum.f (k : Nat) (l0 : List Int) : Option (List Int) := (spec_l1New.f k l0).bind fun bt387 => ((spec_l1Size.f l0 40).bind fun t391 => ((spec_l1Below.f bt387.1 bt387.2.1 bt387.2.2 t391).bind fun bt392 => ((spec_l1Bytes.f k bt387.1 bt392.2.1 bt392.2.2 bt392.1).bind fun bt395 => (some bt395.1))))
def laws_at.f (l0 : List Int) (a1 : Int) : Option (Int) := if a1 < (l0.length : Int) then (if 0 ≤ a1 then (some (wrap64 (rd l0 a1))) else (none)) else (some (Int.tmod (wrap64 ((wrap64 (a1 * 31)) + (wrap64 ((l0.length : Int) * 7)))) 256))
def laws_bent.f (l0 : List Int) (l1 : List Int) : Option (List Int) := (some (([] : List Int) : List Int)).bind fun y401 => (if y401.length + l1.length < 140737488355328 then ((some (y401 ++ l1 : List Int)).bind fun y404 => (if (y404.length : Int) > 0 then ((laws_at.f l0 2).bind fun t407 => ((laws_at.f l0 3).bind fun t408 => (if (y404.length : Int) = 0 then (none) else (if 0 ≤ (Int.tmod (wrap64 ((wrap64 (t407 * 256)) + t408)) (y404.length : Int)) then (if (Int.tmod (wrap64 ((wrap64 (t407 * 256)) + t408)) (y404.length : Int)) < (y404.length : Int) then ((laws_at.f l0 4).bind fun t410 => (some (y404.set ((Int.tmod (wrap64 ((wrap64 (t407 * 256)) + t408)) (y404.length : Int)) : Int).toNat (Go.bits .xor .u8 (rd y404 (Int.tmod (wrap64 ((wrap64 (t407 * 256)) + t408)) (y404.length : Int))) ((wrap64 (1 + (Int.tmod t410 255))) % 256))))) else (none)) else (none))))) else (some y404))) else (none))
def laws_FnSums.j0 : Nat → List Int → List Int → Int → Bool → Option (Bool)
  | 0, _, _, _, _ => none
  | k + 1, x0, x3, x4, x22 => if x22 = true then (some false) else (if (x3.length : Int) = 0 then (if x4 = 65535 then (some true) else (if (x3.length : Int) > 0 then ((laws_bent.f x0 x3).bind fun t418 => ((impl_Sum.f k t418).bind fun t421 => (some (t421 != x4)))) else (some false))) else (if (x3.length : Int) > 0 then ((laws_bent.f x0 x3).bind fun t422 => ((impl_Sum.f k t422).bind fun t425 => (some (t425 != x4)))) else (some false)))
def laws_FnSums.f (k : Nat) (l0 : List Int) : Option (Bool) := (laws_big.f l0).bind fun t412 => (if t412 = true then (some true) else ((spec_DrawSum.f k l0).bind fun t413 => ((impl_Sum.f k t413).bind fun t416 => ((spec_Sum.f k t413).bind fun t417 => (if t416 = t417 then (if t416 < 0 then (laws_FnSums.j0 k l0 t413 t416 true) else (laws_FnSums.j0 k l0 t413 t416 (decide (t416 > 65535)))) else (laws_FnSums.j0 k l0 t413 t416 true))))))
def laws_FnSums.Pure : Prop := ∀ (l0 : List Int), l0.length ≤ maxLen → l0.length * 1 ≤ 140737488351232 → (∀ x ∈ l0, (Lit.int .u8 x).wf = true) → ∃ k, laws_FnSums.f k l0 = some true
def laws_szDb.f (a0_0 : ByteArray) (a0_1 : Int) (a0_2 : Int) (a0_3 : Int) (a0_4 : Int) (a1 : Int) : Option (Int) := if (wrap64 (a1 - (a0_0.size : Int))) < 0 then (some (-1)) else (some (wrap64 (a1 - (a0_0.size : Int))))
def laws_szDbS.l0 : Nat → List (S65) → Int → Int → Option (Int)
  | 0, _, _, _ => none
  | k + 1, x0, x1, x5 => if x5 < (x0.length : Int) then (if 0 ≤ x5 then ((laws_szDb.f ((rd_T65 x0 x5).f0) ((rd_T65 x0 x5).f1) ((rd_T65 x0 x5).f2) ((rd_T65 x0 x5).f3) ((rd_T65 x0 x5).f4) x1).bind fun t428 => (if t428 < 0 then (some (-1)) else (laws_szDbS.l0 k x0 t428 (wrap64 (x5 + 1))))) else (none)) else (some x1)
def laws_szDbS.f (k : Nat) (l0 : List (S65)) (a1 : Int) : Option (Int) := if (wrap64 (a1 - (l0.length : Int))) < 0 then (some (-1)) else (laws_szDbS.l0 k l0 (wrap64 (a1 - (l0.length : Int))) 0)
def spec_SameConf.l0 : Nat → List (S66) → List (S66) → Int → Option (Bool)
  | 0, _, _, _ => none
  | k + 1, x0, x1, x5 => if x5 < (x0.length : Int) then (if 0 ≤ x5 then (if x5 < (x1.length : Int) then (if (!((((rd_T66 x0 x5).f0).toList) == (((rd_T66 x1 x5).f0).toList)) || (!(((rd_T66 x0 x5).f1) == ((rd_T66 x1 x5).f1)) || (!(((rd_T66 x0 x5).f2) == ((rd_T66 x1 x5).f2)) || (!(((rd_T66 x0 x5).f3) == ((rd_T66 x1 x5).f3)) || (!(((rd_T66 x0 x5).f4) == ((rd_T66 x1 x5).f4))))))) = true then (some false) else (spec_SameConf.l0 k x0 x1 (wrap64 (x5 + 1)))) else (none)) else (none)) else (some true)
def spec_SameConf.f (k : Nat) (l0 : List (S66)) (l1 : List (S66)) : Option (Bool) := if (l0.length : Int) = (l1.length : Int) then (spec_SameConf.l0 k l0 l1 0) else (some false)
def laws_toDb.f (a0_0 : ByteArray) (a0_1 : Int) (a0_2 : Int) (a0_3 : Int) (a0_4 : Int) : Option (ByteArray × Int × Int × Int × Int) := some (a0_0, a0_1, a0_2, a0_3, a0_4)
def laws_toDbS.l0 : Nat → List (S65) → List (S66) → Int → Option ((List (S66)))
  | 0, _, _, _ => none
  | k + 1, x0, x3, x4 => if x4 < (x0.length : Int) then (if 0 ≤ x4 then ((laws_toDb.f ((rd_T65 x0 x4).f0) ((rd_T65 x0 x4).f1) ((rd_T65 x0 x4).f2) ((rd_T65 x0 x4).f3) ((rd_T65 x0 x4).f4)).bind fun bt438 => (if x4 < (x3.length : Int) then (laws_toDbS.l0 k x0 (x3.set (x4 : Int).toNat (⟨bt438.1, bt438.2.1, bt438.2.2.1, bt438.2.2.2.1, bt438.2.2.2.2⟩ : S66)) (wrap64 (x4 + 1))) else (none))) else (none)) else (some x3)
def laws_toDbS.f (k : Nat) (l0 : List (S65)) : Option ((List (S66))) := if 0 ≤ (l0.length : Int) then (if ((l0.length : Int) : Int).toNat ≤ 5864062014805 then (laws_toDbS.l0 k l0 (List.replicate ((l0.length : Int) : Int).toNat z66) 0) else (none)) else (none)
def impl_Db.l0 : Nat → List (S66) → List (S66) → Int → Int → Option (Bool)
  | 0, _, _, _, _ => none
  | k + 1, x0, x1, x12, x13 => if x13 < x12 then (if 0 ≤ x13 then (if x13 < (x0.length : Int) then (if x13 < (x1.length : Int) then (if (!((((rd_T66 x0 x13).f0).toList) == (((rd_T66 x1 x13).f0).toList)) || (!(((rd_T66 x0 x13).f1) == ((rd_T66 x1 x13).f1)) || (!(((rd_T66 x0 x13).f2) == ((rd_T66 x1 x13).f2)) || (!(((rd_T66 x0 x13).f3) == ((rd_T66 x1 x13).f3)) || (!(((rd_T66 x0 x13).f4) == ((rd_T66 x1 x13).f4))))))) = true then (some false) else (impl_Db.l0 k x0 x1 x12 (wrap64 (x13 + 1)))) else (none)) else (none)) else (none)) else (some true)
def impl_Db.f (k : Nat) (l0 : List (S66)) (l1 : List (S66)) : Option (Bool) := if (l0.length : Int) = (l1.length : Int) then (impl_Db.l0 k l0 l1 (l0.length : Int) 0) else (some false)
def impl_SameConf.f (k : Nat) (l0 : List (S66)) (l1 : List (S66)) : Option (Bool) := (impl_Db.f k l0 l1).bind fun t446 => (some t446)
def laws_eqDb.f (a0_0 : ByteArray) (a0_1 : Int) (a0_2 : Int) (a0_3 : Int) (a0_4 : Int) (a1_0 : ByteArray) (a1_1 : Int) (a1_2 : Int) (a1_3 : Int) (a1_4 : Int) : Option (Bool) := if a0_0.toList = a1_0.toList then (if a0_1 = a1_1 then (if a0_2 = a1_2 then (if a0_3 = a1_3 then (if a0_4 = a1_4 then (some true) else (some false)) else (some false)) else (some false)) else (some false)) else (some false)
def laws_eqDbS.l0 : Nat → List (S66) → List (S66) → Int → Option (Bool)
  | 0, _, _, _ => none
  | k + 1, x0, x1, x5 => if x5 < (x0.length : Int) then (if 0 ≤ x5 then (if x5 < (x1.length : Int) then ((laws_eqDb.f ((rd_T66 x0 x5).f0) ((rd_T66 x0 x5).f1) ((rd_T66 x0 x5).f2) ((rd_T66 x0 x5).f3) ((rd_T66 x0 x5).f4) ((rd_T66 x1 x5).f0) ((rd_T66 x1 x5).f1) ((rd_T66 x1 x5).f2) ((rd_T66 x1 x5).f3) ((rd_T66 x1 x5).f4)).bind fun t451 => (if t451 = true then (laws_eqDbS.l0 k x0 x1 (wrap64 (x5 + 1))) else (some false))) else (none)) else (none)) else (some true)
def laws_eqDbS.f (k : Nat) (l0 : List (S66)) (l1 : List (S66)) : Option (Bool) := if (l0.length : Int) = (l1.length : Int) then (laws_eqDbS.l0 k l0 l1 0) else (some false)
def laws_FnExactSameConf.f (k : Nat) (l0 : List (S65)) (l1 : List (S65)) : Option (Bool) := (laws_szDbS.f k l0 1048576).bind fun t452 => (if t452 < 0 then (some true) else ((laws_szDbS.f k l1 t452).bind fun t453 => (if t453 < 0 then (some true) else ((laws_toDbS.f k l0).bind fun t454 => ((laws_toDbS.f k l1).bind fun t457 => ((spec_SameConf.f k t454 t457).bind fun t460 => ((laws_toDbS.f k l0).bind fun t461 => ((laws_toDbS.f k l1).bind fun t464 => ((impl_SameConf.f k t461 t464).bind fun t467 => (if (t467 != t460) = true then (some false) else ((laws_toDbS.f k l0).bind fun t468 => ((laws_eqDbS.f k t461 t468).bind fun t471 => (if t471 = true then ((laws_toDbS.f k l1).bind fun t472 => ((laws_eqDbS.f k t464 t472).bind fun t475 => (if t475 = true then (some true) else (some false)))) else (some false))))))))))))))
def laws_FnExactSameConf.Pure : Prop := ∀ (l0 : List (S65)) (l1 : List (S65)), (l0.length ≤ maxLen ∧ ∀ x0_ ∈ l0, (x0_.f0.size ≤ maxLen ∧ (Lit.int .i64 x0_.f1).wf = true ∧ (Lit.int .i64 x0_.f2).wf = true ∧ (Lit.int .i64 x0_.f3).wf = true ∧ (Lit.int .i64 x0_.f4).wf = true)) → (l1.length ≤ maxLen ∧ ∀ x0_ ∈ l1, (x0_.f0.size ≤ maxLen ∧ (Lit.int .i64 x0_.f1).wf = true ∧ (Lit.int .i64 x0_.f2).wf = true ∧ (Lit.int .i64 x0_.f3).wf = true ∧ (Lit.int .i64 x0_.f4).wf = true)) → ∃ k, laws_FnExactSameConf.f k l0 l1 = some true
end Go.Proofs.Ytjjnfolkanmdeaa.P
