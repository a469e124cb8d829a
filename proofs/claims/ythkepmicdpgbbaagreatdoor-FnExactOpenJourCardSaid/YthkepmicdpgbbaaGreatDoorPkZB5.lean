/- Texts of this seat's claims, put together: Pxd, Pxl, EvY, Enc -/
import Derived.Test.YthkepmicdpgbbaaGreatDoorPkZB4
-- Written by xprint.py (by way of the kit's print program) out of the translation.
namespace Go.Proofs.YthkepmicdpgbbaaGreatDoor.P
open Go.RowKit Go.Proofs.YthkepmicdpgbbaaGreatDoorW.PrintWords Go.Proofs.YthkepmicdpgbbaaGreatDoorW.PrintLast Go.Proofs.YthkepmicdpgbbaaGreatDoorW.PrintMore
attribute [local go_sem] max2_int min2_int max_two min_two max_three min_three max_four min_four   -- for this text's walks alone
set_option linter.unusedVariables false
set_option linter.unusedSimpArgs false

def laws_big.f (l0 : List Int) : Option (Bool) := some (decide ((l0.length : Int) > 1048576))
def spec_l1New.l0 : Nat → List Int → Int → Int → Option (List Int × Int × Int)
  | 0, _, _, _ => none
  | k + 1, x0, x3, x4 => if x4 < (x0.length : Int) then (if x4 < 4000 then (if 0 ≤ x4 then (spec_l1New.l0 k x0 (Go.bits .and .i64 (wrap64 ((wrap64 ((wrap64 (x3 * 137)) + (wrap64 (rd x0 x4)))) + 11)) 1073741823) (wrap64 (x4 + 1))) else (none)) else (some (x0, 0, x3))) else (some (x0, 0, x3))
def spec_l1New.f (k : Nat) (l0 : List Int) : Option (List Int × Int × Int) := spec_l1New.l0 k l0 (wrap64 (128871 + (l0.length : Int))) 0
def spec_l1Byte.f (s0_0 : List Int) (s0_1 : Int) (s0_2 : Int) : Option (Int × Int × Int) := if s0_1 < (s0_0.length : Int) then (if 0 ≤ s0_1 then (some (Go.bits .and .i64 (wrap64 ((Go.bits .and .i64 (Go.bits .xor .i64 ((wrap64 ((wrap64 (s0_2 * 6364136223846793005)) + 1442695040888963407)) / 8589934592) ((wrap64 ((wrap64 (s0_2 * 6364136223846793005)) + 1442695040888963407)) / 140737488355328)) 255) + (wrap64 (rd s0_0 s0_1)))) 255, wrap64 (s0_1 + 1), wrap64 ((wrap64 (s0_2 * 6364136223846793005)) + 1442695040888963407))) else (none)) else (some (Go.bits .and .i64 (Go.bits .xor .i64 ((wrap64 ((wrap64 (s0_2 * 6364136223846793005)) + 1442695040888963407)) / 8589934592) ((wrap64 ((wrap64 (s0_2 * 6364136223846793005)) + 1442695040888963407)) / 140737488355328)) 255, s0_1, wrap64 ((wrap64 (s0_2 * 6364136223846793005)) + 1442695040888963407)))
def spec_l1Below.f (s0_0 : List Int) (s0_1 : Int) (s0_2 : Int) (a1 : Int) : Option (Int × Int × Int) := if a1 ≤ 0 then (some (0, s0_1, s0_2)) else (if a1 ≤ 256 then ((spec_l1Byte.f s0_0 s0_1 s0_2).bind fun bt105 => (if a1 = 0 then (none) else (some (Int.tmod bt105.1 a1, bt105.2.1, bt105.2.2)))) else ((spec_l1Byte.f s0_0 s0_1 s0_2).bind fun bt108 => ((spec_l1Byte.f s0_0 bt108.2.1 bt108.2.2).bind fun bt111 => ((spec_l1Byte.f s0_0 bt111.2.1 bt111.2.2).bind fun bt114 => (if a1 = 0 then (none) else (some (Int.tmod (wrap64 ((wrap64 ((wrap64 (bt108.1 * 65536)) + (wrap64 (bt111.1 * 256)))) + bt114.1)) a1, bt114.2.1, bt114.2.2)))))))
def spec_l1Int.f (s0_0 : List Int) (s0_1 : Int) (s0_2 : Int) (l1 : List Int) : Option (Int × Int × Int) := (spec_l1Below.f s0_0 s0_1 s0_2 (l1.length : Int)).bind fun bt117 => (if 0 ≤ bt117.1 then (if bt117.1 < (l1.length : Int) then (some (rd l1 bt117.1, bt117.2.1, bt117.2.2)) else (none)) else (none))
def spec_l1In.f (a0 : Int) (a1 : Int) (a2 : Int) : Option (Bool) := if a0 ≥ a1 then (some (decide (a0 ≤ a2))) else (some false)
def spec_l1Name.l0 : Nat → ByteArray → Int → Option (Bool)
  | 0, _, _ => none
  | k + 1, x0, x3 => if x3 < (x0.size : Int) then (if 0 ≤ x3 then (if (bt x0 x3) < 97 then (some false) else (if (bt x0 x3) > 122 then (some false) else (spec_l1Name.l0 k x0 (wrap64 (x3 + 1))))) else (none)) else ((spec_l1In.f (x0.size : Int) 1 8).bind fun t121 => (some t121))
def spec_l1Name.f (k : Nat) (a0 : ByteArray) : Option (Bool) := spec_l1Name.l0 k a0 0
def spec_l3Db.f (k : Nat) (a0_0 : ByteArray) (a0_1 : Int) (a0_2 : Int) (a0_3 : Int) (a0_4 : Int) : Option (Bool) := (spec_l1Name.f k a0_0).bind fun t123 => (if t123 = true then ((spec_l1In.f a0_1 1 3).bind fun t124 => (if t124 = true then ((spec_l1In.f a0_2 0 4).bind fun t125 => (if t125 = true then ((spec_l1In.f a0_3 1 20).bind fun t126 => (if t126 = true then ((spec_l1In.f a0_4 1 20).bind fun t127 => (some t127)) else (some false))) else (some false))) else (some false))) else (some false))
mutual
def spec_ConfOk.l0 : Nat → List (S138) → Int → Option (Bool)
  | 0, _, _ => none
  | k + 1, x0, x3 => if x3 < (x0.length : Int) then (if 0 ≤ x3 then ((spec_l3Db.f k ((rd_T138 x0 x3).f0) ((rd_T138 x0 x3).f1) ((rd_T138 x0 x3).f2) ((rd_T138 x0 x3).f3) ((rd_T138 x0 x3).f4)).bind fun t130 => (if t130 = true then (spec_ConfOk.l1 k x0 x3 0) else (some false))) else (none)) else ((spec_l1In.f (x0.length : Int) 1 3).bind fun t128 => (some t128))
def spec_ConfOk.l1 : Nat → List (S138) → Int → Int → Option (Bool)
  | 0, _, _, _ => none
  | k + 1, x0, x3, x4 => if x4 < x3 then (if 0 ≤ x4 then (if x4 < (x0.length : Int) then (if 0 ≤ x3 then (if x3 < (x0.length : Int) then (if ((rd_T138 x0 x4).f0).toList = ((rd_T138 x0 x3).f0).toList then (some false) else (spec_ConfOk.l1 k x0 x3 (wrap64 (x4 + 1)))) else (none)) else (none)) else (none)) else (none)) else (spec_ConfOk.l0 k x0 (wrap64 (x3 + 1)))
end
def spec_ConfOk.f (k : Nat) (l0 : List (S138)) : Option (Bool) := spec_ConfOk.l0 k l0 0
def spec_NumText.l0 : Nat → Int → ByteArray → Int → Option (ByteArray)
  | 0, _, _, _ => none
  | k + 1, x0, x3, x4 => if x4 = 0 then (if x0 < 0 then (if 1 + x3.size ≤ 9223372036854775807 then (some ((⟨#[45]⟩ : ByteArray) ++ x3)) else (none)) else (some x3)) else (if (Int.tmod x4 10) < 0 then ((some (([(wrap64 (48 + (wrap64 (-(Int.tmod x4 10))))) % 256] : List Int) : List Int)).bind fun y133 => (if (strOfNums y133).size + x3.size ≤ 9223372036854775807 then (spec_NumText.l0 k x0 ((strOfNums y133) ++ x3) (wrap64 (Int.tdiv x4 10))) else (none))) else ((some (([(wrap64 (48 + (Int.tmod x4 10))) % 256] : List Int) : List Int)).bind fun y136 => (if (strOfNums y136).size + x3.size ≤ 9223372036854775807 then (spec_NumText.l0 k x0 ((strOfNums y136) ++ x3) (wrap64 (Int.tdiv x4 10))) else (none))))
def spec_NumText.f (k : Nat) (a0 : Int) : Option (ByteArray) := if a0 = 0 then (some (⟨#[48]⟩ : ByteArray)) else (spec_NumText.l0 k a0 (⟨#[]⟩ : ByteArray) a0)
mutual
def spec_ConfText.l0 : Nat → List (S138) → ByteArray → Int → Option (ByteArray)
  | 0, _, _, _ => none
  | k + 1, x0, x3, x4 => if x4 < (x0.length : Int) then ((spec_ConfOk.f k x0).bind fun t139 => (spec_ConfText.j1 k x0 x3 x4 t139)) else (spec_ConfText.j1 k x0 x3 x4 false)
def spec_ConfText.j1 : Nat → List (S138) → ByteArray → Int → Bool → Option (ByteArray)
  | 0, _, _, _, _ => none
  | k + 1, x0, x3, x4, x12 => if x12 = true then (if x4 > 0 then (if x3.size + 1 ≤ 9223372036854775807 then (spec_ConfText.j2 k x0 (x3 ++ (⟨#[59]⟩ : ByteArray)) x4) else (none)) else (spec_ConfText.j2 k x0 x3 x4)) else (some x3)
def spec_ConfText.j2 : Nat → List (S138) → ByteArray → Int → Option (ByteArray)
  | 0, _, _, _ => none
  | k + 1, x0, x3, x4 => if 0 ≤ x4 then (if x4 < (x0.length : Int) then (if x3.size + ((rd_T138 x0 x4).f0).size ≤ 9223372036854775807 then (if (x3 ++ ((rd_T138 x0 x4).f0)).size + 1 ≤ 9223372036854775807 then ((spec_NumText.f k ((rd_T138 x0 x4).f1)).bind fun t142 => (if ((x3 ++ ((rd_T138 x0 x4).f0)) ++ (⟨#[58]⟩ : ByteArray)).size + t142.size ≤ 9223372036854775807 then (if (((x3 ++ ((rd_T138 x0 x4).f0)) ++ (⟨#[58]⟩ : ByteArray)) ++ t142).size + 1 ≤ 9223372036854775807 then ((spec_NumText.f k ((rd_T138 x0 x4).f2)).bind fun t144 => (if ((((x3 ++ ((rd_T138 x0 x4).f0)) ++ (⟨#[58]⟩ : ByteArray)) ++ t142) ++ (⟨#[47]⟩ : ByteArray)).size + t144.size ≤ 9223372036854775807 then (if (((((x3 ++ ((rd_T138 x0 x4).f0)) ++ (⟨#[58]⟩ : ByteArray)) ++ t142) ++ (⟨#[47]⟩ : ByteArray)) ++ t144).size + 1 ≤ 9223372036854775807 then ((spec_NumText.f k ((rd_T138 x0 x4).f3)).bind fun t146 => (if ((((((x3 ++ ((rd_T138 x0 x4).f0)) ++ (⟨#[58]⟩ : ByteArray)) ++ t142) ++ (⟨#[47]⟩ : ByteArray)) ++ t144) ++ (⟨#[47]⟩ : ByteArray)).size + t146.size ≤ 9223372036854775807 then (if (((((((x3 ++ ((rd_T138 x0 x4).f0)) ++ (⟨#[58]⟩ : ByteArray)) ++ t142) ++ (⟨#[47]⟩ : ByteArray)) ++ t144) ++ (⟨#[47]⟩ : ByteArray)) ++ t146).size + 1 ≤ 9223372036854775807 then ((spec_NumText.f k ((rd_T138 x0 x4).f4)).bind fun t148 => (if ((((((((x3 ++ ((rd_T138 x0 x4).f0)) ++ (⟨#[58]⟩ : ByteArray)) ++ t142) ++ (⟨#[47]⟩ : ByteArray)) ++ t144) ++ (⟨#[47]⟩ : ByteArray)) ++ t146) ++ (⟨#[47]⟩ : ByteArray)).size + t148.size ≤ 9223372036854775807 then (spec_ConfText.l0 k x0 (((((((((x3 ++ ((rd_T138 x0 x4).f0)) ++ (⟨#[58]⟩ : ByteArray)) ++ t142) ++ (⟨#[47]⟩ : ByteArray)) ++ t144) ++ (⟨#[47]⟩ : ByteArray)) ++ t146) ++ (⟨#[47]⟩ : ByteArray)) ++ t148) (wrap64 (x4 + 1))) else (none))) else (none)) else (none))) else (none)) else (none))) else (none)) else (none))) else (none)) else (none)) else (none)) else (none)
end
def spec_ConfText.f (k : Nat) (l0 : List (S138)) : Option (ByteArray) := spec_ConfText.l0 k l0 (⟨#[]⟩ : ByteArray) 0
def spec_l1Str.f (s0_0 : List Int) (s0_1 : Int) (s0_2 : Int) (l1 : List ByteArray) : Option (ByteArray × Int × Int) := (spec_l1Below.f s0_0 s0_1 s0_2 (l1.length : Int)).bind fun bt149 => (if 0 ≤ bt149.1 then (if bt149.1 < (l1.length : Int) then (some (rdOf ByteArray.empty l1 bt149.1, bt149.2.1, bt149.2.2)) else (none)) else (none))
def spec_l3One.f (s0_0 : List Int) (s0_1 : Int) (s0_2 : Int) : Option (ByteArray × Int × Int × Int × Int × Int × Int) := (spec_l1Str.f s0_0 s0_1 s0_2 (([(⟨#[109, 97, 105, 110]⟩ : ByteArray), (⟨#[109, 97, 105, 110]⟩ : ByteArray), (⟨#[108, 111, 103, 115]⟩ : ByteArray), (⟨#[120]⟩ : ByteArray)] : List ByteArray))).bind fun bt157 => ((spec_l1Below.f s0_0 bt157.2.1 bt157.2.2 3).bind fun bt160 => ((spec_l1Below.f s0_0 bt160.2.1 bt160.2.2 5).bind fun bt163 => ((spec_l1Int.f s0_0 bt163.2.1 bt163.2.2 (([1, 2, 5, 20] : List Int))).bind fun bt169 => ((spec_l1Int.f s0_0 bt169.2.1 bt169.2.2 (([1, 3, 20] : List Int))).bind fun bt175 => (some (bt157.1, wrap64 (1 + bt160.1), bt163.1, bt169.1, bt175.1, bt175.2.1, bt175.2.2))))))
def spec_DbAt.l0 : Nat → List (S138) → ByteArray → Int → Option (ByteArray × Int × Int × Int × Int × Bool)
  | 0, _, _, _ => none
  | k + 1, x0, x1, x6 => if x6 < (x0.length : Int) then (if 0 ≤ x6 then (if ((rd_T138 x0 x6).f0).toList = x1.toList then (some ((rd_T138 x0 x6).f0, (rd_T138 x0 x6).f1, (rd_T138 x0 x6).f2, (rd_T138 x0 x6).f3, (rd_T138 x0 x6).f4, true)) else (spec_DbAt.l0 k x0 x1 (wrap64 (x6 + 1)))) else (none)) else (some ((⟨#[]⟩ : ByteArray), 0, 0, 0, 0, false))
def spec_DbAt.f (k : Nat) (l0 : List (S138)) (a1 : ByteArray) : Option (ByteArray × Int × Int × Int × Int × Bool) := spec_DbAt.l0 k l0 a1 0
def spec_l3Draw.l0 : Nat → List (S138) → Int → List Int → Int → Int → Option ((List (S138)) × Int × Int)
  | 0, _, _, _, _, _ => none
  | k + 1, x3, x4, x1000, x1001, x1002 => if x4 > 0 then ((spec_l3One.f x1000 x1001 x1002).bind fun bt187 => ((spec_DbAt.f k x3 bt187.1).bind fun bt195 => (if bt195.2.2.2.2.2 = true then (spec_l3Draw.l0 k x3 (wrap64 (x4 - 1)) x1000 bt187.2.2.2.2.2.1 bt187.2.2.2.2.2.2) else (if x3.length < 2932031007402 then (spec_l3Draw.l0 k (x3 ++ [(⟨bt187.1, bt187.2.1, bt187.2.2.1, bt187.2.2.2.1, bt187.2.2.2.2.1⟩ : S138)]) (wrap64 (x4 - 1)) x1000 bt187.2.2.2.2.2.1 bt187.2.2.2.2.2.2) else (none))))) else (some (x3, x1001, x1002))
def spec_l3Draw.f (k : Nat) (s0_0 : List Int) (s0_1 : Int) (s0_2 : Int) : Option ((List (S138)) × Int × Int) := (spec_l1Below.f s0_0 s0_1 s0_2 3).bind fun bt184 => (spec_l3Draw.l0 k (([] : List (S138))) (wrap64 (1 + bt184.1)) s0_0 bt184.2.1 bt184.2.2)
def spec_l4Draw.f (k : Nat) (s0_0 : List Int) (s0_1 : Int) (s0_2 : Int) : Option (Int × Int × Int × ByteArray × Int × Int) := (spec_l1Below.f s0_0 s0_1 s0_2 3).bind fun bt206 => ((spec_l1Below.f s0_0 bt206.2.1 bt206.2.2 6).bind fun bt209 => (if (wrap64 (1 + bt206.1)) = 1 then ((spec_l3Draw.f k s0_0 bt209.2.1 bt209.2.2).bind fun bt213 => ((spec_ConfText.f k bt213.1).bind fun t218 => (if (wrap64 (1 + bt206.1)) = 3 then ((spec_l1Below.f s0_0 bt213.2.1 bt213.2.2 2).bind fun bt219 => (some (wrap64 (1 + bt206.1), wrap64 (1 + bt209.1), bt219.1, t218, bt219.2.1, bt219.2.2))) else (some (wrap64 (1 + bt206.1), wrap64 (1 + bt209.1), 0, t218, bt213.2.1, bt213.2.2))))) else (if (wrap64 (1 + bt206.1)) = 3 then ((spec_l1Below.f s0_0 bt209.2.1 bt209.2.2 2).bind fun bt222 => (some (wrap64 (1 + bt206.1), wrap64 (1 + bt209.1), bt222.1, (⟨#[]⟩ : ByteArray), bt222.2.1, bt222.2.2))) else (some (wrap64 (1 + bt206.1), wrap64 (1 + bt209.1), 0, (⟨#[]⟩ : ByteArray), bt209.2.1, bt209.2.2)))))
def spec_l1Once.f (s0_0 : List Int) (s0_1 : Int) (s0_2 : Int) (a1 : Int) : Option (Bool × Int × Int) := (spec_l1Below.f s0_0 s0_1 s0_2 a1).bind fun bt225 => (some ((bt225.1 == 0), bt225.2.1, bt225.2.2))
def spec_l3Text.f (k : Nat) (s0_0 : List Int) (s0_1 : Int) (s0_2 : Int) : Option (ByteArray × Int × Int) := (spec_l1Once.f s0_0 s0_1 s0_2 3).bind fun bt228 => (if bt228.1 = true then ((spec_l1Str.f s0_0 bt228.2.1 bt228.2.2 (([(⟨#[]⟩ : ByteArray), (⟨#[109, 97, 105, 110]⟩ : ByteArray), (⟨#[109, 97, 105, 110, 58, 49]⟩ : ByteArray), (⟨#[109, 97, 105, 110, 58, 49, 47, 50, 47, 51]⟩ : ByteArray), (⟨#[109, 97, 105, 110, 58, 48, 49, 47, 50, 47, 51, 47, 52]⟩ : ByteArray), (⟨#[109, 97, 105, 110, 58, 49, 47, 50, 47, 51, 47, 52, 59]⟩ : ByteArray), (⟨#[59, 109, 97, 105, 110, 58, 49, 47, 50, 47, 51, 47, 52]⟩ : ByteArray), (⟨#[109, 97, 105, 110, 58, 49, 47, 50, 47, 51, 47, 52, 59, 109, 97, 105, 110, 58, 49, 47, 49, 47, 49, 47, 49]⟩ : ByteArray), (⟨#[109, 97, 105, 110, 58, 49, 47, 50, 47, 51, 47, 52, 47, 53]⟩ : ByteArray), (⟨#[109, 97, 105, 110, 58, 52, 47, 50, 47, 51, 47, 52]⟩ : ByteArray), (⟨#[109, 97, 105, 110, 58, 49, 47, 53, 47, 51, 47, 52]⟩ : ByteArray), (⟨#[109, 97, 105, 110, 58, 49, 47, 50, 47, 48, 47, 52]⟩ : ByteArray), (⟨#[109, 97, 105, 110, 58, 49, 47, 50, 47, 51, 47, 49, 48, 48]⟩ : ByteArray), (⟨#[77, 97, 105, 110, 58, 49, 47, 50, 47, 51, 47, 52]⟩ : ByteArray), (⟨#[109, 97, 105, 110, 58, 49, 47, 50, 47, 51, 47, 52, 32]⟩ : ByteArray), (⟨#[58, 49, 47, 50, 47, 51, 47, 52]⟩ : ByteArray), (⟨#[97, 58, 49, 47, 48, 47, 49, 47, 49, 59, 98, 58, 49, 47, 48, 47, 49, 47, 49, 59, 99, 58, 49, 47, 48, 47, 49, 47, 49, 59, 100, 58, 49, 47, 48, 47, 49, 47, 49]⟩ : ByteArray), (⟨#[97, 58, 98, 58, 49, 47, 50, 47, 51, 47, 52]⟩ : ByteArray)] : List ByteArray))).bind fun bt234 => (some (bt234.1, bt234.2.1, bt234.2.2))) else ((spec_l3Draw.f k s0_0 bt228.2.1 bt228.2.2).bind fun bt237 => ((spec_ConfText.f k bt237.1).bind fun t242 => (some (t242, bt237.2.1, bt237.2.2)))))
def spec_l4Any.f (k : Nat) (s0_0 : List Int) (s0_1 : Int) (s0_2 : Int) : Option (Int × Int × Int × ByteArray × Int × Int) := (spec_l4Draw.f k s0_0 s0_1 s0_2).bind fun bt244 => ((spec_l1Below.f s0_0 bt244.2.2.2.2.1 bt244.2.2.2.2.2 12).bind fun bt251 => (if bt251.1 = 0 then ((spec_l1Int.f s0_0 bt251.2.1 bt251.2.2 (([0, 1, 2, 4] : List Int))).bind fun bt257 => (some (bt257.1, bt244.2.1, bt244.2.2.1, bt244.2.2.2.1, bt257.2.1, bt257.2.2))) else (if bt251.1 = 1 then ((spec_l1Int.f s0_0 bt251.2.1 bt251.2.2 (([0, 60000, 60001, (-1)] : List Int))).bind fun bt263 => (some (bt244.1, bt263.1, bt244.2.2.1, bt244.2.2.2.1, bt263.2.1, bt263.2.2))) else (if bt251.1 = 2 then ((spec_l1Int.f s0_0 bt251.2.1 bt251.2.2 (([(-1), 1, 2] : List Int))).bind fun bt269 => (some (bt244.1, bt244.2.1, bt269.1, bt244.2.2.2.1, bt269.2.1, bt269.2.2))) else (if bt251.1 = 3 then ((spec_l3Text.f k s0_0 bt251.2.1 bt251.2.2).bind fun bt272 => (some (bt244.1, bt244.2.1, bt244.2.2.1, bt272.1, bt272.2.1, bt272.2.2))) else (some (bt244.1, bt244.2.1, bt244.2.2.1, bt244.2.2.2.1, bt251.2.1, bt251.2.2)))))))
def spec_DrawPutRec.f (k : Nat) (l0 : List Int) : Option (Int × Int × Int × Int × Int × ByteArray) := (spec_l1New.f k l0).bind fun bt276 => ((spec_l4Any.f k bt276.1 bt276.2.1 bt276.2.2).bind fun bt280 => ((spec_l1Int.f bt276.1 bt280.2.2.2.2.1 bt280.2.2.2.2.2 (([0, 1, 300, 65535, 65536, (-1)] : List Int))).bind fun bt290 => ((spec_l1Int.f bt276.1 bt290.2.1 bt290.2.2 (([0, 1, 15, 65535, 65536, (-1)] : List Int))).bind fun bt296 => (some (bt290.1, bt296.1, bt280.1, bt280.2.1, bt280.2.2.1, bt280.2.2.2.1)))))
def impl_isIn.f (a0 : Int) (a1 : Int) (a2 : Int) : Option (Bool) := if a1 ≤ a0 then (some (decide (a0 ≤ a2))) else (some false)
def strings_Split.f (a0 : ByteArray) (a1 : ByteArray) : Option (List ByteArray) := if a0.size < 4294967281 ∧ 1 ≤ a1.size then some (Lib.splitB a1 0 (Lib.countB a0 a1) a0) else none
def strings_Cut.f (a0 : ByteArray) (a1 : ByteArray) : Option (ByteArray × ByteArray × Bool) := if a0.size < 4294967281 then some (⟨(Lib.cut a0.data.toList a1.data.toList).1.toArray⟩, ⟨(Lib.cut a0.data.toList a1.data.toList).2.1.toArray⟩, (Lib.cut a0.data.toList a1.data.toList).2.2) else none
def strings_SplitN.f (a0 : ByteArray) (a1 : ByteArray) (a2 : Int) : Option (List ByteArray) := if a0.size < 4294967281 ∧ 1 ≤ a1.size ∧ 1 ≤ a2 ∧ a2 ≤ 9223372036854775807 then some (Lib.splitB a1 0 (min a2.toNat (a0.size + 1) - 1) a0) else none
mutual
def impl_ParseNum.j0 : Nat → ByteArray → Int → Bool → Option (Int × Bool)
  | 0, _, _, _ => none
  | k + 1, x0, x1, x25 => if x25 = true then (some (0, false)) else (impl_ParseNum.l0 k x0 x1 0 (x0.size : Int) 0)
def impl_ParseNum.l0 : Nat → ByteArray → Int → Int → Int → Int → Option (Int × Bool)
  | 0, _, _, _, _, _ => none
  | k + 1, x0, x1, x6, x27, x28 => if x28 < x27 then (if 0 ≤ x28 then (if x28 < (x0.size : Int) then (if (bt x0 x28) < 48 then (some (0, false)) else (if (bt x0 x28) > 57 then (some (0, false)) else (impl_ParseNum.l0 k x0 x1 (wrap64 ((wrap64 (10 * x6)) + (((bt x0 x28) - 48) % 256))) x27 (wrap64 (x28 + 1))))) else (none)) else (none)) else (if x6 > x1 then (some (0, false)) else (some (x6, true)))
end
def impl_ParseNum.f (k : Nat) (a0 : ByteArray) (a1 : Int) : Option (Int × Bool) := if a1 > 65535 then (impl_ParseNum.j0 k a0 a1 true) else ((impl_isIn.f (a0.size : Int) 1 5).bind fun t299 => (if t299 = true then (if (a0.size : Int) > 1 then (if 0 < (a0.size : Int) then (impl_ParseNum.j0 k a0 a1 ((bt a0 0) == 48)) else (none)) else (impl_ParseNum.j0 k a0 a1 false)) else (impl_ParseNum.j0 k a0 a1 true)))
def impl_nameOk.l0 : Nat → ByteArray → Int → Int → Option (Bool)
  | 0, _, _, _ => none
  | k + 1, x0, x5, x6 => if x6 < x5 then (if 0 ≤ x6 then (if x6 < (x0.size : Int) then (if (bt x0 x6) < 97 then (some false) else (if (bt x0 x6) > 122 then (some false) else (impl_nameOk.l0 k x0 x5 (wrap64 (x6 + 1))))) else (none)) else (none)) else ((impl_isIn.f (x0.size : Int) 1 8).bind fun t300 => (some t300))
def impl_nameOk.f (k : Nat) (a0 : ByteArray) : Option (Bool) := impl_nameOk.l0 k a0 (a0.size : Int) 0
def impl_dbPlace.l0 (l : List S138) (name : ByteArray) : Int → Int
  | i => match l with
    | [] => -1
    | x :: xs => if x.f0.toList = name.toList then i else impl_dbPlace.l0 xs name (i + 1)
def impl_dbPlace.f (l0 : List S138) (a1 : ByteArray) : Option (Int) := some (impl_dbPlace.l0 l0 a1 0)
def impl_ConfOk.l0 : Nat → List (S138) → List (S138) → Int → Int → Option (Bool)
  | 0, _, _, _, _ => none
  | k + 1, x0, x5, x6, x7 => if x7 < x6 then (if 0 ≤ x7 then (if x7 < (x5.length : Int) then ((impl_nameOk.f k ((rd_T138 x5 x7).f0)).bind fun t304 => (if t304 = true then ((impl_dbPlace.f x0 ((rd_T138 x5 x7).f0)).bind fun t305 => (if t305 = x7 then ((impl_isIn.f ((rd_T138 x5 x7).f1) 1 3).bind fun t306 => (if t306 = true then ((impl_isIn.f ((rd_T138 x5 x7).f2) 0 4).bind fun t307 => (if t307 = true then ((impl_isIn.f ((rd_T138 x5 x7).f3) 1 20).bind fun t308 => (if t308 = true then ((impl_isIn.f ((rd_T138 x5 x7).f4) 1 20).bind fun t309 => (if t309 = true then (impl_ConfOk.l0 k x0 x5 x6 (wrap64 (x7 + 1))) else (some false))) else (some false))) else (some false))) else (some false))) else (some false))) else (some false))) else (none)) else (none)) else ((impl_isIn.f (x0.length : Int) 1 3).bind fun t301 => (some t301))
def impl_ConfOk.f (k : Nat) (l0 : List (S138)) : Option (Bool) := impl_ConfOk.l0 k l0 l0 (l0.length : Int) 0
def strconv_Itoa_152.f (a0 : Int) : Option (ByteArray) := if -9223372036854775808 ≤ a0 ∧ a0 ≤ 9223372036854775807 then some ⟨(Lib.itoa a0).toArray⟩ else none
def impl_NumText.f (a0 : Int) : Option (ByteArray) := (strconv_Itoa_152.f a0).bind fun t310 => (some t310)
def strings_Join.f (l0 : List ByteArray) (a1 : ByteArray) : Option (ByteArray) := if l0.length ≤ 140737488355328 ∧ (Lib.join (l0.map (·.data.toList)) a1.data.toList).length ≤ 140737488355328 then some ⟨(Lib.join (l0.map (·.data.toList)) a1.data.toList).toArray⟩ else none
def impl_ConfText.l0 : Nat → List ByteArray → List (S138) → Int → Int → Option (ByteArray)
  | 0, _, _, _, _ => none
  | k + 1, x3, x10, x11, x12 => if x12 < x11 then (if 0 ≤ x12 then (if x12 < (x10.length : Int) then (if ((rd_T138 x10 x12).f0).size + 1 ≤ 9223372036854775807 then ((impl_NumText.f ((rd_T138 x10 x12).f1)).bind fun t318 => (if (((rd_T138 x10 x12).f0) ++ (⟨#[58]⟩ : ByteArray)).size + t318.size ≤ 9223372036854775807 then (if ((((rd_T138 x10 x12).f0) ++ (⟨#[58]⟩ : ByteArray)) ++ t318).size + 1 ≤ 9223372036854775807 then ((impl_NumText.f ((rd_T138 x10 x12).f2)).bind fun t319 => (if (((((rd_T138 x10 x12).f0) ++ (⟨#[58]⟩ : ByteArray)) ++ t318) ++ (⟨#[47]⟩ : ByteArray)).size + t319.size ≤ 9223372036854775807 then (if ((((((rd_T138 x10 x12).f0) ++ (⟨#[58]⟩ : ByteArray)) ++ t318) ++ (⟨#[47]⟩ : ByteArray)) ++ t319).size + 1 ≤ 9223372036854775807 then ((impl_NumText.f ((rd_T138 x10 x12).f3)).bind fun t320 => (if (((((((rd_T138 x10 x12).f0) ++ (⟨#[58]⟩ : ByteArray)) ++ t318) ++ (⟨#[47]⟩ : ByteArray)) ++ t319) ++ (⟨#[47]⟩ : ByteArray)).size + t320.size ≤ 9223372036854775807 then (if ((((((((rd_T138 x10 x12).f0) ++ (⟨#[58]⟩ : ByteArray)) ++ t318) ++ (⟨#[47]⟩ : ByteArray)) ++ t319) ++ (⟨#[47]⟩ : ByteArray)) ++ t320).size + 1 ≤ 9223372036854775807 then ((impl_NumText.f ((rd_T138 x10 x12).f4)).bind fun t321 => (if (((((((((rd_T138 x10 x12).f0) ++ (⟨#[58]⟩ : ByteArray)) ++ t318) ++ (⟨#[47]⟩ : ByteArray)) ++ t319) ++ (⟨#[47]⟩ : ByteArray)) ++ t320) ++ (⟨#[47]⟩ : ByteArray)).size + t321.size ≤ 9223372036854775807 then (if x3.length < 8796093022208 then (impl_ConfText.l0 k (x3 ++ [(((((((((rd_T138 x10 x12).f0) ++ (⟨#[58]⟩ : ByteArray)) ++ t318) ++ (⟨#[47]⟩ : ByteArray)) ++ t319) ++ (⟨#[47]⟩ : ByteArray)) ++ t320) ++ (⟨#[47]⟩ : ByteArray)) ++ t321]) x10 x11 (wrap64 (x12 + 1))) else (none)) else (none))) else (none)) else (none))) else (none)) else (none))) else (none)) else (none))) else (none)) else (none)) else (none)) else ((strings_Join.f x3 (⟨#[59]⟩ : ByteArray)).bind fun t315 => (some t315))
def impl_ConfText.f (k : Nat) (l0 : List (S138)) : Option (ByteArray) := (impl_ConfOk.f k l0).bind fun t311 => (if t311 = true then (impl_ConfText.l0 k (([] : List ByteArray)) l0 (l0.length : Int) 0) else (some (⟨#[]⟩ : ByteArray)))
mutual
def impl_ParseConf.l0 : Nat → ByteArray → List (S138) → List ByteArray → Int → Int → Option ((List (S138)) × Bool)
  | 0, _, _, _, _, _ => none
  | k + 1, x0, x4, x15, x16, x17 => if x17 < x16 then (if 0 ≤ x17 then (if x17 < (x15.length : Int) then ((strings_Cut.f (rdOf ByteArray.empty x15 x17) (⟨#[58]⟩ : ByteArray)).bind fun bt339 => ((strings_SplitN.f bt339.2.1 (⟨#[47]⟩ : ByteArray) 4).bind fun t343 => (impl_ParseConf.l1 k x0 x4 bt339.1 x15 x16 x17 t343 (t343.length : Int) 0 0 0 0 0))) else (none)) else (none)) else (if x0.toList = ([] : List UInt8) then (some ((([] : List (S138))), false)) else ((impl_ConfText.f k x4).bind fun t334 => (if t334.toList = x0.toList then (some (x4, true)) else (some ((([] : List (S138))), false)))))
def impl_ParseConf.l1 : Nat → ByteArray → List (S138) → ByteArray → List ByteArray → Int → Int → List ByteArray → Int → Int → Int → Int → Int → Int → Option ((List (S138)) × Bool)
  | 0, _, _, _, _, _, _, _, _, _, _, _, _, _ => none
  | k + 1, x0, x4, x7, x15, x16, x17, x29, x30, x31, x343000, x343001, x343002, x343003 => if x31 < x30 then (if 0 ≤ x31 then (if x31 < (x29.length : Int) then ((impl_ParseNum.f k (rdOf ByteArray.empty x29 x31) 20).bind fun bt347 => (if x31 < 4 then (if x31 = 0 then (impl_ParseConf.l1 k x0 x4 x7 x15 x16 x17 x29 x30 (wrap64 (x31 + 1)) bt347.1 x343001 x343002 x343003) else (if x31 = 1 then (impl_ParseConf.l1 k x0 x4 x7 x15 x16 x17 x29 x30 (wrap64 (x31 + 1)) x343000 bt347.1 x343002 x343003) else (if x31 = 2 then (impl_ParseConf.l1 k x0 x4 x7 x15 x16 x17 x29 x30 (wrap64 (x31 + 1)) x343000 x343001 bt347.1 x343003) else (if x31 = 3 then (impl_ParseConf.l1 k x0 x4 x7 x15 x16 x17 x29 x30 (wrap64 (x31 + 1)) x343000 x343001 x343002 bt347.1) else (none))))) else (none))) else (none)) else (none)) else (if x4.length < 2932031007402 then (impl_ParseConf.l0 k x0 (x4 ++ [(⟨x7, x343000, x343001, x343002, x343003⟩ : S138)]) x15 x16 (wrap64 (x17 + 1))) else (none))
end
def impl_ParseConf.f (k : Nat) (a0 : ByteArray) : Option ((List (S138)) × Bool) := (strings_Split.f a0 (⟨#[59]⟩ : ByteArray)).bind fun t328 => (impl_ParseConf.l0 k a0 (([] : List (S138))) t328 (t328.length : Int) 0)
def impl_confOk.f (k : Nat) (a0 : ByteArray) : Option (Bool) := (impl_ParseConf.f k a0).bind fun bt352 => (some bt352.2)
def impl_RecOk.f (k : Nat) (a0_0 : Int) (a0_1 : Int) (a0_2 : Int) (a0_3 : ByteArray) : Option (Bool) := (impl_isIn.f a0_1 1 60000).bind fun t357 => (if t357 = true then (if a0_0 = 1 then (if a0_2 = 0 then ((impl_confOk.f k a0_3).bind fun t358 => (some t358)) else (some false)) else (if a0_0 = 2 then (if a0_2 = 0 then (some (a0_3.toList == ([] : List UInt8))) else (some false)) else (if a0_0 = 3 then ((impl_isIn.f a0_2 0 1).bind fun t359 => (if t359 = true then (some (a0_3.toList == ([] : List UInt8))) else (some false))) else (some false)))) else (some false))
def impl_wordOk.f (a0 : Int) : Option (Bool) := (impl_isIn.f a0 0 65535).bind fun t360 => (some t360)
def slices_Clone_byte_byte.f (l0 : List Int) : Option (List Int) := (some (([] : List Int) : List Int)).bind fun y361 => (if y361.length + l0.length < 140737488355328 then (some (y361 ++ l0)) else (none))
def impl_PutWord.f (l0 : List Int) (a1 : Int) : Option (List Int) := (slices_Clone_byte_byte.f l0).bind fun t367 => ((some (([(a1 / 256) % 256, (a1) % 256] : List Int) : List Int)).bind fun y370 => (if t367.length + y370.length < 140737488355328 then (some (t367 ++ y370)) else (none)))
def impl_TextOk.l0 : Nat → ByteArray → Int → Int → Option (Bool)
  | 0, _, _, _ => none
  | k + 1, x0, x5, x6 => if x6 < x5 then (if 0 ≤ x6 then (if x6 < (x0.size : Int) then (if (bt x0 x6) < 32 then (some false) else (if (bt x0 x6) > 126 then (some false) else (impl_TextOk.l0 k x0 x5 (wrap64 (x6 + 1))))) else (none)) else (none)) else (some (decide ((x0.size : Int) ≤ 100)))
def impl_TextOk.f (k : Nat) (a0 : ByteArray) : Option (Bool) := impl_TextOk.l0 k a0 (a0.size : Int) 0
def impl_PutText.f (k : Nat) (l0 : List Int) (a1 : ByteArray) : Option (List Int) := (slices_Clone_byte_byte.f l0).bind fun t376 => ((impl_TextOk.f k a1).bind fun t379 => (if t379 = true then (if t376.length < 140737488355328 then ((some (t376 ++ [((a1.size : Int)) % 256] : List Int)).bind fun y380 => (if y380.length + a1.size < 140737488355328 then (some (y380 ++ bytesOf a1)) else (none))) else (none)) else (some t376)))
mutual
def impl_Sum.l0 : Nat → Int → List Int → Int → Int → Option (Int)
  | 0, _, _, _, _ => none
  | k + 1, x3, x6, x7, x8 => if x8 < x7 then (if 0 ≤ x8 then (if x8 < (x6.length : Int) then (impl_Sum.l1 k (Go.bits .xor .i64 x3 (wrap64 (256 * (wrap64 (rd x6 x8))))) x6 x7 x8 0) else (none)) else (none)) else (some (Go.bits .and .i64 x3 65535))
def impl_Sum.l1 : Nat → Int → List Int → Int → Int → Int → Option (Int)
  | 0, _, _, _, _, _ => none
  | k + 1, x3, x6, x7, x8, x17 => if x17 < 8 then (if (wrap64 (x3 * 2)) > 65535 then (impl_Sum.l1 k (Go.bits .xor .i64 (wrap64 (x3 * 2)) 69665) x6 x7 x8 (wrap64 (x17 + 1))) else (impl_Sum.l1 k (wrap64 (x3 * 2)) x6 x7 x8 (wrap64 (x17 + 1)))) else (impl_Sum.l0 k x3 x6 x7 (wrap64 (x8 + 1)))
end
def impl_Sum.f (k : Nat) (l0 : List Int) : Option (Int) := impl_Sum.l0 k 65535 l0 (l0.length : Int) 0
def impl_PutRec.j0 : Nat → Int → Int → Bool → Int → Int → Int → ByteArray → Option (List Int)
  | 0, _, _, _, _, _, _, _ => none
  | k + 1, x0, x1, x20, x388000, x388001, x388002, x388003 => if x20 = true then (some (([] : List Int))) else ((impl_PutWord.f ([] : List Int) x0).bind fun t394 => ((impl_PutWord.f t394 x1).bind fun t397 => ((some (([(x388000) % 256] : List Int) : List Int)).bind fun y400 => (if t397.length + y400.length < 140737488355328 then ((impl_PutWord.f (t397 ++ y400) x388001).bind fun t406 => ((some (([(x388002) % 256] : List Int) : List Int)).bind fun y409 => (if t406.length + y409.length < 140737488355328 then ((impl_PutText.f k (t406 ++ y409) x388003).bind fun t415 => ((impl_Sum.f k t415).bind fun t418 => ((impl_PutWord.f t415 t418).bind fun t419 => (some t419)))) else (none)))) else (none)))))
def impl_PutRec.f (k : Nat) (a0 : Int) (a1 : Int) (a2_0 : Int) (a2_1 : Int) (a2_2 : Int) (a2_3 : ByteArray) : Option (List Int) := (impl_RecOk.f k a2_0 a2_1 a2_2 a2_3).bind fun t388 => (if t388 = true then ((impl_wordOk.f a0).bind fun t389 => (if t389 = true then ((impl_wordOk.f a1).bind fun t390 => (impl_PutRec.j0 k a0 a1 (!t390) a2_0 a2_1 a2_2 a2_3)) else (impl_PutRec.j0 k a0 a1 true a2_0 a2_1 a2_2 a2_3))) else (impl_PutRec.j0 k a0 a1 true a2_0 a2_1 a2_2 a2_3))
def spec_l3Split.l0 : Nat → ByteArray → Int → List ByteArray → Int → Int → Option (List ByteArray)
  | 0, _, _, _, _, _ => none
  | k + 1, x0, x1, x5, x6, x7 => if x7 ≤ (x0.size : Int) then (if x7 = (x0.size : Int) then (if 0 ≤ x6 then (if x6 ≤ x7 then (if x5.length < 8796093022208 then (spec_l3Split.l0 k x0 x1 (x5 ++ [x0.extract (x6 : Int).toNat (x7 : Int).toNat]) (wrap64 (x7 + 1)) (wrap64 (x7 + 1))) else (none)) else (none)) else (none)) else (if 0 ≤ x7 then (if x7 < (x0.size : Int) then (if (bt x0 x7) = x1 then (if 0 ≤ x6 then (if x6 ≤ x7 then (if x5.length < 8796093022208 then (spec_l3Split.l0 k x0 x1 (x5 ++ [x0.extract (x6 : Int).toNat (x7 : Int).toNat]) (wrap64 (x7 + 1)) (wrap64 (x7 + 1))) else (none)) else (none)) else (none)) else (spec_l3Split.l0 k x0 x1 x5 x6 (wrap64 (x7 + 1)))) else (none)) else (none))) else (some x5)
def spec_l3Split.f (k : Nat) (a0 : ByteArray) (a1 : Int) : Option (List ByteArray) := spec_l3Split.l0 k a0 a1 (([] : List ByteArray)) 0 0
mutual
def spec_ParseNum.j0 : Nat → ByteArray → Int → Bool → Option (Int × Bool)
  | 0, _, _, _ => none
  | k + 1, x0, x1, x29 => if x29 = true then (some (0, false)) else (spec_ParseNum.l0 k x0 x1 0 0)
def spec_ParseNum.l0 : Nat → ByteArray → Int → Int → Int → Option (Int × Bool)
  | 0, _, _, _, _ => none
  | k + 1, x0, x1, x6, x7 => if x7 < (x0.size : Int) then (if 0 ≤ x7 then ((spec_l1In.f (wrap64 (bt x0 x7)) 48 57).bind fun t431 => (if t431 = true then (spec_ParseNum.l0 k x0 x1 (wrap64 ((wrap64 (10 * x6)) + (((bt x0 x7) - 48) % 256))) (wrap64 (x7 + 1))) else (some (0, false)))) else (none)) else (if x6 > x1 then (some (0, false)) else (some (x6, true)))
end
def spec_ParseNum.f (k : Nat) (a0 : ByteArray) (a1 : Int) : Option (Int × Bool) := if (a0.size : Int) = 0 then (spec_ParseNum.j0 k a0 a1 true) else (if (a0.size : Int) > 5 then (spec_ParseNum.j0 k a0 a1 true) else (if (a0.size : Int) > 1 then (if 0 < (a0.size : Int) then (if (bt a0 0) = 48 then (spec_ParseNum.j0 k a0 a1 true) else (spec_ParseNum.j0 k a0 a1 (decide (a1 > 65535)))) else (none)) else (spec_ParseNum.j0 k a0 a1 (decide (a1 > 65535)))))
mutual
def spec_ParseConf.l0 : Nat → List ByteArray → List (S138) → Int → Option ((List (S138)) × Bool)
  | 0, _, _, _ => none
  | k + 1, x4, x5, x6 => if x6 < (x4.length : Int) then (if 0 ≤ x6 then ((spec_l3Split.f k (rdOf ByteArray.empty x4 x6) 58).bind fun t446 => (if (t446.length : Int) = 2 then (if 1 < (t446.length : Int) then ((spec_l3Split.f k (rdOf ByteArray.empty t446 1) 47).bind fun t453 => (if (t453.length : Int) = 4 then (spec_ParseConf.l1 k x4 x5 x6 t446 t453 (([0, 0, 0, 0] : List Int)) 0) else (some ((([] : List (S138))), false)))) else (none)) else (some ((([] : List (S138))), false)))) else (none)) else ((spec_ConfOk.f k x5).bind fun t441 => (if t441 = true then (some (x5, true)) else (some ((([] : List (S138))), false))))
def spec_ParseConf.l1 : Nat → List ByteArray → List (S138) → Int → List ByteArray → List ByteArray → List Int → Int → Option ((List (S138)) × Bool)
  | 0, _, _, _, _, _, _, _ => none
  | k + 1, x4, x5, x6, x7, x8, x9, x10 => if x10 < 4 then (if 0 ≤ x10 then (if x10 < (x8.length : Int) then ((spec_ParseNum.f k (rdOf ByteArray.empty x8 x10) 99).bind fun bt463 => (if bt463.2 = true then (if x10 < (x9.length : Int) then (spec_ParseConf.l1 k x4 x5 x6 x7 x8 (x9.set (x10 : Int).toNat bt463.1) (wrap64 (x10 + 1))) else (none)) else (some ((([] : List (S138))), false)))) else (none)) else (none)) else (if 0 < (x7.length : Int) then (if 0 < (x9.length : Int) then (if 1 < (x9.length : Int) then (if 2 < (x9.length : Int) then (if 3 < (x9.length : Int) then (if x5.length < 2932031007402 then (spec_ParseConf.l0 k x4 (x5 ++ [(⟨rdOf ByteArray.empty x7 0, rd x9 0, rd x9 1, rd x9 2, rd x9 3⟩ : S138)]) (wrap64 (x6 + 1))) else (none)) else (none)) else (none)) else (none)) else (none)) else (none))
end
def spec_ParseConf.f (k : Nat) (a0 : ByteArray) : Option ((List (S138)) × Bool) := if (a0.size : Int) > 100 then (some ((([] : List (S138))), false)) else ((spec_l3Split.f k a0 59).bind fun t435 => (spec_ParseConf.l0 k t435 (([] : List (S138))) 0))
def spec_l4Text.f (k : Nat) (a0 : ByteArray) : Option (Bool) := (spec_ParseConf.f k a0).bind fun bt477 => (some bt477.2)
def spec_RecOk.f (k : Nat) (a0_0 : Int) (a0_1 : Int) (a0_2 : Int) (a0_3 : ByteArray) : Option (Bool) := (spec_l1In.f a0_1 1 60000).bind fun t482 => (if t482 = true then (if a0_0 = 1 then (if a0_2 = 0 then ((spec_l4Text.f k a0_3).bind fun t483 => (some t483)) else (some false)) else (if a0_0 = 2 then (if a0_2 = 0 then (some (a0_3.toList == ([] : List UInt8))) else (some false)) else (if a0_0 = 3 then ((spec_l1In.f a0_2 0 1).bind fun t484 => (if t484 = true then (some (a0_3.toList == ([] : List UInt8))) else (some false))) else (some false)))) else (some false))
def spec_PutWord.f (l0 : List Int) (a1 : Int) : Option (List Int) := (some (([] : List Int) : List Int)).bind fun y485 => (if y485.length + l0.length < 140737488355328 then ((some (y485 ++ l0 : List Int)).bind fun y488 => ((some (([(Go.bits .and .i64 (a1 / 256) 255) % 256, (Go.bits .and .i64 a1 255) % 256] : List Int) : List Int)).bind fun y491 => (if y488.length + y491.length < 140737488355328 then (some (y488 ++ y491)) else (none)))) else (none))
mutual
def spec_Sum.l0 : Nat → List Int → Int → Int → Option (Int)
  | 0, _, _, _ => none
  | k + 1, x0, x3, x4 => if x4 < (x0.length : Int) then (if 0 ≤ x4 then (spec_Sum.l1 k x0 (Go.bits .xor .i64 x3 (wrap64 ((wrap64 (rd x0 x4)) * 256))) x4 0) else (none)) else (some (Go.bits .and .i64 x3 65535))
def spec_Sum.l1 : Nat → List Int → Int → Int → Int → Option (Int)
  | 0, _, _, _, _ => none
  | k + 1, x0, x3, x4, x5 => if x5 < 8 then (if (wrap64 (x3 * 2)) > 65535 then (spec_Sum.l1 k x0 (Go.bits .xor .i64 (wrap64 (x3 * 2)) 69665) x4 (wrap64 (x5 + 1))) else (spec_Sum.l1 k x0 (wrap64 (x3 * 2)) x4 (wrap64 (x5 + 1)))) else (spec_Sum.l0 k x0 x3 (wrap64 (x4 + 1)))
end
def spec_Sum.f (k : Nat) (l0 : List Int) : Option (Int) := spec_Sum.l0 k l0 65535 0
def spec_l4Word.f (a0 : Int) : Option (Bool) := (spec_l1In.f a0 0 65535).bind fun t498 => (some t498)
mutual
def spec_TextOk.l0 : Nat → ByteArray → Int → Option (Bool)
  | 0, _, _ => none
  | k + 1, x0, x3 => if x3 < (x0.size : Int) then (spec_TextOk.j1 k x0 x3 (decide (x3 ≤ 100))) else (spec_TextOk.j1 k x0 x3 false)
def spec_TextOk.j1 : Nat → ByteArray → Int → Bool → Option (Bool)
  | 0, _, _, _ => none
  | k + 1, x0, x3, x11 => if x11 = true then (if 0 ≤ x3 then (if x3 < (x0.size : Int) then (if (bt x0 x3) < 32 then (some false) else (if (bt x0 x3) > 126 then (some false) else (spec_TextOk.l0 k x0 (wrap64 (x3 + 1))))) else (none)) else (none)) else (some (decide ((x0.size : Int) ≤ 100)))
end
def spec_TextOk.f (k : Nat) (a0 : ByteArray) : Option (Bool) := spec_TextOk.l0 k a0 0
def spec_PutText.f (k : Nat) (l0 : List Int) (a1 : ByteArray) : Option (List Int) := (some (([] : List Int) : List Int)).bind fun y499 => (if y499.length + l0.length < 140737488355328 then ((some (y499 ++ l0 : List Int)).bind fun y502 => ((spec_TextOk.f k a1).bind fun t505 => (if t505 = true then (if y502.length < 140737488355328 then ((some (y502 ++ [((a1.size : Int)) % 256] : List Int)).bind fun y506 => (if y506.length + a1.size < 140737488355328 then (some (y506 ++ bytesOf a1)) else (none))) else (none)) else (some y502)))) else (none))
def spec_PutRec.j0 : Nat → Int → Int → Bool → Int → Int → Int → ByteArray → Option (List Int)
  | 0, _, _, _, _, _, _, _ => none
  | k + 1, x0, x1, x20, x513000, x513001, x513002, x513003 => if x20 = true then (some (([] : List Int))) else ((spec_PutWord.f (([] : List Int)) x0).bind fun t522 => ((spec_PutWord.f t522 x1).bind fun t525 => ((some (([(x513000) % 256] : List Int) : List Int)).bind fun y528 => (if t525.length + y528.length < 140737488355328 then ((spec_PutWord.f (t525 ++ y528) x513001).bind fun t534 => ((some (([(x513002) % 256] : List Int) : List Int)).bind fun y537 => (if t534.length + y537.length < 140737488355328 then ((spec_PutText.f k (t534 ++ y537) x513003).bind fun t543 => ((spec_Sum.f k t543).bind fun t546 => ((spec_PutWord.f t543 t546).bind fun t547 => (some t547)))) else (none)))) else (none)))))
def spec_PutRec.f (k : Nat) (a0 : Int) (a1 : Int) (a2_0 : Int) (a2_1 : Int) (a2_2 : Int) (a2_3 : ByteArray) : Option (List Int) := (spec_RecOk.f k a2_0 a2_1 a2_2 a2_3).bind fun t513 => (if t513 = true then ((spec_l4Word.f a0).bind fun t514 => (if t514 = true then ((spec_l4Word.f a1).bind fun t515 => (spec_PutRec.j0 k a0 a1 (!t515) a2_0 a2_1 a2_2 a2_3)) else (spec_PutRec.j0 k a0 a1 true a2_0 a2_1 a2_2 a2_3))) else (spec_PutRec.j0 k a0 a1 true a2_0 a2_1 a2_2 a2_3))
def spec_l1Bend.f (s0_0 : List Int) (s0_1 : Int) (s0_2 : Int) (l1 : List Int) : Option (List Int × Int × Int) := (some (([] : List Int) : List Int)).bind fun y550 => (if y550.length + l1.length < 140737488355328 then ((some (y550 ++ l1 : List Int)).bind fun y553 => ((spec_l1Below.f s0_0 s0_1 s0_2 8).bind fun bt556 => (if bt556.1 = 0 then (if (y553.length : Int) > 0 then ((spec_l1Below.f s0_0 bt556.2.1 bt556.2.2 (y553.length : Int)).bind fun bt559 => (if 0 ≤ bt559.1 then (if bt559.1 < (y553.length : Int) then ((spec_l1Below.f s0_0 bt559.2.1 bt559.2.2 255).bind fun bt563 => (some ((y553.set (bt559.1 : Int).toNat (Go.bits .xor .u8 (rd y553 bt559.1) ((wrap64 (1 + bt563.1)) % 256))), bt563.2.1, bt563.2.2))) else (none)) else (none))) else (some (y553, bt556.2.1, bt556.2.2))) else (if bt556.1 = 1 then (if (y553.length : Int) > 0 then ((spec_l1Below.f s0_0 bt556.2.1 bt556.2.2 (y553.length : Int)).bind fun bt567 => (if 0 ≤ bt567.1 then (if bt567.1 ≤ (y553.length : Int) then (some ((y553.take (bt567.1 : Int).toNat), bt567.2.1, bt567.2.2)) else (none)) else (none))) else (some (y553, bt556.2.1, bt556.2.2))) else (if bt556.1 = 2 then ((spec_l1Byte.f s0_0 bt556.2.1 bt556.2.2).bind fun bt573 => (if y553.length < 140737488355328 then (some ((y553 ++ [(bt573.1) % 256]), bt573.2.1, bt573.2.2)) else (none))) else (some (y553, bt556.2.1, bt556.2.2))))))) else (none))
def spec_DrawGetRec.j0 : Nat → List Int → Bool → List Int → Int → Int → Option (List Int)
  | 0, _, _, _, _, _ => none
  | k + 1, x4, x21, x583000, x583001, x583002 => if x21 = true then ((some (([] : List Int) : List Int)).bind fun y601 => (if 0 ≤ (wrap64 ((x4.length : Int) - 2)) then (if (wrap64 ((x4.length : Int) - 2)) ≤ (x4.length : Int) then ((some (x4.take ((wrap64 ((x4.length : Int) - 2)) : Int).toNat : List Int)).bind fun y604 => (if y601.length + y604.length < 140737488355328 then ((some (y601 ++ y604 : List Int)).bind fun y608 => ((spec_l1Below.f x583000 x583001 x583002 4).bind fun bt611 => ((spec_l1Below.f x583000 bt611.2.1 bt611.2.2 5).bind fun bt614 => (if 0 ≤ (wrap64 (4 + bt611.1)) then (if (wrap64 (4 + bt611.1)) < (y608.length : Int) then ((some (y608.set ((wrap64 (4 + bt611.1)) : Int).toNat ((bt614.1) % 256) : List Int)).bind fun y617 => ((spec_Sum.f k y617).bind fun t618 => ((spec_PutWord.f y617 t618).bind fun t619 => (some t619)))) else (none)) else (none))))) else (none))) else (none)) else (none))) else ((spec_l1Bend.f x583000 x583001 x583002 x4).bind fun bt622 => (some bt622.1))
def spec_DrawGetRec.f (k : Nat) (l0 : List Int) : Option (List Int) := (spec_l1New.f k l0).bind fun bt579 => ((spec_l1Below.f bt579.1 bt579.2.1 bt579.2.2 9).bind fun bt583 => ((spec_l1Below.f bt579.1 bt583.2.1 bt583.2.2 16).bind fun bt586 => ((spec_l4Draw.f k bt579.1 bt586.2.1 bt586.2.2).bind fun bt589 => ((spec_PutRec.f k bt583.1 bt586.1 bt589.1 bt589.2.1 bt589.2.2.1 bt589.2.2.2.1).bind fun t595 => ((spec_l1Once.f bt579.1 bt589.2.2.2.2.1 bt589.2.2.2.2.2 4).bind fun bt598 => (if bt598.1 = true then (spec_DrawGetRec.j0 k t595 (decide ((t595.length : Int) > 11)) bt579.1 bt598.2.1 bt598.2.2) else (spec_DrawGetRec.j0 k t595 false bt579.1 bt598.2.1 bt598.2.2)))))))
def impl_GetWord.f (l0 : List Int) (a1 : Int) : Option (Int × Int × Bool) := (impl_isIn.f a1 0 (wrap64 ((l0.length : Int) - 2))).bind fun t627 => (if t627 = true then (if 0 ≤ a1 then (if a1 < (l0.length : Int) then (if 0 ≤ (wrap64 (a1 + 1)) then (if (wrap64 (a1 + 1)) < (l0.length : Int) then (some (Go.bits .or .i64 (wrap64 ((wrap64 (rd l0 a1)) * 256)) (wrap64 (rd l0 (wrap64 (a1 + 1)))), wrap64 (a1 + 2), true)) else (none)) else (none)) else (none)) else (none)) else (some (0, 0, false)))
def impl_GetText.j0 : Nat → List Int → Int → Bool → Option (ByteArray × Int × Bool)
  | 0, _, _, _ => none
  | k + 1, x0, x1, x27 => if x27 = true then (some ((⟨#[]⟩ : ByteArray), 0, false)) else (if 0 ≤ x1 then (if x1 < (x0.length : Int) then (if 0 ≤ (wrap64 (x1 + 1)) then (if (wrap64 (x1 + 1)) ≤ (wrap64 ((wrap64 (x1 + 1)) + (wrap64 (rd x0 x1)))) then (if (wrap64 ((wrap64 (x1 + 1)) + (wrap64 (rd x0 x1)))) ≤ (x0.length : Int) then ((impl_TextOk.f k (strOfNums ((x0.take ((wrap64 ((wrap64 (x1 + 1)) + (wrap64 (rd x0 x1)))) : Int).toNat).drop ((wrap64 (x1 + 1)) : Int).toNat))).bind fun t634 => (if t634 = true then (some (strOfNums ((x0.take ((wrap64 ((wrap64 (x1 + 1)) + (wrap64 (rd x0 x1)))) : Int).toNat).drop ((wrap64 (x1 + 1)) : Int).toNat), wrap64 ((wrap64 (x1 + 1)) + (wrap64 (rd x0 x1))), true)) else (some ((⟨#[]⟩ : ByteArray), 0, false)))) else (none)) else (none)) else (none)) else (none)) else (none))
def impl_GetText.f (k : Nat) (l0 : List Int) (a1 : Int) : Option (ByteArray × Int × Bool) := (impl_isIn.f a1 0 (wrap64 ((l0.length : Int) - 1))).bind fun t630 => (if t630 = true then (if 0 ≤ a1 then (if a1 < (l0.length : Int) then (impl_GetText.j0 k l0 a1 (decide ((wrap64 (rd l0 a1)) > (wrap64 ((wrap64 ((l0.length : Int) - a1)) - 1))))) else (none)) else (none)) else (impl_GetText.j0 k l0 a1 true))
def bytes_Equal.f (l0 : List Int) (l1 : List Int) : Option (Bool) := some ((strOfNums l0).toList == (strOfNums l1).toList)
def impl_GetRec.f (k : Nat) (l0 : List Int) : Option (Int × Int × Int × Int × Int × ByteArray × Bool) := if (l0.length : Int) < 9 then (some (0, 0, 0, 0, 0, (⟨#[]⟩ : ByteArray), false)) else ((impl_GetWord.f l0 0).bind fun bt636 => ((impl_GetWord.f l0 2).bind fun bt639 => ((impl_GetWord.f l0 5).bind fun bt642 => ((impl_GetText.f k l0 8).bind fun bt645 => (if 4 < (l0.length : Int) then (if 7 < (l0.length : Int) then ((impl_PutRec.f k bt636.1 bt639.1 (wrap64 (rd l0 4)) bt642.1 (wrap64 (rd l0 7)) bt645.1).bind fun t651 => ((bytes_Equal.f t651 l0).bind fun t654 => (if t654 = true then (some (bt636.1, bt639.1, wrap64 (rd l0 4), bt642.1, wrap64 (rd l0 7), bt645.1, true)) else (some (0, 0, 0, 0, 0, (⟨#[]⟩ : ByteArray), false))))) else (none)) else (none))))))
def spec_GetWord.f (l0 : List Int) (a1 : Int) : Option (Int × Int × Bool) := if a1 < 0 then (some (0, 0, false)) else (if a1 > (wrap64 ((l0.length : Int) - 2)) then (some (0, 0, false)) else (if 0 ≤ a1 then (if a1 < (l0.length : Int) then (if 0 ≤ (wrap64 (a1 + 1)) then (if (wrap64 (a1 + 1)) < (l0.length : Int) then (some (wrap64 ((wrap64 ((wrap64 (rd l0 a1)) * 256)) + (wrap64 (rd l0 (wrap64 (a1 + 1))))), wrap64 (a1 + 2), true)) else (none)) else (none)) else (none)) else (none)))
def spec_GetText.j0 : Nat → List Int → Int → Bool → Option (ByteArray × Int × Bool)
  | 0, _, _, _ => none
  | k + 1, x0, x1, x15 => if x15 = true then (some ((⟨#[]⟩ : ByteArray), 0, false)) else (if 0 ≤ x1 then (if x1 < (x0.length : Int) then (if (wrap64 (rd x0 x1)) > (wrap64 ((wrap64 ((x0.length : Int) - x1)) - 1)) then (some ((⟨#[]⟩ : ByteArray), 0, false)) else (if 0 ≤ (wrap64 (x1 + 1)) then (if (wrap64 (x1 + 1)) ≤ (wrap64 ((wrap64 (x1 + 1)) + (wrap64 (rd x0 x1)))) then (if (wrap64 ((wrap64 (x1 + 1)) + (wrap64 (rd x0 x1)))) ≤ (x0.length : Int) then ((spec_TextOk.f k (strOfNums ((x0.take ((wrap64 ((wrap64 (x1 + 1)) + (wrap64 (rd x0 x1)))) : Int).toNat).drop ((wrap64 (x1 + 1)) : Int).toNat))).bind fun t659 => (if t659 = true then (some (strOfNums ((x0.take ((wrap64 ((wrap64 (x1 + 1)) + (wrap64 (rd x0 x1)))) : Int).toNat).drop ((wrap64 (x1 + 1)) : Int).toNat), wrap64 ((wrap64 (x1 + 1)) + (wrap64 (rd x0 x1))), true)) else (some ((⟨#[]⟩ : ByteArray), 0, false)))) else (none)) else (none)) else (none))) else (none)) else (none))
def spec_GetText.f (k : Nat) (l0 : List Int) (a1 : Int) : Option (ByteArray × Int × Bool) := if a1 < 0 then (spec_GetText.j0 k l0 a1 true) else (spec_GetText.j0 k l0 a1 (decide (a1 ≥ (l0.length : Int))))
def spec_l1Same.f (l0 : List Int) (l1 : List Int) : Option (Bool) := some ((strOfNums l0).toList == (strOfNums l1).toList)
def spec_GetRec.f (k : Nat) (l0 : List Int) : Option (Int × Int × Int × Int × Int × ByteArray × Bool) := if (l0.length : Int) < 11 then (some (0, 0, 0, 0, 0, (⟨#[]⟩ : ByteArray), false)) else ((spec_GetWord.f l0 0).bind fun bt662 => ((spec_GetWord.f l0 2).bind fun bt665 => ((spec_GetWord.f l0 5).bind fun bt668 => ((spec_GetText.f k l0 8).bind fun bt671 => (if 4 < (l0.length : Int) then (if 7 < (l0.length : Int) then (if bt671.2.2 = true then ((spec_RecOk.f k (wrap64 (rd l0 4)) bt668.1 (wrap64 (rd l0 7)) bt671.1).bind fun t677 => (if t677 = true then ((spec_PutRec.f k bt662.1 bt665.1 (wrap64 (rd l0 4)) bt668.1 (wrap64 (rd l0 7)) bt671.1).bind fun t678 => ((spec_l1Same.f t678 l0).bind fun t681 => (if t681 = true then (some (bt662.1, bt665.1, wrap64 (rd l0 4), bt668.1, wrap64 (rd l0 7), bt671.1, true)) else (some (0, 0, 0, 0, 0, (⟨#[]⟩ : ByteArray), false))))) else (some (0, 0, 0, 0, 0, (⟨#[]⟩ : ByteArray), false)))) else (some (0, 0, 0, 0, 0, (⟨#[]⟩ : ByteArray), false))) else (none)) else (none))))))
def laws_same.f (l0 : List Int) (l1 : List Int) : Option (Bool) := some ((strOfNums l0).toList == (strOfNums l1).toList)
def laws_at.f (l0 : List Int) (a1 : Int) : Option (Int) := if a1 < (l0.length : Int) then (if 0 ≤ a1 then (some (wrap64 (rd l0 a1))) else (none)) else (some (Int.tmod (wrap64 ((wrap64 (a1 * 31)) + (wrap64 ((l0.length : Int) * 7)))) 256))
def laws_bent.f (l0 : List Int) (l1 : List Int) : Option (List Int) := (some (([] : List Int) : List Int)).bind fun y683 => (if y683.length + l1.length < 140737488355328 then ((some (y683 ++ l1 : List Int)).bind fun y686 => (if (y686.length : Int) > 0 then ((laws_at.f l0 2).bind fun t689 => ((laws_at.f l0 3).bind fun t690 => (if (y686.length : Int) = 0 then (none) else (if 0 ≤ (Int.tmod (wrap64 ((wrap64 (t689 * 256)) + t690)) (y686.length : Int)) then (if (Int.tmod (wrap64 ((wrap64 (t689 * 256)) + t690)) (y686.length : Int)) < (y686.length : Int) then ((laws_at.f l0 4).bind fun t692 => (some (y686.set ((Int.tmod (wrap64 ((wrap64 (t689 * 256)) + t690)) (y686.length : Int)) : Int).toNat (Go.bits .xor .u8 (rd y686 (Int.tmod (wrap64 ((wrap64 (t689 * 256)) + t690)) (y686.length : Int))) ((wrap64 (1 + (Int.tmod t692 255))) % 256))))) else (none)) else (none))))) else (some y686))) else (none))
mutual
def laws_FnRecs.j0 : Nat → List Int → Int → Int → List Int → Bool → Int → Int → Int → ByteArray → Option (Bool)
  | 0, _, _, _, _, _, _, _, _, _ => none
  | k + 1, x0, x3, x4, x6, x73, x702000, x702001, x702002, x702003 => if x73 = true then (some false) else ((impl_RecOk.f k x702000 x702001 x702002 x702003).bind fun t730 => (if t730 = true then (if x3 < 0 then (laws_FnRecs.j1 k x0 x3 x4 x6 true x702000 x702001 x702002 x702003) else (if x3 > 65535 then (laws_FnRecs.j1 k x0 x3 x4 x6 true x702000 x702001 x702002 x702003) else (if x4 < 0 then (laws_FnRecs.j1 k x0 x3 x4 x6 true x702000 x702001 x702002 x702003) else (laws_FnRecs.j1 k x0 x3 x4 x6 (decide (x4 > 65535)) x702000 x702001 x702002 x702003)))) else (laws_FnRecs.j1 k x0 x3 x4 x6 true x702000 x702001 x702002 x702003)))
def laws_FnRecs.j1 : Nat → List Int → Int → Int → List Int → Bool → Int → Int → Int → ByteArray → Option (Bool)
  | 0, _, _, _, _, _, _, _, _, _ => none
  | k + 1, x0, x3, x4, x6, x92, x702000, x702001, x702002, x702003 => if x92 = true then (some ((x6.length : Int) == 0)) else ((impl_GetRec.f k x6).bind fun bt731 => ((laws_bent.f x0 x6).bind fun t739 => ((impl_GetRec.f k t739).bind fun bt742 => (if bt731.2.2.2.2.2.2 = true then (if bt731.1 = x3 then (if bt731.2.1 = x4 then (if (bt731.2.2.1 == x702000 && (bt731.2.2.2.1 == x702001 && (bt731.2.2.2.2.1 == x702002 && (bt731.2.2.2.2.2.1.toList == x702003.toList)))) = true then (if bt742.2.2.2.2.2.2 = true then (some false) else (some (decide ((x6.length : Int) ≤ 160)))) else (some false)) else (some false)) else (some false)) else (some false)))))
end
def laws_FnRecs.f (k : Nat) (l0 : List Int) : Option (Bool) := (laws_big.f l0).bind fun t694 => (if t694 = true then (some true) else ((spec_DrawPutRec.f k l0).bind fun bt695 => ((impl_PutRec.f k bt695.1 bt695.2.1 bt695.2.2.1 bt695.2.2.2.1 bt695.2.2.2.2.1 bt695.2.2.2.2.2).bind fun t702 => ((spec_DrawGetRec.f k l0).bind fun t705 => ((impl_GetRec.f k t705).bind fun bt708 => ((spec_GetRec.f k t705).bind fun bt716 => ((impl_RecOk.f k bt695.2.2.1 bt695.2.2.2.1 bt695.2.2.2.2.1 bt695.2.2.2.2.2).bind fun t724 => ((spec_RecOk.f k bt695.2.2.1 bt695.2.2.2.1 bt695.2.2.2.2.1 bt695.2.2.2.2.2).bind fun t725 => (if (t724 != t725) = true then (laws_FnRecs.j0 k l0 bt695.1 bt695.2.1 t702 true bt695.2.2.1 bt695.2.2.2.1 bt695.2.2.2.2.1 bt695.2.2.2.2.2) else (if (bt708.2.2.2.2.2.2 != bt716.2.2.2.2.2.2) = true then (laws_FnRecs.j0 k l0 bt695.1 bt695.2.1 t702 true bt695.2.2.1 bt695.2.2.2.1 bt695.2.2.2.2.1 bt695.2.2.2.2.2) else (if bt708.2.2.2.2.2.2 = true then ((impl_PutRec.f k bt708.1 bt708.2.1 bt708.2.2.1 bt708.2.2.2.1 bt708.2.2.2.2.1 bt708.2.2.2.2.2.1).bind fun t726 => ((laws_same.f t726 t705).bind fun t729 => (laws_FnRecs.j0 k l0 bt695.1 bt695.2.1 t702 (!t729) bt695.2.2.1 bt695.2.2.2.1 bt695.2.2.2.2.1 bt695.2.2.2.2.2))) else (laws_FnRecs.j0 k l0 bt695.1 bt695.2.1 t702 false bt695.2.2.1 bt695.2.2.2.1 bt695.2.2.2.2.1 bt695.2.2.2.2.2))))))))))))
def laws_FnRecs.Pure : Prop := ∀ (l0 : List Int), l0.length ≤ maxLen → l0.length * 1 ≤ 140737488351232 → (∀ x ∈ l0, (Lit.int .u8 x).wf = true) → ∃ k, laws_FnRecs.f k l0 = some true
def laws_szByteS.f (l0 : List Int) (a1 : Int) : Option (Int) := if (wrap64 (a1 - (l0.length : Int))) < 0 then (some (-1)) else (some (wrap64 (a1 - (l0.length : Int))))
def laws_szByteSS.l0 : Nat → List (List Int) → Int → Int → Option (Int)
  | 0, _, _, _ => none
  | k + 1, x0, x1, x5 => if x5 < (x0.length : Int) then (if 0 ≤ x5 then ((laws_szByteS.f (rd_L6 x0 x5) x1).bind fun t751 => (if t751 < 0 then (some (-1)) else (laws_szByteSS.l0 k x0 t751 (wrap64 (x5 + 1))))) else (none)) else (some x1)
def laws_szByteSS.f (k : Nat) (l0 : List (List Int)) (a1 : Int) : Option (Int) := if (wrap64 (a1 - (l0.length : Int))) < 0 then (some (-1)) else (laws_szByteSS.l0 k l0 (wrap64 (a1 - (l0.length : Int))) 0)
def laws_szWr.f (a0_0 : Int) (l0_1 : List Int) (a1 : Int) : Option (Int) := (laws_szByteS.f l0_1 a1).bind fun t753 => (if t753 < 0 then (some (-1)) else (some t753))
def laws_szWrS.l0 : Nat → List (S125) → Int → Int → Option (Int)
  | 0, _, _, _ => none
  | k + 1, x0, x1, x5 => if x5 < (x0.length : Int) then (if 0 ≤ x5 then ((laws_szWr.f ((rd_T125 x0 x5).f0) ((rd_T125 x0 x5).f1) x1).bind fun t755 => (if t755 < 0 then (some (-1)) else (laws_szWrS.l0 k x0 t755 (wrap64 (x5 + 1))))) else (none)) else (some x1)
def laws_szWrS.f (k : Nat) (l0 : List (S125)) (a1 : Int) : Option (Int) := if (wrap64 (a1 - (l0.length : Int))) < 0 then (some (-1)) else (laws_szWrS.l0 k l0 (wrap64 (a1 - (l0.length : Int))) 0)
def laws_szDisk.f (k : Nat) (l0_0 : List (List Int)) (l0_1 : List (S125)) (a0_2 : Int) (a0_3 : Bool) (a1 : Int) : Option (Int) := (laws_szByteSS.f k l0_0 a1).bind fun t757 => (if t757 < 0 then (some (-1)) else ((laws_szWrS.f k l0_1 t757).bind fun t758 => (if t758 < 0 then (some (-1)) else (some t758))))
mutual
def spec_DiskOk.l0 : Nat → Int → List (List Int) → List (S109) → Int → Bool → Option (Bool)
  | 0, _, _, _, _, _ => none
  | k + 1, x3, x760000, x760001, x760002, x760003 => if x3 < (x760000.length : Int) then (if 0 ≤ x3 then (if ((rd_L6 x760000 x3).length : Int) > 160 then (some false) else (spec_DiskOk.l0 k (wrap64 (x3 + 1)) x760000 x760001 x760002 x760003)) else (none)) else (spec_DiskOk.l1 k 0 x760000 x760001 x760002 x760003)
def spec_DiskOk.l1 : Nat → Int → List (List Int) → List (S109) → Int → Bool → Option (Bool)
  | 0, _, _, _, _, _ => none
  | k + 1, x4, x760000, x760001, x760002, x760003 => if x4 < (x760001.length : Int) then (if 0 ≤ x4 then ((spec_l1In.f ((rd_T109 x760001 x4).f0) 0 (wrap64 ((x760000.length : Int) - 1))).bind fun t762 => (if t762 = true then (if (((rd_T109 x760001 x4).f1).length : Int) > 160 then (some false) else (spec_DiskOk.l1 k (wrap64 (x4 + 1)) x760000 x760001 x760002 x760003)) else (some false))) else (none)) else ((spec_l1In.f (x760000.length : Int) 1 40).bind fun t764 => (if t764 = true then (if (x760001.length : Int) ≤ 30 then ((spec_l1In.f x760002 (-1) 1000).bind fun t765 => (some t765)) else (some false)) else (some false)))
end
def spec_DiskOk.f (k : Nat) (l0_0 : List (List Int)) (l0_1 : List (S109)) (a0_2 : Int) (a0_3 : Bool) : Option (Bool) := spec_DiskOk.l0 k 0 l0_0 l0_1 a0_2 a0_3
mutual
def spec_ReadSec.j0 : Nat → Int → Bool → List (List Int) → List (S109) → Int → Bool → Option (List Int)
  | 0, _, _, _, _, _, _ => none
  | k + 1, x1, x18, x767000, x767001, x767002, x767003 => if x18 = true then (some (([] : List Int))) else (if 0 ≤ x1 then (if x1 < (x767000.length : Int) then (spec_ReadSec.l0 k x1 (rd_L6 x767000 x1) 0 x767000 x767001 x767002 x767003) else (none)) else (none))
def spec_ReadSec.l0 : Nat → Int → List Int → Int → List (List Int) → List (S109) → Int → Bool → Option (List Int)
  | 0, _, _, _, _, _, _, _ => none
  | k + 1, x1, x5, x6, x767000, x767001, x767002, x767003 => if x6 < (x767001.length : Int) then (if 0 ≤ x6 then (if ((rd_T109 x767001 x6).f0) = x1 then (spec_ReadSec.l0 k x1 ((rd_T109 x767001 x6).f1) (wrap64 (x6 + 1)) x767000 x767001 x767002 x767003) else (spec_ReadSec.l0 k x1 x5 (wrap64 (x6 + 1)) x767000 x767001 x767002 x767003)) else (none)) else ((some (([] : List Int) : List Int)).bind fun y775 => (if y775.length + x5.length < 140737488355328 then (some (y775 ++ x5)) else (none)))
end
def spec_ReadSec.f (k : Nat) (l0_0 : List (List Int)) (l0_1 : List (S109)) (a0_2 : Int) (a0_3 : Bool) (a1 : Int) : Option (List Int) := (spec_DiskOk.f k l0_0 l0_1 a0_2 a0_3).bind fun t767 => (if t767 = true then ((spec_l1In.f a1 0 (wrap64 ((l0_0.length : Int) - 1))).bind fun t768 => (spec_ReadSec.j0 k a1 (!t768) l0_0 l0_1 a0_2 a0_3)) else (spec_ReadSec.j0 k a1 true l0_0 l0_1 a0_2 a0_3))
def spec_l5At.f (a0 : Int) (a1 : Int) : Option (Int) := some (wrap64 ((wrap64 (2 + (wrap64 (18 * (Int.tmod a0 2))))) + a1))
mutual
def spec_KnownOk.j0 : Nat → Bool → Int → ByteArray → Int → ByteArray → Int → Int → Option (Bool)
  | 0, _, _, _, _, _, _, _ => none
  | k + 1, x34, x782000, x782001, x782002, x782003, x782004, x782005 => if x34 = true then (some false) else (if x782000 = 0 then (if x782001.toList = ([] : List UInt8) then (if x782000 > 0 then ((spec_l4Text.f k x782001).bind fun t786 => (spec_KnownOk.j1 k (!t786) x782000 x782001 x782002 x782003 x782004 x782005)) else (spec_KnownOk.j1 k false x782000 x782001 x782002 x782003 x782004 x782005)) else (spec_KnownOk.j1 k true x782000 x782001 x782002 x782003 x782004 x782005)) else (if x782000 > 0 then ((spec_l4Text.f k x782001).bind fun t787 => (spec_KnownOk.j1 k (!t787) x782000 x782001 x782002 x782003 x782004 x782005)) else (spec_KnownOk.j1 k false x782000 x782001 x782002 x782003 x782004 x782005)))
def spec_KnownOk.j1 : Nat → Bool → Int → ByteArray → Int → ByteArray → Int → Int → Option (Bool)
  | 0, _, _, _, _, _, _, _ => none
  | k + 1, x53, x782000, x782001, x782002, x782003, x782004, x782005 => if x53 = true then (some false) else (if x782002 = 0 then (some (x782003.toList == ([] : List UInt8))) else (if x782002 > x782000 then ((spec_l4Text.f k x782003).bind fun t788 => (some t788)) else (some false)))
end
def spec_KnownOk.f (k : Nat) (a0_0 : Int) (a0_1 : ByteArray) (a0_2 : Int) (a0_3 : ByteArray) (a0_4 : Int) (a0_5 : Int) : Option (Bool) := (spec_l1In.f a0_0 0 60000).bind fun t782 => (if t782 = true then ((spec_l1In.f a0_2 0 60000).bind fun t783 => (if t783 = true then ((spec_l1In.f a0_4 0 60000).bind fun t784 => (if t784 = true then ((spec_l1In.f a0_5 0 1).bind fun t785 => (if t785 = true then (if a0_4 = 0 then (spec_KnownOk.j0 k (a0_5 != 0) a0_0 a0_1 a0_2 a0_3 a0_4 a0_5) else (spec_KnownOk.j0 k false a0_0 a0_1 a0_2 a0_3 a0_4 a0_5)) else (spec_KnownOk.j0 k true a0_0 a0_1 a0_2 a0_3 a0_4 a0_5))) else (spec_KnownOk.j0 k true a0_0 a0_1 a0_2 a0_3 a0_4 a0_5))) else (spec_KnownOk.j0 k true a0_0 a0_1 a0_2 a0_3 a0_4 a0_5))) else (spec_KnownOk.j0 k true a0_0 a0_1 a0_2 a0_3 a0_4 a0_5))
def spec_Apply.j0 : Nat → Bool → Int → ByteArray → Int → ByteArray → Int → Int → Int → Int → Int → ByteArray → Option (Int × ByteArray × Int × ByteArray × Int × Int × Bool)
  | 0, _, _, _, _, _, _, _, _, _, _, _ => none
  | k + 1, x14, x790000, x790001, x790002, x790003, x790004, x790005, x791000, x791001, x791002, x791003 => if x14 = true then (some (x790000, x790001, x790002, x790003, x790004, x790005, false)) else (if x791000 = 1 then (if x791001 ≤ x790000 then (some (x790000, x790001, x790002, x790003, x790004, x790005, false)) else (some (x790000, x790001, x791001, x791003, x790004, x790005, true))) else (if x791000 = 2 then (if x791001 = x790002 then (some (x790002, x790003, 0, (⟨#[]⟩ : ByteArray), x790004, x790005, true)) else (some (x790000, x790001, x790002, x790003, x790004, x790005, false))) else (if x791001 ≤ x790004 then (some (x790000, x790001, x790002, x790003, x790004, x790005, false)) else (some (x790000, x790001, x790002, x790003, x791001, x791002, true)))))
def spec_Apply.f (k : Nat) (a0_0 : Int) (a0_1 : ByteArray) (a0_2 : Int) (a0_3 : ByteArray) (a0_4 : Int) (a0_5 : Int) (a1_0 : Int) (a1_1 : Int) (a1_2 : Int) (a1_3 : ByteArray) : Option (Int × ByteArray × Int × ByteArray × Int × Int × Bool) := (spec_KnownOk.f k a0_0 a0_1 a0_2 a0_3 a0_4 a0_5).bind fun t792 => (if t792 = true then ((spec_RecOk.f k a1_0 a1_1 a1_2 a1_3).bind fun t793 => (spec_Apply.j0 k (!t793) a0_0 a0_1 a0_2 a0_3 a0_4 a0_5 a1_0 a1_1 a1_2 a1_3)) else (spec_Apply.j0 k true a0_0 a0_1 a0_2 a0_3 a0_4 a0_5 a1_0 a1_1 a1_2 a1_3))
mutual
def spec_Replay.l0 : Nat → Int → Int → List (List Int) → List (S109) → Int → Bool → Int → ByteArray → Int → ByteArray → Int → Int → Option (Int × ByteArray × Int × ByteArray × Int × Int × Int)
  | 0, _, _, _, _, _, _, _, _, _, _, _, _ => none
  | k + 1, x1, x7, x796000, x796001, x796002, x796003, x798000, x798001, x798002, x798003, x798004, x798005 => if x7 < 18 then ((spec_l5At.f x1 x7).bind fun t799 => ((spec_ReadSec.f k x796000 x796001 x796002 x796003 t799).bind fun t800 => ((spec_GetRec.f k t800).bind fun bt803 => (if bt803.2.2.2.2.2.2 = true then (if bt803.1 = x1 then (spec_Replay.j1 k x1 x7 (bt803.2.1 != x7) x796000 x796001 x796002 x796003 x798000 x798001 x798002 x798003 x798004 x798005 bt803.2.2.1 bt803.2.2.2.1 bt803.2.2.2.2.1 bt803.2.2.2.2.2.1) else (spec_Replay.j1 k x1 x7 true x796000 x796001 x796002 x796003 x798000 x798001 x798002 x798003 x798004 x798005 bt803.2.2.1 bt803.2.2.2.1 bt803.2.2.2.2.1 bt803.2.2.2.2.2.1)) else (spec_Replay.j1 k x1 x7 true x796000 x796001 x796002 x796003 x798000 x798001 x798002 x798003 x798004 x798005 bt803.2.2.1 bt803.2.2.2.1 bt803.2.2.2.2.1 bt803.2.2.2.2.2.1))))) else (some (x798000, x798001, x798002, x798003, x798004, x798005, 18))
def spec_Replay.j1 : Nat → Int → Int → Bool → List (List Int) → List (S109) → Int → Bool → Int → ByteArray → Int → ByteArray → Int → Int → Int → Int → Int → ByteArray → Option (Int × ByteArray × Int × ByteArray × Int × Int × Int)
  | 0, _, _, _, _, _, _, _, _, _, _, _, _, _, _, _, _, _ => none
  | k + 1, x1, x7, x45, x796000, x796001, x796002, x796003, x798000, x798001, x798002, x798003, x798004, x798005, x811000, x811001, x811002, x811003 => if x45 = true then (some (x798000, x798001, x798002, x798003, x798004, x798005, x7)) else ((spec_Apply.f k x798000 x798001 x798002 x798003 x798004 x798005 x811000 x811001 x811002 x811003).bind fun bt811 => (if bt811.2.2.2.2.2.2 = true then (spec_Replay.l0 k x1 (wrap64 (x7 + 1)) x796000 x796001 x796002 x796003 bt811.1 bt811.2.1 bt811.2.2.1 bt811.2.2.2.1 bt811.2.2.2.2.1 bt811.2.2.2.2.2.1) else (some (x798000, x798001, x798002, x798003, x798004, x798005, x7))))
end
def spec_Replay.f (k : Nat) (l0_0 : List (List Int)) (l0_1 : List (S109)) (a0_2 : Int) (a0_3 : Bool) (a1 : Int) : Option (Int × ByteArray × Int × ByteArray × Int × Int × Int) := (spec_l1In.f a1 1 60000).bind fun t798 => (if t798 = true then (spec_Replay.l0 k a1 0 l0_0 l0_1 a0_2 a0_3 0 (⟨#[]⟩ : ByteArray) 0 (⟨#[]⟩ : ByteArray) 0 0) else (some (0, (⟨#[]⟩ : ByteArray), 0, (⟨#[]⟩ : ByteArray), 0, 0, 0)))
def laws_toByteS.l0 : Nat → List Int → List Int → Int → Option (List Int)
  | 0, _, _, _ => none
  | k + 1, x0, x3, x4 => if x4 < (x0.length : Int) then (if 0 ≤ x4 then (if x4 < (x3.length : Int) then (laws_toByteS.l0 k x0 (x3.set (x4 : Int).toNat (rd x0 x4)) (wrap64 (x4 + 1))) else (none)) else (none)) else (some x3)
def laws_toByteS.f (k : Nat) (l0 : List Int) : Option (List Int) := if 0 ≤ (l0.length : Int) then (if ((l0.length : Int) : Int).toNat ≤ 281474976710656 then (laws_toByteS.l0 k l0 (List.replicate ((l0.length : Int) : Int).toNat 0) 0) else (none)) else (none)
def laws_toByteSS.l0 : Nat → List (List Int) → List (List Int) → Int → Option ((List (List Int)))
  | 0, _, _, _ => none
  | k + 1, x0, x3, x4 => if x4 < (x0.length : Int) then (if 0 ≤ x4 then ((laws_toByteS.f k (rd_L6 x0 x4)).bind fun t828 => (if x4 < (x3.length : Int) then (laws_toByteSS.l0 k x0 (x3.set (x4 : Int).toNat t828) (wrap64 (x4 + 1))) else (none))) else (none)) else (some x3)
def laws_toByteSS.f (k : Nat) (l0 : List (List Int)) : Option ((List (List Int))) := if 0 ≤ (l0.length : Int) then (if ((l0.length : Int) : Int).toNat ≤ 11728124029610 then (laws_toByteSS.l0 k l0 (List.replicate ((l0.length : Int) : Int).toNat []) 0) else (none)) else (none)
def laws_toWr.f (k : Nat) (a0_0 : Int) (l0_1 : List Int) : Option (Int × List Int) := (laws_toByteS.f k l0_1).bind fun t835 => (some (a0_0, t835))
def laws_toWrS.l0 : Nat → List (S125) → List (S109) → Int → Option ((List (S109)))
  | 0, _, _, _ => none
  | k + 1, x0, x3, x4 => if x4 < (x0.length : Int) then (if 0 ≤ x4 then ((laws_toWr.f k ((rd_T125 x0 x4).f0) ((rd_T125 x0 x4).f1)).bind fun bt842 => (if x4 < (x3.length : Int) then (laws_toWrS.l0 k x0 (x3.set (x4 : Int).toNat (⟨bt842.1, bt842.2⟩ : S109)) (wrap64 (x4 + 1))) else (none))) else (none)) else (some x3)
def laws_toWrS.f (k : Nat) (l0 : List (S125)) : Option ((List (S109))) := if 0 ≤ (l0.length : Int) then (if ((l0.length : Int) : Int).toNat ≤ 8796093022208 then (laws_toWrS.l0 k l0 (List.replicate ((l0.length : Int) : Int).toNat z109) 0) else (none)) else (none)
def laws_toDisk.f (k : Nat) (l0_0 : List (List Int)) (l0_1 : List (S125)) (a0_2 : Int) (a0_3 : Bool) : Option ((List (List Int)) × (List (S109)) × Int × Bool) := (laws_toByteSS.f k l0_0).bind fun t850 => ((laws_toWrS.f k l0_1).bind fun t853 => (some (t850, t853, a0_2, a0_3)))
def impl_genOk.f (k : Nat) (a0 : Int) (a1 : ByteArray) : Option (Bool) := if a0 = 0 then (some (a1.toList == ([] : List UInt8))) else ((impl_isIn.f a0 1 60000).bind fun t856 => (if t856 = true then ((impl_confOk.f k a1).bind fun t857 => (some t857)) else (some false)))
def impl_KnownOk.f (k : Nat) (a0_0 : Int) (a0_1 : ByteArray) (a0_2 : Int) (a0_3 : ByteArray) (a0_4 : Int) (a0_5 : Int) : Option (Bool) := (impl_genOk.f k a0_0 a0_1).bind fun t859 => (if t859 = true then ((impl_genOk.f k a0_2 a0_3).bind fun t860 => (if t860 = true then ((impl_isIn.f a0_4 0 60000).bind fun t861 => (if t861 = true then ((impl_isIn.f a0_5 0 1).bind fun t862 => (if t862 = true then (if a0_4 > 0 then (if a0_2 = 0 then (some true) else (some (decide (a0_2 > a0_0)))) else (if a0_5 = 0 then (if a0_2 = 0 then (some true) else (some (decide (a0_2 > a0_0)))) else (some false))) else (some false))) else (some false))) else (some false))) else (some false))
mutual
def impl_Apply.j0 : Nat → Bool → Int → ByteArray → Int → ByteArray → Int → Int → Int → Int → Int → ByteArray → Option (Int × ByteArray × Int × ByteArray × Int × Int × Bool)
  | 0, _, _, _, _, _, _, _, _, _, _, _ => none
  | k + 1, x13, x864000, x864001, x864002, x864003, x864004, x864005, x865000, x865001, x865002, x865003 => if x13 = true then (some (x864000, x864001, x864002, x864003, x864004, x864005, false)) else (if x865000 = 1 then (impl_Apply.j1 k (decide (x865001 > x864000)) x864000 x864001 x864002 x864003 x864004 x864005 x865000 x865001 x865002 x865003) else (impl_Apply.j1 k false x864000 x864001 x864002 x864003 x864004 x864005 x865000 x865001 x865002 x865003))
def impl_Apply.j1 : Nat → Bool → Int → ByteArray → Int → ByteArray → Int → Int → Int → Int → Int → ByteArray → Option (Int × ByteArray × Int × ByteArray × Int × Int × Bool)
  | 0, _, _, _, _, _, _, _, _, _, _, _ => none
  | k + 1, x16, x864000, x864001, x864002, x864003, x864004, x864005, x865000, x865001, x865002, x865003 => if x16 = true then (some (x864000, x864001, x865001, x865003, x864004, x864005, true)) else (if x865000 = 2 then (impl_Apply.j2 k (x865001 == x864002) x864000 x864001 x864002 x864003 x864004 x864005 x865000 x865001 x865002 x865003) else (impl_Apply.j2 k false x864000 x864001 x864002 x864003 x864004 x864005 x865000 x865001 x865002 x865003))
def impl_Apply.j2 : Nat → Bool → Int → ByteArray → Int → ByteArray → Int → Int → Int → Int → Int → ByteArray → Option (Int × ByteArray × Int × ByteArray × Int × Int × Bool)
  | 0, _, _, _, _, _, _, _, _, _, _, _ => none
  | k + 1, x33, x864000, x864001, x864002, x864003, x864004, x864005, x865000, x865001, x865002, x865003 => if x33 = true then (some (x865001, x864003, 0, (⟨#[]⟩ : ByteArray), x864004, x864005, true)) else (if x865000 = 3 then (if x865001 > x864004 then (some (x864000, x864001, x864002, x864003, x865001, x865002, true)) else (some (x864000, x864001, x864002, x864003, x864004, x864005, false))) else (some (x864000, x864001, x864002, x864003, x864004, x864005, false)))
end
def impl_Apply.f (k : Nat) (a0_0 : Int) (a0_1 : ByteArray) (a0_2 : Int) (a0_3 : ByteArray) (a0_4 : Int) (a0_5 : Int) (a1_0 : Int) (a1_1 : Int) (a1_2 : Int) (a1_3 : ByteArray) : Option (Int × ByteArray × Int × ByteArray × Int × Int × Bool) := (impl_KnownOk.f k a0_0 a0_1 a0_2 a0_3 a0_4 a0_5).bind fun t866 => (if t866 = true then ((impl_RecOk.f k a1_0 a1_1 a1_2 a1_3).bind fun t867 => (impl_Apply.j0 k (!t867) a0_0 a0_1 a0_2 a0_3 a0_4 a0_5 a1_0 a1_1 a1_2 a1_3)) else (impl_Apply.j0 k true a0_0 a0_1 a0_2 a0_3 a0_4 a0_5 a1_0 a1_1 a1_2 a1_3))
mutual
def impl_DiskOk.j0 : Nat → Bool → List (List Int) → List (S109) → Int → Bool → Option (Bool)
  | 0, _, _, _, _, _ => none
  | k + 1, x23, x869000, x869001, x869002, x869003 => if x23 = true then (some false) else (impl_DiskOk.l0 k x869000 (x869000.length : Int) 0 x869000 x869001 x869002 x869003)
def impl_DiskOk.l0 : Nat → List (List Int) → Int → Int → List (List Int) → List (S109) → Int → Bool → Option (Bool)
  | 0, _, _, _, _, _, _, _ => none
  | k + 1, x25, x26, x27, x869000, x869001, x869002, x869003 => if x27 < x26 then (if 0 ≤ x27 then (if x27 < (x25.length : Int) then (if ((rd_L6 x25 x27).length : Int) > 160 then (some false) else (impl_DiskOk.l0 k x25 x26 (wrap64 (x27 + 1)) x869000 x869001 x869002 x869003)) else (none)) else (none)) else (impl_DiskOk.l1 k x869001 (x869001.length : Int) 0 x869000 x869001 x869002 x869003)
def impl_DiskOk.l1 : Nat → List (S109) → Int → Int → List (List Int) → List (S109) → Int → Bool → Option (Bool)
  | 0, _, _, _, _, _, _, _ => none
  | k + 1, x36, x37, x38, x869000, x869001, x869002, x869003 => if x38 < x37 then (if 0 ≤ x38 then (if x38 < (x36.length : Int) then ((impl_isIn.f ((rd_T109 x36 x38).f0) 0 (wrap64 ((x869000.length : Int) - 1))).bind fun t874 => (if t874 = true then (if (((rd_T109 x36 x38).f1).length : Int) > 160 then (some false) else (impl_DiskOk.l1 k x36 x37 (wrap64 (x38 + 1)) x869000 x869001 x869002 x869003)) else (some false))) else (none)) else (none)) else (some true)
end
def impl_DiskOk.f (k : Nat) (l0_0 : List (List Int)) (l0_1 : List (S109)) (a0_2 : Int) (a0_3 : Bool) : Option (Bool) := (impl_isIn.f (l0_0.length : Int) 1 40).bind fun t869 => (if t869 = true then (if (l0_1.length : Int) > 30 then (impl_DiskOk.j0 k true l0_0 l0_1 a0_2 a0_3) else ((impl_isIn.f a0_2 (-1) 1000).bind fun t870 => (impl_DiskOk.j0 k (!t870) l0_0 l0_1 a0_2 a0_3))) else (impl_DiskOk.j0 k true l0_0 l0_1 a0_2 a0_3))
mutual
def impl_ReadSec.j0 : Nat → Int → Bool → List (List Int) → List (S109) → Int → Bool → Option (List Int)
  | 0, _, _, _, _, _, _ => none
  | k + 1, x1, x17, x876000, x876001, x876002, x876003 => if x17 = true then (some (([] : List Int))) else (impl_ReadSec.l0 k x1 (wrap64 ((x876001.length : Int) - 1)) x876000 x876001 x876002 x876003)
def impl_ReadSec.l0 : Nat → Int → Int → List (List Int) → List (S109) → Int → Bool → Option (List Int)
  | 0, _, _, _, _, _, _ => none
  | k + 1, x1, x5, x876000, x876001, x876002, x876003 => if x5 ≥ 0 then (if 0 ≤ x5 then (if x5 < (x876001.length : Int) then (if ((rd_T109 x876001 x5).f0) = x1 then ((slices_Clone_byte_byte.f ((rd_T109 x876001 x5).f1)).bind fun t883 => (some t883)) else (impl_ReadSec.l0 k x1 (wrap64 (x5 - 1)) x876000 x876001 x876002 x876003)) else (none)) else (none)) else (if 0 ≤ x1 then (if x1 < (x876000.length : Int) then ((slices_Clone_byte_byte.f (rd_L6 x876000 x1)).bind fun t887 => (some t887)) else (none)) else (none))
end
def impl_ReadSec.f (k : Nat) (l0_0 : List (List Int)) (l0_1 : List (S109)) (a0_2 : Int) (a0_3 : Bool) (a1 : Int) : Option (List Int) := (impl_DiskOk.f k l0_0 l0_1 a0_2 a0_3).bind fun t876 => (if t876 = true then ((impl_isIn.f a1 0 (wrap64 ((l0_0.length : Int) - 1))).bind fun t877 => (impl_ReadSec.j0 k a1 (!t877) l0_0 l0_1 a0_2 a0_3)) else (impl_ReadSec.j0 k a1 true l0_0 l0_1 a0_2 a0_3))
def impl_sectorOf.f (a0 : Int) (a1 : Int) : Option (Int) := some (wrap64 ((wrap64 (2 + (wrap64 (18 * (Int.tmod a0 2))))) + a1))
mutual
def impl_Replay.l0 : Nat → Int → Int → List (List Int) → List (S109) → Int → Bool → Int → ByteArray → Int → ByteArray → Int → Int → Option (Int × ByteArray × Int × ByteArray × Int × Int × Int)
  | 0, _, _, _, _, _, _, _, _, _, _, _, _ => none
  | k + 1, x1, x19, x891000, x891001, x891002, x891003, x893000, x893001, x893002, x893003, x893004, x893005 => if x19 < 18 then ((impl_sectorOf.f x1 x19).bind fun t894 => ((impl_ReadSec.f k x891000 x891001 x891002 x891003 t894).bind fun t895 => ((impl_GetRec.f k t895).bind fun bt898 => (if bt898.2.2.2.2.2.2 = true then (if bt898.1 = x1 then (impl_Replay.j1 k x1 x19 x19 (bt898.2.1 != x19) x891000 x891001 x891002 x891003 x893000 x893001 x893002 x893003 x893004 x893005 bt898.2.2.1 bt898.2.2.2.1 bt898.2.2.2.2.1 bt898.2.2.2.2.2.1) else (impl_Replay.j1 k x1 x19 x19 true x891000 x891001 x891002 x891003 x893000 x893001 x893002 x893003 x893004 x893005 bt898.2.2.1 bt898.2.2.2.1 bt898.2.2.2.2.1 bt898.2.2.2.2.2.1)) else (impl_Replay.j1 k x1 x19 x19 true x891000 x891001 x891002 x891003 x893000 x893001 x893002 x893003 x893004 x893005 bt898.2.2.1 bt898.2.2.2.1 bt898.2.2.2.2.1 bt898.2.2.2.2.2.1))))) else (some (x893000, x893001, x893002, x893003, x893004, x893005, 18))
def impl_Replay.j1 : Nat → Int → Int → Int → Bool → List (List Int) → List (S109) → Int → Bool → Int → ByteArray → Int → ByteArray → Int → Int → Int → Int → Int → ByteArray → Option (Int × ByteArray × Int × ByteArray × Int × Int × Int)
  | 0, _, _, _, _, _, _, _, _, _, _, _, _, _, _, _, _, _, _ => none
  | k + 1, x1, x7, x19, x44, x891000, x891001, x891002, x891003, x893000, x893001, x893002, x893003, x893004, x893005, x906000, x906001, x906002, x906003 => if x44 = true then (some (x893000, x893001, x893002, x893003, x893004, x893005, x7)) else ((impl_Apply.f k x893000 x893001 x893002 x893003 x893004 x893005 x906000 x906001 x906002 x906003).bind fun bt906 => (if bt906.2.2.2.2.2.2 = true then (impl_Replay.l0 k x1 (wrap64 (x19 + 1)) x891000 x891001 x891002 x891003 bt906.1 bt906.2.1 bt906.2.2.1 bt906.2.2.2.1 bt906.2.2.2.2.1 bt906.2.2.2.2.2.1) else (some (x893000, x893001, x893002, x893003, x893004, x893005, x7))))
end
def impl_Replay.f (k : Nat) (l0_0 : List (List Int)) (l0_1 : List (S109)) (a0_2 : Int) (a0_3 : Bool) (a1 : Int) : Option (Int × ByteArray × Int × ByteArray × Int × Int × Int) := (impl_isIn.f a1 1 60000).bind fun t893 => (if t893 = true then (impl_Replay.l0 k a1 0 l0_0 l0_1 a0_2 a0_3 0 (⟨#[]⟩ : ByteArray) 0 (⟨#[]⟩ : ByteArray) 0 0) else (some (0, (⟨#[]⟩ : ByteArray), 0, (⟨#[]⟩ : ByteArray), 0, 0, 0)))
def laws_eqKnown.f (a0_0 : Int) (a0_1 : ByteArray) (a0_2 : Int) (a0_3 : ByteArray) (a0_4 : Int) (a0_5 : Int) (a1_0 : Int) (a1_1 : ByteArray) (a1_2 : Int) (a1_3 : ByteArray) (a1_4 : Int) (a1_5 : Int) : Option (Bool) := if a0_0 = a1_0 then (if a0_1.toList = a1_1.toList then (if a0_2 = a1_2 then (if a0_3.toList = a1_3.toList then (if a0_4 = a1_4 then (if a0_5 = a1_5 then (some true) else (some false)) else (some false)) else (some false)) else (some false)) else (some false)) else (some false)
def laws_eqByteS.l0 : Nat → List Int → List Int → Int → Option (Bool)
  | 0, _, _, _ => none
  | k + 1, x0, x1, x5 => if x5 < (x0.length : Int) then (if 0 ≤ x5 then (if x5 < (x1.length : Int) then (if (rd x0 x5) = (rd x1 x5) then (laws_eqByteS.l0 k x0 x1 (wrap64 (x5 + 1))) else (some false)) else (none)) else (none)) else (some true)
def laws_eqByteS.f (k : Nat) (l0 : List Int) (l1 : List Int) : Option (Bool) := if (l0.length : Int) = (l1.length : Int) then (laws_eqByteS.l0 k l0 l1 0) else (some false)
def laws_eqByteSS.l0 : Nat → List (List Int) → List (List Int) → Int → Option (Bool)
  | 0, _, _, _ => none
  | k + 1, x0, x1, x5 => if x5 < (x0.length : Int) then (if 0 ≤ x5 then (if x5 < (x1.length : Int) then ((laws_eqByteS.f k (rd_L6 x0 x5) (rd_L6 x1 x5)).bind fun t920 => (if t920 = true then (laws_eqByteSS.l0 k x0 x1 (wrap64 (x5 + 1))) else (some false))) else (none)) else (none)) else (some true)
def laws_eqByteSS.f (k : Nat) (l0 : List (List Int)) (l1 : List (List Int)) : Option (Bool) := if (l0.length : Int) = (l1.length : Int) then (laws_eqByteSS.l0 k l0 l1 0) else (some false)
def laws_eqWr.f (k : Nat) (a0_0 : Int) (l0_1 : List Int) (a1_0 : Int) (l1_1 : List Int) : Option (Bool) := if a0_0 = a1_0 then ((laws_eqByteS.f k l0_1 l1_1).bind fun t923 => (if t923 = true then (some true) else (some false))) else (some false)
def laws_eqWrS.l0 : Nat → List (S109) → List (S109) → Int → Option (Bool)
  | 0, _, _, _ => none
  | k + 1, x0, x1, x5 => if x5 < (x0.length : Int) then (if 0 ≤ x5 then (if x5 < (x1.length : Int) then ((laws_eqWr.f k ((rd_T109 x0 x5).f0) ((rd_T109 x0 x5).f1) ((rd_T109 x1 x5).f0) ((rd_T109 x1 x5).f1)).bind fun t926 => (if t926 = true then (laws_eqWrS.l0 k x0 x1 (wrap64 (x5 + 1))) else (some false))) else (none)) else (none)) else (some true)
def laws_eqWrS.f (k : Nat) (l0 : List (S109)) (l1 : List (S109)) : Option (Bool) := if (l0.length : Int) = (l1.length : Int) then (laws_eqWrS.l0 k l0 l1 0) else (some false)
def laws_eqDisk.f (k : Nat) (l0_0 : List (List Int)) (l0_1 : List (S109)) (a0_2 : Int) (a0_3 : Bool) (l1_0 : List (List Int)) (l1_1 : List (S109)) (a1_2 : Int) (a1_3 : Bool) : Option (Bool) := (laws_eqByteSS.f k l0_0 l1_0).bind fun t929 => (if t929 = true then ((laws_eqWrS.f k l0_1 l1_1).bind fun t930 => (if t930 = true then (if a0_2 = a1_2 then (if (a0_3 != a1_3) = true then (some false) else (some true)) else (some false)) else (some false))) else (some false))
def laws_FnExactReplay.j0 : Nat → Bool → List (List Int) → List (S125) → Int → Bool → List (List Int) → List (S109) → Int → Bool → Option (Bool)
  | 0, _, _, _, _, _, _, _, _, _ => none
  | k + 1, x39, x932000, x932001, x932002, x932003, x958000, x958001, x958002, x958003 => if x39 = true then (some false) else ((laws_toDisk.f k x932000 x932001 x932002 x932003).bind fun bt967 => ((laws_eqDisk.f k x958000 x958001 x958002 x958003 bt967.1 bt967.2.1 bt967.2.2.1 bt967.2.2.2).bind fun t975 => (if t975 = true then (some true) else (some false))))
def laws_FnExactReplay.f (k : Nat) (l0_0 : List (List Int)) (l0_1 : List (S125)) (a0_2 : Int) (a0_3 : Bool) (a1 : Int) : Option (Bool) := (laws_szDisk.f k l0_0 l0_1 a0_2 a0_3 1048576).bind fun t932 => (if t932 < 0 then (some true) else ((laws_toDisk.f k l0_0 l0_1 a0_2 a0_3).bind fun bt933 => ((spec_Replay.f k bt933.1 bt933.2.1 bt933.2.2.1 bt933.2.2.2 a1).bind fun bt941 => ((laws_toDisk.f k l0_0 l0_1 a0_2 a0_3).bind fun bt949 => ((impl_Replay.f k bt949.1 bt949.2.1 bt949.2.2.1 bt949.2.2.2 a1).bind fun bt958 => ((laws_eqKnown.f bt958.1 bt958.2.1 bt958.2.2.1 bt958.2.2.2.1 bt958.2.2.2.2.1 bt958.2.2.2.2.2.1 bt941.1 bt941.2.1 bt941.2.2.1 bt941.2.2.2.1 bt941.2.2.2.2.1 bt941.2.2.2.2.2.1).bind fun t966 => (if t966 = true then (laws_FnExactReplay.j0 k (bt958.2.2.2.2.2.2 != bt941.2.2.2.2.2.2) l0_0 l0_1 a0_2 a0_3 bt949.1 bt949.2.1 bt949.2.2.1 bt949.2.2.2) else (laws_FnExactReplay.j0 k true l0_0 l0_1 a0_2 a0_3 bt949.1 bt949.2.1 bt949.2.2.1 bt949.2.2.2))))))))
def laws_FnExactReplay.Pure : Prop := ∀ (l0_0 : List (List Int)) (l0_1 : List (S125)) (a0_2 : Int) (a0_3 : Bool) (a1 : Int), (l0_0.length ≤ maxLen ∧ ∀ x0_ ∈ l0_0, (x0_.length ≤ maxLen ∧ ∀ x1_ ∈ x0_, (Lit.int .u8 x1_).wf = true)) → (l0_1.length ≤ maxLen ∧ ∀ x0_ ∈ l0_1, ((Lit.int .i64 x0_.f0).wf = true ∧ (x0_.f1.length ≤ maxLen ∧ ∀ x1_ ∈ x0_.f1, (Lit.int .u8 x1_).wf = true))) → (Lit.int .i64 a0_2).wf = true → (Lit.int .i64 a1).wf = true → ∃ k, laws_FnExactReplay.f k l0_0 l0_1 a0_2 a0_3 a1 = some true
def spec_HeadOf.j0 : Nat → Int → Int → Bool → Option (List Int)
  | 0, _, _, _ => none
  | k + 1, x0, x1, x13 => if x13 = true then (some (([] : List Int))) else ((spec_PutWord.f (([] : List Int)) x0).bind fun t984 => ((spec_PutWord.f t984 x1).bind fun t987 => ((spec_Sum.f k t987).bind fun t990 => ((spec_PutWord.f t987 t990).bind fun t991 => (some t991)))))
def spec_HeadOf.f (k : Nat) (a0 : Int) (a1 : Int) : Option (List Int) := (spec_l1In.f a0 1 60000).bind fun t976 => (if t976 = true then ((spec_l1In.f a1 0 18).bind fun t977 => (spec_HeadOf.j0 k a0 a1 (!t977))) else (spec_HeadOf.j0 k a0 a1 true))
def spec_GetHead.f (k : Nat) (l0 : List Int) : Option (Int × Int × Bool) := (spec_GetWord.f l0 0).bind fun bt994 => ((spec_GetWord.f l0 2).bind fun bt997 => (if bt997.2.2 = true then (if (l0.length : Int) = 6 then ((spec_HeadOf.f k bt994.1 bt997.1).bind fun t1000 => ((spec_l1Same.f t1000 l0).bind fun t1003 => (if t1003 = true then (some (bt994.1, bt997.1, true)) else (some (0, 0, false))))) else (some (0, 0, false))) else (some (0, 0, false))))
mutual
def spec_OpenJour.j0 : Nat → Bool → List (List Int) → List (S109) → Int → Bool → Int → ByteArray → Int → ByteArray → Int → Int → Int → Int → Option (Int × ByteArray × Int × ByteArray × Int × Int × Int × Int × Bool)
  | 0, _, _, _, _, _, _, _, _, _, _, _, _, _ => none
  | k + 1, x20, x1005000, x1005001, x1005002, x1005003, x1007000, x1007001, x1007002, x1007003, x1007004, x1007005, x1007006, x1007007 => if x20 = true then (some (x1007000, x1007001, x1007002, x1007003, x1007004, x1007005, x1007006, x1007007, false)) else (spec_OpenJour.l0 k 0 x1005000 x1005001 x1005002 x1005003 x1007000 x1007001 x1007002 x1007003 x1007004 x1007005 x1007006 x1007007)
def spec_OpenJour.l0 : Nat → Int → List (List Int) → List (S109) → Int → Bool → Int → ByteArray → Int → ByteArray → Int → Int → Int → Int → Option (Int × ByteArray × Int × ByteArray × Int × Int × Int × Int × Bool)
  | 0, _, _, _, _, _, _, _, _, _, _, _, _, _ => none
  | k + 1, x5, x1005000, x1005001, x1005002, x1005003, x1007000, x1007001, x1007002, x1007003, x1007004, x1007005, x1007006, x1007007 => if x5 < 2 then ((spec_ReadSec.f k x1005000 x1005001 x1005002 x1005003 x5).bind fun t1008 => ((spec_GetHead.f k t1008).bind fun bt1011 => (if bt1011.2.2 = true then (if (Int.tmod bt1011.1 2) = x5 then (spec_OpenJour.j2 k x5 bt1011.1 bt1011.2.1 (decide (bt1011.1 ≤ x1007006)) x1005000 x1005001 x1005002 x1005003 x1007000 x1007001 x1007002 x1007003 x1007004 x1007005 x1007006 x1007007) else (spec_OpenJour.j2 k x5 bt1011.1 bt1011.2.1 true x1005000 x1005001 x1005002 x1005003 x1007000 x1007001 x1007002 x1007003 x1007004 x1007005 x1007006 x1007007)) else (spec_OpenJour.j2 k x5 bt1011.1 bt1011.2.1 true x1005000 x1005001 x1005002 x1005003 x1007000 x1007001 x1007002 x1007003 x1007004 x1007005 x1007006 x1007007)))) else (some (x1007000, x1007001, x1007002, x1007003, x1007004, x1007005, x1007006, x1007007, decide (x1007006 > 0)))
def spec_OpenJour.j2 : Nat → Int → Int → Int → Bool → List (List Int) → List (S109) → Int → Bool → Int → ByteArray → Int → ByteArray → Int → Int → Int → Int → Option (Int × ByteArray × Int × ByteArray × Int × Int × Int × Int × Bool)
  | 0, _, _, _, _, _, _, _, _, _, _, _, _, _, _, _, _ => none
  | k + 1, x5, x6, x7, x47, x1005000, x1005001, x1005002, x1005003, x1007000, x1007001, x1007002, x1007003, x1007004, x1007005, x1007006, x1007007 => if x47 = true then (spec_OpenJour.l0 k (wrap64 (x5 + 1)) x1005000 x1005001 x1005002 x1005003 x1007000 x1007001 x1007002 x1007003 x1007004 x1007005 x1007006 x1007007) else ((spec_Replay.f k x1005000 x1005001 x1005002 x1005003 x6).bind fun bt1014 => (if bt1014.2.2.2.2.2.2 ≥ x7 then (spec_OpenJour.l0 k (wrap64 (x5 + 1)) x1005000 x1005001 x1005002 x1005003 bt1014.1 bt1014.2.1 bt1014.2.2.1 bt1014.2.2.2.1 bt1014.2.2.2.2.1 bt1014.2.2.2.2.2.1 x6 bt1014.2.2.2.2.2.2) else (spec_OpenJour.l0 k (wrap64 (x5 + 1)) x1005000 x1005001 x1005002 x1005003 x1007000 x1007001 x1007002 x1007003 x1007004 x1007005 x1007006 x1007007)))
end
def spec_OpenJour.f (k : Nat) (l0_0 : List (List Int)) (l0_1 : List (S109)) (a0_2 : Int) (a0_3 : Bool) : Option (Int × ByteArray × Int × ByteArray × Int × Int × Int × Int × Bool) := (spec_DiskOk.f k l0_0 l0_1 a0_2 a0_3).bind fun t1007 => (if t1007 = true then (spec_OpenJour.j0 k ((l0_0.length : Int) != 38) l0_0 l0_1 a0_2 a0_3 0 (⟨#[]⟩ : ByteArray) 0 (⟨#[]⟩ : ByteArray) 0 0 0 0) else (spec_OpenJour.j0 k true l0_0 l0_1 a0_2 a0_3 0 (⟨#[]⟩ : ByteArray) 0 (⟨#[]⟩ : ByteArray) 0 0 0 0))
def impl_HeadOf.j0 : Nat → Int → Int → Bool → Option (List Int)
  | 0, _, _, _ => none
  | k + 1, x0, x1, x13 => if x13 = true then (some (([] : List Int))) else ((impl_PutWord.f ([] : List Int) x0).bind fun t1027 => ((impl_PutWord.f t1027 x1).bind fun t1030 => ((impl_Sum.f k t1030).bind fun t1033 => ((impl_PutWord.f t1030 t1033).bind fun t1034 => (some t1034)))))
def impl_HeadOf.f (k : Nat) (a0 : Int) (a1 : Int) : Option (List Int) := (impl_isIn.f a0 1 60000).bind fun t1022 => (if t1022 = true then ((impl_isIn.f a1 0 18).bind fun t1023 => (impl_HeadOf.j0 k a0 a1 (!t1023))) else (impl_HeadOf.j0 k a0 a1 true))
def impl_GetHead.f (k : Nat) (l0 : List Int) : Option (Int × Int × Bool) := (impl_GetWord.f l0 0).bind fun bt1037 => ((impl_GetWord.f l0 2).bind fun bt1040 => (if (l0.length : Int) = 0 then (some (0, 0, false)) else ((impl_HeadOf.f k bt1037.1 bt1040.1).bind fun t1043 => ((bytes_Equal.f t1043 l0).bind fun t1046 => (if t1046 = true then (some (bt1037.1, bt1040.1, true)) else (some (0, 0, false)))))))
mutual
def impl_OpenJour.j0 : Nat → Bool → Bool → List (List Int) → List (S109) → Int → Bool → Int → ByteArray → Int → ByteArray → Int → Int → Int → Int → Option (Int × ByteArray × Int × ByteArray × Int × Int × Int × Int × Bool)
  | 0, _, _, _, _, _, _, _, _, _, _, _, _, _, _ => none
  | k + 1, x5, x21, x1048000, x1048001, x1048002, x1048003, x1050000, x1050001, x1050002, x1050003, x1050004, x1050005, x1050006, x1050007 => if x21 = true then (some (x1050000, x1050001, x1050002, x1050003, x1050004, x1050005, x1050006, x1050007, false)) else (impl_OpenJour.l0 k x5 0 x1048000 x1048001 x1048002 x1048003 x1050000 x1050001 x1050002 x1050003 x1050004 x1050005 x1050006 x1050007)
def impl_OpenJour.l0 : Nat → Bool → Int → List (List Int) → List (S109) → Int → Bool → Int → ByteArray → Int → ByteArray → Int → Int → Int → Int → Option (Int × ByteArray × Int × ByteArray × Int × Int × Int × Int × Bool)
  | 0, _, _, _, _, _, _, _, _, _, _, _, _, _, _ => none
  | k + 1, x5, x23, x1048000, x1048001, x1048002, x1048003, x1050000, x1050001, x1050002, x1050003, x1050004, x1050005, x1050006, x1050007 => if x23 < 2 then ((impl_ReadSec.f k x1048000 x1048001 x1048002 x1048003 x23).bind fun t1051 => ((impl_GetHead.f k t1051).bind fun bt1054 => (if bt1054.2.2 = true then (impl_OpenJour.j2 k x5 bt1054.1 bt1054.2.1 x23 ((Int.tmod bt1054.1 2) != x23) x1048000 x1048001 x1048002 x1048003 x1050000 x1050001 x1050002 x1050003 x1050004 x1050005 x1050006 x1050007) else (impl_OpenJour.j2 k x5 bt1054.1 bt1054.2.1 x23 true x1048000 x1048001 x1048002 x1048003 x1050000 x1050001 x1050002 x1050003 x1050004 x1050005 x1050006 x1050007)))) else (some (x1050000, x1050001, x1050002, x1050003, x1050004, x1050005, x1050006, x1050007, x5))
def impl_OpenJour.j2 : Nat → Bool → Int → Int → Int → Bool → List (List Int) → List (S109) → Int → Bool → Int → ByteArray → Int → ByteArray → Int → Int → Int → Int → Option (Int × ByteArray × Int × ByteArray × Int × Int × Int × Int × Bool)
  | 0, _, _, _, _, _, _, _, _, _, _, _, _, _, _, _, _, _ => none
  | k + 1, x5, x7, x8, x23, x41, x1048000, x1048001, x1048002, x1048003, x1050000, x1050001, x1050002, x1050003, x1050004, x1050005, x1050006, x1050007 => if x41 = true then (impl_OpenJour.l0 k x5 (wrap64 (x23 + 1)) x1048000 x1048001 x1048002 x1048003 x1050000 x1050001 x1050002 x1050003 x1050004 x1050005 x1050006 x1050007) else ((impl_Replay.f k x1048000 x1048001 x1048002 x1048003 x7).bind fun bt1057 => (if bt1057.2.2.2.2.2.2 ≥ x8 then (if x5 = true then (if x7 > x1050006 then (impl_OpenJour.l0 k true (wrap64 (x23 + 1)) x1048000 x1048001 x1048002 x1048003 bt1057.1 bt1057.2.1 bt1057.2.2.1 bt1057.2.2.2.1 bt1057.2.2.2.2.1 bt1057.2.2.2.2.2.1 x7 bt1057.2.2.2.2.2.2) else (impl_OpenJour.l0 k x5 (wrap64 (x23 + 1)) x1048000 x1048001 x1048002 x1048003 x1050000 x1050001 x1050002 x1050003 x1050004 x1050005 x1050006 x1050007)) else (impl_OpenJour.l0 k true (wrap64 (x23 + 1)) x1048000 x1048001 x1048002 x1048003 bt1057.1 bt1057.2.1 bt1057.2.2.1 bt1057.2.2.2.1 bt1057.2.2.2.2.1 bt1057.2.2.2.2.2.1 x7 bt1057.2.2.2.2.2.2)) else (impl_OpenJour.l0 k x5 (wrap64 (x23 + 1)) x1048000 x1048001 x1048002 x1048003 x1050000 x1050001 x1050002 x1050003 x1050004 x1050005 x1050006 x1050007)))
end
def impl_OpenJour.f (k : Nat) (l0_0 : List (List Int)) (l0_1 : List (S109)) (a0_2 : Int) (a0_3 : Bool) : Option (Int × ByteArray × Int × ByteArray × Int × Int × Int × Int × Bool) := (impl_DiskOk.f k l0_0 l0_1 a0_2 a0_3).bind fun t1050 => (if t1050 = true then (impl_OpenJour.j0 k false ((l0_0.length : Int) != 38) l0_0 l0_1 a0_2 a0_3 0 (⟨#[]⟩ : ByteArray) 0 (⟨#[]⟩ : ByteArray) 0 0 0 0) else (impl_OpenJour.j0 k false true l0_0 l0_1 a0_2 a0_3 0 (⟨#[]⟩ : ByteArray) 0 (⟨#[]⟩ : ByteArray) 0 0 0 0))
def laws_eqJour.f (a0_0 : Int) (a0_1 : ByteArray) (a0_2 : Int) (a0_3 : ByteArray) (a0_4 : Int) (a0_5 : Int) (a0_6 : Int) (a0_7 : Int) (a1_0 : Int) (a1_1 : ByteArray) (a1_2 : Int) (a1_3 : ByteArray) (a1_4 : Int) (a1_5 : Int) (a1_6 : Int) (a1_7 : Int) : Option (Bool) := (laws_eqKnown.f a0_0 a0_1 a0_2 a0_3 a0_4 a0_5 a1_0 a1_1 a1_2 a1_3 a1_4 a1_5).bind fun t1067 => (if t1067 = true then (if a0_6 = a1_6 then (if a0_7 = a1_7 then (some true) else (some false)) else (some false)) else (some false))
def laws_FnExactOpenJour.j0 : Nat → Bool → List (List Int) → List (S125) → Int → Bool → List (List Int) → List (S109) → Int → Bool → Option (Bool)
  | 0, _, _, _, _, _, _, _, _, _ => none
  | k + 1, x35, x1069000, x1069001, x1069002, x1069003, x1097000, x1097001, x1097002, x1097003 => if x35 = true then (some false) else ((laws_toDisk.f k x1069000 x1069001 x1069002 x1069003).bind fun bt1108 => ((laws_eqDisk.f k x1097000 x1097001 x1097002 x1097003 bt1108.1 bt1108.2.1 bt1108.2.2.1 bt1108.2.2.2).bind fun t1116 => (if t1116 = true then (some true) else (some false))))
def laws_FnExactOpenJour.f (k : Nat) (l0_0 : List (List Int)) (l0_1 : List (S125)) (a0_2 : Int) (a0_3 : Bool) : Option (Bool) := (laws_szDisk.f k l0_0 l0_1 a0_2 a0_3 1048576).bind fun t1069 => (if t1069 < 0 then (some true) else ((laws_toDisk.f k l0_0 l0_1 a0_2 a0_3).bind fun bt1070 => ((spec_OpenJour.f k bt1070.1 bt1070.2.1 bt1070.2.2.1 bt1070.2.2.2).bind fun bt1078 => ((laws_toDisk.f k l0_0 l0_1 a0_2 a0_3).bind fun bt1088 => ((impl_OpenJour.f k bt1088.1 bt1088.2.1 bt1088.2.2.1 bt1088.2.2.2).bind fun bt1097 => ((laws_eqJour.f bt1097.1 bt1097.2.1 bt1097.2.2.1 bt1097.2.2.2.1 bt1097.2.2.2.2.1 bt1097.2.2.2.2.2.1 bt1097.2.2.2.2.2.2.1 bt1097.2.2.2.2.2.2.2.1 bt1078.1 bt1078.2.1 bt1078.2.2.1 bt1078.2.2.2.1 bt1078.2.2.2.2.1 bt1078.2.2.2.2.2.1 bt1078.2.2.2.2.2.2.1 bt1078.2.2.2.2.2.2.2.1).bind fun t1107 => (if t1107 = true then (laws_FnExactOpenJour.j0 k (bt1097.2.2.2.2.2.2.2.2 != bt1078.2.2.2.2.2.2.2.2) l0_0 l0_1 a0_2 a0_3 bt1088.1 bt1088.2.1 bt1088.2.2.1 bt1088.2.2.2) else (laws_FnExactOpenJour.j0 k true l0_0 l0_1 a0_2 a0_3 bt1088.1 bt1088.2.1 bt1088.2.2.1 bt1088.2.2.2))))))))
def laws_FnExactOpenJour.Pure : Prop := ∀ (l0_0 : List (List Int)) (l0_1 : List (S125)) (a0_2 : Int) (a0_3 : Bool), (l0_0.length ≤ maxLen ∧ ∀ x0_ ∈ l0_0, (x0_.length ≤ maxLen ∧ ∀ x1_ ∈ x0_, (Lit.int .u8 x1_).wf = true)) → (l0_1.length ≤ maxLen ∧ ∀ x0_ ∈ l0_1, ((Lit.int .i64 x0_.f0).wf = true ∧ (x0_.f1.length ≤ maxLen ∧ ∀ x1_ ∈ x0_.f1, (Lit.int .u8 x1_).wf = true))) → (Lit.int .i64 a0_2).wf = true → ∃ k, laws_FnExactOpenJour.f k l0_0 l0_1 a0_2 a0_3 = some true
end Go.Proofs.YthkepmicdpgbbaaGreatDoor.P

-- Written by xprint.py (by way of the kit's print program) out of the translation.
namespace Go.Proofs.YthkepmicdpgbbaaGreatDoor.P
open Go.RowKit Go.Proofs.YthkepmicdpgbbaaGreatDoorW.PrintWords Go.Proofs.YthkepmicdpgbbaaGreatDoorW.PrintLast Go.Proofs.YthkepmicdpgbbaaGreatDoorW.PrintMore
attribute [local go_sem] max2_int min2_int max_two min_two max_three min_three max_four min_four   -- for this text's walks alone
set_option linter.unusedVariables false
set_option linter.unusedSimpArgs false

/-! ### impl_dbPlace: function 151 -/

set_option maxHeartbeats 1000000 in
theorem impl_dbPlace.one (x : S138) (name : ByteArray) (B : Nat) (w : World) (hB : B < w.heap.size) (hcell : w.cell? ⟨B, 0, none⟩ = some (.string name)) :
    Calls Tryz.prog 164 #[.agg #[.string x.f0, .int .i64 x.f1, .int .i64 x.f2, .int .i64 x.f3, .int .i64 x.f4], .pointer (some ⟨B, 0, none⟩)] w fun e w' => e = .returned (.bool (x.f0.toList == name.toList)) ∧ Below w.heap.size w w' := by
  have hu := Tryz.underlying138
  go_enter Tryz.func164, Tryz.ntmps164
  go_wp2
  go_ret
  exact ⟨rfl, (Below.refl _ _).alloc (Nat.le_refl _) _⟩
theorem impl_dbPlace.p_skip (l : List S138) (name : ByteArray) (i : Nat) (hi : i < l.length) (h : ¬ l[i].f0.toList = name.toList) : impl_dbPlace.l0 (l.drop i) name i = impl_dbPlace.l0 (l.drop (i + 1)) name ((i + 1 : Nat) : Int) := by
  rw [List.drop_eq_getElem_cons hi, impl_dbPlace.l0, if_neg h]
  rfl
theorem impl_dbPlace.p_hit (l : List S138) (name : ByteArray) (i : Nat) (hi : i < l.length) (h : l[i].f0.toList = name.toList) : impl_dbPlace.l0 (l.drop i) name i = i := by
  rw [List.drop_eq_getElem_cons hi, impl_dbPlace.l0, if_pos h]
set_option maxHeartbeats 2000000 in
set_option maxRecDepth 100000 in
theorem impl_dbPlace.index (A0 : Option Addr) (c0 : Nat) (l0 : List S138) (name : ByteArray) (B : Nat) (w : World) (hr : Kd.C k138 w A0 l0.length l0) (hB : B < w.heap.size) (hcell : w.cell? ⟨B, 0, none⟩ = some (.string name)) :
    Calls Tryz.prog 163 #[.slice A0 l0.length c0, .func (.func 164) #[] #[.pointer (some ⟨B, 0, none⟩)]] w fun e w' => e = .returned (.int .i64 (impl_dbPlace.l0 l0 name 0)) ∧ Below w.heap.size w w' := by
  have hu := Tryz.underlying138
  have hlen : l0.length ≤ 9223372036854775807 := hr.2.1
  have HR := Aside0.mk hr
  have HC := Aside0.mk hcell
  clear hr hcell
  go_enter Tryz.func163, Tryz.ntmps163
  go_wp2
  go_loopw [8] (fun v8 wr => ∃ i : Nat, i ≤ l0.length ∧ v8 = .int .i64 i ∧ Aside0 (impl_dbPlace.l0 l0 name 0 = impl_dbPlace.l0 (l0.drop i) name i) ∧ Aside0 (Below w.heap.size w wr)) (fun v8 _ => l0.length - (intOf v8).toNat)
  case atStart => exact ⟨0, Nat.zero_le _, rfl, ⟨rfl⟩, ⟨Below.refl _ _⟩⟩
  case round =>
    obtain ⟨i, hi, rfl, HP, HB⟩ := hrel
    by_cases hlt : i < l0.length
    · have hge : rd_T138 l0 (i : Int) = l0[i] := by unfold rd_T138; rw [Int.toNat_natCast, List.getD_eq_getElem?_getD, List.getElem?_eq_getElem hlt]; rfl
      obtain ⟨ad, hA, h0, h1, h2, h3, h4⟩ := at_T138 (Kd.C_below HR.out HB.out) (i : Int) (by omega) (by omega)
      subst hA
      rw [hge] at h0 h1 h2 h3 h4
      rw [Int.toNat_natCast] at h0 h1 h2 h3 h4
      clear hge
      have hcl := impl_dbPlace.one l0[i] name B
      generalize hx : l0[i] = x at *
      have HX := Aside0.mk hx
      clear hx
      have hBw : w.heap.size ≤ wr.heap.size := HB.out.size
      have HCw := Aside0.mk ((HB.out.cell (p := ⟨B, 0, none⟩) hB).trans HC.out)
      have Hcl := Aside0.mk hcl
      clear hcl
      by_cases hm : x.f0.toList = name.toList
      · have hmb : (x.f0.toList == name.toList) = true := by simpa using hm
        have HM := Aside0.mk hm
        have HMB := Aside0.mk hmb
        clear hm hmb
        go_wp2_with (go_at_call 164; refine (Hcl.out _ (by omega) HCw.out).mono ?_; rintro e w' ⟨rfl, hb⟩; rw [HMB.out])
        go_ret
        exact ⟨by rw [HP.out, impl_dbPlace.p_hit l0 name i hlt (by rw [HX.out]; exact HM.out)]; rfl, below_step HB.out hb⟩
      · have hmb : (x.f0.toList == name.toList) = false := by simpa using hm
        have HM := Aside0.mk hm
        have HMB := Aside0.mk hmb
        clear hm hmb
        go_wp2_with (go_at_call 164; refine (Hcl.out _ (by omega) HCw.out).mono ?_; rintro e w' ⟨rfl, hb⟩; rw [HMB.out])
        go_roundw
        case rel => exact ⟨i + 1, by omega, by go_num, ⟨HP.out.trans (impl_dbPlace.p_skip l0 name i hlt (by rw [HX.out]; exact HM.out))⟩, ⟨below_step HB.out hb⟩⟩
        case measure => simp [intOf]; omega
    · go_wp2
      go_ret
      refine ⟨?_, HB.out⟩
      rw [HP.out, List.drop_of_length_le (by omega)]
      rfl
set_option maxHeartbeats 1000000 in
theorem impl_dbPlace.calls (A0 : Option Addr) (c0 : Nat) (l0 : List (S138)) (a1 : ByteArray) (r : Int) (w : World) (hr0 : Kd.C k138 w A0 l0.length l0) (hc0 : l0.length ≤ c0) (h : impl_dbPlace.f l0 a1 = some r) :
    Calls Tryz.prog 151 #[.slice A0 l0.length c0, .string a1] w fun e w' => e = .returned (.int .i64 r) ∧ Below w.heap.size w w' := by
  obtain rfl : impl_dbPlace.l0 l0 a1 0 = r := Option.some.inj h
  have hcon := impl_dbPlace.index A0 c0 l0 a1 w.heap.size (w.alloc (.cells #[.string a1] 9)) (Kd.C_below hr0 ((Below.refl _ w).alloc (Nat.le_refl _) _)) (by simp) (by simp)
  generalize impl_dbPlace.l0 l0 a1 0 = r at hcon ⊢
  have HCON := Aside0.mk hcon
  clear hcon hr0 hc0 h
  go_enter Tryz.func151, Tryz.ntmps151
  go_wp2_with (go_at_call 163; refine HCON.out.mono ?_; rintro e w' ⟨rfl, hb⟩)
  go_ret
  exact ⟨rfl, below_step ((Below.refl _ w).alloc (Nat.le_refl _) _) hb⟩

/-! ### slices_Clone_byte_byte: function 98 -/
set_option maxHeartbeats 8000000 in
set_option maxRecDepth 100000 in
theorem slices_Clone_byte_byte.calls_some (ad0 : Addr) (c0 : Nat) (l0 : List Int) (r : List Int) (w : World) (hr0 : Kd.C (Kd.int .u8) w (some ad0) l0.length l0) (hc0 : l0.length ≤ c0) (h : slices_Clone_byte_byte.f l0 = some r) :
    Calls Tryz.prog 98 #[.slice (some ad0) l0.length c0] w fun e w' => ∃ v0_ : Value, e = .returned (v0_) ∧ Kd.R (Kd.int .u8) 5 w' w.heap.size (fun _ => True) v0_ r ∧ Below w.heap.size w w' := by
  have HR0 := Aside0.mk hr0
  have HC0 := Aside0.mk hc0
  clear hr0 hc0
  have HB := Aside0.mk (Below.refl w.heap.size w)
  have H : ((some (([] : List Int) : List Int)).bind fun y361 => (if y361.length + l0.length < 140737488355328 then (some (y361 ++ l0)) else (none))) = some r := h
  clear h
  obtain ⟨y361, hy361⟩ : ∃ y_ : List Int, y_ = (([] : List Int)) := ⟨_, rfl⟩
  replace H : (if y361.length + l0.length < 140737488355328 then (some (y361 ++ l0)) else (none)) = some r := by first | (rw [hy361]; with_reducible exact H) | (have H2_ := (Option.bind_some _ _).symm.trans H; rw [hy361]; with_reducible exact H2_) | (have H2_ := (Option.bind_some _ _).symm.trans H; with_reducible exact H2_) | with_reducible exact H | (rw [hy361]; exact H) | exact H
  have Ny361 := Aside0.mk hy361
  clear hy361
  by_cases c2 : y361.length + l0.length < 140737488355328
  · rw [if_pos c2] at H
    have LMc2 := Aside0.mk c2
    clear c2
    obtain ⟨y364, hy364⟩ : ∃ y_ : List Int, y_ = (y361 ++ l0) := ⟨_, rfl⟩
    replace H : (some y364) = some r := by first | (rw [hy364]; with_reducible exact H) | (have H2_ := (Option.bind_some _ _).symm.trans H; rw [hy364]; with_reducible exact H2_) | (have H2_ := (Option.bind_some _ _).symm.trans H; with_reducible exact H2_) | with_reducible exact H | (rw [hy364]; exact H) | exact H
    have Ny364 := Aside0.mk hy364
    clear hy364
    obtain rfl := Option.some.inj H
    have hnil : ∀ (W : World), (binOp .eql 22 (.slice (some ad0) l0.length c0) (.slice none 0 0)).run Tryz.prog W = .ok (.bool false) W := fun W => run_eql_slice_nil W 22 5 (some ad0) l0.length c0 Tryz.underlying22
    go_enter Tryz.func98, Tryz.ntmps98
    go_wp2_with (first | ((with_reducible refine gate_dst (N := 5) rfl ?_); refine Kd.R_lit (Kd.int .u8) _ 5 ?hg (N := 5) ?hd (xs := ([] : List Int)) (inner := []) (ok := fun _ => True) (okp := fun _ => True) ?hr ?hp (fun _ hk => hk) trivial (Below.refl _ _) (Nat.le_refl _) (by simp) ?_; (case hd => rfl); (case hg => rfl); (case hr => first | (go_simp; done) | (go_simp; rfl)); (case hp => exact (Reps.none _ _)); intro v362 w3 ho4 hb hg_ hnew_; clear hg_ hnew_; (first | rw [← Ny361.out] at ho4 | (simp only [Int.reduceToNat] at ho4; rw [← Ny361.out] at ho4)); have n0_ := Aside0.mk (Kd.R_lower ho4 (below_size (by repeat (first | (with_reducible first | exact HB.out | apply below_alloc | apply pw_below_drewN | apply below_drew1) | exact HB.out)))); have n1_ := Aside0.mk (below_step (by repeat (first | (with_reducible first | exact HB.out | apply below_alloc | apply pw_below_drewN | apply below_drew1) | exact HB.out)) hb); clear HB; have HO363 := n0_; have HB := n1_; clear n0_ n1_; clear hb ho4) | ((with_reducible refine gate_builtin (b := .append) (xs := #[.tmp 5, .tmp 6]) rfl ?_); at_builtin; refine Kd.R_append_rows (Kd.int .u8) (w0 := w) w.heap.size rfl (.tmp 5) (.tmp 6) 22 5 (.int .u8 0) 1 rfl Tryz.underlying22 info5 rfl (by decide) (by omega) v362 y361 l0 _ _ _ (fun _ => True) (fun _ => False) rfl rfl ?aO ?aR (fun _ _ h => h) (fun _ h => h.elim) ?aF ?aB ?aS ?aL ?_; (case aR => repeat (first | exact (Kd.C_below HR0.out HB.out) | (with_reducible refine Kd.C_alloc ?_ _) | (with_reducible refine Kd.C_drewN ?_ _) | (with_reducible refine Kd.C_drew ?_))); (case aB => exact (by repeat (first | (with_reducible first | exact HB.out | apply below_alloc | apply pw_below_drewN | apply below_drew1) | exact HB.out))); (case aF => exact (fun _ _ => trivial)); (case aO => exact (by (with_reducible repeat (first | apply Kd.R_alloc | apply Kd.R_drewN | apply Kd.R_drew)); exact HO363.out)); (case aS => exact (below_size (by repeat (first | (with_reducible first | exact HB.out | apply below_alloc | apply pw_below_drewN | apply below_drew1) | exact HB.out)))); (case aL => have := LMc2.out; omega); intro v365 w5 ho hb hg hat; rw [← Ny364.out] at ho; have n0_ := Aside0.mk (hb); have n1_ := Aside0.mk (ho); clear HB; clear HO363; have HB := n0_; have HO366 := n1_; clear n0_ n1_; clear ho hb hg hat))
    go_ret
    exact ⟨_, by first | rfl | (simp [errW_none, errW_some] <;> rfl) | (simp [*, errW_none, errW_some] <;> rfl), by (with_reducible repeat (first | apply Kd.R_alloc | apply Kd.R_drewN | apply Kd.R_drew)); exact HO366.out, by repeat (first | (with_reducible first | exact HB.out | apply below_alloc | apply pw_below_drewN | apply below_drew1) | exact HB.out)⟩
  · rw [if_neg c2] at H
    exact absurd H (by simp)

set_option maxHeartbeats 1000000 in
theorem slices_Clone_byte_byte.calls_none (c0 : Nat) (w : World) :
    Calls Tryz.prog 98 #[.slice none 0 c0] w fun e w' => e = .returned (.slice none 0 0) ∧ Below w.heap.size w w' := by
  have hnil : ∀ (W : World), (binOp .eql 22 (.slice none 0 c0) (.slice none 0 0)).run Tryz.prog W = .ok (.bool true) W := fun W => run_eql_slice_nil W 22 5 none 0 c0 Tryz.underlying22
  go_enter Tryz.func98, Tryz.ntmps98
  go_wp2
  go_ret
  exact ⟨rfl, by repeat (first | exact Below.refl _ _ | apply below_drew1 | apply pw_below_drewN)⟩
theorem slices_Clone_byte_byte.calls (A0 : Option Addr) (c0 : Nat) (l0 : List Int) (r : List Int) (w : World) (hr0 : Kd.C (Kd.int .u8) w A0 l0.length l0) (hc0 : l0.length ≤ c0) (h : slices_Clone_byte_byte.f l0 = some r) :
    Calls Tryz.prog 98 #[.slice A0 l0.length c0] w fun e w' => ∃ v0_ : Value, e = .returned (v0_) ∧ Kd.R (Kd.int .u8) 5 w' w.heap.size (fun _ => True) v0_ r ∧ Below w.heap.size w w' := by
  cases A0 with
  | some ad0 => exact slices_Clone_byte_byte.calls_some ad0 c0 l0 r w hr0 hc0 h
  | none =>
    have hl : l0 = [] := by
      rcases Nat.eq_zero_or_pos l0.length with h0 | h0
      · exact List.eq_nil_of_length_eq_zero h0
      · obtain ⟨ad, he, _⟩ := hr0.2.2 h0
        cases he
    subst hl
    have hr : r = [] := by
      simp [slices_Clone_byte_byte.f] at h
      exact h
    subst hr
    exact (slices_Clone_byte_byte.calls_none c0 w).mono fun e w' ⟨he, hb⟩ => ⟨_, he, Kd.R_nil _ _ _ _ _, hb⟩

/-! ### strconv_Itoa_152: function 152 -/
theorem strconv_Itoa_152.calls (a0 : Int) (r : ByteArray) (w : World) (hgw : GW w) (h : strconv_Itoa_152.f a0 = some r) :
    Calls Tryz.prog 152 #[.int .i64 a0] w fun e w' => e = .returned (.string r) ∧ Below w.heap.size w w' := by
  unfold strconv_Itoa_152.f at h
  split at h
  · rename_i hr
    obtain rfl := Option.some.inj h
    refine (Tryz.strconv_Itoa a0 hr.1 hr.2 w hgw.tab).mono ?_
    rintro e w' ⟨he, k, os, rfl⟩
    exact ⟨he, Lib.below_grow _ _ (Nat.le_refl _) _ _⟩
  · cases h

/-! ### strings_Cut: function 131 -/
theorem strings_Cut.calls (a0 : ByteArray) (a1 : ByteArray) (r1 : ByteArray) (r2 : ByteArray) (r3 : Bool) (w : World) (hgw : GW w) (h : strings_Cut.f a0 a1 = some (r1, r2, r3)) :
    Calls Tryz.prog 131 #[.string a0, .string a1] w fun e w' => e = .returned (.tuple #[.string r1, .string r2, .bool r3]) ∧ Below w.heap.size w w' := by
  unfold strings_Cut.f at h
  split at h
  · rename_i hr
    simp only [Option.some.injEq, Prod.mk.injEq] at h
    obtain ⟨rfl, rfl, rfl⟩ := h
    obtain ⟨m_, g_, hn_, hm_, hl_⟩ := hgw.most
    obtain rfl : g_ = 0 := Option.some.inj (hn_.symm.trans (show Tryz.prog.globalNamed "internal/bytealg.MaxLen" = some 0 by kernel_rfl))
    refine (Tryz.strings_Cut a0 a1 m_ w hr hm_).mono ?_
    rintro e w' ⟨he, k_, rfl⟩
    exact ⟨he, pw_below_drewN (Below.refl _ w) _⟩
  · cases h

/-! ### strings_Join: function 144 -/
theorem strings_Join.calls (A0 : Option Addr) (c0 : Nat) (l0 : List ByteArray) (a1 : ByteArray) (r : ByteArray) (w : World) (hgw : GW w) (hsp : ∀ ad, A0 = some ad → ad.spot = none) (hr0 : Kd.C Kd.string w A0 l0.length l0) (hc0 : l0.length ≤ c0) (h : strings_Join.f l0 a1 = some r) :
    Calls Tryz.prog 144 #[.slice A0 l0.length c0, .string a1] w fun e w' => e = .returned (.string r) ∧ Below w.heap.size w w' := by
  unfold strings_Join.f at h
  split at h
  · rename_i hr
    obtain rfl := Option.some.inj h
    by_cases h0 : l0 = []
    · subst h0
      exact (Tryz.strings_Join_none A0 c0 a1 w).mono fun e w' ⟨he, hw⟩ => ⟨he, hw ▸ Below.refl _ _⟩
    · obtain ⟨ad, hA, hc⟩ := Kd.at_string hr0 0 (Int.le_refl _) (by have := List.length_pos_iff.2 h0; omega)
      have hs := hsp ad hA
      subst hA
      obtain ⟨bk, o, sp⟩ := ad
      obtain rfl : sp = none := hs
      have hcells : ∀ (j : Nat) x, l0[j]? = some x → w.cell? ⟨bk, o + j, none⟩ = some (.string x) := by
        intro j x hx
        obtain ⟨hj, hx'⟩ := List.getElem?_eq_some_iff.1 hx
        obtain ⟨ad', he', hc'⟩ := Kd.at_string hr0 (j : Int) (by omega) (by omega)
        injection he' with he'
        subst he'
        have e2 : rdOf ByteArray.empty l0 (j : Int) = x := by
          unfold rdOf
          rw [Int.toNat_natCast, List.getD_eq_getElem?_getD, hx]
          rfl
        rw [Int.toNat_natCast, e2, Addr.add_lit] at hc'
        exact hc'
      exact (Tryz.strings_Join bk o c0 l0 a1 w hcells (by have := World.block_lt_of_cell? w _ hc; exact this) hr.1 hc0 hr.2).mono fun e w' h => h
  · cases h

/-! ### strings_Split: function 130 -/
theorem strings_Split.calls (a0 : ByteArray) (a1 : ByteArray) (r : List ByteArray) (w : World) (hgw : GW w) (h : strings_Split.f a0 a1 = some r) :
    Calls Tryz.prog 130 #[.string a0, .string a1] w fun e w' => ∃ v0_ : Value, e = .returned (v0_) ∧ Kd.R Kd.string 9 w' w.heap.size (fun _ => True) v0_ r ∧ Below w.heap.size w w' := by
  unfold strings_Split.f at h
  split at h
  · rename_i hr
    obtain rfl := Option.some.inj h
    obtain ⟨m_, g_, hn_, hm_, hl_⟩ := hgw.most
    obtain rfl : g_ = 0 := Option.some.inj (hn_.symm.trans (show Tryz.prog.globalNamed "internal/bytealg.MaxLen" = some 0 by kernel_rfl))
    have hlen := Lib.splitB_all a1 hr.2 0 _ a0 rfl
    have hle := Lib.countB_le a1 hr.2 a0.size a0 (Nat.le_refl _)
    have hmx : maxLen = 9223372036854775807 := by decide
    refine (Tryz.strings_Split a0 a1 m_ w hr.1 hm_ hr.2).mono ?_
    rintro e w' ⟨rfl, rfl⟩
    rw [← hlen]
    exact ⟨_, rfl, Kd.R_of_own (own_new w 9 _ _ _ _ (by simp [encs]) (Nat.le_refl _) (by omega) (by simp) (by simp [encs]; exact List.take_of_length_le (by simp))) (fun _ _ => trivial), (Below.refl _ w).alloc (Nat.le_refl _) _⟩
  · cases h

/-! ### strings_SplitN: function 132 -/
theorem strings_SplitN.calls (a0 : ByteArray) (a1 : ByteArray) (a2 : Int) (r : List ByteArray) (w : World) (hgw : GW w) (h : strings_SplitN.f a0 a1 a2 = some r) :
    Calls Tryz.prog 132 #[.string a0, .string a1, .int .i64 a2] w fun e w' => ∃ v0_ : Value, e = .returned (v0_) ∧ Kd.R Kd.string 9 w' w.heap.size (fun _ => True) v0_ r ∧ Below w.heap.size w w' := by
  unfold strings_SplitN.f at h
  split at h
  · rename_i hr
    obtain rfl := Option.some.inj h
    obtain ⟨k_, rfl⟩ := Int.eq_ofNat_of_zero_le (show 0 ≤ a2 by omega)
    rw [Int.toNat_natCast] at *
    obtain ⟨m_, g_, hn_, hm_, hl_⟩ := hgw.most
    obtain rfl : g_ = 0 := Option.some.inj (hn_.symm.trans (show Tryz.prog.globalNamed "internal/bytealg.MaxLen" = some 0 by kernel_rfl))
    have hlen := Lib.splitB_length_le a1 0 (min k_ (a0.size + 1) - 1) a0
    have hmx : maxLen = 9223372036854775807 := by decide
    refine (Tryz.strings_SplitN a0 a1 k_ m_ w hr.1 hm_ hr.2.1 (by omega) (by omega)).mono ?_
    rintro e w' ⟨rfl, rfl⟩
    exact ⟨_, rfl, Kd.R_of_own (own_new w 9 _ _ _ _ (by simp [encs]) (by omega) (by omega) (Lib.cellsOf_size (by omega)) (by simp [Lib.cellsOf, encs])) (fun _ _ => trivial), (Below.refl _ w).alloc (Nat.le_refl _) _⟩
  · cases h

end Go.Proofs.YthkepmicdpgbbaaGreatDoor.P

/- What the library's functions come to. -/
namespace Go.Proofs.YthkepmicdpgbbaaGreatDoor.E
open Go Go.RowKit Go.Proofs.YthkepmicdpgbbaaGreatDoorW.PrintWords Go.Proofs.YthkepmicdpgbbaaGreatDoor.P
set_option linter.unusedVariables false
set_option maxRecDepth 100000
theorem impl_dbPlace_ev {l0 : List S138} {a1 : ByteArray} {r : Int} (H : impl_dbPlace.f l0 a1 = some r) : Spec Tryz.prog 151 [.v (.row (List.map (fun (p : S138) => ([.s p.f0, .i .i64 p.f1, .i .i64 p.f2, .i .i64 p.f3, .i .i64 p.f4] : List CV)) l0)), .v (.s a1)] [] (.v (.i .i64 r)) [] := by
  refine spec_val (callFunc_of Tryz.func151 (by rfl) (by rfl)) fun G w vals hgw hr => ?_
  simp only [RepsL, Reps] at hr
  obtain ⟨v, vs, h1, h2, u, us, rfl, h3, rfl⟩ := hr
  simp only [RepC] at h3
  subst h3
  obtain ⟨A0, c0, rfl, hc, hC, hs⟩ := kdC_of k138 _ (fun _ => rfl) (fun x I w cs h => by
    simp only [RepP, RepC] at h
    obtain ⟨_, _, rfl, rfl, _, _, rfl, rfl, _, _, rfl, rfl, _, _, rfl, rfl, _, _, rfl, rfl, _⟩ := h
    exact ⟨[_], _, rfl, rfl, [_], _, rfl, rfl, [_], _, rfl, rfl, [_], _, rfl, rfl, rfl⟩) h2
  obtain rfl : vals = #[.slice A0 l0.length c0, .string a1] := by rw [← Array.toList_inj, h1]
  refine (impl_dbPlace.calls A0 c0 l0 a1 r w hC hc H).mono fun e w' hq => ?_
  exact ⟨_, hq.1, hq.2, fun G => by simp only [Reps, RepC]⟩
theorem slices_Clone_byte_byte_ev {l0 : List Int} {r : List Int} (H : slices_Clone_byte_byte.f l0 = some r) : Spec Tryz.prog 98 [.v (.row (List.map (fun (x : Int) => ([.i .u8 x] : List CV)) l0))] [] (.own 0 (List.map (fun (x : Int) => ([.i .u8 x] : List CV)) r).length) [.arr 1 5 false (List.map (fun (x : Int) => ([.i .u8 x] : List CV)) r)] := by
  refine spec_row (by decide) (callFunc_of Tryz.func98 (by rfl) (by rfl)) fun G w vals hgw hr => ?_
  simp only [RepsL, Reps] at hr
  obtain ⟨v, vs, h1, h2, h3⟩ := hr
  obtain ⟨A0, c0, rfl, hc, hC, _⟩ := kdC_of (Kd.int .u8) _ (fun _ => rfl) (fun x I w cs h => by simp only [RepP, RepC] at h; obtain ⟨v, vs', rfl, rfl, _⟩ := h; rfl) h2
  obtain rfl : vals = #[.slice A0 l0.length c0] := by rw [← Array.toList_inj, h1, h3]
  refine (slices_Clone_byte_byte.calls A0 c0 l0 r w hC hc H).mono fun e w' hq => ?_
  obtain ⟨v0, he, hR, hb⟩ := hq
  exact ⟨v0, he, hb, row_of_kd (f := fun x => [.i .u8 x]) (enc := Value.int .u8) (h1 := fun _ => rfl) (fun _ _ _ _ => by simp only [RepP, RepC]; exact ⟨_, _, rfl, rfl, trivial⟩) (fun _ => rfl) hR⟩
theorem strconv_Itoa_152_ev {a0 : Int} {r : ByteArray} (H : strconv_Itoa_152.f a0 = some r) : Spec Tryz.prog 152 [.v (.i .i64 a0)] [] (.v (.s r)) [] := by
  refine spec_val (callFunc_of Tryz.func152 (by rfl) (by rfl)) fun G w vals hgw hr => ?_
  simp only [RepsL, Reps, RepC] at hr
  obtain ⟨v, vs, h1, rfl, rfl⟩ := hr
  obtain rfl : vals = #[.int .i64 a0] := by rw [← Array.toList_inj, h1]
  refine (strconv_Itoa_152.calls a0 r w hgw H).mono fun e w' hq => ?_
  exact ⟨_, hq.1, hq.2, fun G => by simp only [Reps, RepC]⟩
theorem strings_Cut_ev {a0 a1 : ByteArray} {r : ByteArray × ByteArray × Bool} (H : strings_Cut.f a0 a1 = some r) : Spec Tryz.prog 131 [.v (.s a0), .v (.s a1)] [] (.tup [.v (.s r.1), .v (.s r.2.1), .v (.b r.2.2)]) [] := by
  obtain ⟨r1, r2, r3⟩ := r
  refine spec_val (callFunc_of Tryz.func131 (by rfl) (by rfl)) fun G w vals hgw hr => ?_
  simp only [RepsL, Reps, RepC] at hr
  obtain ⟨v, vs, h1, rfl, u, us, rfl, rfl, rfl⟩ := hr
  obtain rfl : vals = #[.string a0, .string a1] := by rw [← Array.toList_inj, h1]
  refine (strings_Cut.calls a0 a1 r1 r2 r3 w hgw H).mono fun e w' hq => ?_
  exact ⟨_, hq.1, hq.2, fun G => by simp only [Reps, RepC, RepsL]; exact ⟨_, rfl, _, _, rfl, rfl, _, _, rfl, rfl, _, _, rfl, rfl, rfl⟩⟩
theorem strings_Join_ev {l0 : List ByteArray} {a1 r : ByteArray} (H : strings_Join.f l0 a1 = some r) : Spec Tryz.prog 144 [.v (.row (List.map (fun (x : ByteArray) => ([.s x] : List CV)) l0)), .v (.s a1)] [] (.v (.s r)) [] := by
  refine spec_val (callFunc_of Tryz.func144 (by rfl) (by rfl)) fun G w vals hgw hr => ?_
  simp only [RepsL, Reps] at hr
  obtain ⟨v, vs, h1, h2, u, us, rfl, h3, rfl⟩ := hr
  simp only [RepC] at h3
  subst h3
  obtain ⟨A0, c0, rfl, hc, hC, hs⟩ := kdC_of Kd.string _ (fun _ => rfl) (fun x I w cs h => by simp only [RepP, RepC] at h; obtain ⟨v, vs', rfl, rfl, _⟩ := h; rfl) h2
  obtain rfl : vals = #[.slice A0 l0.length c0, .string a1] := by rw [← Array.toList_inj, h1]
  by_cases hl : l0 = []
  · subst hl
    have hr : r = ⟨#[]⟩ := by
      unfold strings_Join.f at H
      split at H
      · rw [← Option.some.inj H]
        rfl
      · cases H
    subst hr
    refine (Tryz.strings_Join_none A0 c0 a1 w).mono fun e w' hq => ?_
    exact ⟨_, hq.1, hq.2 ▸ Below.refl _ _, fun G => by simp only [Reps, RepC]⟩
  · refine (strings_Join.calls A0 c0 l0 a1 r w hgw (hs hl) hC hc H).mono fun e w' hq => ?_
    exact ⟨_, hq.1, hq.2, fun G => by simp only [Reps, RepC]⟩
theorem strings_Split_ev {a0 a1 : ByteArray} {r : List ByteArray} (H : strings_Split.f a0 a1 = some r) : Spec Tryz.prog 130 [.v (.s a0), .v (.s a1)] [] (.own 0 (List.map (fun (x : ByteArray) => ([.s x] : List CV)) r).length) [.arr 1 9 false (List.map (fun (x : ByteArray) => ([.s x] : List CV)) r)] := by
  refine spec_row (by decide) (callFunc_of Tryz.func130 (by rfl) (by rfl)) fun G w vals hgw hr => ?_
  simp only [RepsL, Reps, RepC] at hr
  obtain ⟨v, vs, h1, rfl, u, us, rfl, rfl, rfl⟩ := hr
  obtain rfl : vals = #[.string a0, .string a1] := by rw [← Array.toList_inj, h1]
  refine (strings_Split.calls a0 a1 r w hgw H).mono fun e w' hq => ?_
  obtain ⟨v0, he, hR, hb⟩ := hq
  exact ⟨v0, he, hb, row_of_kd (f := fun x => [.s x]) (enc := Value.string) (h1 := fun _ => rfl) (fun _ _ _ _ => by simp only [RepP, RepC]; exact ⟨_, _, rfl, rfl, trivial⟩) (fun _ => rfl) hR⟩
theorem strings_SplitN_ev {a0 a1 : ByteArray} {a2 : Int} {r : List ByteArray} (H : strings_SplitN.f a0 a1 a2 = some r) : Spec Tryz.prog 132 [.v (.s a0), .v (.s a1), .v (.i .i64 a2)] [] (.own 0 (List.map (fun (x : ByteArray) => ([.s x] : List CV)) r).length) [.arr 1 9 false (List.map (fun (x : ByteArray) => ([.s x] : List CV)) r)] := by
  refine spec_row (by decide) (callFunc_of Tryz.func132 (by rfl) (by rfl)) fun G w vals hgw hr => ?_
  simp only [RepsL, Reps, RepC] at hr
  obtain ⟨v, vs, h1, rfl, u, us, rfl, rfl, u2, us2, rfl, rfl, rfl⟩ := hr
  obtain rfl : vals = #[.string a0, .string a1, .int .i64 a2] := by rw [← Array.toList_inj, h1]
  refine (strings_SplitN.calls a0 a1 a2 r w hgw H).mono fun e w' hq => ?_
  obtain ⟨v0, he, hR, hb⟩ := hq
  exact ⟨v0, he, hb, row_of_kd (f := fun x => [.s x]) (enc := Value.string) (h1 := fun _ => rfl) (fun _ _ _ _ => by simp only [RepP, RepC]; exact ⟨_, _, rfl, rfl, trivial⟩) (fun _ => rfl) hR⟩
end Go.Proofs.YthkepmicdpgbbaaGreatDoor.E

/- What the cells of an element hold, by its type. -/
namespace Go.Proofs.YthkepmicdpgbbaaGreatDoor.E
open Go Go.RowKit Go.Proofs.YthkepmicdpgbbaaGreatDoorW.PrintWords Go.Proofs.YthkepmicdpgbbaaGreatDoor.P
abbrev e3 (x : Int) : List CV := [.i .i64 x]
abbrev e5 (x : Int) : List CV := [.i .u8 x]
abbrev e9 (x : ByteArray) : List CV := [.s x]
abbrev e22 (x : (List Int)) : List CV := [.row (List.map e5 x)]
abbrev e125 (p : S125) : List CV := [.i .i64 p.f0, .row (List.map e5 p.f1)]
abbrev e109 (p : S109) : List CV := [.i .i64 p.f0, .row (List.map e5 p.f1)]
abbrev e138 (p : S138) : List CV := [.s p.f0, .i .i64 p.f1, .i .i64 p.f2, .i .i64 p.f3, .i .i64 p.f4]
end Go.Proofs.YthkepmicdpgbbaaGreatDoor.E
