/- Texts of this claim, put together: Px17, Px18, Base, Crc, Bytes, Lists, Conf, TextOk, Frame -/
import Derived.Test.YthkepmicdpgbbaaDoorPackFnExactGetRec4
import Derived.WideShapes
import Derived.Laws.BitsLemmas
-- Written by xprint.py (by way of the kit's print program) out of the translation.
namespace Go.Proofs.YthkepmicdpgbbaaDoor.P
open Go.RowKit Go.Proofs.YthkepmicdpgbbaaDoorW.PrintWords Go.Proofs.YthkepmicdpgbbaaDoorW.PrintLast Go.Proofs.YthkepmicdpgbbaaDoorW.PrintMore
attribute [local go_sem] max2_int min2_int max_two min_two max_three min_three max_four min_four   -- for this text's walks alone
set_option linter.unusedVariables false
set_option linter.unusedSimpArgs false

/-! ### spec_GetWord: function 76 -/
set_option maxHeartbeats 8000000 in
set_option maxRecDepth 100000 in
theorem spec_GetWord.calls (A0 : Option Addr) (c0 : Nat) (l0 : List Int) (a1 : Int) (r1 : Int) (r2 : Int) (r3 : Bool) (w : World) (hr0 : Kd.C (Kd.int .u8) w A0 l0.length l0) (hc0 : l0.length ≤ c0) (h : spec_GetWord.f l0 a1 = some (r1, r2, r3)) :
  Calls Tryd.prog 76 #[.slice A0 l0.length c0, .int .i64 a1] w fun e w' => e = .returned (.tuple #[.int .i64 r1, .int .i64 r2, .bool r3]) ∧ Drawn0 w w' := by
 have HR0 := Aside0.mk hr0
 have HC0 := Aside0.mk hc0
 clear hr0 hc0
 have H : (if a1 < 0 then (some (0, 0, false)) else (if a1 > (wrap64 ((l0.length : Int) - 2)) then (some (0, 0, false)) else (if 0 ≤ a1 then (if a1 < (l0.length : Int) then (if 0 ≤ (wrap64 (a1 + 1)) then (if (wrap64 (a1 + 1)) < (l0.length : Int) then (some (wrap64 ((wrap64 ((wrap64 (rd l0 a1)) * 256)) + (wrap64 (rd l0 (wrap64 (a1 + 1))))), wrap64 (a1 + 2), true)) else (none)) else (none)) else (none)) else (none)))) = some (r1, r2, r3) := h
 clear h
 by_cases c3 : a1 < 0
 ·rw [if_pos c3] at H
  have c3b0 : decide (a1 < 0) = true := decide_eq_true c3
  clear c3
  simp only [Option.some.injEq, Prod.mk.injEq] at H
  obtain ⟨rfl, rfl, rfl⟩ := H
  go_enter Tryd.func76, Tryd.ntmps76
  go_wp2
  repeat (go_quiet (fail); try go_wp2)
  go_ret3
  exact ⟨by first | rfl | (simp; done) | (simp [*]; done), by repeat (first | exact Drawn0.refl _ | apply Drawn0.step)⟩
 ·rw [if_neg c3] at H
  have c3b0 : decide (a1 < 0) = false := decide_eq_false c3
  clear c3
  by_cases c4 : a1 > (wrap64 ((l0.length : Int) - 2))
  ·rw [if_pos c4] at H
   have c4b0 : decide ((wrap64 ((l0.length : Int) - 2)) < a1) = true := decide_eq_true c4
   clear c4
   simp only [Option.some.injEq, Prod.mk.injEq] at H
   obtain ⟨rfl, rfl, rfl⟩ := H
   go_enter Tryd.func76, Tryd.ntmps76
   go_wp2
   repeat (go_quiet (fail); try go_wp2)
   go_ret3
   exact ⟨by first | rfl | (simp; done) | (simp [*]; done), by repeat (first | exact Drawn0.refl _ | apply Drawn0.step)⟩
  ·rw [if_neg c4] at H
   have c4b0 : decide ((wrap64 ((l0.length : Int) - 2)) < a1) = false := decide_eq_false c4
   clear c4
   by_cases c5 : 0 ≤ a1
   ·rw [if_pos c5] at H
    have c5b0 : decide (0 ≤ a1) = true := decide_eq_true c5
    clear c5
    by_cases c6 : a1 < (l0.length : Int)
    ·rw [if_pos c6] at H
     have c6b0 : decide (a1 < (l0.length : Int)) = true := decide_eq_true c6
     clear c6
     obtain ⟨ji7, hji7⟩ : ∃ j_ : Int, (wrap64 (a1 + 1)) = j_ := ⟨_, rfl⟩
     replace H : (if 0 ≤ (ji7) then (if (ji7) < (l0.length : Int) then (some (wrap64 ((wrap64 ((wrap64 (rd l0 a1)) * 256)) + (wrap64 (rd l0 (ji7)))), wrap64 (a1 + 2), true)) else (none)) else (none)) = some (r1, r2, r3) := by first | (rw [hji7] at H; exact H) | (simp only [hji7] at H ⊢; exact H)
     have hji7w : (IntKind.i64.wrap (a1 + 1)) = ji7 := (i64_w _).trans hji7
     by_cases c8 : 0 ≤ (ji7)
     ·rw [if_pos c8] at H
      have c8b0 : decide (0 ≤ (ji7)) = true := decide_eq_true c8
      clear c8
      by_cases c9 : (ji7) < (l0.length : Int)
      ·rw [if_pos c9] at H
       have c9b0 : decide ((ji7) < (l0.length : Int)) = true := decide_eq_true c9
       clear c9
       simp only [Option.some.injEq, Prod.mk.injEq] at H
       obtain ⟨rfl, rfl, rfl⟩ := H
       have p769 : 0 ≤ (a1 : Int) := of_decide_eq_true z4_
       have q769 : a1 < (l0.length : Int) := of_decide_eq_true z4_
       obtain ⟨ad769, e769, hx769_0⟩ := Kd.at_int HR0.out a1 p769 q769
       cases e769
       replace p769 := eq_true p769
       replace q769 := eq_true q769
       have p770 : 0 ≤ ((ji7) : Int) := of_decide_eq_true z4_
       have q770 : (ji7) < (l0.length : Int) := of_decide_eq_true z4_
       obtain ⟨ad770, e770, hx770_0⟩ := Kd.at_int HR0.out (ji7) p770 q770
       obtain rfl : ad769 = ad770 := (by injection e770)
       replace p770 := eq_true p770
       replace q770 := eq_true q770
       go_enter Tryd.func76, Tryd.ntmps76
       go_wp2
       repeat (go_quiet (fail); try go_wp2)
       go_ret3
       exact ⟨by first | rfl | (simp; done) | (simp only [← hji7] <;> (first | rfl | simp)) | (simp [*]; done), by repeat (first | exact Drawn0.refl _ | apply Drawn0.step)⟩
      ·rw [if_neg c9] at H
       exact absurd H (by simp)
     ·rw [if_neg c8] at H
      exact absurd H (by simp)
    ·rw [if_neg c6] at H
     exact absurd H (by simp)
   ·rw [if_neg c5] at H
    exact absurd H (by simp)

/-! ### spec_GetText: function 77 -/
set_option maxHeartbeats 8000000 in
set_option maxRecDepth 100000 in
theorem spec_GetText.calls (k : Nat) (A0 : Option Addr) (c0 : Nat) (l0 : List Int) (a1 : Int) (r1 : ByteArray) (r2 : Int) (r3 : Bool) (w : World) (hr0 : Kd.C (Kd.int .u8) w A0 l0.length l0) (hc0 : l0.length ≤ c0) (h : spec_GetText.f k l0 a1 = some (r1, r2, r3)) :
  Calls Tryd.prog 77 #[.slice A0 l0.length c0, .int .i64 a1] w fun e w' => e = .returned (.tuple #[.string r1, .int .i64 r2, .bool r3]) ∧ Drawn0 w w' := by
 have HR0 := Aside0.mk hr0
 have HC0 := Aside0.mk hc0
 clear hr0 hc0
 have H : (if a1 < 0 then (spec_GetText.j0 k l0 a1 true) else (spec_GetText.j0 k l0 a1 (decide (a1 ≥ (l0.length : Int))))) = some (r1, r2, r3) := h
 clear h
 have HC3 := Aside0.mk H
 clear H
 go_enter Tryd.func77, Tryd.ntmps77
 go_upto_region 1 with (fail)
 go_cut [15] (fun v15 wc => ∃ (kq : Nat) (x15_2 : Bool), v15 = .bool x15_2 ∧ Aside0 (spec_GetText.j0 kq l0 a1 x15_2 = some (r1, r2, r3)) ∧ Aside0 (kq ≤ k) ∧ Drawn0 w wc)
 case first =>
  have H := HC3.out
  clear HC3
  by_cases c4 : a1 < 0
  ·rw [if_pos c4] at H
   have c4b0 : decide (a1 < 0) = true := decide_eq_true c4
   clear c4
   (first | rw [c4b0] | (simp only [i64_w, i32_w]; rw [c4b0]) | skip)
   have H' := Aside0.mk H
   clear H
   go_wp2
   go_meet
   case rel => exact ⟨_, (true), z11_, H', ⟨by first | omega | exact Nat.le_refl _⟩, by repeat (first | exact Drawn0.refl _ | apply Drawn0.step)⟩
  ·rw [if_neg c4] at H
   have c4b0 : decide (a1 < 0) = false := decide_eq_false c4
   clear c4
   (first | rw [c4b0] | (simp only [i64_w, i32_w]; rw [c4b0]) | skip)
   have H' := Aside0.mk H
   clear H
   go_wp2
   go_meet
   case rel => exact ⟨_, (decide (a1 ≥ (l0.length : Int))), z11_, H', ⟨by first | omega | exact Nat.le_refl _⟩, by repeat (first | exact Drawn0.refl _ | apply Drawn0.step)⟩
 case rest =>
  clear HC3
  try clear p2
  try clear c4
  try clear c4b0
  obtain ⟨kq, x15_2, rfl, HA, HJ2, ⟨mc2, rfl⟩⟩ := hcut
  cases kq with
  | zero => exact absurd HA.out (by simp [spec_GetText.j0])
  | succ kj2 =>
   have H := HA.out
   clear HA
   simp only [spec_GetText.j0] at H
   by_cases c5 : x15_2 = true
   ·subst c5
    have H1 : (some ((⟨#[]⟩ : ByteArray), 0, false)) = some (r1, r2, r3) := by rw [if_pos rfl] at H; exact H
    clear H
    have H := H1
    clear H1
    simp only [Option.some.injEq, Prod.mk.injEq] at H
    obtain ⟨rfl, rfl, rfl⟩ := H
    go_wp2
    go_ret3
    exact ⟨by first | rfl | (simp; done) | (simp [*]; done), by repeat (first | exact Drawn0.refl _ | apply Drawn0.step)⟩
   ·replace c5 := Bool.eq_false_iff.mpr c5
    subst c5
    have H1 : (if 0 ≤ a1 then (if a1 < (l0.length : Int) then (if (wrap64 (rd l0 a1)) > (wrap64 ((wrap64 ((l0.length : Int) - a1)) - 1)) then (some ((⟨#[]⟩ : ByteArray), 0, false)) else (if 0 ≤ (wrap64 (a1 + 1)) then (if (wrap64 (a1 + 1)) ≤ (wrap64 ((wrap64 (a1 + 1)) + (wrap64 (rd l0 a1)))) then (if (wrap64 ((wrap64 (a1 + 1)) + (wrap64 (rd l0 a1)))) ≤ (l0.length : Int) then ((spec_TextOk.f kj2 (strOfNums ((l0.take ((wrap64 ((wrap64 (a1 + 1)) + (wrap64 (rd l0 a1)))) : Int).toNat).drop ((wrap64 (a1 + 1)) : Int).toNat))).bind fun t773 => (if t773 = true then (some (strOfNums ((l0.take ((wrap64 ((wrap64 (a1 + 1)) + (wrap64 (rd l0 a1)))) : Int).toNat).drop ((wrap64 (a1 + 1)) : Int).toNat), wrap64 ((wrap64 (a1 + 1)) + (wrap64 (rd l0 a1))), true)) else (some ((⟨#[]⟩ : ByteArray), 0, false)))) else (none)) else (none)) else (none))) else (none)) else (none)) = some (r1, r2, r3) := by rw [if_neg (show ¬ (false = true) by decide)] at H; exact H
    clear H
    have H := H1
    clear H1
    by_cases c6 : 0 ≤ a1
    ·rw [if_pos c6] at H
     have c6b0 : decide (0 ≤ a1) = true := decide_eq_true c6
     clear c6
     by_cases c7 : a1 < (l0.length : Int)
     ·rw [if_pos c7] at H
      have c7b0 : decide (a1 < (l0.length : Int)) = true := decide_eq_true c7
      clear c7
      by_cases c8 : (wrap64 (rd l0 a1)) > (wrap64 ((wrap64 ((l0.length : Int) - a1)) - 1))
      ·rw [if_pos c8] at H
       have c8b0 : decide ((wrap64 ((wrap64 ((l0.length : Int) - a1)) - 1)) < (wrap64 (rd l0 a1))) = true := decide_eq_true c8
       clear c8
       simp only [Option.some.injEq, Prod.mk.injEq] at H
       obtain ⟨rfl, rfl, rfl⟩ := H
       have p771 : 0 ≤ (a1 : Int) := of_decide_eq_true z4_
       have q771 : a1 < (l0.length : Int) := of_decide_eq_true z4_
       obtain ⟨ad771, e771, hx771_0⟩ := Kd.at_int HR0.out a1 p771 q771
       cases e771
       replace p771 := eq_true p771
       replace q771 := eq_true q771
       go_wp2
       go_ret3
       exact ⟨by first | rfl | (simp; done) | (simp [*]; done), by repeat (first | exact Drawn0.refl _ | apply Drawn0.step)⟩
      ·rw [if_neg c8] at H
       have c8b0 : decide ((wrap64 ((wrap64 ((l0.length : Int) - a1)) - 1)) < (wrap64 (rd l0 a1))) = false := decide_eq_false c8
       clear c8
       obtain ⟨ji9, hji9⟩ : ∃ j_ : Int, (wrap64 (a1 + 1)) = j_ := ⟨_, rfl⟩
       replace H : (if 0 ≤ (ji9) then (if (ji9) ≤ (wrap64 ((ji9) + (wrap64 (rd l0 a1)))) then (if (wrap64 ((ji9) + (wrap64 (rd l0 a1)))) ≤ (l0.length : Int) then ((spec_TextOk.f kj2 (strOfNums ((l0.take ((wrap64 ((ji9) + (wrap64 (rd l0 a1)))) : Int).toNat).drop ((ji9) : Int).toNat))).bind fun t773 => (if t773 = true then (some (strOfNums ((l0.take ((wrap64 ((ji9) + (wrap64 (rd l0 a1)))) : Int).toNat).drop ((ji9) : Int).toNat), wrap64 ((ji9) + (wrap64 (rd l0 a1))), true)) else (some ((⟨#[]⟩ : ByteArray), 0, false)))) else (none)) else (none)) else (none)) = some (r1, r2, r3) := by first | (rw [hji9] at H; exact H) | (simp only [hji9] at H ⊢; exact H)
       have hji9w : (IntKind.i64.wrap (a1 + 1)) = ji9 := (i64_w _).trans hji9
       by_cases c10 : 0 ≤ (ji9)
       ·rw [if_pos c10] at H
        have c10b0 := eq_true c10
        have c10b1 : decide (0 ≤ (ji9)) = true := decide_eq_true c10
        clear c10
        by_cases c11 : (ji9) ≤ (wrap64 ((ji9) + (wrap64 (rd l0 a1))))
        ·rw [if_pos c11] at H
         have c11b0 := eq_true c11
         have c11b1 : decide ((ji9) ≤ (wrap64 ((ji9) + (wrap64 (rd l0 a1))))) = true := decide_eq_true c11
         by_cases c12 : (wrap64 ((ji9) + (wrap64 (rd l0 a1)))) ≤ (l0.length : Int)
         ·rw [if_pos c12] at H
          have c12b0 := eq_true c12
          have c12b1 : decide ((wrap64 ((ji9) + (wrap64 (rd l0 a1)))) ≤ (l0.length : Int)) = true := decide_eq_true c12
          replace H := Option.bind_eq_some_iff.mp H
          obtain ⟨t773, A130, H⟩ := H
          replace H : (if t773 = true then (some (strOfNums ((l0.take ((wrap64 ((ji9) + (wrap64 (rd l0 a1)))) : Int).toNat).drop ((ji9) : Int).toNat), wrap64 ((ji9) + (wrap64 (rd l0 a1))), true)) else (some ((⟨#[]⟩ : ByteArray), 0, false))) = some (r1, r2, r3) := H
          have A13 := Aside0.mk A130
          clear A130
          by_cases c14 : t773 = true
          ·subst c14
           have H1 : (some (strOfNums ((l0.take ((wrap64 ((ji9) + (wrap64 (rd l0 a1)))) : Int).toNat).drop ((ji9) : Int).toNat), wrap64 ((ji9) + (wrap64 (rd l0 a1))), true)) = some (r1, r2, r3) := by rw [if_pos rfl] at H; exact H
           clear H
           have H := H1
           clear H1
           have c15b0 := eq_true (of_decide_eq_true z4_ : 0 ≤ (ji9))
           have c16b0 := eq_true (of_decide_eq_true z4_ : (ji9) ≤ (wrap64 ((ji9) + (wrap64 (rd l0 a1)))))
           have c17b0 := eq_true (of_decide_eq_true z4_ : (wrap64 ((ji9) + (wrap64 (rd l0 a1)))) ≤ (l0.length : Int))
           simp only [Option.some.injEq, Prod.mk.injEq] at H
           obtain ⟨rfl, rfl, rfl⟩ := H
           have p771 : 0 ≤ (a1 : Int) := of_decide_eq_true z4_
           have q771 : a1 < (l0.length : Int) := of_decide_eq_true z4_
           obtain ⟨ad771, e771, hx771_0⟩ := Kd.at_int HR0.out a1 p771 q771
           cases e771
           replace p771 := eq_true p771
           replace q771 := eq_true q771
           obtain ⟨i018, hi018, _, hsz18, _⟩ := info_parts info5
           obtain ⟨A18, hcut18, hA18, hC18⟩ := print_mid_of (P := Tryd.prog) (Value.int .u8) 0 42 5 .i64 .i64 Tryd.underlying42 hi018 hsz18 (some ad771) c0 l0 (ji9) (wrap64 ((ji9) + (wrap64 (rd l0 a1)))) (of_decide_eq_true z4_) z94_ (of_decide_eq_true z4_) HC0.out
           have HR772 := Aside0.mk (Kd.C_of_reads (h1 := fun _ => rfl) (hA18 _ (Kd.reads_of_C HR0.out)))
           have HC772 := Aside0.mk hC18
           clear hA18 hC18 hi018 hsz18
           have hcv19 := Kd.C_string (P := Tryd.prog) (A := A18) (c := (c0 - (ji9).toNat)) Tryd.underlying42 Tryd.underlying5 Tryd.underlying9 HR772.out
           have hcv19n := fun (m_ : Nat) => Kd.C_string (P := Tryd.prog) (A := A18) (c := (c0 - (ji9).toNat)) Tryd.underlying42 Tryd.underlying5 Tryd.underlying9 (Kd.C_drewN HR772.out m_)
           have hcv19b := hcv19
           (try simp only [List.length_drop, List.length_take] at hcv19b)
           (try rw [Nat.min_eq_left (by omega)] at hcv19b)
           have hcv19c := hcv19b
           (try simp only [Int.reduceToNat] at hcv19c)
           have hcv19d := hcv19
           (try simp only [Int.reduceToNat] at hcv19d)
           have hcv19nb := hcv19n
           (try simp only [List.length_drop, List.length_take] at hcv19nb)
           (try rw [Nat.min_eq_left (by omega)] at hcv19nb)
           have hcv19nc := hcv19nb
           (try simp only [Int.reduceToNat] at hcv19nc)
           have hcv19nd := hcv19n
           (try simp only [Int.reduceToNat] at hcv19nd)
           go_wp2_with (first | (go_at_call 90; (with_reducible refine (spec_TextOk.calls kj2 (strOfNums ((l0.take ((wrap64 ((ji9) + (wrap64 (rd l0 a1)))) : Int).toNat).drop ((ji9) : Int).toNat)) true _ A13.out).mono ?_); rintro e w' ⟨rfl, ⟨nd, rfl⟩⟩; obtain ⟨i020, hi020, _, hsz20, _⟩ := info_parts info5; obtain ⟨A20, hcut20, hA20, hC20⟩ := print_mid_of (P := Tryd.prog) (Value.int .u8) 0 42 5 .i64 .i64 Tryd.underlying42 hi020 hsz20 (some ad771) c0 l0 (ji9) (wrap64 ((ji9) + (wrap64 (rd l0 a1)))) (of_decide_eq_true z4_) z94_ (of_decide_eq_true z4_) HC0.out; have HR774 := Aside0.mk (Kd.C_of_reads (h1 := fun _ => rfl) (hA20 _ (Kd.reads_of_C HR0.out))); have HC774 := Aside0.mk hC20; clear hA20 hC20 hi020 hsz20; have hcv21 := Kd.C_string (P := Tryd.prog) (A := A20) (c := (c0 - (ji9).toNat)) Tryd.underlying42 Tryd.underlying5 Tryd.underlying9 HR774.out; have hcv21n := fun (m_ : Nat) => Kd.C_string (P := Tryd.prog) (A := A20) (c := (c0 - (ji9).toNat)) Tryd.underlying42 Tryd.underlying5 Tryd.underlying9 (Kd.C_drewN HR774.out m_); have hcv21b := hcv21; (try simp only [List.length_drop, List.length_take] at hcv21b); (try rw [Nat.min_eq_left (by omega)] at hcv21b); have hcv21c := hcv21b; (try simp only [Int.reduceToNat] at hcv21c); have hcv21d := hcv21; (try simp only [Int.reduceToNat] at hcv21d); have hcv21nb := hcv21n; (try simp only [List.length_drop, List.length_take] at hcv21nb); (try rw [Nat.min_eq_left (by omega)] at hcv21nb); have hcv21nc := hcv21nb; (try simp only [Int.reduceToNat] at hcv21nc); have hcv21nd := hcv21n; (try simp only [Int.reduceToNat] at hcv21nd)))
           go_ret3
           exact ⟨by first | rfl | (simp; done) | (simp only [← hji9] <;> (first | rfl | simp)) | (simp [*]; done), by repeat (first | exact Drawn0.refl _ | apply Drawn0.step)⟩
          ·replace c14 := Bool.eq_false_iff.mpr c14
           subst c14
           have H1 : (some ((⟨#[]⟩ : ByteArray), 0, false)) = some (r1, r2, r3) := by rw [if_neg (show ¬ (false = true) by decide)] at H; exact H
           clear H
           have H := H1
           clear H1
           simp only [Option.some.injEq, Prod.mk.injEq] at H
           obtain ⟨rfl, rfl, rfl⟩ := H
           have p771 : 0 ≤ (a1 : Int) := of_decide_eq_true z4_
           have q771 : a1 < (l0.length : Int) := of_decide_eq_true z4_
           obtain ⟨ad771, e771, hx771_0⟩ := Kd.at_int HR0.out a1 p771 q771
           cases e771
           replace p771 := eq_true p771
           replace q771 := eq_true q771
           obtain ⟨i022, hi022, _, hsz22, _⟩ := info_parts info5
           obtain ⟨A22, hcut22, hA22, hC22⟩ := print_mid_of (P := Tryd.prog) (Value.int .u8) 0 42 5 .i64 .i64 Tryd.underlying42 hi022 hsz22 (some ad771) c0 l0 (ji9) (wrap64 ((ji9) + (wrap64 (rd l0 a1)))) (of_decide_eq_true z4_) z94_ (of_decide_eq_true z4_) HC0.out
           have HR772 := Aside0.mk (Kd.C_of_reads (h1 := fun _ => rfl) (hA22 _ (Kd.reads_of_C HR0.out)))
           have HC772 := Aside0.mk hC22
           clear hA22 hC22 hi022 hsz22
           have hcv23 := Kd.C_string (P := Tryd.prog) (A := A22) (c := (c0 - (ji9).toNat)) Tryd.underlying42 Tryd.underlying5 Tryd.underlying9 HR772.out
           have hcv23n := fun (m_ : Nat) => Kd.C_string (P := Tryd.prog) (A := A22) (c := (c0 - (ji9).toNat)) Tryd.underlying42 Tryd.underlying5 Tryd.underlying9 (Kd.C_drewN HR772.out m_)
           have hcv23b := hcv23
           (try simp only [List.length_drop, List.length_take] at hcv23b)
           (try rw [Nat.min_eq_left (by omega)] at hcv23b)
           have hcv23c := hcv23b
           (try simp only [Int.reduceToNat] at hcv23c)
           have hcv23d := hcv23
           (try simp only [Int.reduceToNat] at hcv23d)
           have hcv23nb := hcv23n
           (try simp only [List.length_drop, List.length_take] at hcv23nb)
           (try rw [Nat.min_eq_left (by omega)] at hcv23nb)
           have hcv23nc := hcv23nb
           (try simp only [Int.reduceToNat] at hcv23nc)
           have hcv23nd := hcv23n
           (try simp only [Int.reduceToNat] at hcv23nd)
           go_wp2_with (first | (go_at_call 90; (with_reducible refine (spec_TextOk.calls kj2 (strOfNums ((l0.take ((wrap64 ((ji9) + (wrap64 (rd l0 a1)))) : Int).toNat).drop ((ji9) : Int).toNat)) false _ A13.out).mono ?_); rintro e w' ⟨rfl, ⟨nd, rfl⟩⟩))
           go_ret3
           exact ⟨by first | rfl | (simp; done) | (simp only [← hji9] <;> (first | rfl | simp)) | (simp [*]; done), by repeat (first | exact Drawn0.refl _ | apply Drawn0.step)⟩
         ·rw [if_neg c12] at H
          exact absurd H (by simp)
        ·rw [if_neg c11] at H
         exact absurd H (by simp)
       ·rw [if_neg c10] at H
        exact absurd H (by simp)
     ·rw [if_neg c7] at H
      exact absurd H (by simp)
    ·rw [if_neg c6] at H
     exact absurd H (by simp)

/-! ### spec_l1Same: function 78 -/
set_option maxHeartbeats 8000000 in
set_option maxRecDepth 100000 in
theorem spec_l1Same.calls (A0 : Option Addr) (c0 : Nat) (l0 : List Int) (A1 : Option Addr) (c1 : Nat) (l1 : List Int) (r : Bool) (w : World) (hr0 : Kd.C (Kd.int .u8) w A0 l0.length l0) (hc0 : l0.length ≤ c0) (hr1 : Kd.C (Kd.int .u8) w A1 l1.length l1) (hc1 : l1.length ≤ c1) (h : spec_l1Same.f l0 l1 = some r) :
  Calls Tryd.prog 78 #[.slice A0 l0.length c0, .slice A1 l1.length c1] w fun e w' => e = .returned (.bool r) ∧ Drawn0 w w' := by
 have HR0 := Aside0.mk hr0
 have HC0 := Aside0.mk hc0
 clear hr0 hc0
 have HR1 := Aside0.mk hr1
 have HC1 := Aside0.mk hc1
 clear hr1 hc1
 have H : (some ((strOfNums l0).toList == (strOfNums l1).toList)) = some r := h
 clear h
 obtain rfl := Option.some.inj H
 have hcv3 := Kd.C_string (P := Tryd.prog) (A := A0) (c := c0) Tryd.underlying42 Tryd.underlying5 Tryd.underlying9 HR0.out
 have hcv3n := fun (m_ : Nat) => Kd.C_string (P := Tryd.prog) (A := A0) (c := c0) Tryd.underlying42 Tryd.underlying5 Tryd.underlying9 (Kd.C_drewN HR0.out m_)
 have hcv3b := hcv3
 (try simp only [List.length_drop, List.length_take] at hcv3b)
 (try rw [Nat.min_eq_left (by omega)] at hcv3b)
 have hcv3c := hcv3b
 (try simp only [Int.reduceToNat] at hcv3c)
 have hcv3d := hcv3
 (try simp only [Int.reduceToNat] at hcv3d)
 have hcv3nb := hcv3n
 (try simp only [List.length_drop, List.length_take] at hcv3nb)
 (try rw [Nat.min_eq_left (by omega)] at hcv3nb)
 have hcv3nc := hcv3nb
 (try simp only [Int.reduceToNat] at hcv3nc)
 have hcv3nd := hcv3n
 (try simp only [Int.reduceToNat] at hcv3nd)
 have hcv4 := Kd.C_string (P := Tryd.prog) (A := A1) (c := c1) Tryd.underlying42 Tryd.underlying5 Tryd.underlying9 HR1.out
 have hcv4n := fun (m_ : Nat) => Kd.C_string (P := Tryd.prog) (A := A1) (c := c1) Tryd.underlying42 Tryd.underlying5 Tryd.underlying9 (Kd.C_drewN HR1.out m_)
 have hcv4b := hcv4
 (try simp only [List.length_drop, List.length_take] at hcv4b)
 (try rw [Nat.min_eq_left (by omega)] at hcv4b)
 have hcv4c := hcv4b
 (try simp only [Int.reduceToNat] at hcv4c)
 have hcv4d := hcv4
 (try simp only [Int.reduceToNat] at hcv4d)
 have hcv4nb := hcv4n
 (try simp only [List.length_drop, List.length_take] at hcv4nb)
 (try rw [Nat.min_eq_left (by omega)] at hcv4nb)
 have hcv4nc := hcv4nb
 (try simp only [Int.reduceToNat] at hcv4nc)
 have hcv4nd := hcv4n
 (try simp only [Int.reduceToNat] at hcv4nd)
 go_enter Tryd.func78, Tryd.ntmps78
 go_wp2
 go_ret
 exact ⟨by first | rfl | (simp; done) | (simp [*]; done), by repeat (first | exact Drawn0.refl _ | apply Drawn0.step)⟩

/-! ### spec_GetRec: function 36 -/
def spec_GetRec.T7 : Bool × List (List Nat × List Nat) := (true, [([], []), ([0], [0]), ([1], [1]), ([2], [2]), ([], []), ([], []), ([5], [5]), ([6], [6]), ([7], [7]), ([], []), ([3, 4, 8, 9], [3, 4, 8, 9]), ([], []), ([11, 10, 0, 1, 2, 3, 4, 5, 6, 7, 8, 9, 10, 11], [10, 11])])
def spec_GetRec.B7 : List Nat := [0, 1, 3, 7, 0, 0, 32, 96, 224, 0, 1023, 0, 4095]
theorem spec_GetRec.tab7 : rtab .any (opsOf Tryd.f36 7) = spec_GetRec.T7 := by kernel_rfl
theorem spec_GetRec.bits7 : waitsOk spec_GetRec.T7.2 spec_GetRec.B7 = true := by kernel_rfl
set_option maxHeartbeats 8000000 in
set_option maxRecDepth 100000 in
theorem spec_GetRec.calls (k : Nat) (A0 : Option Addr) (c0 : Nat) (l0 : List Int) (r1 : Int) (r2 : Int) (r3 : Int) (r4 : Int) (r5 : Int) (r6 : ByteArray) (r7 : Bool) (w : World) (hr0 : Kd.C (Kd.int .u8) w A0 l0.length l0) (hc0 : l0.length ≤ c0) (h : spec_GetRec.f k l0 = some (r1, r2, r3, r4, r5, r6, r7)) :
  Calls Tryd.prog 36 #[.slice A0 l0.length c0] w fun e w' => e = .returned (.tuple #[.int .i64 r1, .int .i64 r2, .agg #[.int .i64 r3, .int .i64 r4, .int .i64 r5, .string r6], .bool r7]) ∧ Below w.heap.size w w' := by
 have hu38 := Tryd.underlying38
 have HR0 := Aside0.mk hr0
 have HC0 := Aside0.mk hc0
 clear hr0 hc0
 have HB := Aside0.mk (Below.refl w.heap.size w)
 have H : (if (l0.length : Int) < 11 then (some (0, 0, 0, 0, 0, (⟨#[]⟩ : ByteArray), false)) else ((spec_GetWord.f l0 0).bind fun bt776 => ((spec_GetWord.f l0 2).bind fun bt779 => ((spec_GetWord.f l0 5).bind fun bt782 => ((spec_GetText.f k l0 8).bind fun bt785 => (if 4 < (l0.length : Int) then (if 7 < (l0.length : Int) then (if bt785.2.2 = true then ((spec_RecOk.f k (wrap64 (rd l0 4)) bt782.1 (wrap64 (rd l0 7)) bt785.1).bind fun t791 => (if t791 = true then ((spec_PutRec.f k bt776.1 bt779.1 (wrap64 (rd l0 4)) bt782.1 (wrap64 (rd l0 7)) bt785.1).bind fun t792 => ((spec_l1Same.f t792 l0).bind fun t795 => (if t795 = true then (some (bt776.1, bt779.1, wrap64 (rd l0 4), bt782.1, wrap64 (rd l0 7), bt785.1, true)) else (some (0, 0, 0, 0, 0, (⟨#[]⟩ : ByteArray), false))))) else (some (0, 0, 0, 0, 0, (⟨#[]⟩ : ByteArray), false)))) else (some (0, 0, 0, 0, 0, (⟨#[]⟩ : ByteArray), false))) else (none)) else (none))))))) = some (r1, r2, r3, r4, r5, r6, r7) := h
 clear h
 by_cases c2 : (l0.length : Int) < 11
 ·rw [if_pos c2] at H
  have c2b0 : decide ((l0.length : Int) < 11) = true := decide_eq_true c2
  have c2b1 : decide (l0.length < 11) = true := decide_eq_true (by omega)
  clear c2
  simp only [Option.some.injEq, Prod.mk.injEq] at H
  obtain ⟨rfl, rfl, rfl, rfl, rfl, rfl, rfl⟩ := H
  go_enter Tryd.func36, Tryd.ntmps36
  go_wp2_with (first | ((with_reducible refine gate_dst (N := 4) rfl ?_); refine box_event ?hg (N := 4) ?hd (cs := #[.int .i64 0, .int .i64 0, .int .i64 0, .string (⟨#[]⟩ : ByteArray)]) (t := 38) ?hr ?_; (case hd => rfl); (case hg => rfl); (case hr => first | (go_simp; done) | (go_simp; rfl)); intro gb775 hg w3 hbox hb; have n0_ := Aside0.mk (below_step z0_ hb); have n1_ := Aside0.mk (hbox); have n2_ := Aside0.mk ((by rw [hg]; exact (below_size z0_) : w.heap.size ≤ gb775)); have n3_ := Aside0.mk ((by rw [hg]; exact (below_size z0_) : w.heap.size ≤ gb775)); clear HB; have HB := n0_; have BK775 := n1_; have GW775 := n2_; have GE775 := n3_; clear n0_ n1_ n2_ n3_; clear hb hbox hg; have hcz4_0 : w3.cell? ⟨gb775, 0, none⟩ = some (.int .i64 0) := (blk_cell BK775.out 0).trans rfl; have hcz4_1 : w3.cell? ⟨gb775, 1, none⟩ = some (.int .i64 0) := (blk_cell BK775.out 1).trans rfl; have hcz4_2 : w3.cell? ⟨gb775, 2, none⟩ = some (.int .i64 0) := (blk_cell BK775.out 2).trans rfl; have hcz4_3 : w3.cell? ⟨gb775, 3, none⟩ = some (.string (⟨#[]⟩ : ByteArray)) := (blk_cell BK775.out 3).trans rfl; have hfz4_0 := blk_frozen BK775.out 0; have hfz4_1 := blk_frozen BK775.out 1; have hfz4_2 := blk_frozen BK775.out 2; have hfz4_3 := blk_frozen BK775.out 3))
  refine bodyPost_ret (results_list (rs := [.tmp 2, .tmp 3, .cell 4 38, .tmp 5]) rfl (by simp) (.tmp (.tmp (.cell gb775 38 #[.int .i64 0, .int .i64 0, .int .i64 0, .string (⟨#[]⟩ : ByteArray)] (0, 0) _ rfl z18_ Tryd.underlying38 rfl (by kernel_rfl) (.tmp .nil))))) rfl ?_
  exact ⟨by first | rfl | (simp [errW_none, errW_some] <;> rfl) | (simp [*, errW_none, errW_some] <;> rfl), by repeat (first | (with_reducible first | exact HB.out | apply below_alloc | apply pw_below_drewN | apply below_drew1 | refine below_set ?_ GE775.out) | exact HB.out)⟩
 ·rw [if_neg c2] at H
  have c2b0 : decide ((l0.length : Int) < 11) = false := decide_eq_false c2
  have c2b1 : decide (l0.length < 11) = false := decide_eq_false (by omega)
  clear c2
  replace H := Option.bind_eq_some_iff.mp H
  obtain ⟨⟨t776, t777, t778⟩, A50, H⟩ := H
  replace H : ((spec_GetWord.f l0 2).bind fun bt779 => ((spec_GetWord.f l0 5).bind fun bt782 => ((spec_GetText.f k l0 8).bind fun bt785 => (if 4 < (l0.length : Int) then (if 7 < (l0.length : Int) then (if bt785.2.2 = true then ((spec_RecOk.f k (wrap64 (rd l0 4)) bt782.1 (wrap64 (rd l0 7)) bt785.1).bind fun t791 => (if t791 = true then ((spec_PutRec.f k t776 bt779.1 (wrap64 (rd l0 4)) bt782.1 (wrap64 (rd l0 7)) bt785.1).bind fun t792 => ((spec_l1Same.f t792 l0).bind fun t795 => (if t795 = true then (some (t776, bt779.1, wrap64 (rd l0 4), bt782.1, wrap64 (rd l0 7), bt785.1, true)) else (some (0, 0, 0, 0, 0, (⟨#[]⟩ : ByteArray), false))))) else (some (0, 0, 0, 0, 0, (⟨#[]⟩ : ByteArray), false)))) else (some (0, 0, 0, 0, 0, (⟨#[]⟩ : ByteArray), false))) else (none)) else (none))))) = some (r1, r2, r3, r4, r5, r6, r7) := H
  have A5 := Aside0.mk A50
  clear A50
  replace H := Option.bind_eq_some_iff.mp H
  obtain ⟨⟨t779, t780, t781⟩, A60, H⟩ := H
  replace H : ((spec_GetWord.f l0 5).bind fun bt782 => ((spec_GetText.f k l0 8).bind fun bt785 => (if 4 < (l0.length : Int) then (if 7 < (l0.length : Int) then (if bt785.2.2 = true then ((spec_RecOk.f k (wrap64 (rd l0 4)) bt782.1 (wrap64 (rd l0 7)) bt785.1).bind fun t791 => (if t791 = true then ((spec_PutRec.f k t776 t779 (wrap64 (rd l0 4)) bt782.1 (wrap64 (rd l0 7)) bt785.1).bind fun t792 => ((spec_l1Same.f t792 l0).bind fun t795 => (if t795 = true then (some (t776, t779, wrap64 (rd l0 4), bt782.1, wrap64 (rd l0 7), bt785.1, true)) else (some (0, 0, 0, 0, 0, (⟨#[]⟩ : ByteArray), false))))) else (some (0, 0, 0, 0, 0, (⟨#[]⟩ : ByteArray), false)))) else (some (0, 0, 0, 0, 0, (⟨#[]⟩ : ByteArray), false))) else (none)) else (none)))) = some (r1, r2, r3, r4, r5, r6, r7) := H
  have A6 := Aside0.mk A60
  clear A60
  replace H := Option.bind_eq_some_iff.mp H
  obtain ⟨⟨t782, t783, t784⟩, A70, H⟩ := H
  replace H : ((spec_GetText.f k l0 8).bind fun bt785 => (if 4 < (l0.length : Int) then (if 7 < (l0.length : Int) then (if bt785.2.2 = true then ((spec_RecOk.f k (wrap64 (rd l0 4)) t782 (wrap64 (rd l0 7)) bt785.1).bind fun t791 => (if t791 = true then ((spec_PutRec.f k t776 t779 (wrap64 (rd l0 4)) t782 (wrap64 (rd l0 7)) bt785.1).bind fun t792 => ((spec_l1Same.f t792 l0).bind fun t795 => (if t795 = true then (some (t776, t779, wrap64 (rd l0 4), t782, wrap64 (rd l0 7), bt785.1, true)) else (some (0, 0, 0, 0, 0, (⟨#[]⟩ : ByteArray), false))))) else (some (0, 0, 0, 0, 0, (⟨#[]⟩ : ByteArray), false)))) else (some (0, 0, 0, 0, 0, (⟨#[]⟩ : ByteArray), false))) else (none)) else (none))) = some (r1, r2, r3, r4, r5, r6, r7) := H
  have A7 := Aside0.mk A70
  clear A70
  replace H := Option.bind_eq_some_iff.mp H
  obtain ⟨⟨t785, t786, t787⟩, A80, H⟩ := H
  replace H : (if 4 < (l0.length : Int) then (if 7 < (l0.length : Int) then (if t787 = true then ((spec_RecOk.f k (wrap64 (rd l0 4)) t782 (wrap64 (rd l0 7)) t785).bind fun t791 => (if t791 = true then ((spec_PutRec.f k t776 t779 (wrap64 (rd l0 4)) t782 (wrap64 (rd l0 7)) t785).bind fun t792 => ((spec_l1Same.f t792 l0).bind fun t795 => (if t795 = true then (some (t776, t779, wrap64 (rd l0 4), t782, wrap64 (rd l0 7), t785, true)) else (some (0, 0, 0, 0, 0, (⟨#[]⟩ : ByteArray), false))))) else (some (0, 0, 0, 0, 0, (⟨#[]⟩ : ByteArray), false)))) else (some (0, 0, 0, 0, 0, (⟨#[]⟩ : ByteArray), false))) else (none)) else (none)) = some (r1, r2, r3, r4, r5, r6, r7) := H
  have A8 := Aside0.mk A80
  clear A80
  by_cases c9 : 4 < (l0.length : Int)
  ·rw [if_pos c9] at H
   have c9b0 : decide (4 < (l0.length : Int)) = true := decide_eq_true c9
   have c9b1 : decide (4 < l0.length) = true := decide_eq_true (by omega)
   clear c9
   by_cases c10 : 7 < (l0.length : Int)
   ·rw [if_pos c10] at H
    have c10b0 : decide (7 < (l0.length : Int)) = true := decide_eq_true c10
    have c10b1 : decide (7 < l0.length) = true := decide_eq_true (by omega)
    clear c10
    by_cases c11 : t787 = true
    ·subst c11
     have H1 : ((spec_RecOk.f k (wrap64 (rd l0 4)) t782 (wrap64 (rd l0 7)) t785).bind fun t791 => (if t791 = true then ((spec_PutRec.f k t776 t779 (wrap64 (rd l0 4)) t782 (wrap64 (rd l0 7)) t785).bind fun t792 => ((spec_l1Same.f t792 l0).bind fun t795 => (if t795 = true then (some (t776, t779, wrap64 (rd l0 4), t782, wrap64 (rd l0 7), t785, true)) else (some (0, 0, 0, 0, 0, (⟨#[]⟩ : ByteArray), false))))) else (some (0, 0, 0, 0, 0, (⟨#[]⟩ : ByteArray), false)))) = some (r1, r2, r3, r4, r5, r6, r7) := by rw [if_pos rfl] at H; exact H
     clear H
     have H := H1
     clear H1
     replace H := Option.bind_eq_some_iff.mp H
     obtain ⟨t791, A120, H⟩ := H
     replace H : (if t791 = true then ((spec_PutRec.f k t776 t779 (wrap64 (rd l0 4)) t782 (wrap64 (rd l0 7)) t785).bind fun t792 => ((spec_l1Same.f t792 l0).bind fun t795 => (if t795 = true then (some (t776, t779, wrap64 (rd l0 4), t782, wrap64 (rd l0 7), t785, true)) else (some (0, 0, 0, 0, 0, (⟨#[]⟩ : ByteArray), false))))) else (some (0, 0, 0, 0, 0, (⟨#[]⟩ : ByteArray), false))) = some (r1, r2, r3, r4, r5, r6, r7) := H
     have A12 := Aside0.mk A120
     clear A120
     by_cases c13 : t791 = true
     ·subst c13
      have H1 : ((spec_PutRec.f k t776 t779 (wrap64 (rd l0 4)) t782 (wrap64 (rd l0 7)) t785).bind fun t792 => ((spec_l1Same.f t792 l0).bind fun t795 => (if t795 = true then (some (t776, t779, wrap64 (rd l0 4), t782, wrap64 (rd l0 7), t785, true)) else (some (0, 0, 0, 0, 0, (⟨#[]⟩ : ByteArray), false))))) = some (r1, r2, r3, r4, r5, r6, r7) := by rw [if_pos rfl] at H; exact H
      clear H
      have H := H1
      clear H1
      replace H := Option.bind_eq_some_iff.mp H
      obtain ⟨t792, A140, H⟩ := H
      replace H : ((spec_l1Same.f t792 l0).bind fun t795 => (if t795 = true then (some (t776, t779, wrap64 (rd l0 4), t782, wrap64 (rd l0 7), t785, true)) else (some (0, 0, 0, 0, 0, (⟨#[]⟩ : ByteArray), false)))) = some (r1, r2, r3, r4, r5, r6, r7) := H
      have A14 := Aside0.mk A140
      clear A140
      replace H := Option.bind_eq_some_iff.mp H
      obtain ⟨t795, A150, H⟩ := H
      replace H : (if t795 = true then (some (t776, t779, wrap64 (rd l0 4), t782, wrap64 (rd l0 7), t785, true)) else (some (0, 0, 0, 0, 0, (⟨#[]⟩ : ByteArray), false))) = some (r1, r2, r3, r4, r5, r6, r7) := H
      have A15 := Aside0.mk A150
      clear A150
      by_cases c16 : t795 = true
      ·subst c16
       have H1 : (some (t776, t779, wrap64 (rd l0 4), t782, wrap64 (rd l0 7), t785, true)) = some (r1, r2, r3, r4, r5, r6, r7) := by rw [if_pos rfl] at H; exact H
       clear H
       have H := H1
       clear H1
       simp only [Option.some.injEq, Prod.mk.injEq] at H
       obtain ⟨rfl, rfl, rfl, rfl, rfl, rfl, rfl⟩ := H
       go_enter Tryd.func36, Tryd.ntmps36
       try go_wp2_with (first | ((with_reducible refine gate_dst (N := 4) rfl ?_); refine box_event ?hg (N := 4) ?hd (cs := #[.int .i64 0, .int .i64 0, .int .i64 0, .string (⟨#[]⟩ : ByteArray)]) (t := 38) ?hr ?_; (case hd => rfl); (case hg => rfl); (case hr => first | (go_simp; done) | (go_simp; rfl)); intro gb775 hg w17 hbox hb; have n0_ := Aside0.mk (below_step z0_ hb); have n1_ := Aside0.mk (hbox); have n2_ := Aside0.mk ((by rw [hg]; exact (below_size z0_) : w.heap.size ≤ gb775)); have n3_ := Aside0.mk ((by rw [hg]; exact (below_size z0_) : w.heap.size ≤ gb775)); clear HB; have HB := n0_; have BK775 := n1_; have GW775 := n2_; have GE775 := n3_; clear n0_ n1_ n2_ n3_; clear hb hbox hg) | ((with_reducible refine gate_callee (f := 76) rfl ?_); refine goesL_ (some 25) rfl rfl Tryd.func76 (by kernel_rfl) rfl #[.slice A0 l0.length c0, .int .i64 0] rfl z1_ ?_; (with_reducible refine (spec_GetWord.calls _ _ l0 0 t776 t777 t778 _ ?side1 ?side2 A5.out).mono ?_); (case side1 => repeat (first | exact (Kd.C_below HR0.out HB.out) | (with_reducible refine Kd.C_alloc ?_ _) | (with_reducible refine Kd.C_drewN ?_ _) | (with_reducible refine Kd.C_drew ?_))); (case side2 => exact HC0.out); rintro e w' ⟨rfl, ⟨nd, rfl⟩⟩; refine ⟨_, rfl, ?_⟩; (try (rw [drewN_self w17]; generalize hq_ : World.drewN w17 _ = w17; have n0_ : Aside0 (w17.heap[gb775]? = some (.cells #[.int .i64 0, .int .i64 0, .int .i64 0, .string (⟨#[]⟩ : ByteArray)] 38 (0, 0))) := ⟨by rw [← hq_]; exact z12_⟩; have n1_ : Aside0 (Below w.heap.size w w17) := ⟨by rw [← hq_]; exact z10_⟩; clear BK775 HB hq_; have BK775 := n0_; have HB := n1_; clear n0_ n1_))) | ((with_reducible refine gate_callee (f := 76) rfl ?_); refine goesL_ (some 31) rfl rfl Tryd.func76 (by kernel_rfl) rfl #[.slice A0 l0.length c0, .int .i64 2] rfl z1_ ?_; (with_reducible refine (spec_GetWord.calls _ _ l0 2 t779 t780 t781 _ ?side1 ?side2 A6.out).mono ?_); (case side1 => repeat (first | exact (Kd.C_below HR0.out HB.out) | (with_reducible refine Kd.C_alloc ?_ _) | (with_reducible refine Kd.C_drewN ?_ _) | (with_reducible refine Kd.C_drew ?_))); (case side2 => exact HC0.out); rintro e w' ⟨rfl, ⟨nd, rfl⟩⟩; refine ⟨_, rfl, ?_⟩; (try (rw [drewN_self w17]; generalize hq_ : World.drewN w17 _ = w17; have n0_ : Aside0 (w17.heap[gb775]? = some (.cells #[.int .i64 0, .int .i64 0, .int .i64 0, .string (⟨#[]⟩ : ByteArray)] 38 (0, 0))) := ⟨by rw [← hq_]; exact z12_⟩; have n1_ : Aside0 (Below w.heap.size w w17) := ⟨by rw [← hq_]; exact z10_⟩; clear BK775 HB hq_; have BK775 := n0_; have HB := n1_; clear n0_ n1_))) | ((with_reducible refine gate_callee (f := 76) rfl ?_); refine goesL_ (some 37) rfl rfl Tryd.func76 (by kernel_rfl) rfl #[.slice A0 l0.length c0, .int .i64 5] rfl z1_ ?_; (with_reducible refine (spec_GetWord.calls _ _ l0 5 t782 t783 t784 _ ?side1 ?side2 A7.out).mono ?_); (case side1 => repeat (first | exact (Kd.C_below HR0.out HB.out) | (with_reducible refine Kd.C_alloc ?_ _) | (with_reducible refine Kd.C_drewN ?_ _) | (with_reducible refine Kd.C_drew ?_))); (case side2 => exact HC0.out); rintro e w' ⟨rfl, ⟨nd, rfl⟩⟩; refine ⟨_, rfl, ?_⟩; (try (rw [drewN_self w17]; generalize hq_ : World.drewN w17 _ = w17; have n0_ : Aside0 (w17.heap[gb775]? = some (.cells #[.int .i64 0, .int .i64 0, .int .i64 0, .string (⟨#[]⟩ : ByteArray)] 38 (0, 0))) := ⟨by rw [← hq_]; exact z12_⟩; have n1_ : Aside0 (Below w.heap.size w w17) := ⟨by rw [← hq_]; exact z10_⟩; clear BK775 HB hq_; have BK775 := n0_; have HB := n1_; clear n0_ n1_))) | ((with_reducible refine gate_callee (f := 77) rfl ?_); refine goesL_ (some 43) rfl rfl Tryd.func77 (by kernel_rfl) rfl #[.slice A0 l0.length c0, .int .i64 8] rfl z1_ ?_; (with_reducible refine (spec_GetText.calls k _ _ l0 8 t785 t786 true _ ?side1 ?side2 A8.out).mono ?_); (case side1 => repeat (first | exact (Kd.C_below HR0.out HB.out) | (with_reducible refine Kd.C_alloc ?_ _) | (with_reducible refine Kd.C_drewN ?_ _) | (with_reducible refine Kd.C_drew ?_))); (case side2 => exact HC0.out); rintro e w' ⟨rfl, ⟨nd, rfl⟩⟩; refine ⟨_, rfl, ?_⟩; (try (rw [drewN_self w17]; generalize hq_ : World.drewN w17 _ = w17; have n0_ : Aside0 (w17.heap[gb775]? = some (.cells #[.int .i64 0, .int .i64 0, .int .i64 0, .string (⟨#[]⟩ : ByteArray)] 38 (0, 0))) := ⟨by rw [← hq_]; exact z12_⟩; have n1_ : Aside0 (Below w.heap.size w w17) := ⟨by rw [← hq_]; exact z10_⟩; clear BK775 HB hq_; have BK775 := n0_; have HB := n1_; clear n0_ n1_))))
       have n0_ := Aside0.mk (blk_drew BK775.out)
       have n1_ := Aside0.mk (below_drew1 HB.out)
       clear BK775
       clear HB
       have BK775 := n0_
       have HB := n1_
       clear n0_ n1_
       have p788 : 0 ≤ (4 : Int) := (by omega)
       have q788 : 4 < (l0.length : Int) := of_decide_eq_true z4_
       obtain ⟨ad788, e788, hx788_0⟩ := Kd.at_int HR0.out 4 p788 q788
       have hw788_0 := hx788_0
       (try rw [show ((4 : Int)).toNat = 4 from rfl] at hw788_0)
       (try rw [show 4 * 1 = 4 from rfl] at hw788_0)
       (try simp only [Nat.reduceMul, Nat.reduceEqDiff, Go.Addr.add, ↓reduceIte] at hw788_0)
       cases e788
       (try simp only [show (4 : Int).toNat = 4 from rfl, Nat.reduceMul, Nat.reduceEqDiff, Go.Addr.add, ↓reduceIte] at hx788_0)
       have qi788 : (4 < l0.length) = True := eq_true (by omega)
       (try rw [show ((4 : Int)).toNat = 4 from rfl] at hx788_0)
       replace hx788_0 := (HB.out.cell (World.block_lt_of_cell? w _ hx788_0)).trans hx788_0
       replace p788 := eq_true p788
       replace q788 := eq_true q788
       have p789 : 0 ≤ (7 : Int) := (by omega)
       have q789 : 7 < (l0.length : Int) := of_decide_eq_true z4_
       obtain ⟨ad789, e789, hx789_0⟩ := Kd.at_int HR0.out 7 p789 q789
       have hw789_0 := hx789_0
       (try rw [show ((7 : Int)).toNat = 7 from rfl] at hw789_0)
       (try rw [show 7 * 1 = 7 from rfl] at hw789_0)
       (try simp only [Nat.reduceMul, Nat.reduceEqDiff, Go.Addr.add, ↓reduceIte] at hw789_0)
       obtain rfl : ad788 = ad789 := (by injection e789)
       (try simp only [show (7 : Int).toNat = 7 from rfl, Nat.reduceMul, Nat.reduceEqDiff, Go.Addr.add, ↓reduceIte] at hx789_0)
       have qi789 : (7 < l0.length) = True := eq_true (by omega)
       (try rw [show ((7 : Int)).toNat = 7 from rfl] at hx789_0)
       replace hx789_0 := (HB.out.cell (World.block_lt_of_cell? w _ hx789_0)).trans hx789_0
       replace p789 := eq_true p789
       replace q789 := eq_true q789
       refine start_ (n := 13) (S := fun w' => w'.cell? ⟨ad788.block, ad788.off + 4, none⟩ = some (.int .u8 (rd l0 4)) ∧ w'.cell? ⟨ad788.block, ad788.off + 7, none⟩ = some (.int .u8 (rd l0 7))) (ds := []) #[false, false, false, false, false, false, false, false, false, false, false, false, false] (by kernel_rfl) rfl rfl ⟨((HB.out.cell (World.block_lt_of_cell? w _ hw788_0)).trans hw788_0), ((HB.out.cell (World.block_lt_of_cell? w _ hw789_0)).trans hw789_0)⟩ (fun hHeld => ?_); refine with_tabW spec_GetRec.tab7 spec_GetRec.bits7 (fun HT_ HW_ => ?_)
       generalize w17.drew = w18 at BK775 HB hx788_0 hx789_0 hHeld ⊢
       refine pure_ (i := 0) (N := some 47) (v := ?_) (a' := ?_) #[true, false, false, false, false, false, false, false, false, false, false, false, false] rfl rfl (any_of HT_.out (by kernel_rfl)) (fun _ _ _ h => h) (Or.inl ⟨by rfl, ?_⟩) ?_ ?_
       rotate_left
       ·intro w'
        go_simp
        with_reducible rfl
       rotate_left
       ·simp only [Act.put, List.setIfInBounds_toArray, List.set_cons_zero, List.set_cons_succ, i64_w, i32_w]
        rfl
       refine pure_ (i := 1) (N := some 48) (v := ?_) (a' := ?_) #[true, true, false, false, false, false, false, false, false, false, false, false, false] rfl rfl (any_of HT_.out (by kernel_rfl)) (fun _ _ _ h => h) (Or.inl ⟨by rfl, ?_⟩) ?_ ?_
       rotate_left
       ·intro w'
        go_simp
        with_reducible rfl
       rotate_left
       ·simp only [Act.put, List.setIfInBounds_toArray, List.set_cons_zero, List.set_cons_succ, i64_w, i32_w]
        rfl
       refine pure_ (i := 4) (N := some 51) (v := ?_) (a' := ?_) #[true, true, false, false, true, false, false, false, false, false, false, false, false] rfl rfl (any_of HT_.out (by kernel_rfl)) (fun _ _ _ h => h) (Or.inl ⟨by rfl, ?_⟩) ?_ ?_
       rotate_left
       ·intro w'
        go_simp
        with_reducible rfl
       rotate_left
       ·simp only [Act.put, List.setIfInBounds_toArray, List.set_cons_zero, List.set_cons_succ, i64_w, i32_w]
        rfl
       refine pure_ (i := 5) (N := some 52) (v := ?_) (a' := ?_) #[true, true, false, false, true, true, false, false, false, false, false, false, false] rfl rfl (any_of HT_.out (by kernel_rfl)) (fun _ _ _ h => h) (Or.inl ⟨by rfl, ?_⟩) ?_ ?_
       rotate_left
       ·intro w'
        go_simp
        with_reducible rfl
       rotate_left
       ·simp only [Act.put, List.setIfInBounds_toArray, List.set_cons_zero, List.set_cons_succ, i64_w, i32_w]
        rfl
       refine pure_ (i := 6) (N := some 53) (v := ?_) (a' := ?_) #[true, true, false, false, true, true, true, false, false, false, false, false, false] rfl rfl (any_of HT_.out (by kernel_rfl)) (fun _ _ _ h => h) (Or.inl ⟨by rfl, ?_⟩) ?_ ?_
       rotate_left
       ·intro w'
        go_simp
        with_reducible rfl
       rotate_left
       ·simp only [Act.put, List.setIfInBounds_toArray, List.set_cons_zero, List.set_cons_succ, i64_w, i32_w]
        rfl
       refine pure_ (i := 9) (N := some 56) (v := ?_) (a' := ?_) #[true, true, false, false, true, true, true, false, false, true, false, false, false] rfl rfl (any_of HT_.out (by kernel_rfl)) (fun _ _ _ h => h) (Or.inl ⟨by rfl, ?_⟩) ?_ ?_
       rotate_left
       ·intro w'
        go_simp
        with_reducible rfl
       rotate_left
       ·simp only [Act.put, List.setIfInBounds_toArray, List.set_cons_zero, List.set_cons_succ, i64_w, i32_w]
        rfl
       refine take_ (i := 2) (N := some 49) (v := ?_) (a' := ?_) #[true, true, true, false, true, true, true, false, false, true, false, false, false] rfl rfl (take_ofW HT_.out HW_.out (by kernel_rfl)) (fun _ _ _ h => h) (Or.inl ⟨by rfl, ?_⟩) hHeld ?_ ?_
       rotate_left
       ·rintro w' ⟨s0, s1⟩
        go_simp
        with_reducible rfl
       rotate_left
       ·simp only [Act.put, List.setIfInBounds_toArray, List.set_cons_zero, List.set_cons_succ, i64_w, i32_w]
        rfl
       refine pure_ (i := 3) (N := some 50) (v := ?_) (a' := ?_) #[true, true, true, true, true, true, true, false, false, true, false, false, false] rfl rfl (any_of HT_.out (by kernel_rfl)) (fun _ _ _ h => h) (Or.inl ⟨by rfl, ?_⟩) ?_ ?_
       rotate_left
       ·intro w'
        go_simp
        with_reducible rfl
       rotate_left
       ·simp only [Act.put, List.setIfInBounds_toArray, List.set_cons_zero, List.set_cons_succ, i64_w, i32_w]
        rfl
       refine take_ (i := 7) (N := some 54) (v := ?_) (a' := ?_) #[true, true, true, true, true, true, true, true, false, true, false, false, false] rfl rfl (take_ofW HT_.out HW_.out (by kernel_rfl)) (fun _ _ _ h => h) (Or.inl ⟨by rfl, ?_⟩) hHeld ?_ ?_
       rotate_left
       ·rintro w' ⟨s0, s1⟩
        go_simp
        with_reducible rfl
       rotate_left
       ·simp only [Act.put, List.setIfInBounds_toArray, List.set_cons_zero, List.set_cons_succ, i64_w, i32_w]
        rfl
       refine pure_ (i := 8) (N := some 55) (v := ?_) (a' := ?_) #[true, true, true, true, true, true, true, true, true, true, false, false, false] rfl rfl (any_of HT_.out (by kernel_rfl)) (fun _ _ _ h => h) (Or.inl ⟨by rfl, ?_⟩) ?_ ?_
       rotate_left
       ·intro w'
        go_simp
        with_reducible rfl
       rotate_left
       ·simp only [Act.put, List.setIfInBounds_toArray, List.set_cons_zero, List.set_cons_succ, i64_w, i32_w]
        rfl
       refine pure_ (i := 10) (N := some 57) (v := ?_) (a' := ?_) #[true, true, true, true, true, true, true, true, true, true, true, false, false] rfl rfl (any_of HT_.out (by kernel_rfl)) (fun _ _ _ h => h) (Or.inl ⟨by rfl, ?_⟩) ?_ ?_
       rotate_left
       ·intro w'
        go_simp
        with_reducible rfl
       rotate_left
       ·simp only [Act.put, List.setIfInBounds_toArray, List.set_cons_zero, List.set_cons_succ, i64_w, i32_w]
        rfl
       refine one_ (i := 11) (N := some 18) #[true, true, true, true, true, true, true, true, true, true, true, true, false] rfl rfl (one_of HT_.out (by kernel_rfl)) (by decide) (fun K hK => ?_)
       refine box_step ?hg (N := 18) ?hd (cs := #[.int .i64 0, .int .i64 0, .int .i64 0, .string (⟨#[]⟩ : ByteArray)]) (t := 38) ?hr ?_; (case hd => rfl); (case hg => rfl); (case hr => first | (go_simp; done) | (go_simp; rfl))
       intro gb790 hg w19 hbox hb
       have n0_ := Aside0.mk (blk_below (g := gb775) (o := .cells #[.int .i64 0, .int .i64 0, .int .i64 0, .string (⟨#[]⟩ : ByteArray)] 38 (0, 0)) z12_ hb)
       have n1_ := Aside0.mk (below_step z10_ hb)
       have n2_ := Aside0.mk (hbox)
       have n3_ := Aside0.mk ((by rw [hg]; exact (below_size z10_) : w.heap.size ≤ gb790))
       have n4_ := Aside0.mk ((by rw [hg]; exact (below_size z10_) : w.heap.size ≤ gb790))
       have n5_ := Aside0.mk ((by rw [hg]; exact Nat.ne_of_lt (blk_lt (g := gb775) (o := .cells #[.int .i64 0, .int .i64 0, .int .i64 0, .string (⟨#[]⟩ : ByteArray)] 38 (0, 0)) z12_) : gb775 ≠ gb790))
       have n6_ := Aside0.mk ((by rw [hg]; exact Nat.ne_of_gt (blk_lt (g := gb775) (o := .cells #[.int .i64 0, .int .i64 0, .int .i64 0, .string (⟨#[]⟩ : ByteArray)] 38 (0, 0)) z12_) : gb790 ≠ gb775))
       clear BK775
       clear HB
       have BK775 := n0_
       have HB := n1_
       have BK790 := n2_
       have GW790 := n3_
       have GE790 := n4_
       have NB775_790 := n5_
       have NB790_775 := n6_
       clear n0_ n1_ n2_ n3_ n4_ n5_ n6_
       clear hb hbox hg
       refine hK.out _ _ ⟨((HB.out.cell (World.block_lt_of_cell? w _ hw788_0)).trans hw788_0), ((HB.out.cell (World.block_lt_of_cell? w _ hw789_0)).trans hw789_0)⟩ (fun hHeld => ?_)
       clear hK K
       refine norm_ (a' := ?_) ?_ ?_
       rotate_left
       ·show Act.put _ (some 18) _ = _
        simp only [Act.put, List.setIfInBounds_toArray, List.set_cons_zero, List.set_cons_succ, i64_w, i32_w]
        rfl
       refine one_ (i := 12) (N := none) #[true, true, true, true, true, true, true, true, true, true, true, true, true] rfl rfl (one_of HT_.out (by kernel_rfl)) (by decide) (fun K hK => ?_)
       have hs20 : w19.cell? ⟨gb790, 0, none⟩ = some (.int .i64 0) := (blk_cell BK790.out 0).trans rfl
       have hfs20 := blk_frozen BK790.out 0
       have hns20_0 := NB775_790.out
       have hms20_0 := NB790_775.out
       have hs21 : w19.cell? ⟨gb790, 1, none⟩ = some (.int .i64 0) := (blk_cell BK790.out 1).trans rfl
       have hfs21 := blk_frozen BK790.out 1
       have hns21_0 := NB775_790.out
       have hms21_0 := NB790_775.out
       have hs22 : w19.cell? ⟨gb790, 2, none⟩ = some (.int .i64 0) := (blk_cell BK790.out 2).trans rfl
       have hfs22 := blk_frozen BK790.out 2
       have hns22_0 := NB775_790.out
       have hms22_0 := NB790_775.out
       have hs23 : w19.cell? ⟨gb790, 3, none⟩ = some (.string (⟨#[]⟩ : ByteArray)) := (blk_cell BK790.out 3).trans rfl
       have hfs23 := blk_frozen BK790.out 3
       have hns23_0 := NB775_790.out
       have hms23_0 := NB790_775.out
       refine skip_ (w1 := ?_) (by rfl) rfl ?_ ?_
       rotate_left
       ·go_simp
        rfl
       refine hK.out _ _ ⟨((cell_far (p := ⟨gb790, _, none⟩) z2_ _).trans (((cell_far (p := ⟨gb790, _, none⟩) z2_ _).trans (((cell_far (p := ⟨gb790, _, none⟩) z2_ _).trans (((cell_far (p := ⟨gb790, _, none⟩) z2_ _).trans (hHeld.1)))))))), ((cell_far (p := ⟨gb790, _, none⟩) z3_ _).trans (((cell_far (p := ⟨gb790, _, none⟩) z3_ _).trans (((cell_far (p := ⟨gb790, _, none⟩) z3_ _).trans (((cell_far (p := ⟨gb790, _, none⟩) z3_ _).trans (hHeld.2))))))))⟩ (fun hHeld => ?_)
       clear hK K
       refine done_ (done_of HT_.out (by kernel_rfl)) ?_
       have hnb24 := NB790_775.out
       have hnc24 := NB775_790.out
       have hcz25_0 : w19.cell? ⟨gb790, 0, none⟩ = some (.int .i64 0) := (blk_cell BK790.out 0).trans rfl
       have hcz25_1 : w19.cell? ⟨gb790, 1, none⟩ = some (.int .i64 0) := (blk_cell BK790.out 1).trans rfl
       have hcz25_2 : w19.cell? ⟨gb790, 2, none⟩ = some (.int .i64 0) := (blk_cell BK790.out 2).trans rfl
       have hcz25_3 : w19.cell? ⟨gb790, 3, none⟩ = some (.string (⟨#[]⟩ : ByteArray)) := (blk_cell BK790.out 3).trans rfl
       have hfz25_0 := blk_frozen BK790.out 0
       have hfz25_1 := blk_frozen BK790.out 1
       have hfz25_2 := blk_frozen BK790.out 2
       have hfz25_3 := blk_frozen BK790.out 3
       try go_wp2_with (first | (go_at_call 54; (with_reducible refine (spec_RecOk.calls k (wrap64 (rd l0 4)) t782 (wrap64 (rd l0 7)) t785 true _ A12.out).mono ?_); rintro e w26 ⟨rfl, hb⟩; have n0_ := Aside0.mk (blk_below (g := gb775) (o := .cells #[.int .i64 0, .int .i64 0, .int .i64 0, .string (⟨#[]⟩ : ByteArray)] 38 (0, 0)) z27_ hb); have n1_ := Aside0.mk (blk_below (g := gb790) (o := .cells #[.int .i64 (wrap64 (rd l0 4)), .int .i64 t782, .int .i64 (wrap64 (rd l0 7)), .string t785] 38 (0, 0)) z16_ hb); have n2_ := Aside0.mk (below_step z32_ hb); clear BK775; clear BK790; clear HB; have BK775 := n0_; have BK790 := n1_; have HB := n2_; clear n0_ n1_ n2_; (try clear hb); (try clear hb2); (try clear hk); (try clear hi); have hcz27_0 : w26.cell? ⟨gb790, 0, none⟩ = some (.int .i64 (wrap64 (rd l0 4))) := (blk_cell BK790.out 0).trans rfl; have hcz27_1 : w26.cell? ⟨gb790, 1, none⟩ = some (.int .i64 t782) := (blk_cell BK790.out 1).trans rfl; have hcz27_2 : w26.cell? ⟨gb790, 2, none⟩ = some (.int .i64 (wrap64 (rd l0 7))) := (blk_cell BK790.out 2).trans rfl; have hcz27_3 : w26.cell? ⟨gb790, 3, none⟩ = some (.string t785) := (blk_cell BK790.out 3).trans rfl; have hfz27_0 := blk_frozen BK790.out 0; have hfz27_1 := blk_frozen BK790.out 1; have hfz27_2 := blk_frozen BK790.out 2; have hfz27_3 := blk_frozen BK790.out 3) | (go_at_call 21; (with_reducible refine (spec_PutRec.calls k t776 t779 (wrap64 (rd l0 4)) t782 (wrap64 (rd l0 7)) t785 t792 _ A14.out).mono ?_); rintro e w28 ⟨v793, rfl, ho0, hb⟩; have n0_ := Aside0.mk (Kd.R_lower ho0 (below_size z32_)); have n1_ := Aside0.mk (blk_below (g := gb775) (o := .cells #[.int .i64 0, .int .i64 0, .int .i64 0, .string (⟨#[]⟩ : ByteArray)] 38 (0, 0)) z12_ hb); have n2_ := Aside0.mk (blk_below (g := gb790) (o := .cells #[.int .i64 (wrap64 (rd l0 4)), .int .i64 t782, .int .i64 (wrap64 (rd l0 7)), .string t785] 38 (0, 0)) z60_ hb); have n3_ := Aside0.mk (below_step z32_ hb); clear BK775; clear BK790; clear HB; have HO794 := n0_; have BK775 := n1_; have BK790 := n2_; have HB := n3_; clear n0_ n1_ n2_ n3_; (try clear hb); (try clear hb2); (try clear hk); (try clear hi); (try clear ho0); obtain ⟨Ao29, co29, eo29⟩ := Kd.R_slice HO794.out; subst eo29) | (go_at_call 78; (with_reducible refine (spec_l1Same.calls _ _ t792 _ _ l0 true _ ?side1 ?side2 ?side3 ?side4 A15.out).mono ?_); (case side1 => repeat (first | exact (Kd.R_reads' HO794.out).2.2 | (with_reducible refine Kd.C_alloc ?_ _) | (with_reducible refine Kd.C_drewN ?_ _) | (with_reducible refine Kd.C_drew ?_))); (case side2 => exact (Kd.R_reads' HO794.out).2.1); (case side3 => repeat (first | exact (Kd.C_below HR0.out HB.out) | (with_reducible refine Kd.C_alloc ?_ _) | (with_reducible refine Kd.C_drewN ?_ _) | (with_reducible refine Kd.C_drew ?_))); (case side4 => exact HC0.out); rintro e w' ⟨rfl, ⟨nd, rfl⟩⟩; (try (rw [drewN_self w28]; generalize hq_ : World.drewN w28 _ = w28; have n0_ : Aside0 (Kd.R (Kd.int .u8) 5 w28 w.heap.size (fun _ => True) (.slice Ao29 t792.length co29) t792) := ⟨by rw [← hq_]; exact z91_⟩; have n1_ : Aside0 (w28.heap[gb775]? = some (.cells #[.int .i64 0, .int .i64 0, .int .i64 0, .string (⟨#[]⟩ : ByteArray)] 38 (0, 0))) := ⟨by rw [← hq_]; exact z12_⟩; have n2_ : Aside0 (w28.heap[gb790]? = some (.cells #[.int .i64 (wrap64 (rd l0 4)), .int .i64 t782, .int .i64 (wrap64 (rd l0 7)), .string t785] 38 (0, 0))) := ⟨by rw [← hq_]; exact z60_⟩; have n3_ : Aside0 (Below w.heap.size w w28) := ⟨by rw [← hq_]; exact z32_⟩; clear HO794 BK775 BK790 HB hq_; have HO794 := n0_; have BK775 := n1_; have BK790 := n2_; have HB := n3_; clear n0_ n1_ n2_ n3_))))
       have n0_ := Aside0.mk (Kd.R_drew HO794.out)
       have n1_ := Aside0.mk (blk_drew BK775.out)
       have n2_ := Aside0.mk (blk_drew BK790.out)
       have n3_ := Aside0.mk (below_drew1 HB.out)
       clear HO794
       clear BK775
       clear BK790
       clear HB
       have HO794 := n0_
       have BK775 := n1_
       have BK790 := n2_
       have HB := n3_
       clear n0_ n1_ n2_ n3_
       refine start_ (n := 7) (S := fun w' => w'.cell? ⟨gb790, 0, none⟩ = some (.int .i64 (wrap64 (rd l0 4))) ∧ w'.cell? ⟨gb790, 1, none⟩ = some (.int .i64 t782) ∧ w'.cell? ⟨gb790, 2, none⟩ = some (.int .i64 (wrap64 (rd l0 7))) ∧ w'.cell? ⟨gb790, 3, none⟩ = some (.string t785)) (ds := []) #[false, false, false, false, false, false, false] (by kernel_rfl) rfl rfl ⟨(blk_cell BK790.out 0).trans rfl, (blk_cell BK790.out 1).trans rfl, (blk_cell BK790.out 2).trans rfl, (blk_cell BK790.out 3).trans rfl⟩ (fun hHeld => ?_)
       generalize w28.drew = w30 at HO794 BK775 BK790 HB hHeld ⊢
       refine pure_ (i := 0) (N := some 75) (v := ?_) (a' := ?_) #[true, false, false, false, false, false, false] rfl rfl (by kernel_rfl) (fun _ _ _ h => h) (Or.inl ⟨by rfl, ?_⟩) ?_ ?_
       rotate_left
       ·intro w'
        go_simp
        with_reducible rfl
       rotate_left
       ·simp only [Act.put, List.setIfInBounds_toArray, List.set_cons_zero, List.set_cons_succ, i64_w, i32_w]
        rfl
       refine pure_ (i := 1) (N := some 76) (v := ?_) (a' := ?_) #[true, true, false, false, false, false, false] rfl rfl (by kernel_rfl) (fun _ _ _ h => h) (Or.inl ⟨by rfl, ?_⟩) ?_ ?_
       rotate_left
       ·intro w'
        go_simp
        with_reducible rfl
       rotate_left
       ·simp only [Act.put, List.setIfInBounds_toArray, List.set_cons_zero, List.set_cons_succ, i64_w, i32_w]
        rfl
       refine pure_ (i := 3) (N := some 2) (v := ?_) (a' := ?_) #[true, true, false, true, false, false, false] rfl rfl (by kernel_rfl) (fun _ _ _ h => h) (Or.inl ⟨by rfl, ?_⟩) ?_ ?_
       rotate_left
       ·intro w'
        go_simp
        with_reducible rfl
       rotate_left
       ·simp only [Act.put, List.setIfInBounds_toArray, List.set_cons_zero, List.set_cons_succ, i64_w, i32_w]
        rfl
       refine pure_ (i := 4) (N := some 3) (v := ?_) (a' := ?_) #[true, true, false, true, true, false, false] rfl rfl (by kernel_rfl) (fun _ _ _ h => h) (Or.inl ⟨by rfl, ?_⟩) ?_ ?_
       rotate_left
       ·intro w'
        go_simp
        with_reducible rfl
       rotate_left
       ·simp only [Act.put, List.setIfInBounds_toArray, List.set_cons_zero, List.set_cons_succ, i64_w, i32_w]
        rfl
       refine take_ (i := 2) (N := some 77) (v := ?_) (a' := ?_) #[true, true, true, true, true, false, false] rfl rfl (by kernel_rfl) (fun _ _ _ h => h) (Or.inl ⟨by rfl, ?_⟩) hHeld ?_ ?_
       rotate_left
       ·rintro w' ⟨s0, s1, s2, s3⟩
        go_simp
        with_reducible rfl
       rotate_left
       ·simp only [Act.put, List.setIfInBounds_toArray, List.set_cons_zero, List.set_cons_succ, i64_w, i32_w]
        rfl
       refine one_ (i := 5) (N := none) #[true, true, true, true, true, true, false] rfl rfl (by kernel_rfl) (by decide) (fun K hK => ?_)
       have hs31 : w30.cell? ⟨gb775, 0, none⟩ = some (.int .i64 0) := (blk_cell BK775.out 0).trans rfl
       have hfs31 := blk_frozen BK775.out 0
       have hns31_1 := NB790_775.out
       have hms31_1 := NB775_790.out
       have hs32 : w30.cell? ⟨gb775, 1, none⟩ = some (.int .i64 0) := (blk_cell BK775.out 1).trans rfl
       have hfs32 := blk_frozen BK775.out 1
       have hns32_1 := NB790_775.out
       have hms32_1 := NB775_790.out
       have hs33 : w30.cell? ⟨gb775, 2, none⟩ = some (.int .i64 0) := (blk_cell BK775.out 2).trans rfl
       have hfs33 := blk_frozen BK775.out 2
       have hns33_1 := NB790_775.out
       have hms33_1 := NB775_790.out
       have hs34 : w30.cell? ⟨gb775, 3, none⟩ = some (.string (⟨#[]⟩ : ByteArray)) := (blk_cell BK775.out 3).trans rfl
       have hfs34 := blk_frozen BK775.out 3
       have hns34_1 := NB790_775.out
       have hms34_1 := NB775_790.out
       refine skip_ (w1 := ?_) (by rfl) rfl ?_ ?_
       rotate_left
       ·go_simp
        rfl
       refine hK.out _ _ ⟨((cell_far (p := ⟨gb775, _, none⟩) NB790_775.out _).trans (((cell_far (p := ⟨gb775, _, none⟩) NB790_775.out _).trans (((cell_far (p := ⟨gb775, _, none⟩) NB790_775.out _).trans (((cell_far (p := ⟨gb775, _, none⟩) NB790_775.out _).trans (hHeld.1)))))))), ((cell_far (p := ⟨gb775, _, none⟩) NB790_775.out _).trans (((cell_far (p := ⟨gb775, _, none⟩) NB790_775.out _).trans (((cell_far (p := ⟨gb775, _, none⟩) NB790_775.out _).trans (((cell_far (p := ⟨gb775, _, none⟩) NB790_775.out _).trans (hHeld.2.1)))))))), ((cell_far (p := ⟨gb775, _, none⟩) NB790_775.out _).trans (((cell_far (p := ⟨gb775, _, none⟩) NB790_775.out _).trans (((cell_far (p := ⟨gb775, _, none⟩) NB790_775.out _).trans (((cell_far (p := ⟨gb775, _, none⟩) NB790_775.out _).trans (hHeld.2.2.1)))))))), ((cell_far (p := ⟨gb775, _, none⟩) NB790_775.out _).trans (((cell_far (p := ⟨gb775, _, none⟩) NB790_775.out _).trans (((cell_far (p := ⟨gb775, _, none⟩) NB790_775.out _).trans (((cell_far (p := ⟨gb775, _, none⟩) NB790_775.out _).trans (hHeld.2.2.2))))))))⟩ (fun hHeld => ?_)
       clear hK K
       refine pure_ (i := 6) (N := some 5) (v := ?_) (a' := ?_) #[true, true, true, true, true, true, true] rfl rfl (by kernel_rfl) (fun _ _ _ h => h) (Or.inl ⟨by rfl, ?_⟩) ?_ ?_
       rotate_left
       ·intro w'
        go_simp
        with_reducible rfl
       rotate_left
       ·simp only [Act.put, List.setIfInBounds_toArray, List.set_cons_zero, List.set_cons_succ, i64_w, i32_w]
        rfl
       refine done_ (by kernel_rfl) ?_
       try go_wp2
       refine bodyPost_ret (results_list (rs := [.tmp 2, .tmp 3, .cell 4 38, .tmp 5]) rfl (by simp) (.tmp (.tmp (.cell gb775 38 #[.int .i64 (wrap64 (rd l0 4)), .int .i64 t782, .int .i64 (wrap64 (rd l0 7)), .string t785] (0, 0) _ rfl (by (with_reducible repeat (first | refine blk_drewN ?_ _ | refine blk_drew ?_ | refine blk_alloc ?_ _)); refine blk_put (cs := #[.int .i64 (wrap64 (rd l0 4)), .int .i64 t782, .int .i64 (wrap64 (rd l0 7)), .string (⟨#[]⟩ : ByteArray)]) ?_ 3 _ rfl; (with_reducible repeat (first | refine blk_drewN ?_ _ | refine blk_drew ?_ | refine blk_alloc ?_ _)); refine blk_put (cs := #[.int .i64 (wrap64 (rd l0 4)), .int .i64 t782, .int .i64 0, .string (⟨#[]⟩ : ByteArray)]) ?_ 2 _ rfl; (with_reducible repeat (first | refine blk_drewN ?_ _ | refine blk_drew ?_ | refine blk_alloc ?_ _)); refine blk_put (cs := #[.int .i64 (wrap64 (rd l0 4)), .int .i64 0, .int .i64 0, .string (⟨#[]⟩ : ByteArray)]) ?_ 1 _ rfl; (with_reducible repeat (first | refine blk_drewN ?_ _ | refine blk_drew ?_ | refine blk_alloc ?_ _)); refine blk_put (cs := #[.int .i64 0, .int .i64 0, .int .i64 0, .string (⟨#[]⟩ : ByteArray)]) ?_ 0 _ rfl; (with_reducible repeat (first | refine blk_drewN ?_ _ | refine blk_drew ?_ | refine blk_alloc ?_ _)); exact BK775.out) Tryd.underlying38 rfl (by kernel_rfl) (.tmp .nil))))) rfl ?_
       exact ⟨by first | rfl | (simp [errW_none, errW_some] <;> rfl) | (simp [*, errW_none, errW_some] <;> rfl), by repeat (first | (with_reducible first | exact HB.out | apply below_alloc | apply pw_below_drewN | apply below_drew1 | refine below_set ?_ GE775.out | refine below_set ?_ GE790.out) | exact HB.out)⟩
      ·replace c16 := Bool.eq_false_iff.mpr c16
       subst c16
       have H1 : (some (0, 0, 0, 0, 0, (⟨#[]⟩ : ByteArray), false)) = some (r1, r2, r3, r4, r5, r6, r7) := by rw [if_neg (show ¬ (false = true) by decide)] at H; exact H
       clear H
       have H := H1
       clear H1
       simp only [Option.some.injEq, Prod.mk.injEq] at H
       obtain ⟨rfl, rfl, rfl, rfl, rfl, rfl, rfl⟩ := H
       go_enter Tryd.func36, Tryd.ntmps36
       try go_wp2_with (first | ((with_reducible refine gate_dst (N := 4) rfl ?_); refine box_event ?hg (N := 4) ?hd (cs := #[.int .i64 0, .int .i64 0, .int .i64 0, .string (⟨#[]⟩ : ByteArray)]) (t := 38) ?hr ?_; (case hd => rfl); (case hg => rfl); (case hr => first | (go_simp; done) | (go_simp; rfl)); intro gb775 hg w35 hbox hb; have n0_ := Aside0.mk (below_step z0_ hb); have n1_ := Aside0.mk (hbox); have n2_ := Aside0.mk ((by rw [hg]; exact (below_size z0_) : w.heap.size ≤ gb775)); have n3_ := Aside0.mk ((by rw [hg]; exact (below_size z0_) : w.heap.size ≤ gb775)); clear HB; have HB := n0_; have BK775 := n1_; have GW775 := n2_; have GE775 := n3_; clear n0_ n1_ n2_ n3_; clear hb hbox hg) | ((with_reducible refine gate_callee (f := 76) rfl ?_); refine goesL_ (some 25) rfl rfl Tryd.func76 (by kernel_rfl) rfl #[.slice A0 l0.length c0, .int .i64 0] rfl z1_ ?_; (with_reducible refine (spec_GetWord.calls _ _ l0 0 t776 t777 t778 _ ?side1 ?side2 A5.out).mono ?_); (case side1 => repeat (first | exact (Kd.C_below HR0.out HB.out) | (with_reducible refine Kd.C_alloc ?_ _) | (with_reducible refine Kd.C_drewN ?_ _) | (with_reducible refine Kd.C_drew ?_))); (case side2 => exact HC0.out); rintro e w' ⟨rfl, ⟨nd, rfl⟩⟩; refine ⟨_, rfl, ?_⟩; (try (rw [drewN_self w35]; generalize hq_ : World.drewN w35 _ = w35; have n0_ : Aside0 (w35.heap[gb775]? = some (.cells #[.int .i64 0, .int .i64 0, .int .i64 0, .string (⟨#[]⟩ : ByteArray)] 38 (0, 0))) := ⟨by rw [← hq_]; exact z12_⟩; have n1_ : Aside0 (Below w.heap.size w w35) := ⟨by rw [← hq_]; exact z10_⟩; clear BK775 HB hq_; have BK775 := n0_; have HB := n1_; clear n0_ n1_))) | ((with_reducible refine gate_callee (f := 76) rfl ?_); refine goesL_ (some 31) rfl rfl Tryd.func76 (by kernel_rfl) rfl #[.slice A0 l0.length c0, .int .i64 2] rfl z1_ ?_; (with_reducible refine (spec_GetWord.calls _ _ l0 2 t779 t780 t781 _ ?side1 ?side2 A6.out).mono ?_); (case side1 => repeat (first | exact (Kd.C_below HR0.out HB.out) | (with_reducible refine Kd.C_alloc ?_ _) | (with_reducible refine Kd.C_drewN ?_ _) | (with_reducible refine Kd.C_drew ?_))); (case side2 => exact HC0.out); rintro e w' ⟨rfl, ⟨nd, rfl⟩⟩; refine ⟨_, rfl, ?_⟩; (try (rw [drewN_self w35]; generalize hq_ : World.drewN w35 _ = w35; have n0_ : Aside0 (w35.heap[gb775]? = some (.cells #[.int .i64 0, .int .i64 0, .int .i64 0, .string (⟨#[]⟩ : ByteArray)] 38 (0, 0))) := ⟨by rw [← hq_]; exact z12_⟩; have n1_ : Aside0 (Below w.heap.size w w35) := ⟨by rw [← hq_]; exact z10_⟩; clear BK775 HB hq_; have BK775 := n0_; have HB := n1_; clear n0_ n1_))) | ((with_reducible refine gate_callee (f := 76) rfl ?_); refine goesL_ (some 37) rfl rfl Tryd.func76 (by kernel_rfl) rfl #[.slice A0 l0.length c0, .int .i64 5] rfl z1_ ?_; (with_reducible refine (spec_GetWord.calls _ _ l0 5 t782 t783 t784 _ ?side1 ?side2 A7.out).mono ?_); (case side1 => repeat (first | exact (Kd.C_below HR0.out HB.out) | (with_reducible refine Kd.C_alloc ?_ _) | (with_reducible refine Kd.C_drewN ?_ _) | (with_reducible refine Kd.C_drew ?_))); (case side2 => exact HC0.out); rintro e w' ⟨rfl, ⟨nd, rfl⟩⟩; refine ⟨_, rfl, ?_⟩; (try (rw [drewN_self w35]; generalize hq_ : World.drewN w35 _ = w35; have n0_ : Aside0 (w35.heap[gb775]? = some (.cells #[.int .i64 0, .int .i64 0, .int .i64 0, .string (⟨#[]⟩ : ByteArray)] 38 (0, 0))) := ⟨by rw [← hq_]; exact z12_⟩; have n1_ : Aside0 (Below w.heap.size w w35) := ⟨by rw [← hq_]; exact z10_⟩; clear BK775 HB hq_; have BK775 := n0_; have HB := n1_; clear n0_ n1_))) | ((with_reducible refine gate_callee (f := 77) rfl ?_); refine goesL_ (some 43) rfl rfl Tryd.func77 (by kernel_rfl) rfl #[.slice A0 l0.length c0, .int .i64 8] rfl z1_ ?_; (with_reducible refine (spec_GetText.calls k _ _ l0 8 t785 t786 true _ ?side1 ?side2 A8.out).mono ?_); (case side1 => repeat (first | exact (Kd.C_below HR0.out HB.out) | (with_reducible refine Kd.C_alloc ?_ _) | (with_reducible refine Kd.C_drewN ?_ _) | (with_reducible refine Kd.C_drew ?_))); (case side2 => exact HC0.out); rintro e w' ⟨rfl, ⟨nd, rfl⟩⟩; refine ⟨_, rfl, ?_⟩; (try (rw [drewN_self w35]; generalize hq_ : World.drewN w35 _ = w35; have n0_ : Aside0 (w35.heap[gb775]? = some (.cells #[.int .i64 0, .int .i64 0, .int .i64 0, .string (⟨#[]⟩ : ByteArray)] 38 (0, 0))) := ⟨by rw [← hq_]; exact z12_⟩; have n1_ : Aside0 (Below w.heap.size w w35) := ⟨by rw [← hq_]; exact z10_⟩; clear BK775 HB hq_; have BK775 := n0_; have HB := n1_; clear n0_ n1_))))
       have n0_ := Aside0.mk (blk_drew BK775.out)
       have n1_ := Aside0.mk (below_drew1 HB.out)
       clear BK775
       clear HB
       have BK775 := n0_
       have HB := n1_
       clear n0_ n1_
       have p788 : 0 ≤ (4 : Int) := (by omega)
       have q788 : 4 < (l0.length : Int) := of_decide_eq_true z4_
       obtain ⟨ad788, e788, hx788_0⟩ := Kd.at_int HR0.out 4 p788 q788
       have hw788_0 := hx788_0
       (try rw [show ((4 : Int)).toNat = 4 from rfl] at hw788_0)
       (try rw [show 4 * 1 = 4 from rfl] at hw788_0)
       (try simp only [Nat.reduceMul, Nat.reduceEqDiff, Go.Addr.add, ↓reduceIte] at hw788_0)
       cases e788
       (try simp only [show (4 : Int).toNat = 4 from rfl, Nat.reduceMul, Nat.reduceEqDiff, Go.Addr.add, ↓reduceIte] at hx788_0)
       have qi788 : (4 < l0.length) = True := eq_true (by omega)
       (try rw [show ((4 : Int)).toNat = 4 from rfl] at hx788_0)
       replace hx788_0 := (HB.out.cell (World.block_lt_of_cell? w _ hx788_0)).trans hx788_0
       replace p788 := eq_true p788
       replace q788 := eq_true q788
       have p789 : 0 ≤ (7 : Int) := (by omega)
       have q789 : 7 < (l0.length : Int) := of_decide_eq_true z4_
       obtain ⟨ad789, e789, hx789_0⟩ := Kd.at_int HR0.out 7 p789 q789
       have hw789_0 := hx789_0
       (try rw [show ((7 : Int)).toNat = 7 from rfl] at hw789_0)
       (try rw [show 7 * 1 = 7 from rfl] at hw789_0)
       (try simp only [Nat.reduceMul, Nat.reduceEqDiff, Go.Addr.add, ↓reduceIte] at hw789_0)
       obtain rfl : ad788 = ad789 := (by injection e789)
       (try simp only [show (7 : Int).toNat = 7 from rfl, Nat.reduceMul, Nat.reduceEqDiff, Go.Addr.add, ↓reduceIte] at hx789_0)
       have qi789 : (7 < l0.length) = True := eq_true (by omega)
       (try rw [show ((7 : Int)).toNat = 7 from rfl] at hx789_0)
       replace hx789_0 := (HB.out.cell (World.block_lt_of_cell? w _ hx789_0)).trans hx789_0
       replace p789 := eq_true p789
       replace q789 := eq_true q789
       refine start_ (n := 13) (S := fun w' => w'.cell? ⟨ad788.block, ad788.off + 4, none⟩ = some (.int .u8 (rd l0 4)) ∧ w'.cell? ⟨ad788.block, ad788.off + 7, none⟩ = some (.int .u8 (rd l0 7))) (ds := []) #[false, false, false, false, false, false, false, false, false, false, false, false, false] (by kernel_rfl) rfl rfl ⟨((HB.out.cell (World.block_lt_of_cell? w _ hw788_0)).trans hw788_0), ((HB.out.cell (World.block_lt_of_cell? w _ hw789_0)).trans hw789_0)⟩ (fun hHeld => ?_); refine with_tabW spec_GetRec.tab7 spec_GetRec.bits7 (fun HT_ HW_ => ?_)
       generalize w35.drew = w36 at BK775 HB hx788_0 hx789_0 hHeld ⊢
       refine pure_ (i := 0) (N := some 47) (v := ?_) (a' := ?_) #[true, false, false, false, false, false, false, false, false, false, false, false, false] rfl rfl (any_of HT_.out (by kernel_rfl)) (fun _ _ _ h => h) (Or.inl ⟨by rfl, ?_⟩) ?_ ?_
       rotate_left
       ·intro w'
        go_simp
        with_reducible rfl
       rotate_left
       ·simp only [Act.put, List.setIfInBounds_toArray, List.set_cons_zero, List.set_cons_succ, i64_w, i32_w]
        rfl
       refine pure_ (i := 1) (N := some 48) (v := ?_) (a' := ?_) #[true, true, false, false, false, false, false, false, false, false, false, false, false] rfl rfl (any_of HT_.out (by kernel_rfl)) (fun _ _ _ h => h) (Or.inl ⟨by rfl, ?_⟩) ?_ ?_
       rotate_left
       ·intro w'
        go_simp
        with_reducible rfl
       rotate_left
       ·simp only [Act.put, List.setIfInBounds_toArray, List.set_cons_zero, List.set_cons_succ, i64_w, i32_w]
        rfl
       refine pure_ (i := 4) (N := some 51) (v := ?_) (a' := ?_) #[true, true, false, false, true, false, false, false, false, false, false, false, false] rfl rfl (any_of HT_.out (by kernel_rfl)) (fun _ _ _ h => h) (Or.inl ⟨by rfl, ?_⟩) ?_ ?_
       rotate_left
       ·intro w'
        go_simp
        with_reducible rfl
       rotate_left
       ·simp only [Act.put, List.setIfInBounds_toArray, List.set_cons_zero, List.set_cons_succ, i64_w, i32_w]
        rfl
       refine pure_ (i := 5) (N := some 52) (v := ?_) (a' := ?_) #[true, true, false, false, true, true, false, false, false, false, false, false, false] rfl rfl (any_of HT_.out (by kernel_rfl)) (fun _ _ _ h => h) (Or.inl ⟨by rfl, ?_⟩) ?_ ?_
       rotate_left
       ·intro w'
        go_simp
        with_reducible rfl
       rotate_left
       ·simp only [Act.put, List.setIfInBounds_toArray, List.set_cons_zero, List.set_cons_succ, i64_w, i32_w]
        rfl
       refine pure_ (i := 6) (N := some 53) (v := ?_) (a' := ?_) #[true, true, false, false, true, true, true, false, false, false, false, false, false] rfl rfl (any_of HT_.out (by kernel_rfl)) (fun _ _ _ h => h) (Or.inl ⟨by rfl, ?_⟩) ?_ ?_
       rotate_left
       ·intro w'
        go_simp
        with_reducible rfl
       rotate_left
       ·simp only [Act.put, List.setIfInBounds_toArray, List.set_cons_zero, List.set_cons_succ, i64_w, i32_w]
        rfl
       refine pure_ (i := 9) (N := some 56) (v := ?_) (a' := ?_) #[true, true, false, false, true, true, true, false, false, true, false, false, false] rfl rfl (any_of HT_.out (by kernel_rfl)) (fun _ _ _ h => h) (Or.inl ⟨by rfl, ?_⟩) ?_ ?_
       rotate_left
       ·intro w'
        go_simp
        with_reducible rfl
       rotate_left
       ·simp only [Act.put, List.setIfInBounds_toArray, List.set_cons_zero, List.set_cons_succ, i64_w, i32_w]
        rfl
       refine take_ (i := 2) (N := some 49) (v := ?_) (a' := ?_) #[true, true, true, false, true, true, true, false, false, true, false, false, false] rfl rfl (take_ofW HT_.out HW_.out (by kernel_rfl)) (fun _ _ _ h => h) (Or.inl ⟨by rfl, ?_⟩) hHeld ?_ ?_
       rotate_left
       ·rintro w' ⟨s0, s1⟩
        go_simp
        with_reducible rfl
       rotate_left
       ·simp only [Act.put, List.setIfInBounds_toArray, List.set_cons_zero, List.set_cons_succ, i64_w, i32_w]
        rfl
       refine pure_ (i := 3) (N := some 50) (v := ?_) (a' := ?_) #[true, true, true, true, true, true, true, false, false, true, false, false, false] rfl rfl (any_of HT_.out (by kernel_rfl)) (fun _ _ _ h => h) (Or.inl ⟨by rfl, ?_⟩) ?_ ?_
       rotate_left
       ·intro w'
        go_simp
        with_reducible rfl
       rotate_left
       ·simp only [Act.put, List.setIfInBounds_toArray, List.set_cons_zero, List.set_cons_succ, i64_w, i32_w]
        rfl
       refine take_ (i := 7) (N := some 54) (v := ?_) (a' := ?_) #[true, true, true, true, true, true, true, true, false, true, false, false, false] rfl rfl (take_ofW HT_.out HW_.out (by kernel_rfl)) (fun _ _ _ h => h) (Or.inl ⟨by rfl, ?_⟩) hHeld ?_ ?_
       rotate_left
       ·rintro w' ⟨s0, s1⟩
        go_simp
        with_reducible rfl
       rotate_left
       ·simp only [Act.put, List.setIfInBounds_toArray, List.set_cons_zero, List.set_cons_succ, i64_w, i32_w]
        rfl
       refine pure_ (i := 8) (N := some 55) (v := ?_) (a' := ?_) #[true, true, true, true, true, true, true, true, true, true, false, false, false] rfl rfl (any_of HT_.out (by kernel_rfl)) (fun _ _ _ h => h) (Or.inl ⟨by rfl, ?_⟩) ?_ ?_
       rotate_left
       ·intro w'
        go_simp
        with_reducible rfl
       rotate_left
       ·simp only [Act.put, List.setIfInBounds_toArray, List.set_cons_zero, List.set_cons_succ, i64_w, i32_w]
        rfl
       refine pure_ (i := 10) (N := some 57) (v := ?_) (a' := ?_) #[true, true, true, true, true, true, true, true, true, true, true, false, false] rfl rfl (any_of HT_.out (by kernel_rfl)) (fun _ _ _ h => h) (Or.inl ⟨by rfl, ?_⟩) ?_ ?_
       rotate_left
       ·intro w'
        go_simp
        with_reducible rfl
       rotate_left
       ·simp only [Act.put, List.setIfInBounds_toArray, List.set_cons_zero, List.set_cons_succ, i64_w, i32_w]
        rfl
       refine one_ (i := 11) (N := some 18) #[true, true, true, true, true, true, true, true, true, true, true, true, false] rfl rfl (one_of HT_.out (by kernel_rfl)) (by decide) (fun K hK => ?_)
       refine box_step ?hg (N := 18) ?hd (cs := #[.int .i64 0, .int .i64 0, .int .i64 0, .string (⟨#[]⟩ : ByteArray)]) (t := 38) ?hr ?_; (case hd => rfl); (case hg => rfl); (case hr => first | (go_simp; done) | (go_simp; rfl))
       intro gb790 hg w37 hbox hb
       have n0_ := Aside0.mk (blk_below (g := gb775) (o := .cells #[.int .i64 0, .int .i64 0, .int .i64 0, .string (⟨#[]⟩ : ByteArray)] 38 (0, 0)) z12_ hb)
       have n1_ := Aside0.mk (below_step z10_ hb)
       have n2_ := Aside0.mk (hbox)
       have n3_ := Aside0.mk ((by rw [hg]; exact (below_size z10_) : w.heap.size ≤ gb790))
       have n4_ := Aside0.mk ((by rw [hg]; exact (below_size z10_) : w.heap.size ≤ gb790))
       have n5_ := Aside0.mk ((by rw [hg]; exact Nat.ne_of_lt (blk_lt (g := gb775) (o := .cells #[.int .i64 0, .int .i64 0, .int .i64 0, .string (⟨#[]⟩ : ByteArray)] 38 (0, 0)) z12_) : gb775 ≠ gb790))
       have n6_ := Aside0.mk ((by rw [hg]; exact Nat.ne_of_gt (blk_lt (g := gb775) (o := .cells #[.int .i64 0, .int .i64 0, .int .i64 0, .string (⟨#[]⟩ : ByteArray)] 38 (0, 0)) z12_) : gb790 ≠ gb775))
       clear BK775
       clear HB
       have BK775 := n0_
       have HB := n1_
       have BK790 := n2_
       have GW790 := n3_
       have GE790 := n4_
       have NB775_790 := n5_
       have NB790_775 := n6_
       clear n0_ n1_ n2_ n3_ n4_ n5_ n6_
       clear hb hbox hg
       refine hK.out _ _ ⟨((HB.out.cell (World.block_lt_of_cell? w _ hw788_0)).trans hw788_0), ((HB.out.cell (World.block_lt_of_cell? w _ hw789_0)).trans hw789_0)⟩ (fun hHeld => ?_)
       clear hK K
       refine norm_ (a' := ?_) ?_ ?_
       rotate_left
       ·show Act.put _ (some 18) _ = _
        simp only [Act.put, List.setIfInBounds_toArray, List.set_cons_zero, List.set_cons_succ, i64_w, i32_w]
        rfl
       refine one_ (i := 12) (N := none) #[true, true, true, true, true, true, true, true, true, true, true, true, true] rfl rfl (one_of HT_.out (by kernel_rfl)) (by decide) (fun K hK => ?_)
       have hs38 : w37.cell? ⟨gb790, 0, none⟩ = some (.int .i64 0) := (blk_cell BK790.out 0).trans rfl
       have hfs38 := blk_frozen BK790.out 0
       have hns38_0 := NB775_790.out
       have hms38_0 := NB790_775.out
       have hs39 : w37.cell? ⟨gb790, 1, none⟩ = some (.int .i64 0) := (blk_cell BK790.out 1).trans rfl
       have hfs39 := blk_frozen BK790.out 1
       have hns39_0 := NB775_790.out
       have hms39_0 := NB790_775.out
       have hs40 : w37.cell? ⟨gb790, 2, none⟩ = some (.int .i64 0) := (blk_cell BK790.out 2).trans rfl
       have hfs40 := blk_frozen BK790.out 2
       have hns40_0 := NB775_790.out
       have hms40_0 := NB790_775.out
       have hs41 : w37.cell? ⟨gb790, 3, none⟩ = some (.string (⟨#[]⟩ : ByteArray)) := (blk_cell BK790.out 3).trans rfl
       have hfs41 := blk_frozen BK790.out 3
       have hns41_0 := NB775_790.out
       have hms41_0 := NB790_775.out
       refine skip_ (w1 := ?_) (by rfl) rfl ?_ ?_
       rotate_left
       ·go_simp
        rfl
       refine hK.out _ _ ⟨((cell_far (p := ⟨gb790, _, none⟩) z2_ _).trans (((cell_far (p := ⟨gb790, _, none⟩) z2_ _).trans (((cell_far (p := ⟨gb790, _, none⟩) z2_ _).trans (((cell_far (p := ⟨gb790, _, none⟩) z2_ _).trans (hHeld.1)))))))), ((cell_far (p := ⟨gb790, _, none⟩) z3_ _).trans (((cell_far (p := ⟨gb790, _, none⟩) z3_ _).trans (((cell_far (p := ⟨gb790, _, none⟩) z3_ _).trans (((cell_far (p := ⟨gb790, _, none⟩) z3_ _).trans (hHeld.2))))))))⟩ (fun hHeld => ?_)
       clear hK K
       refine done_ (done_of HT_.out (by kernel_rfl)) ?_
       have hnb42 := NB790_775.out
       have hnc42 := NB775_790.out
       have hcz43_0 : w37.cell? ⟨gb790, 0, none⟩ = some (.int .i64 0) := (blk_cell BK790.out 0).trans rfl
       have hcz43_1 : w37.cell? ⟨gb790, 1, none⟩ = some (.int .i64 0) := (blk_cell BK790.out 1).trans rfl
       have hcz43_2 : w37.cell? ⟨gb790, 2, none⟩ = some (.int .i64 0) := (blk_cell BK790.out 2).trans rfl
       have hcz43_3 : w37.cell? ⟨gb790, 3, none⟩ = some (.string (⟨#[]⟩ : ByteArray)) := (blk_cell BK790.out 3).trans rfl
       have hfz43_0 := blk_frozen BK790.out 0
       have hfz43_1 := blk_frozen BK790.out 1
       have hfz43_2 := blk_frozen BK790.out 2
       have hfz43_3 := blk_frozen BK790.out 3
       try go_wp2_with (first | (go_at_call 54; (with_reducible refine (spec_RecOk.calls k (wrap64 (rd l0 4)) t782 (wrap64 (rd l0 7)) t785 true _ A12.out).mono ?_); rintro e w44 ⟨rfl, hb⟩; have n0_ := Aside0.mk (blk_below (g := gb775) (o := .cells #[.int .i64 0, .int .i64 0, .int .i64 0, .string (⟨#[]⟩ : ByteArray)] 38 (0, 0)) z27_ hb); have n1_ := Aside0.mk (blk_below (g := gb790) (o := .cells #[.int .i64 (wrap64 (rd l0 4)), .int .i64 t782, .int .i64 (wrap64 (rd l0 7)), .string t785] 38 (0, 0)) z16_ hb); have n2_ := Aside0.mk (below_step z32_ hb); clear BK775; clear BK790; clear HB; have BK775 := n0_; have BK790 := n1_; have HB := n2_; clear n0_ n1_ n2_; (try clear hb); (try clear hb2); (try clear hk); (try clear hi); have hcz45_0 : w44.cell? ⟨gb790, 0, none⟩ = some (.int .i64 (wrap64 (rd l0 4))) := (blk_cell BK790.out 0).trans rfl; have hcz45_1 : w44.cell? ⟨gb790, 1, none⟩ = some (.int .i64 t782) := (blk_cell BK790.out 1).trans rfl; have hcz45_2 : w44.cell? ⟨gb790, 2, none⟩ = some (.int .i64 (wrap64 (rd l0 7))) := (blk_cell BK790.out 2).trans rfl; have hcz45_3 : w44.cell? ⟨gb790, 3, none⟩ = some (.string t785) := (blk_cell BK790.out 3).trans rfl; have hfz45_0 := blk_frozen BK790.out 0; have hfz45_1 := blk_frozen BK790.out 1; have hfz45_2 := blk_frozen BK790.out 2; have hfz45_3 := blk_frozen BK790.out 3) | (go_at_call 21; (with_reducible refine (spec_PutRec.calls k t776 t779 (wrap64 (rd l0 4)) t782 (wrap64 (rd l0 7)) t785 t792 _ A14.out).mono ?_); rintro e w46 ⟨v793, rfl, ho0, hb⟩; have n0_ := Aside0.mk (Kd.R_lower ho0 (below_size z32_)); have n1_ := Aside0.mk (blk_below (g := gb775) (o := .cells #[.int .i64 0, .int .i64 0, .int .i64 0, .string (⟨#[]⟩ : ByteArray)] 38 (0, 0)) z12_ hb); have n2_ := Aside0.mk (blk_below (g := gb790) (o := .cells #[.int .i64 (wrap64 (rd l0 4)), .int .i64 t782, .int .i64 (wrap64 (rd l0 7)), .string t785] 38 (0, 0)) z60_ hb); have n3_ := Aside0.mk (below_step z32_ hb); clear BK775; clear BK790; clear HB; have HO794 := n0_; have BK775 := n1_; have BK790 := n2_; have HB := n3_; clear n0_ n1_ n2_ n3_; (try clear hb); (try clear hb2); (try clear hk); (try clear hi); (try clear ho0); obtain ⟨Ao47, co47, eo47⟩ := Kd.R_slice HO794.out; subst eo47) | (go_at_call 78; (with_reducible refine (spec_l1Same.calls _ _ t792 _ _ l0 false _ ?side1 ?side2 ?side3 ?side4 A15.out).mono ?_); (case side1 => repeat (first | exact (Kd.R_reads' HO794.out).2.2 | (with_reducible refine Kd.C_alloc ?_ _) | (with_reducible refine Kd.C_drewN ?_ _) | (with_reducible refine Kd.C_drew ?_))); (case side2 => exact (Kd.R_reads' HO794.out).2.1); (case side3 => repeat (first | exact (Kd.C_below HR0.out HB.out) | (with_reducible refine Kd.C_alloc ?_ _) | (with_reducible refine Kd.C_drewN ?_ _) | (with_reducible refine Kd.C_drew ?_))); (case side4 => exact HC0.out); rintro e w' ⟨rfl, ⟨nd, rfl⟩⟩; (try (rw [drewN_self w46]; generalize hq_ : World.drewN w46 _ = w46; have n0_ : Aside0 (Kd.R (Kd.int .u8) 5 w46 w.heap.size (fun _ => True) (.slice Ao47 t792.length co47) t792) := ⟨by rw [← hq_]; exact z91_⟩; have n1_ : Aside0 (w46.heap[gb775]? = some (.cells #[.int .i64 0, .int .i64 0, .int .i64 0, .string (⟨#[]⟩ : ByteArray)] 38 (0, 0))) := ⟨by rw [← hq_]; exact z12_⟩; have n2_ : Aside0 (w46.heap[gb790]? = some (.cells #[.int .i64 (wrap64 (rd l0 4)), .int .i64 t782, .int .i64 (wrap64 (rd l0 7)), .string t785] 38 (0, 0))) := ⟨by rw [← hq_]; exact z60_⟩; have n3_ : Aside0 (Below w.heap.size w w46) := ⟨by rw [← hq_]; exact z32_⟩; clear HO794 BK775 BK790 HB hq_; have HO794 := n0_; have BK775 := n1_; have BK790 := n2_; have HB := n3_; clear n0_ n1_ n2_ n3_)); have hcz48_0 : w46.cell? ⟨gb775, 0, none⟩ = some (.int .i64 0) := (blk_cell BK775.out 0).trans rfl; have hcz48_1 : w46.cell? ⟨gb775, 1, none⟩ = some (.int .i64 0) := (blk_cell BK775.out 1).trans rfl; have hcz48_2 : w46.cell? ⟨gb775, 2, none⟩ = some (.int .i64 0) := (blk_cell BK775.out 2).trans rfl; have hcz48_3 : w46.cell? ⟨gb775, 3, none⟩ = some (.string (⟨#[]⟩ : ByteArray)) := (blk_cell BK775.out 3).trans rfl; have hfz48_0 := blk_frozen BK775.out 0; have hfz48_1 := blk_frozen BK775.out 1; have hfz48_2 := blk_frozen BK775.out 2; have hfz48_3 := blk_frozen BK775.out 3))
       refine bodyPost_ret (results_list (rs := [.tmp 2, .tmp 3, .cell 4 38, .tmp 5]) rfl (by simp) (.tmp (.tmp (.cell gb775 38 #[.int .i64 0, .int .i64 0, .int .i64 0, .string (⟨#[]⟩ : ByteArray)] (0, 0) _ rfl z18_ Tryd.underlying38 rfl (by kernel_rfl) (.tmp .nil))))) rfl ?_
       exact ⟨by first | rfl | (simp [errW_none, errW_some] <;> rfl) | (simp [*, errW_none, errW_some] <;> rfl), by repeat (first | (with_reducible first | exact HB.out | apply below_alloc | apply pw_below_drewN | apply below_drew1 | refine below_set ?_ GE775.out | refine below_set ?_ GE790.out) | exact HB.out)⟩
     ·replace c13 := Bool.eq_false_iff.mpr c13
      subst c13
      have H1 : (some (0, 0, 0, 0, 0, (⟨#[]⟩ : ByteArray), false)) = some (r1, r2, r3, r4, r5, r6, r7) := by rw [if_neg (show ¬ (false = true) by decide)] at H; exact H
      clear H
      have H := H1
      clear H1
      simp only [Option.some.injEq, Prod.mk.injEq] at H
      obtain ⟨rfl, rfl, rfl, rfl, rfl, rfl, rfl⟩ := H
      go_enter Tryd.func36, Tryd.ntmps36
      try go_wp2_with (first | ((with_reducible refine gate_dst (N := 4) rfl ?_); refine box_event ?hg (N := 4) ?hd (cs := #[.int .i64 0, .int .i64 0, .int .i64 0, .string (⟨#[]⟩ : ByteArray)]) (t := 38) ?hr ?_; (case hd => rfl); (case hg => rfl); (case hr => first | (go_simp; done) | (go_simp; rfl)); intro gb775 hg w49 hbox hb; have n0_ := Aside0.mk (below_step z0_ hb); have n1_ := Aside0.mk (hbox); have n2_ := Aside0.mk ((by rw [hg]; exact (below_size z0_) : w.heap.size ≤ gb775)); have n3_ := Aside0.mk ((by rw [hg]; exact (below_size z0_) : w.heap.size ≤ gb775)); clear HB; have HB := n0_; have BK775 := n1_; have GW775 := n2_; have GE775 := n3_; clear n0_ n1_ n2_ n3_; clear hb hbox hg) | ((with_reducible refine gate_callee (f := 76) rfl ?_); refine goesL_ (some 25) rfl rfl Tryd.func76 (by kernel_rfl) rfl #[.slice A0 l0.length c0, .int .i64 0] rfl z1_ ?_; (with_reducible refine (spec_GetWord.calls _ _ l0 0 t776 t777 t778 _ ?side1 ?side2 A5.out).mono ?_); (case side1 => repeat (first | exact (Kd.C_below HR0.out HB.out) | (with_reducible refine Kd.C_alloc ?_ _) | (with_reducible refine Kd.C_drewN ?_ _) | (with_reducible refine Kd.C_drew ?_))); (case side2 => exact HC0.out); rintro e w' ⟨rfl, ⟨nd, rfl⟩⟩; refine ⟨_, rfl, ?_⟩; (try (rw [drewN_self w49]; generalize hq_ : World.drewN w49 _ = w49; have n0_ : Aside0 (w49.heap[gb775]? = some (.cells #[.int .i64 0, .int .i64 0, .int .i64 0, .string (⟨#[]⟩ : ByteArray)] 38 (0, 0))) := ⟨by rw [← hq_]; exact z12_⟩; have n1_ : Aside0 (Below w.heap.size w w49) := ⟨by rw [← hq_]; exact z10_⟩; clear BK775 HB hq_; have BK775 := n0_; have HB := n1_; clear n0_ n1_))) | ((with_reducible refine gate_callee (f := 76) rfl ?_); refine goesL_ (some 31) rfl rfl Tryd.func76 (by kernel_rfl) rfl #[.slice A0 l0.length c0, .int .i64 2] rfl z1_ ?_; (with_reducible refine (spec_GetWord.calls _ _ l0 2 t779 t780 t781 _ ?side1 ?side2 A6.out).mono ?_); (case side1 => repeat (first | exact (Kd.C_below HR0.out HB.out) | (with_reducible refine Kd.C_alloc ?_ _) | (with_reducible refine Kd.C_drewN ?_ _) | (with_reducible refine Kd.C_drew ?_))); (case side2 => exact HC0.out); rintro e w' ⟨rfl, ⟨nd, rfl⟩⟩; refine ⟨_, rfl, ?_⟩; (try (rw [drewN_self w49]; generalize hq_ : World.drewN w49 _ = w49; have n0_ : Aside0 (w49.heap[gb775]? = some (.cells #[.int .i64 0, .int .i64 0, .int .i64 0, .string (⟨#[]⟩ : ByteArray)] 38 (0, 0))) := ⟨by rw [← hq_]; exact z12_⟩; have n1_ : Aside0 (Below w.heap.size w w49) := ⟨by rw [← hq_]; exact z10_⟩; clear BK775 HB hq_; have BK775 := n0_; have HB := n1_; clear n0_ n1_))) | ((with_reducible refine gate_callee (f := 76) rfl ?_); refine goesL_ (some 37) rfl rfl Tryd.func76 (by kernel_rfl) rfl #[.slice A0 l0.length c0, .int .i64 5] rfl z1_ ?_; (with_reducible refine (spec_GetWord.calls _ _ l0 5 t782 t783 t784 _ ?side1 ?side2 A7.out).mono ?_); (case side1 => repeat (first | exact (Kd.C_below HR0.out HB.out) | (with_reducible refine Kd.C_alloc ?_ _) | (with_reducible refine Kd.C_drewN ?_ _) | (with_reducible refine Kd.C_drew ?_))); (case side2 => exact HC0.out); rintro e w' ⟨rfl, ⟨nd, rfl⟩⟩; refine ⟨_, rfl, ?_⟩; (try (rw [drewN_self w49]; generalize hq_ : World.drewN w49 _ = w49; have n0_ : Aside0 (w49.heap[gb775]? = some (.cells #[.int .i64 0, .int .i64 0, .int .i64 0, .string (⟨#[]⟩ : ByteArray)] 38 (0, 0))) := ⟨by rw [← hq_]; exact z12_⟩; have n1_ : Aside0 (Below w.heap.size w w49) := ⟨by rw [← hq_]; exact z10_⟩; clear BK775 HB hq_; have BK775 := n0_; have HB := n1_; clear n0_ n1_))) | ((with_reducible refine gate_callee (f := 77) rfl ?_); refine goesL_ (some 43) rfl rfl Tryd.func77 (by kernel_rfl) rfl #[.slice A0 l0.length c0, .int .i64 8] rfl z1_ ?_; (with_reducible refine (spec_GetText.calls k _ _ l0 8 t785 t786 true _ ?side1 ?side2 A8.out).mono ?_); (case side1 => repeat (first | exact (Kd.C_below HR0.out HB.out) | (with_reducible refine Kd.C_alloc ?_ _) | (with_reducible refine Kd.C_drewN ?_ _) | (with_reducible refine Kd.C_drew ?_))); (case side2 => exact HC0.out); rintro e w' ⟨rfl, ⟨nd, rfl⟩⟩; refine ⟨_, rfl, ?_⟩; (try (rw [drewN_self w49]; generalize hq_ : World.drewN w49 _ = w49; have n0_ : Aside0 (w49.heap[gb775]? = some (.cells #[.int .i64 0, .int .i64 0, .int .i64 0, .string (⟨#[]⟩ : ByteArray)] 38 (0, 0))) := ⟨by rw [← hq_]; exact z12_⟩; have n1_ : Aside0 (Below w.heap.size w w49) := ⟨by rw [← hq_]; exact z10_⟩; clear BK775 HB hq_; have BK775 := n0_; have HB := n1_; clear n0_ n1_))))
      have n0_ := Aside0.mk (blk_drew BK775.out)
      have n1_ := Aside0.mk (below_drew1 HB.out)
      clear BK775
      clear HB
      have BK775 := n0_
      have HB := n1_
      clear n0_ n1_
      have p788 : 0 ≤ (4 : Int) := (by omega)
      have q788 : 4 < (l0.length : Int) := of_decide_eq_true z4_
      obtain ⟨ad788, e788, hx788_0⟩ := Kd.at_int HR0.out 4 p788 q788
      have hw788_0 := hx788_0
      (try rw [show ((4 : Int)).toNat = 4 from rfl] at hw788_0)
      (try rw [show 4 * 1 = 4 from rfl] at hw788_0)
      (try simp only [Nat.reduceMul, Nat.reduceEqDiff, Go.Addr.add, ↓reduceIte] at hw788_0)
      cases e788
      (try simp only [show (4 : Int).toNat = 4 from rfl, Nat.reduceMul, Nat.reduceEqDiff, Go.Addr.add, ↓reduceIte] at hx788_0)
      have qi788 : (4 < l0.length) = True := eq_true (by omega)
      (try rw [show ((4 : Int)).toNat = 4 from rfl] at hx788_0)
      replace hx788_0 := (HB.out.cell (World.block_lt_of_cell? w _ hx788_0)).trans hx788_0
      replace p788 := eq_true p788
      replace q788 := eq_true q788
      have p789 : 0 ≤ (7 : Int) := (by omega)
      have q789 : 7 < (l0.length : Int) := of_decide_eq_true z4_
      obtain ⟨ad789, e789, hx789_0⟩ := Kd.at_int HR0.out 7 p789 q789
      have hw789_0 := hx789_0
      (try rw [show ((7 : Int)).toNat = 7 from rfl] at hw789_0)
      (try rw [show 7 * 1 = 7 from rfl] at hw789_0)
      (try simp only [Nat.reduceMul, Nat.reduceEqDiff, Go.Addr.add, ↓reduceIte] at hw789_0)
      obtain rfl : ad788 = ad789 := (by injection e789)
      (try simp only [show (7 : Int).toNat = 7 from rfl, Nat.reduceMul, Nat.reduceEqDiff, Go.Addr.add, ↓reduceIte] at hx789_0)
      have qi789 : (7 < l0.length) = True := eq_true (by omega)
      (try rw [show ((7 : Int)).toNat = 7 from rfl] at hx789_0)
      replace hx789_0 := (HB.out.cell (World.block_lt_of_cell? w _ hx789_0)).trans hx789_0
      replace p789 := eq_true p789
      replace q789 := eq_true q789
      refine start_ (n := 13) (S := fun w' => w'.cell? ⟨ad788.block, ad788.off + 4, none⟩ = some (.int .u8 (rd l0 4)) ∧ w'.cell? ⟨ad788.block, ad788.off + 7, none⟩ = some (.int .u8 (rd l0 7))) (ds := []) #[false, false, false, false, false, false, false, false, false, false, false, false, false] (by kernel_rfl) rfl rfl ⟨((HB.out.cell (World.block_lt_of_cell? w _ hw788_0)).trans hw788_0), ((HB.out.cell (World.block_lt_of_cell? w _ hw789_0)).trans hw789_0)⟩ (fun hHeld => ?_); refine with_tabW spec_GetRec.tab7 spec_GetRec.bits7 (fun HT_ HW_ => ?_)
      generalize w49.drew = w50 at BK775 HB hx788_0 hx789_0 hHeld ⊢
      refine pure_ (i := 0) (N := some 47) (v := ?_) (a' := ?_) #[true, false, false, false, false, false, false, false, false, false, false, false, false] rfl rfl (any_of HT_.out (by kernel_rfl)) (fun _ _ _ h => h) (Or.inl ⟨by rfl, ?_⟩) ?_ ?_
      rotate_left
      ·intro w'
       go_simp
       with_reducible rfl
      rotate_left
      ·simp only [Act.put, List.setIfInBounds_toArray, List.set_cons_zero, List.set_cons_succ, i64_w, i32_w]
       rfl
      refine pure_ (i := 1) (N := some 48) (v := ?_) (a' := ?_) #[true, true, false, false, false, false, false, false, false, false, false, false, false] rfl rfl (any_of HT_.out (by kernel_rfl)) (fun _ _ _ h => h) (Or.inl ⟨by rfl, ?_⟩) ?_ ?_
      rotate_left
      ·intro w'
       go_simp
       with_reducible rfl
      rotate_left
      ·simp only [Act.put, List.setIfInBounds_toArray, List.set_cons_zero, List.set_cons_succ, i64_w, i32_w]
       rfl
      refine pure_ (i := 4) (N := some 51) (v := ?_) (a' := ?_) #[true, true, false, false, true, false, false, false, false, false, false, false, false] rfl rfl (any_of HT_.out (by kernel_rfl)) (fun _ _ _ h => h) (Or.inl ⟨by rfl, ?_⟩) ?_ ?_
      rotate_left
      ·intro w'
       go_simp
       with_reducible rfl
      rotate_left
      ·simp only [Act.put, List.setIfInBounds_toArray, List.set_cons_zero, List.set_cons_succ, i64_w, i32_w]
       rfl
      refine pure_ (i := 5) (N := some 52) (v := ?_) (a' := ?_) #[true, true, false, false, true, true, false, false, false, false, false, false, false] rfl rfl (any_of HT_.out (by kernel_rfl)) (fun _ _ _ h => h) (Or.inl ⟨by rfl, ?_⟩) ?_ ?_
      rotate_left
      ·intro w'
       go_simp
       with_reducible rfl
      rotate_left
      ·simp only [Act.put, List.setIfInBounds_toArray, List.set_cons_zero, List.set_cons_succ, i64_w, i32_w]
       rfl
      refine pure_ (i := 6) (N := some 53) (v := ?_) (a' := ?_) #[true, true, false, false, true, true, true, false, false, false, false, false, false] rfl rfl (any_of HT_.out (by kernel_rfl)) (fun _ _ _ h => h) (Or.inl ⟨by rfl, ?_⟩) ?_ ?_
      rotate_left
      ·intro w'
       go_simp
       with_reducible rfl
      rotate_left
      ·simp only [Act.put, List.setIfInBounds_toArray, List.set_cons_zero, List.set_cons_succ, i64_w, i32_w]
       rfl
      refine pure_ (i := 9) (N := some 56) (v := ?_) (a' := ?_) #[true, true, false, false, true, true, true, false, false, true, false, false, false] rfl rfl (any_of HT_.out (by kernel_rfl)) (fun _ _ _ h => h) (Or.inl ⟨by rfl, ?_⟩) ?_ ?_
      rotate_left
      ·intro w'
       go_simp
       with_reducible rfl
      rotate_left
      ·simp only [Act.put, List.setIfInBounds_toArray, List.set_cons_zero, List.set_cons_succ, i64_w, i32_w]
       rfl
      refine take_ (i := 2) (N := some 49) (v := ?_) (a' := ?_) #[true, true, true, false, true, true, true, false, false, true, false, false, false] rfl rfl (take_ofW HT_.out HW_.out (by kernel_rfl)) (fun _ _ _ h => h) (Or.inl ⟨by rfl, ?_⟩) hHeld ?_ ?_
      rotate_left
      ·rintro w' ⟨s0, s1⟩
       go_simp
       with_reducible rfl
      rotate_left
      ·simp only [Act.put, List.setIfInBounds_toArray, List.set_cons_zero, List.set_cons_succ, i64_w, i32_w]
       rfl
      refine pure_ (i := 3) (N := some 50) (v := ?_) (a' := ?_) #[true, true, true, true, true, true, true, false, false, true, false, false, false] rfl rfl (any_of HT_.out (by kernel_rfl)) (fun _ _ _ h => h) (Or.inl ⟨by rfl, ?_⟩) ?_ ?_
      rotate_left
      ·intro w'
       go_simp
       with_reducible rfl
      rotate_left
      ·simp only [Act.put, List.setIfInBounds_toArray, List.set_cons_zero, List.set_cons_succ, i64_w, i32_w]
       rfl
      refine take_ (i := 7) (N := some 54) (v := ?_) (a' := ?_) #[true, true, true, true, true, true, true, true, false, true, false, false, false] rfl rfl (take_ofW HT_.out HW_.out (by kernel_rfl)) (fun _ _ _ h => h) (Or.inl ⟨by rfl, ?_⟩) hHeld ?_ ?_
      rotate_left
      ·rintro w' ⟨s0, s1⟩
       go_simp
       with_reducible rfl
      rotate_left
      ·simp only [Act.put, List.setIfInBounds_toArray, List.set_cons_zero, List.set_cons_succ, i64_w, i32_w]
       rfl
      refine pure_ (i := 8) (N := some 55) (v := ?_) (a' := ?_) #[true, true, true, true, true, true, true, true, true, true, false, false, false] rfl rfl (any_of HT_.out (by kernel_rfl)) (fun _ _ _ h => h) (Or.inl ⟨by rfl, ?_⟩) ?_ ?_
      rotate_left
      ·intro w'
       go_simp
       with_reducible rfl
      rotate_left
      ·simp only [Act.put, List.setIfInBounds_toArray, List.set_cons_zero, List.set_cons_succ, i64_w, i32_w]
       rfl
      refine pure_ (i := 10) (N := some 57) (v := ?_) (a' := ?_) #[true, true, true, true, true, true, true, true, true, true, true, false, false] rfl rfl (any_of HT_.out (by kernel_rfl)) (fun _ _ _ h => h) (Or.inl ⟨by rfl, ?_⟩) ?_ ?_
      rotate_left
      ·intro w'
       go_simp
       with_reducible rfl
      rotate_left
      ·simp only [Act.put, List.setIfInBounds_toArray, List.set_cons_zero, List.set_cons_succ, i64_w, i32_w]
       rfl
      refine one_ (i := 11) (N := some 18) #[true, true, true, true, true, true, true, true, true, true, true, true, false] rfl rfl (one_of HT_.out (by kernel_rfl)) (by decide) (fun K hK => ?_)
      refine box_step ?hg (N := 18) ?hd (cs := #[.int .i64 0, .int .i64 0, .int .i64 0, .string (⟨#[]⟩ : ByteArray)]) (t := 38) ?hr ?_; (case hd => rfl); (case hg => rfl); (case hr => first | (go_simp; done) | (go_simp; rfl))
      intro gb790 hg w51 hbox hb
      have n0_ := Aside0.mk (blk_below (g := gb775) (o := .cells #[.int .i64 0, .int .i64 0, .int .i64 0, .string (⟨#[]⟩ : ByteArray)] 38 (0, 0)) z12_ hb)
      have n1_ := Aside0.mk (below_step z10_ hb)
      have n2_ := Aside0.mk (hbox)
      have n3_ := Aside0.mk ((by rw [hg]; exact (below_size z10_) : w.heap.size ≤ gb790))
      have n4_ := Aside0.mk ((by rw [hg]; exact (below_size z10_) : w.heap.size ≤ gb790))
      have n5_ := Aside0.mk ((by rw [hg]; exact Nat.ne_of_lt (blk_lt (g := gb775) (o := .cells #[.int .i64 0, .int .i64 0, .int .i64 0, .string (⟨#[]⟩ : ByteArray)] 38 (0, 0)) z12_) : gb775 ≠ gb790))
      have n6_ := Aside0.mk ((by rw [hg]; exact Nat.ne_of_gt (blk_lt (g := gb775) (o := .cells #[.int .i64 0, .int .i64 0, .int .i64 0, .string (⟨#[]⟩ : ByteArray)] 38 (0, 0)) z12_) : gb790 ≠ gb775))
      clear BK775
      clear HB
      have BK775 := n0_
      have HB := n1_
      have BK790 := n2_
      have GW790 := n3_
      have GE790 := n4_
      have NB775_790 := n5_
      have NB790_775 := n6_
      clear n0_ n1_ n2_ n3_ n4_ n5_ n6_
      clear hb hbox hg
      refine hK.out _ _ ⟨((HB.out.cell (World.block_lt_of_cell? w _ hw788_0)).trans hw788_0), ((HB.out.cell (World.block_lt_of_cell? w _ hw789_0)).trans hw789_0)⟩ (fun hHeld => ?_)
      clear hK K
      refine norm_ (a' := ?_) ?_ ?_
      rotate_left
      ·show Act.put _ (some 18) _ = _
       simp only [Act.put, List.setIfInBounds_toArray, List.set_cons_zero, List.set_cons_succ, i64_w, i32_w]
       rfl
      refine one_ (i := 12) (N := none) #[true, true, true, true, true, true, true, true, true, true, true, true, true] rfl rfl (one_of HT_.out (by kernel_rfl)) (by decide) (fun K hK => ?_)
      have hs52 : w51.cell? ⟨gb790, 0, none⟩ = some (.int .i64 0) := (blk_cell BK790.out 0).trans rfl
      have hfs52 := blk_frozen BK790.out 0
      have hns52_0 := NB775_790.out
      have hms52_0 := NB790_775.out
      have hs53 : w51.cell? ⟨gb790, 1, none⟩ = some (.int .i64 0) := (blk_cell BK790.out 1).trans rfl
      have hfs53 := blk_frozen BK790.out 1
      have hns53_0 := NB775_790.out
      have hms53_0 := NB790_775.out
      have hs54 : w51.cell? ⟨gb790, 2, none⟩ = some (.int .i64 0) := (blk_cell BK790.out 2).trans rfl
      have hfs54 := blk_frozen BK790.out 2
      have hns54_0 := NB775_790.out
      have hms54_0 := NB790_775.out
      have hs55 : w51.cell? ⟨gb790, 3, none⟩ = some (.string (⟨#[]⟩ : ByteArray)) := (blk_cell BK790.out 3).trans rfl
      have hfs55 := blk_frozen BK790.out 3
      have hns55_0 := NB775_790.out
      have hms55_0 := NB790_775.out
      refine skip_ (w1 := ?_) (by rfl) rfl ?_ ?_
      rotate_left
      ·go_simp
       rfl
      refine hK.out _ _ ⟨((cell_far (p := ⟨gb790, _, none⟩) z2_ _).trans (((cell_far (p := ⟨gb790, _, none⟩) z2_ _).trans (((cell_far (p := ⟨gb790, _, none⟩) z2_ _).trans (((cell_far (p := ⟨gb790, _, none⟩) z2_ _).trans (hHeld.1)))))))), ((cell_far (p := ⟨gb790, _, none⟩) z3_ _).trans (((cell_far (p := ⟨gb790, _, none⟩) z3_ _).trans (((cell_far (p := ⟨gb790, _, none⟩) z3_ _).trans (((cell_far (p := ⟨gb790, _, none⟩) z3_ _).trans (hHeld.2))))))))⟩ (fun hHeld => ?_)
      clear hK K
      refine done_ (done_of HT_.out (by kernel_rfl)) ?_
      have hnb56 := NB790_775.out
      have hnc56 := NB775_790.out
      have hcz57_0 : w51.cell? ⟨gb790, 0, none⟩ = some (.int .i64 0) := (blk_cell BK790.out 0).trans rfl
      have hcz57_1 : w51.cell? ⟨gb790, 1, none⟩ = some (.int .i64 0) := (blk_cell BK790.out 1).trans rfl
      have hcz57_2 : w51.cell? ⟨gb790, 2, none⟩ = some (.int .i64 0) := (blk_cell BK790.out 2).trans rfl
      have hcz57_3 : w51.cell? ⟨gb790, 3, none⟩ = some (.string (⟨#[]⟩ : ByteArray)) := (blk_cell BK790.out 3).trans rfl
      have hfz57_0 := blk_frozen BK790.out 0
      have hfz57_1 := blk_frozen BK790.out 1
      have hfz57_2 := blk_frozen BK790.out 2
      have hfz57_3 := blk_frozen BK790.out 3
      try go_wp2_with (first | (go_at_call 54; (with_reducible refine (spec_RecOk.calls k (wrap64 (rd l0 4)) t782 (wrap64 (rd l0 7)) t785 false _ A12.out).mono ?_); rintro e w58 ⟨rfl, hb⟩; have n0_ := Aside0.mk (blk_below (g := gb775) (o := .cells #[.int .i64 0, .int .i64 0, .int .i64 0, .string (⟨#[]⟩ : ByteArray)] 38 (0, 0)) z27_ hb); have n1_ := Aside0.mk (blk_below (g := gb790) (o := .cells #[.int .i64 (wrap64 (rd l0 4)), .int .i64 t782, .int .i64 (wrap64 (rd l0 7)), .string t785] 38 (0, 0)) z16_ hb); have n2_ := Aside0.mk (below_step z32_ hb); clear BK775; clear BK790; clear HB; have BK775 := n0_; have BK790 := n1_; have HB := n2_; clear n0_ n1_ n2_; (try clear hb); (try clear hb2); (try clear hk); (try clear hi); have hcz59_0 : w58.cell? ⟨gb775, 0, none⟩ = some (.int .i64 0) := (blk_cell BK775.out 0).trans rfl; have hcz59_1 : w58.cell? ⟨gb775, 1, none⟩ = some (.int .i64 0) := (blk_cell BK775.out 1).trans rfl; have hcz59_2 : w58.cell? ⟨gb775, 2, none⟩ = some (.int .i64 0) := (blk_cell BK775.out 2).trans rfl; have hcz59_3 : w58.cell? ⟨gb775, 3, none⟩ = some (.string (⟨#[]⟩ : ByteArray)) := (blk_cell BK775.out 3).trans rfl; have hfz59_0 := blk_frozen BK775.out 0; have hfz59_1 := blk_frozen BK775.out 1; have hfz59_2 := blk_frozen BK775.out 2; have hfz59_3 := blk_frozen BK775.out 3))
      refine bodyPost_ret (results_list (rs := [.tmp 2, .tmp 3, .cell 4 38, .tmp 5]) rfl (by simp) (.tmp (.tmp (.cell gb775 38 #[.int .i64 0, .int .i64 0, .int .i64 0, .string (⟨#[]⟩ : ByteArray)] (0, 0) _ rfl z18_ Tryd.underlying38 rfl (by kernel_rfl) (.tmp .nil))))) rfl ?_
      exact ⟨by first | rfl | (simp [errW_none, errW_some] <;> rfl) | (simp [*, errW_none, errW_some] <;> rfl), by repeat (first | (with_reducible first | exact HB.out | apply below_alloc | apply pw_below_drewN | apply below_drew1 | refine below_set ?_ GE775.out | refine below_set ?_ GE790.out) | exact HB.out)⟩
    ·replace c11 := Bool.eq_false_iff.mpr c11
     subst c11
     have H1 : (some (0, 0, 0, 0, 0, (⟨#[]⟩ : ByteArray), false)) = some (r1, r2, r3, r4, r5, r6, r7) := by rw [if_neg (show ¬ (false = true) by decide)] at H; exact H
     clear H
     have H := H1
     clear H1
     simp only [Option.some.injEq, Prod.mk.injEq] at H
     obtain ⟨rfl, rfl, rfl, rfl, rfl, rfl, rfl⟩ := H
     go_enter Tryd.func36, Tryd.ntmps36
     try go_wp2_with (first | ((with_reducible refine gate_dst (N := 4) rfl ?_); refine box_event ?hg (N := 4) ?hd (cs := #[.int .i64 0, .int .i64 0, .int .i64 0, .string (⟨#[]⟩ : ByteArray)]) (t := 38) ?hr ?_; (case hd => rfl); (case hg => rfl); (case hr => first | (go_simp; done) | (go_simp; rfl)); intro gb775 hg w60 hbox hb; have n0_ := Aside0.mk (below_step z0_ hb); have n1_ := Aside0.mk (hbox); have n2_ := Aside0.mk ((by rw [hg]; exact (below_size z0_) : w.heap.size ≤ gb775)); have n3_ := Aside0.mk ((by rw [hg]; exact (below_size z0_) : w.heap.size ≤ gb775)); clear HB; have HB := n0_; have BK775 := n1_; have GW775 := n2_; have GE775 := n3_; clear n0_ n1_ n2_ n3_; clear hb hbox hg) | ((with_reducible refine gate_callee (f := 76) rfl ?_); refine goesL_ (some 25) rfl rfl Tryd.func76 (by kernel_rfl) rfl #[.slice A0 l0.length c0, .int .i64 0] rfl z1_ ?_; (with_reducible refine (spec_GetWord.calls _ _ l0 0 t776 t777 t778 _ ?side1 ?side2 A5.out).mono ?_); (case side1 => repeat (first | exact (Kd.C_below HR0.out HB.out) | (with_reducible refine Kd.C_alloc ?_ _) | (with_reducible refine Kd.C_drewN ?_ _) | (with_reducible refine Kd.C_drew ?_))); (case side2 => exact HC0.out); rintro e w' ⟨rfl, ⟨nd, rfl⟩⟩; refine ⟨_, rfl, ?_⟩; (try (rw [drewN_self w60]; generalize hq_ : World.drewN w60 _ = w60; have n0_ : Aside0 (w60.heap[gb775]? = some (.cells #[.int .i64 0, .int .i64 0, .int .i64 0, .string (⟨#[]⟩ : ByteArray)] 38 (0, 0))) := ⟨by rw [← hq_]; exact z12_⟩; have n1_ : Aside0 (Below w.heap.size w w60) := ⟨by rw [← hq_]; exact z10_⟩; clear BK775 HB hq_; have BK775 := n0_; have HB := n1_; clear n0_ n1_))) | ((with_reducible refine gate_callee (f := 76) rfl ?_); refine goesL_ (some 31) rfl rfl Tryd.func76 (by kernel_rfl) rfl #[.slice A0 l0.length c0, .int .i64 2] rfl z1_ ?_; (with_reducible refine (spec_GetWord.calls _ _ l0 2 t779 t780 t781 _ ?side1 ?side2 A6.out).mono ?_); (case side1 => repeat (first | exact (Kd.C_below HR0.out HB.out) | (with_reducible refine Kd.C_alloc ?_ _) | (with_reducible refine Kd.C_drewN ?_ _) | (with_reducible refine Kd.C_drew ?_))); (case side2 => exact HC0.out); rintro e w' ⟨rfl, ⟨nd, rfl⟩⟩; refine ⟨_, rfl, ?_⟩; (try (rw [drewN_self w60]; generalize hq_ : World.drewN w60 _ = w60; have n0_ : Aside0 (w60.heap[gb775]? = some (.cells #[.int .i64 0, .int .i64 0, .int .i64 0, .string (⟨#[]⟩ : ByteArray)] 38 (0, 0))) := ⟨by rw [← hq_]; exact z12_⟩; have n1_ : Aside0 (Below w.heap.size w w60) := ⟨by rw [← hq_]; exact z10_⟩; clear BK775 HB hq_; have BK775 := n0_; have HB := n1_; clear n0_ n1_))) | ((with_reducible refine gate_callee (f := 76) rfl ?_); refine goesL_ (some 37) rfl rfl Tryd.func76 (by kernel_rfl) rfl #[.slice A0 l0.length c0, .int .i64 5] rfl z1_ ?_; (with_reducible refine (spec_GetWord.calls _ _ l0 5 t782 t783 t784 _ ?side1 ?side2 A7.out).mono ?_); (case side1 => repeat (first | exact (Kd.C_below HR0.out HB.out) | (with_reducible refine Kd.C_alloc ?_ _) | (with_reducible refine Kd.C_drewN ?_ _) | (with_reducible refine Kd.C_drew ?_))); (case side2 => exact HC0.out); rintro e w' ⟨rfl, ⟨nd, rfl⟩⟩; refine ⟨_, rfl, ?_⟩; (try (rw [drewN_self w60]; generalize hq_ : World.drewN w60 _ = w60; have n0_ : Aside0 (w60.heap[gb775]? = some (.cells #[.int .i64 0, .int .i64 0, .int .i64 0, .string (⟨#[]⟩ : ByteArray)] 38 (0, 0))) := ⟨by rw [← hq_]; exact z12_⟩; have n1_ : Aside0 (Below w.heap.size w w60) := ⟨by rw [← hq_]; exact z10_⟩; clear BK775 HB hq_; have BK775 := n0_; have HB := n1_; clear n0_ n1_))) | ((with_reducible refine gate_callee (f := 77) rfl ?_); refine goesL_ (some 43) rfl rfl Tryd.func77 (by kernel_rfl) rfl #[.slice A0 l0.length c0, .int .i64 8] rfl z1_ ?_; (with_reducible refine (spec_GetText.calls k _ _ l0 8 t785 t786 false _ ?side1 ?side2 A8.out).mono ?_); (case side1 => repeat (first | exact (Kd.C_below HR0.out HB.out) | (with_reducible refine Kd.C_alloc ?_ _) | (with_reducible refine Kd.C_drewN ?_ _) | (with_reducible refine Kd.C_drew ?_))); (case side2 => exact HC0.out); rintro e w' ⟨rfl, ⟨nd, rfl⟩⟩; refine ⟨_, rfl, ?_⟩; (try (rw [drewN_self w60]; generalize hq_ : World.drewN w60 _ = w60; have n0_ : Aside0 (w60.heap[gb775]? = some (.cells #[.int .i64 0, .int .i64 0, .int .i64 0, .string (⟨#[]⟩ : ByteArray)] 38 (0, 0))) := ⟨by rw [← hq_]; exact z12_⟩; have n1_ : Aside0 (Below w.heap.size w w60) := ⟨by rw [← hq_]; exact z10_⟩; clear BK775 HB hq_; have BK775 := n0_; have HB := n1_; clear n0_ n1_))))
     have n0_ := Aside0.mk (blk_drew BK775.out)
     have n1_ := Aside0.mk (below_drew1 HB.out)
     clear BK775
     clear HB
     have BK775 := n0_
     have HB := n1_
     clear n0_ n1_
     have p788 : 0 ≤ (4 : Int) := (by omega)
     have q788 : 4 < (l0.length : Int) := of_decide_eq_true z4_
     obtain ⟨ad788, e788, hx788_0⟩ := Kd.at_int HR0.out 4 p788 q788
     have hw788_0 := hx788_0
     (try rw [show ((4 : Int)).toNat = 4 from rfl] at hw788_0)
     (try rw [show 4 * 1 = 4 from rfl] at hw788_0)
     (try simp only [Nat.reduceMul, Nat.reduceEqDiff, Go.Addr.add, ↓reduceIte] at hw788_0)
     cases e788
     (try simp only [show (4 : Int).toNat = 4 from rfl, Nat.reduceMul, Nat.reduceEqDiff, Go.Addr.add, ↓reduceIte] at hx788_0)
     have qi788 : (4 < l0.length) = True := eq_true (by omega)
     (try rw [show ((4 : Int)).toNat = 4 from rfl] at hx788_0)
     replace hx788_0 := (HB.out.cell (World.block_lt_of_cell? w _ hx788_0)).trans hx788_0
     replace p788 := eq_true p788
     replace q788 := eq_true q788
     have p789 : 0 ≤ (7 : Int) := (by omega)
     have q789 : 7 < (l0.length : Int) := of_decide_eq_true z4_
     obtain ⟨ad789, e789, hx789_0⟩ := Kd.at_int HR0.out 7 p789 q789
     have hw789_0 := hx789_0
     (try rw [show ((7 : Int)).toNat = 7 from rfl] at hw789_0)
     (try rw [show 7 * 1 = 7 from rfl] at hw789_0)
     (try simp only [Nat.reduceMul, Nat.reduceEqDiff, Go.Addr.add, ↓reduceIte] at hw789_0)
     obtain rfl : ad788 = ad789 := (by injection e789)
     (try simp only [show (7 : Int).toNat = 7 from rfl, Nat.reduceMul, Nat.reduceEqDiff, Go.Addr.add, ↓reduceIte] at hx789_0)
     have qi789 : (7 < l0.length) = True := eq_true (by omega)
     (try rw [show ((7 : Int)).toNat = 7 from rfl] at hx789_0)
     replace hx789_0 := (HB.out.cell (World.block_lt_of_cell? w _ hx789_0)).trans hx789_0
     replace p789 := eq_true p789
     replace q789 := eq_true q789
     refine start_ (n := 13) (S := fun w' => w'.cell? ⟨ad788.block, ad788.off + 4, none⟩ = some (.int .u8 (rd l0 4)) ∧ w'.cell? ⟨ad788.block, ad788.off + 7, none⟩ = some (.int .u8 (rd l0 7))) (ds := []) #[false, false, false, false, false, false, false, false, false, false, false, false, false] (by kernel_rfl) rfl rfl ⟨((HB.out.cell (World.block_lt_of_cell? w _ hw788_0)).trans hw788_0), ((HB.out.cell (World.block_lt_of_cell? w _ hw789_0)).trans hw789_0)⟩ (fun hHeld => ?_); refine with_tabW spec_GetRec.tab7 spec_GetRec.bits7 (fun HT_ HW_ => ?_)
     generalize w60.drew = w61 at BK775 HB hx788_0 hx789_0 hHeld ⊢
     refine pure_ (i := 0) (N := some 47) (v := ?_) (a' := ?_) #[true, false, false, false, false, false, false, false, false, false, false, false, false] rfl rfl (any_of HT_.out (by kernel_rfl)) (fun _ _ _ h => h) (Or.inl ⟨by rfl, ?_⟩) ?_ ?_
     rotate_left
     ·intro w'
      go_simp
      with_reducible rfl
     rotate_left
     ·simp only [Act.put, List.setIfInBounds_toArray, List.set_cons_zero, List.set_cons_succ, i64_w, i32_w]
      rfl
     refine pure_ (i := 1) (N := some 48) (v := ?_) (a' := ?_) #[true, true, false, false, false, false, false, false, false, false, false, false, false] rfl rfl (any_of HT_.out (by kernel_rfl)) (fun _ _ _ h => h) (Or.inl ⟨by rfl, ?_⟩) ?_ ?_
     rotate_left
     ·intro w'
      go_simp
      with_reducible rfl
     rotate_left
     ·simp only [Act.put, List.setIfInBounds_toArray, List.set_cons_zero, List.set_cons_succ, i64_w, i32_w]
      rfl
     refine pure_ (i := 4) (N := some 51) (v := ?_) (a' := ?_) #[true, true, false, false, true, false, false, false, false, false, false, false, false] rfl rfl (any_of HT_.out (by kernel_rfl)) (fun _ _ _ h => h) (Or.inl ⟨by rfl, ?_⟩) ?_ ?_
     rotate_left
     ·intro w'
      go_simp
      with_reducible rfl
     rotate_left
     ·simp only [Act.put, List.setIfInBounds_toArray, List.set_cons_zero, List.set_cons_succ, i64_w, i32_w]
      rfl
     refine pure_ (i := 5) (N := some 52) (v := ?_) (a' := ?_) #[true, true, false, false, true, true, false, false, false, false, false, false, false] rfl rfl (any_of HT_.out (by kernel_rfl)) (fun _ _ _ h => h) (Or.inl ⟨by rfl, ?_⟩) ?_ ?_
     rotate_left
     ·intro w'
      go_simp
      with_reducible rfl
     rotate_left
     ·simp only [Act.put, List.setIfInBounds_toArray, List.set_cons_zero, List.set_cons_succ, i64_w, i32_w]
      rfl
     refine pure_ (i := 6) (N := some 53) (v := ?_) (a' := ?_) #[true, true, false, false, true, true, true, false, false, false, false, false, false] rfl rfl (any_of HT_.out (by kernel_rfl)) (fun _ _ _ h => h) (Or.inl ⟨by rfl, ?_⟩) ?_ ?_
     rotate_left
     ·intro w'
      go_simp
      with_reducible rfl
     rotate_left
     ·simp only [Act.put, List.setIfInBounds_toArray, List.set_cons_zero, List.set_cons_succ, i64_w, i32_w]
      rfl
     refine pure_ (i := 9) (N := some 56) (v := ?_) (a' := ?_) #[true, true, false, false, true, true, true, false, false, true, false, false, false] rfl rfl (any_of HT_.out (by kernel_rfl)) (fun _ _ _ h => h) (Or.inl ⟨by rfl, ?_⟩) ?_ ?_
     rotate_left
     ·intro w'
      go_simp
      with_reducible rfl
     rotate_left
     ·simp only [Act.put, List.setIfInBounds_toArray, List.set_cons_zero, List.set_cons_succ, i64_w, i32_w]
      rfl
     refine take_ (i := 2) (N := some 49) (v := ?_) (a' := ?_) #[true, true, true, false, true, true, true, false, false, true, false, false, false] rfl rfl (take_ofW HT_.out HW_.out (by kernel_rfl)) (fun _ _ _ h => h) (Or.inl ⟨by rfl, ?_⟩) hHeld ?_ ?_
     rotate_left
     ·rintro w' ⟨s0, s1⟩
      go_simp
      with_reducible rfl
     rotate_left
     ·simp only [Act.put, List.setIfInBounds_toArray, List.set_cons_zero, List.set_cons_succ, i64_w, i32_w]
      rfl
     refine pure_ (i := 3) (N := some 50) (v := ?_) (a' := ?_) #[true, true, true, true, true, true, true, false, false, true, false, false, false] rfl rfl (any_of HT_.out (by kernel_rfl)) (fun _ _ _ h => h) (Or.inl ⟨by rfl, ?_⟩) ?_ ?_
     rotate_left
     ·intro w'
      go_simp
      with_reducible rfl
     rotate_left
     ·simp only [Act.put, List.setIfInBounds_toArray, List.set_cons_zero, List.set_cons_succ, i64_w, i32_w]
      rfl
     refine take_ (i := 7) (N := some 54) (v := ?_) (a' := ?_) #[true, true, true, true, true, true, true, true, false, true, false, false, false] rfl rfl (take_ofW HT_.out HW_.out (by kernel_rfl)) (fun _ _ _ h => h) (Or.inl ⟨by rfl, ?_⟩) hHeld ?_ ?_
     rotate_left
     ·rintro w' ⟨s0, s1⟩
      go_simp
      with_reducible rfl
     rotate_left
     ·simp only [Act.put, List.setIfInBounds_toArray, List.set_cons_zero, List.set_cons_succ, i64_w, i32_w]
      rfl
     refine pure_ (i := 8) (N := some 55) (v := ?_) (a' := ?_) #[true, true, true, true, true, true, true, true, true, true, false, false, false] rfl rfl (any_of HT_.out (by kernel_rfl)) (fun _ _ _ h => h) (Or.inl ⟨by rfl, ?_⟩) ?_ ?_
     rotate_left
     ·intro w'
      go_simp
      with_reducible rfl
     rotate_left
     ·simp only [Act.put, List.setIfInBounds_toArray, List.set_cons_zero, List.set_cons_succ, i64_w, i32_w]
      rfl
     refine pure_ (i := 10) (N := some 57) (v := ?_) (a' := ?_) #[true, true, true, true, true, true, true, true, true, true, true, false, false] rfl rfl (any_of HT_.out (by kernel_rfl)) (fun _ _ _ h => h) (Or.inl ⟨by rfl, ?_⟩) ?_ ?_
     rotate_left
     ·intro w'
      go_simp
      with_reducible rfl
     rotate_left
     ·simp only [Act.put, List.setIfInBounds_toArray, List.set_cons_zero, List.set_cons_succ, i64_w, i32_w]
      rfl
     refine one_ (i := 11) (N := some 18) #[true, true, true, true, true, true, true, true, true, true, true, true, false] rfl rfl (one_of HT_.out (by kernel_rfl)) (by decide) (fun K hK => ?_)
     refine box_step ?hg (N := 18) ?hd (cs := #[.int .i64 0, .int .i64 0, .int .i64 0, .string (⟨#[]⟩ : ByteArray)]) (t := 38) ?hr ?_; (case hd => rfl); (case hg => rfl); (case hr => first | (go_simp; done) | (go_simp; rfl))
     intro gb790 hg w62 hbox hb
     have n0_ := Aside0.mk (blk_below (g := gb775) (o := .cells #[.int .i64 0, .int .i64 0, .int .i64 0, .string (⟨#[]⟩ : ByteArray)] 38 (0, 0)) z12_ hb)
     have n1_ := Aside0.mk (below_step z10_ hb)
     have n2_ := Aside0.mk (hbox)
     have n3_ := Aside0.mk ((by rw [hg]; exact (below_size z10_) : w.heap.size ≤ gb790))
     have n4_ := Aside0.mk ((by rw [hg]; exact (below_size z10_) : w.heap.size ≤ gb790))
     have n5_ := Aside0.mk ((by rw [hg]; exact Nat.ne_of_lt (blk_lt (g := gb775) (o := .cells #[.int .i64 0, .int .i64 0, .int .i64 0, .string (⟨#[]⟩ : ByteArray)] 38 (0, 0)) z12_) : gb775 ≠ gb790))
     have n6_ := Aside0.mk ((by rw [hg]; exact Nat.ne_of_gt (blk_lt (g := gb775) (o := .cells #[.int .i64 0, .int .i64 0, .int .i64 0, .string (⟨#[]⟩ : ByteArray)] 38 (0, 0)) z12_) : gb790 ≠ gb775))
     clear BK775
     clear HB
     have BK775 := n0_
     have HB := n1_
     have BK790 := n2_
     have GW790 := n3_
     have GE790 := n4_
     have NB775_790 := n5_
     have NB790_775 := n6_
     clear n0_ n1_ n2_ n3_ n4_ n5_ n6_
     clear hb hbox hg
     refine hK.out _ _ ⟨((HB.out.cell (World.block_lt_of_cell? w _ hw788_0)).trans hw788_0), ((HB.out.cell (World.block_lt_of_cell? w _ hw789_0)).trans hw789_0)⟩ (fun hHeld => ?_)
     clear hK K
     refine norm_ (a' := ?_) ?_ ?_
     rotate_left
     ·show Act.put _ (some 18) _ = _
      simp only [Act.put, List.setIfInBounds_toArray, List.set_cons_zero, List.set_cons_succ, i64_w, i32_w]
      rfl
     refine one_ (i := 12) (N := none) #[true, true, true, true, true, true, true, true, true, true, true, true, true] rfl rfl (one_of HT_.out (by kernel_rfl)) (by decide) (fun K hK => ?_)
     have hs63 : w62.cell? ⟨gb790, 0, none⟩ = some (.int .i64 0) := (blk_cell BK790.out 0).trans rfl
     have hfs63 := blk_frozen BK790.out 0
     have hns63_0 := NB775_790.out
     have hms63_0 := NB790_775.out
     have hs64 : w62.cell? ⟨gb790, 1, none⟩ = some (.int .i64 0) := (blk_cell BK790.out 1).trans rfl
     have hfs64 := blk_frozen BK790.out 1
     have hns64_0 := NB775_790.out
     have hms64_0 := NB790_775.out
     have hs65 : w62.cell? ⟨gb790, 2, none⟩ = some (.int .i64 0) := (blk_cell BK790.out 2).trans rfl
     have hfs65 := blk_frozen BK790.out 2
     have hns65_0 := NB775_790.out
     have hms65_0 := NB790_775.out
     have hs66 : w62.cell? ⟨gb790, 3, none⟩ = some (.string (⟨#[]⟩ : ByteArray)) := (blk_cell BK790.out 3).trans rfl
     have hfs66 := blk_frozen BK790.out 3
     have hns66_0 := NB775_790.out
     have hms66_0 := NB790_775.out
     refine skip_ (w1 := ?_) (by rfl) rfl ?_ ?_
     rotate_left
     ·go_simp
      rfl
     refine hK.out _ _ ⟨((cell_far (p := ⟨gb790, _, none⟩) z2_ _).trans (((cell_far (p := ⟨gb790, _, none⟩) z2_ _).trans (((cell_far (p := ⟨gb790, _, none⟩) z2_ _).trans (((cell_far (p := ⟨gb790, _, none⟩) z2_ _).trans (hHeld.1)))))))), ((cell_far (p := ⟨gb790, _, none⟩) z3_ _).trans (((cell_far (p := ⟨gb790, _, none⟩) z3_ _).trans (((cell_far (p := ⟨gb790, _, none⟩) z3_ _).trans (((cell_far (p := ⟨gb790, _, none⟩) z3_ _).trans (hHeld.2))))))))⟩ (fun hHeld => ?_)
     clear hK K
     refine done_ (done_of HT_.out (by kernel_rfl)) ?_
     have hnb67 := NB775_790.out
     have hnc67 := NB790_775.out
     have hcz68_0 : w62.cell? ⟨gb775, 0, none⟩ = some (.int .i64 0) := (blk_cell BK775.out 0).trans rfl
     have hcz68_1 : w62.cell? ⟨gb775, 1, none⟩ = some (.int .i64 0) := (blk_cell BK775.out 1).trans rfl
     have hcz68_2 : w62.cell? ⟨gb775, 2, none⟩ = some (.int .i64 0) := (blk_cell BK775.out 2).trans rfl
     have hcz68_3 : w62.cell? ⟨gb775, 3, none⟩ = some (.string (⟨#[]⟩ : ByteArray)) := (blk_cell BK775.out 3).trans rfl
     have hfz68_0 := blk_frozen BK775.out 0
     have hfz68_1 := blk_frozen BK775.out 1
     have hfz68_2 := blk_frozen BK775.out 2
     have hfz68_3 := blk_frozen BK775.out 3
     try go_wp2
     refine bodyPost_ret (results_list (rs := [.tmp 2, .tmp 3, .cell 4 38, .tmp 5]) rfl (by simp) (.tmp (.tmp (.cell gb775 38 #[.int .i64 0, .int .i64 0, .int .i64 0, .string (⟨#[]⟩ : ByteArray)] (0, 0) _ rfl (by (with_reducible repeat (first | refine blk_drewN ?_ _ | refine blk_drew ?_ | refine blk_alloc ?_ _)); refine blk_put (cs := #[.int .i64 0, .int .i64 0, .int .i64 0, .string (⟨#[]⟩ : ByteArray)]) ?_ 3 _ rfl; (with_reducible repeat (first | refine blk_drewN ?_ _ | refine blk_drew ?_ | refine blk_alloc ?_ _)); refine blk_put (cs := #[.int .i64 0, .int .i64 0, .int .i64 0, .string (⟨#[]⟩ : ByteArray)]) ?_ 2 _ rfl; (with_reducible repeat (first | refine blk_drewN ?_ _ | refine blk_drew ?_ | refine blk_alloc ?_ _)); refine blk_put (cs := #[.int .i64 0, .int .i64 0, .int .i64 0, .string (⟨#[]⟩ : ByteArray)]) ?_ 1 _ rfl; (with_reducible repeat (first | refine blk_drewN ?_ _ | refine blk_drew ?_ | refine blk_alloc ?_ _)); refine blk_put (cs := #[.int .i64 0, .int .i64 0, .int .i64 0, .string (⟨#[]⟩ : ByteArray)]) ?_ 0 _ rfl; (with_reducible repeat (first | refine blk_drewN ?_ _ | refine blk_drew ?_ | refine blk_alloc ?_ _)); refine blk_far ?_ NB775_790.out _; (with_reducible repeat (first | refine blk_drewN ?_ _ | refine blk_drew ?_ | refine blk_alloc ?_ _)); refine blk_far ?_ NB775_790.out _; (with_reducible repeat (first | refine blk_drewN ?_ _ | refine blk_drew ?_ | refine blk_alloc ?_ _)); refine blk_far ?_ NB775_790.out _; (with_reducible repeat (first | refine blk_drewN ?_ _ | refine blk_drew ?_ | refine blk_alloc ?_ _)); refine blk_far ?_ NB775_790.out _; (with_reducible repeat (first | refine blk_drewN ?_ _ | refine blk_drew ?_ | refine blk_alloc ?_ _)); exact BK775.out) Tryd.underlying38 rfl (by kernel_rfl) (.tmp .nil))))) rfl ?_
     exact ⟨by first | rfl | (simp [errW_none, errW_some] <;> rfl) | (simp [*, errW_none, errW_some] <;> rfl), by repeat (first | (with_reducible first | exact HB.out | apply below_alloc | apply pw_below_drewN | apply below_drew1 | refine below_set ?_ GE775.out | refine below_set ?_ GE790.out) | exact HB.out)⟩
   ·rw [if_neg c10] at H
    exact absurd H (by simp)
  ·rw [if_neg c9] at H
   exact absurd H (by simp)

/-! ### laws_toByteS: function 37 -/
set_option maxHeartbeats 8000000 in
set_option maxRecDepth 100000 in
theorem laws_toByteS.calls (k : Nat) (A0 : Option Addr) (c0 : Nat) (l0 : List Int) (r : List Int) (w : World) (hr0 : Kd.C (Kd.int .u8) w A0 l0.length l0) (hc0 : l0.length ≤ c0) (h : laws_toByteS.f k l0 = some r) :
  Calls Tryd.prog 37 #[.slice A0 l0.length c0] w fun e w' => ∃ v0_ : Value, e = .returned (v0_) ∧ Kd.R (Kd.int .u8) 5 w' w.heap.size (fun _ => True) v0_ r ∧ Below w.heap.size w w' := by
 have HR0 := Aside0.mk hr0
 have HC0 := Aside0.mk hc0
 clear hr0 hc0
 have HB := Aside0.mk (Below.refl w.heap.size w)
 have H : (if 0 ≤ (l0.length : Int) then (if ((l0.length : Int) : Int).toNat ≤ 281474976710656 then (laws_toByteS.l0 k l0 (List.replicate ((l0.length : Int) : Int).toNat 0) 0) else (none)) else (none)) = some r := h
 clear h
 by_cases c2 : 0 ≤ (l0.length : Int)
 ·rw [if_pos c2] at H
  have c2b0 := eq_true c2
  have c2b1 : decide (0 ≤ (l0.length : Int)) = true := decide_eq_true c2
  clear c2
  by_cases c3 : ((l0.length : Int) : Int).toNat ≤ 281474976710656
  ·rw [if_pos c3] at H
   have c3b0 := eq_true c3
   have c3b1 : decide (((l0.length : Int) : Int).toNat ≤ 281474976710656) = true := decide_eq_true c3
   clear c3
   obtain ⟨y796, hy796⟩ : ∃ y_ : List Int, y_ = (List.replicate ((l0.length : Int) : Int).toNat 0) := ⟨_, rfl⟩
   replace H : (laws_toByteS.l0 k l0 y796 0) = some r := by first | (rw [hy796]; with_reducible exact H) | (have H2_ := (Option.bind_some _ _).symm.trans H; rw [hy796]; with_reducible exact H2_) | (have H2_ := (Option.bind_some _ _).symm.trans H; with_reducible exact H2_) | with_reducible exact H | (rw [hy796]; exact H) | exact H
   have Ny796 := Aside0.mk hy796
   clear hy796
   have H' := Aside0.mk H
   clear H
   go_enter Tryd.func37, Tryd.ntmps37
   go_wp2_with (first | ((with_reducible refine gate_dst (N := 7) rfl ?_); refine Kd.R_make (Kd.int .u8) _ 5 rfl (N := 7) rfl 42 _ _ rfl (l0.length : Int) rfl rfl Tryd.underlying42 (.int .u8 0) 1 info5 rfl (by decide) (by omega) 0 (ok := fun _ => True) (okp := fun _ => True) rfl (fun _ hk => hk) trivial (of_decide_eq_true z4_) (Nat.le_trans (Nat.mul_le_mul_right _ (of_decide_eq_true z4_ : (l0.length : Int).toNat ≤ 281474976710656)) (by omega)) (Below.refl _ _) (Nat.le_refl _) ?_; intro v797 w4 ho5 hb hg_ hnew_; clear hg_ hnew_; (first | rw [← Ny796.out] at ho5 | (simp only [Int.reduceToNat] at ho5; rw [← Ny796.out] at ho5)); have n0_ := Aside0.mk (Kd.R_lower ho5 (below_size z0_)); have n1_ := Aside0.mk (below_step z0_ hb); clear HB; have HO798 := n0_; have HB := n1_; clear n0_ n1_; clear hb ho5))
   go_loopg [4] k (fun kq v4 w' => ∃ (x3_1 : List Int) (x4_1 : Int), v4 = .int .i64 x4_1 ∧ Aside0 (laws_toByteS.l0 kq l0 x3_1 x4_1 = some r) ∧ Aside0 (kq ≤ k) ∧ Aside0 (Kd.R (Kd.int .u8) 5 w' w.heap.size (fun _ => True) v797 x3_1) ∧ Aside0 (Below w.heap.size w w'))
   case atStart => exact ⟨(y796), (0), z11_, H', ⟨Nat.le_refl _⟩, ⟨by (with_reducible repeat (first | apply Kd.R_alloc | apply Kd.R_drewN | apply Kd.R_drew)); exact HO798.out⟩, ⟨by repeat (first | (with_reducible first | exact HB.out | apply below_alloc | apply pw_below_drewN | apply below_drew1) | exact HB.out)⟩⟩
   case round =>
    clear H'
    try clear c2
    try clear c2b0
    try clear c2b1
    try clear p2
    try clear c3
    try clear c3b0
    try clear c3b1
    obtain ⟨x3_1, x4_1, rfl, HA, HK1, HO_3, HB⟩ := hrel
    cases gk with
    | zero => exact absurd HA.out (by simp [laws_toByteS.l0])
    | succ k1 =>
     have H := HA.out
     clear HA
     simp only [laws_toByteS.l0] at H
     by_cases c6 : x4_1 < (l0.length : Int)
     ·rw [if_pos c6] at H
      have c6b0 : decide (x4_1 < (l0.length : Int)) = true := decide_eq_true c6
      clear c6
      by_cases c7 : 0 ≤ x4_1
      ·rw [if_pos c7] at H
       have c7b0 : decide (0 ≤ x4_1) = true := decide_eq_true c7
       clear c7
       by_cases c8 : x4_1 < (x3_1.length : Int)
       ·rw [if_pos c8] at H
        have c8b0 : decide (x4_1 < (x3_1.length : Int)) = true := decide_eq_true c8
        clear c8
        obtain ⟨y800, hy800⟩ : ∃ y_ : List Int, y_ = (x3_1.set (x4_1 : Int).toNat (rd l0 x4_1)) := ⟨_, rfl⟩
        replace H : (laws_toByteS.l0 k1 l0 y800 (wrap64 (x4_1 + 1))) = some r := by first | (rw [hy800]; with_reducible exact H) | (have H2_ := (Option.bind_some _ _).symm.trans H; rw [hy800]; with_reducible exact H2_) | (have H2_ := (Option.bind_some _ _).symm.trans H; with_reducible exact H2_) | with_reducible exact H | (rw [hy800]; exact H) | exact H
        have Ny800 := Aside0.mk hy800
        clear hy800
        have H' := Aside0.mk H
        clear H
        have p799 : 0 ≤ (x4_1 : Int) := of_decide_eq_true z4_
        have q799 : x4_1 < (l0.length : Int) := of_decide_eq_true z4_
        obtain ⟨ad799, e799, hx799_0⟩ := Kd.at_int HR0.out x4_1 p799 q799
        cases e799
        replace hx799_0 := (HB.out.cell (World.block_lt_of_cell? w _ hx799_0)).trans hx799_0
        replace p799 := eq_true p799
        replace q799 := eq_true q799
        have p9 : 0 ≤ (x4_1 : Int) := of_decide_eq_true z4_
        have q9 : (x4_1 : Int) < ((x3_1.length : Int) : Int) := of_decide_eq_true z4_
        obtain ⟨go9, co9, eo9, gb9, gl9, cl9, HG9⟩ := Kd.R_form HO_3.out (by omega)
        (first | cases eo9 | (injection eo9 with ea_ en_ ec_; (first | subst ea_ | (injection ea_ with ea_; subst ea_)); subst ec_; clear en_))
        have GB9 := Aside0.mk gb9
        have GG9 := Aside0.mk HG9
        clear gb9 gl9 HG9
        obtain ⟨hx9_0, hf9_0⟩ := Kd.R_celln 0 HO_3.out (x4_1 : Int) p9 q9
        replace p9 := eq_true p9
        replace q9 := eq_true q9
        have HP10 := Kd.R_putg HO_3.out (x4_1 : Int) (rd l0 x4_1)
        go_wp2_with (first | ((with_reducible refine gate_store (t := 5) (p := 20) rfl ?_); refine store_event (t := 5) (p := 20) (v := ?vo_w11) (w1 := (wr.setCell ⟨go9, (x4_1 : Int).toNat, none⟩ (.int .u8 (rd l0 x4_1)))) ?hg ?ho ?hn ?hr ?_; (case ho => rfl); (case hg => rfl); (case hn => rfl); (case hr => first | (go_simp; done) | (go_simp; rfl)); intro w11 hw; have hg : wr.grownBy w11 (some go9) := (by rw [hw]; exact HP10.2); have hp_ : Kd.R (Kd.int .u8) 5 w11 w.heap.size (fun _ => True) (.slice (some ⟨go9, 0, none⟩) x3_1.length co9) y800 := (by rw [hw, Ny800.out]; exact HP10.1); clear HP10; have n0_ := Aside0.mk (hp_); have n1_ := Aside0.mk ((by rw [hw]; exact below_set (HB.out) GB9.out : Below w.heap.size w w11)); clear HO_3; clear HB; have HO_3 := n0_; have HB := n1_; clear n0_ n1_; clear hg hw hp_))
        go_roundg k1
        case measure => have := HK1.out; omega
        case rel => exact ⟨(y800), (wrap64 (x4_1 + 1)), z11_, H', ⟨by have := HK1.out; omega⟩, ⟨by (with_reducible repeat (first | apply Kd.R_alloc | apply Kd.R_drewN | apply Kd.R_drew)); exact HO_3.out⟩, ⟨by repeat (first | (with_reducible first | exact HB.out | apply below_alloc | apply pw_below_drewN | apply below_drew1) | exact HB.out)⟩⟩
       ·rw [if_neg c8] at H
        exact absurd H (by simp)
      ·rw [if_neg c7] at H
       exact absurd H (by simp)
     ·rw [if_neg c6] at H
      have c6b0 : decide (x4_1 < (l0.length : Int)) = false := decide_eq_false c6
      clear c6
      obtain rfl := Option.some.inj H
      go_wp2
      go_ret
      exact ⟨_, by first | rfl | (simp [errW_none, errW_some] <;> rfl) | (simp [*, errW_none, errW_some] <;> rfl), by (with_reducible repeat (first | apply Kd.R_alloc | apply Kd.R_drewN | apply Kd.R_drew)); exact HO_3.out, by repeat (first | (with_reducible first | exact HB.out | apply below_alloc | apply pw_below_drewN | apply below_drew1) | exact HB.out)⟩
  ·rw [if_neg c3] at H
   exact absurd H (by simp)
 ·rw [if_neg c2] at H
  exact absurd H (by simp)

end Go.Proofs.YthkepmicdpgbbaaDoor.P

-- Written by xprint.py (by way of the kit's print program) out of the translation.
namespace Go.Proofs.YthkepmicdpgbbaaDoor.P
open Go.RowKit Go.Proofs.YthkepmicdpgbbaaDoorW.PrintWords Go.Proofs.YthkepmicdpgbbaaDoorW.PrintLast Go.Proofs.YthkepmicdpgbbaaDoorW.PrintMore
attribute [local go_sem] max2_int min2_int max_two min_two max_three min_three max_four min_four   -- for this text's walks alone
set_option linter.unusedVariables false
set_option linter.unusedSimpArgs false

/-! ### impl_GetWord: function 79 -/
set_option maxHeartbeats 8000000 in
set_option maxRecDepth 100000 in
theorem impl_GetWord.calls (A0 : Option Addr) (c0 : Nat) (l0 : List Int) (a1 : Int) (r1 : Int) (r2 : Int) (r3 : Bool) (w : World) (hr0 : Kd.C (Kd.int .u8) w A0 l0.length l0) (hc0 : l0.length ≤ c0) (h : impl_GetWord.f l0 a1 = some (r1, r2, r3)) :
  Calls Tryd.prog 79 #[.slice A0 l0.length c0, .int .i64 a1] w fun e w' => e = .returned (.tuple #[.int .i64 r1, .int .i64 r2, .bool r3]) ∧ Drawn0 w w' := by
 have HR0 := Aside0.mk hr0
 have HC0 := Aside0.mk hc0
 clear hr0 hc0
 have H : ((impl_isIn.f a1 0 (wrap64 ((l0.length : Int) - 2))).bind fun t801 => (if t801 = true then (if 0 ≤ a1 then (if a1 < (l0.length : Int) then (if 0 ≤ (wrap64 (a1 + 1)) then (if (wrap64 (a1 + 1)) < (l0.length : Int) then (some (Go.bits .or .i64 (wrap64 ((wrap64 (rd l0 a1)) * 256)) (wrap64 (rd l0 (wrap64 (a1 + 1)))), wrap64 (a1 + 2), true)) else (none)) else (none)) else (none)) else (none)) else (some (0, 0, false)))) = some (r1, r2, r3) := h
 clear h
 replace H := Option.bind_eq_some_iff.mp H
 obtain ⟨t801, A30, H⟩ := H
 replace H : (if t801 = true then (if 0 ≤ a1 then (if a1 < (l0.length : Int) then (if 0 ≤ (wrap64 (a1 + 1)) then (if (wrap64 (a1 + 1)) < (l0.length : Int) then (some (Go.bits .or .i64 (wrap64 ((wrap64 (rd l0 a1)) * 256)) (wrap64 (rd l0 (wrap64 (a1 + 1)))), wrap64 (a1 + 2), true)) else (none)) else (none)) else (none)) else (none)) else (some (0, 0, false))) = some (r1, r2, r3) := H
 have A3 := Aside0.mk A30
 clear A30
 by_cases c4 : t801 = true
 ·subst c4
  have H1 : (if 0 ≤ a1 then (if a1 < (l0.length : Int) then (if 0 ≤ (wrap64 (a1 + 1)) then (if (wrap64 (a1 + 1)) < (l0.length : Int) then (some (Go.bits .or .i64 (wrap64 ((wrap64 (rd l0 a1)) * 256)) (wrap64 (rd l0 (wrap64 (a1 + 1)))), wrap64 (a1 + 2), true)) else (none)) else (none)) else (none)) else (none)) = some (r1, r2, r3) := by rw [if_pos rfl] at H; exact H
  clear H
  have H := H1
  clear H1
  by_cases c5 : 0 ≤ a1
  ·rw [if_pos c5] at H
   have c5b0 : decide (0 ≤ a1) = true := decide_eq_true c5
   clear c5
   by_cases c6 : a1 < (l0.length : Int)
   ·rw [if_pos c6] at H
    have c6b0 : decide (a1 < (l0.length : Int)) = true := decide_eq_true c6
    clear c6
    obtain ⟨ji7, hji7⟩ : ∃ j_ : Int, (wrap64 (a1 + 1)) = j_ := ⟨_, rfl⟩
    replace H : (if 0 ≤ (ji7) then (if (ji7) < (l0.length : Int) then (some (Go.bits .or .i64 (wrap64 ((wrap64 (rd l0 a1)) * 256)) (wrap64 (rd l0 (ji7))), wrap64 (a1 + 2), true)) else (none)) else (none)) = some (r1, r2, r3) := by first | (rw [hji7] at H; exact H) | (simp only [hji7] at H ⊢; exact H)
    (try rw [hji7] at A3)
    have hji7w : (IntKind.i64.wrap (a1 + 1)) = ji7 := (i64_w _).trans hji7
    by_cases c8 : 0 ≤ (ji7)
    ·rw [if_pos c8] at H
     have c8b0 : decide (0 ≤ (ji7)) = true := decide_eq_true c8
     clear c8
     by_cases c9 : (ji7) < (l0.length : Int)
     ·rw [if_pos c9] at H
      have c9b0 : decide ((ji7) < (l0.length : Int)) = true := decide_eq_true c9
      clear c9
      simp only [Option.some.injEq, Prod.mk.injEq] at H
      obtain ⟨rfl, rfl, rfl⟩ := H
      go_enter Tryd.func79, Tryd.ntmps79
      go_wp2_with (first | (go_at_call 72; (with_reducible refine (impl_isIn.calls a1 0 (wrap64 ((l0.length : Int) - 2)) true _ A3.out).mono ?_); rintro e w' ⟨rfl, ⟨nd, rfl⟩⟩; (try first | exact ⟨rfl, _, World.drewN_drewN _ _ _⟩ | exact ⟨rfl, _, Eq.trans (World.drewN_drewN _ _ _) (congrArg (World.drewN _) (Nat.add_assoc _ _ _))⟩); (try (have p802 : 0 ≤ (a1 : Int) := of_decide_eq_true z4_; have q802 : a1 < (l0.length : Int) := of_decide_eq_true z4_; obtain ⟨ad802, e802, hx802_0⟩ := Kd.at_int HR0.out a1 p802 q802; cases e802; replace p802 := eq_true p802; replace q802 := eq_true q802; have p803 : 0 ≤ ((ji7) : Int) := of_decide_eq_true z4_; have q803 : (ji7) < (l0.length : Int) := of_decide_eq_true z4_; obtain ⟨ad803, e803, hx803_0⟩ := Kd.at_int HR0.out (ji7) p803 q803; obtain rfl : ad802 = ad803 := (by injection e803); replace p803 := eq_true p803; replace q803 := eq_true q803))))
      repeat (go_quiet (first | (go_at_call 72; (with_reducible refine (impl_isIn.calls a1 0 (wrap64 ((l0.length : Int) - 2)) true _ A3.out).mono ?_); rintro e w' ⟨rfl, ⟨nd, rfl⟩⟩; (try first | exact ⟨rfl, _, World.drewN_drewN _ _ _⟩ | exact ⟨rfl, _, Eq.trans (World.drewN_drewN _ _ _) (congrArg (World.drewN _) (Nat.add_assoc _ _ _))⟩); (try (have p802 : 0 ≤ (a1 : Int) := of_decide_eq_true z4_; have q802 : a1 < (l0.length : Int) := of_decide_eq_true z4_; obtain ⟨ad802, e802, hx802_0⟩ := Kd.at_int HR0.out a1 p802 q802; cases e802; replace p802 := eq_true p802; replace q802 := eq_true q802; have p803 : 0 ≤ ((ji7) : Int) := of_decide_eq_true z4_; have q803 : (ji7) < (l0.length : Int) := of_decide_eq_true z4_; obtain ⟨ad803, e803, hx803_0⟩ := Kd.at_int HR0.out (ji7) p803 q803; obtain rfl : ad802 = ad803 := (by injection e803); replace p803 := eq_true p803; replace q803 := eq_true q803)))); try go_wp2_with (first | (go_at_call 72; (with_reducible refine (impl_isIn.calls a1 0 (wrap64 ((l0.length : Int) - 2)) true _ A3.out).mono ?_); rintro e w' ⟨rfl, ⟨nd, rfl⟩⟩; (try first | exact ⟨rfl, _, World.drewN_drewN _ _ _⟩ | exact ⟨rfl, _, Eq.trans (World.drewN_drewN _ _ _) (congrArg (World.drewN _) (Nat.add_assoc _ _ _))⟩); (try (have p802 : 0 ≤ (a1 : Int) := of_decide_eq_true z4_; have q802 : a1 < (l0.length : Int) := of_decide_eq_true z4_; obtain ⟨ad802, e802, hx802_0⟩ := Kd.at_int HR0.out a1 p802 q802; cases e802; replace p802 := eq_true p802; replace q802 := eq_true q802; have p803 : 0 ≤ ((ji7) : Int) := of_decide_eq_true z4_; have q803 : (ji7) < (l0.length : Int) := of_decide_eq_true z4_; obtain ⟨ad803, e803, hx803_0⟩ := Kd.at_int HR0.out (ji7) p803 q803; obtain rfl : ad802 = ad803 := (by injection e803); replace p803 := eq_true p803; replace q803 := eq_true q803)))))
      go_ret3
      exact ⟨by first | rfl | (simp; done) | (simp only [← hji7] <;> (first | rfl | simp)) | (simp [*]; done), by repeat (first | exact Drawn0.refl _ | apply Drawn0.step)⟩
     ·rw [if_neg c9] at H
      exact absurd H (by simp)
    ·rw [if_neg c8] at H
     exact absurd H (by simp)
   ·rw [if_neg c6] at H
    exact absurd H (by simp)
  ·rw [if_neg c5] at H
   exact absurd H (by simp)
 ·replace c4 := Bool.eq_false_iff.mpr c4
  subst c4
  have H1 : (some (0, 0, false)) = some (r1, r2, r3) := by rw [if_neg (show ¬ (false = true) by decide)] at H; exact H
  clear H
  have H := H1
  clear H1
  simp only [Option.some.injEq, Prod.mk.injEq] at H
  obtain ⟨rfl, rfl, rfl⟩ := H
  go_enter Tryd.func79, Tryd.ntmps79
  go_wp2_with (first | (go_at_call 72; (with_reducible refine (impl_isIn.calls a1 0 (wrap64 ((l0.length : Int) - 2)) false _ A3.out).mono ?_); rintro e w' ⟨rfl, ⟨nd, rfl⟩⟩; (try first | exact ⟨rfl, _, World.drewN_drewN _ _ _⟩ | exact ⟨rfl, _, Eq.trans (World.drewN_drewN _ _ _) (congrArg (World.drewN _) (Nat.add_assoc _ _ _))⟩)))
  repeat (go_quiet (first | (go_at_call 72; (with_reducible refine (impl_isIn.calls a1 0 (wrap64 ((l0.length : Int) - 2)) false _ A3.out).mono ?_); rintro e w' ⟨rfl, ⟨nd, rfl⟩⟩; (try first | exact ⟨rfl, _, World.drewN_drewN _ _ _⟩ | exact ⟨rfl, _, Eq.trans (World.drewN_drewN _ _ _) (congrArg (World.drewN _) (Nat.add_assoc _ _ _))⟩))); try go_wp2_with (first | (go_at_call 72; (with_reducible refine (impl_isIn.calls a1 0 (wrap64 ((l0.length : Int) - 2)) false _ A3.out).mono ?_); rintro e w' ⟨rfl, ⟨nd, rfl⟩⟩; (try first | exact ⟨rfl, _, World.drewN_drewN _ _ _⟩ | exact ⟨rfl, _, Eq.trans (World.drewN_drewN _ _ _) (congrArg (World.drewN _) (Nat.add_assoc _ _ _))⟩))))
  go_ret3
  exact ⟨by first | rfl | (simp; done) | (simp [*]; done), by repeat (first | exact Drawn0.refl _ | apply Drawn0.step)⟩

/-! ### impl_GetText: function 80 -/
set_option maxHeartbeats 8000000 in
set_option maxRecDepth 100000 in
theorem impl_GetText.calls (k : Nat) (A0 : Option Addr) (c0 : Nat) (l0 : List Int) (a1 : Int) (r1 : ByteArray) (r2 : Int) (r3 : Bool) (w : World) (hr0 : Kd.C (Kd.int .u8) w A0 l0.length l0) (hc0 : l0.length ≤ c0) (h : impl_GetText.f k l0 a1 = some (r1, r2, r3)) :
  Calls Tryd.prog 80 #[.slice A0 l0.length c0, .int .i64 a1] w fun e w' => e = .returned (.tuple #[.string r1, .int .i64 r2, .bool r3]) ∧ Drawn0 w w' := by
 have HR0 := Aside0.mk hr0
 have HC0 := Aside0.mk hc0
 clear hr0 hc0
 have H : ((impl_isIn.f a1 0 (wrap64 ((l0.length : Int) - 1))).bind fun t804 => (if t804 = true then (if 0 ≤ a1 then (if a1 < (l0.length : Int) then (impl_GetText.j0 k l0 a1 (decide ((wrap64 (rd l0 a1)) > (wrap64 ((wrap64 ((l0.length : Int) - a1)) - 1))))) else (none)) else (none)) else (impl_GetText.j0 k l0 a1 true))) = some (r1, r2, r3) := h
 clear h
 have HC3 := Aside0.mk H
 clear H
 go_enter Tryd.func80, Tryd.ntmps80
 go_upto_region 1 with (fail)
 go_cut [27] (fun v27 wc => ∃ (kq : Nat) (x27_2 : Bool), v27 = .bool x27_2 ∧ Aside0 (impl_GetText.j0 kq l0 a1 x27_2 = some (r1, r2, r3)) ∧ Aside0 (kq ≤ k) ∧ Drawn0 w wc)
 case first =>
  have H := HC3.out
  clear HC3
  replace H := Option.bind_eq_some_iff.mp H
  obtain ⟨t804, A40, H⟩ := H
  replace H : (if t804 = true then (if 0 ≤ a1 then (if a1 < (l0.length : Int) then (impl_GetText.j0 k l0 a1 (decide ((wrap64 (rd l0 a1)) > (wrap64 ((wrap64 ((l0.length : Int) - a1)) - 1))))) else (none)) else (none)) else (impl_GetText.j0 k l0 a1 true)) = some (r1, r2, r3) := H
  have A4 := Aside0.mk A40
  clear A40
  by_cases c5 : t804 = true
  ·subst c5
   have H1 : (if 0 ≤ a1 then (if a1 < (l0.length : Int) then (impl_GetText.j0 k l0 a1 (decide ((wrap64 (rd l0 a1)) > (wrap64 ((wrap64 ((l0.length : Int) - a1)) - 1))))) else (none)) else (none)) = some (r1, r2, r3) := by rw [if_pos rfl] at H; exact H
   clear H
   have H := H1
   clear H1
   by_cases c6 : 0 ≤ a1
   ·rw [if_pos c6] at H
    have c6b0 : decide (0 ≤ a1) = true := decide_eq_true c6
    clear c6
    (first | rw [c6b0] | (simp only [i64_w, i32_w]; rw [c6b0]) | skip)
    by_cases c7 : a1 < (l0.length : Int)
    ·rw [if_pos c7] at H
     have c7b0 : decide (a1 < (l0.length : Int)) = true := decide_eq_true c7
     clear c7
     have H' := Aside0.mk H
     clear H
     go_wp2_with (first | ((with_reducible refine gate_callee (f := 72) rfl ?_); refine goesL_ (some 13) rfl rfl Tryd.func72 (by kernel_rfl) rfl #[.int .i64 a1, .int .i64 0, .int .i64 (wrap64 ((l0.length : Int) - 1))] rfl z1_ ?_; (with_reducible refine (impl_isIn.calls a1 0 (wrap64 ((l0.length : Int) - 1)) true _ A4.out).mono ?_); rintro e w' ⟨rfl, ⟨nd, rfl⟩⟩; refine ⟨_, rfl, ?_⟩; have p805 : 0 ≤ (a1 : Int) := of_decide_eq_true z4_; have q805 : a1 < (l0.length : Int) := of_decide_eq_true z4_; obtain ⟨ad805, e805, hx805_0⟩ := Kd.at_int HR0.out a1 p805 q805; cases e805; replace p805 := eq_true p805; replace q805 := eq_true q805))
     go_meet
     case rel => exact ⟨_, (decide ((wrap64 (rd l0 a1)) > (wrap64 ((wrap64 ((l0.length : Int) - a1)) - 1)))), z11_, H', ⟨by first | omega | exact Nat.le_refl _⟩, by repeat (first | exact Drawn0.refl _ | apply Drawn0.step)⟩
    ·rw [if_neg c7] at H
     exact absurd H (by simp)
   ·rw [if_neg c6] at H
    exact absurd H (by simp)
  ·replace c5 := Bool.eq_false_iff.mpr c5
   subst c5
   have H1 : (impl_GetText.j0 k l0 a1 true) = some (r1, r2, r3) := by rw [if_neg (show ¬ (false = true) by decide)] at H; exact H
   clear H
   have H := H1
   clear H1
   have H' := Aside0.mk H
   clear H
   go_wp2_with (first | ((with_reducible refine gate_callee (f := 72) rfl ?_); refine goesL_ (some 13) rfl rfl Tryd.func72 (by kernel_rfl) rfl #[.int .i64 a1, .int .i64 0, .int .i64 (wrap64 ((l0.length : Int) - 1))] rfl z1_ ?_; (with_reducible refine (impl_isIn.calls a1 0 (wrap64 ((l0.length : Int) - 1)) false _ A4.out).mono ?_); rintro e w' ⟨rfl, ⟨nd, rfl⟩⟩; refine ⟨_, rfl, ?_⟩))
   go_meet
   case rel => exact ⟨_, (true), z11_, H', ⟨by first | omega | exact Nat.le_refl _⟩, by repeat (first | exact Drawn0.refl _ | apply Drawn0.step)⟩
 case rest =>
  clear HC3
  try clear p2
  try clear c5
  try clear c6
  try clear c6b0
  try clear p6
  try clear c7
  try clear c7b0
  try clear hx805_0
  try clear p805
  try clear q805
  obtain ⟨kq, x27_2, rfl, HA, HJ2, ⟨mc2, rfl⟩⟩ := hcut
  cases kq with
  | zero => exact absurd HA.out (by simp [impl_GetText.j0])
  | succ kj2 =>
   have H := HA.out
   clear HA
   simp only [impl_GetText.j0] at H
   by_cases c8 : x27_2 = true
   ·subst c8
    have H1 : (some ((⟨#[]⟩ : ByteArray), 0, false)) = some (r1, r2, r3) := by rw [if_pos rfl] at H; exact H
    clear H
    have H := H1
    clear H1
    simp only [Option.some.injEq, Prod.mk.injEq] at H
    obtain ⟨rfl, rfl, rfl⟩ := H
    go_wp2
    go_ret3
    exact ⟨by first | rfl | (simp; done) | (simp [*]; done), by repeat (first | exact Drawn0.refl _ | apply Drawn0.step)⟩
   ·replace c8 := Bool.eq_false_iff.mpr c8
    subst c8
    have H1 : (if 0 ≤ a1 then (if a1 < (l0.length : Int) then (if 0 ≤ (wrap64 (a1 + 1)) then (if (wrap64 (a1 + 1)) ≤ (wrap64 ((wrap64 (a1 + 1)) + (wrap64 (rd l0 a1)))) then (if (wrap64 ((wrap64 (a1 + 1)) + (wrap64 (rd l0 a1)))) ≤ (l0.length : Int) then ((impl_TextOk.f kj2 (strOfNums ((l0.take ((wrap64 ((wrap64 (a1 + 1)) + (wrap64 (rd l0 a1)))) : Int).toNat).drop ((wrap64 (a1 + 1)) : Int).toNat))).bind fun t808 => (if t808 = true then (some (strOfNums ((l0.take ((wrap64 ((wrap64 (a1 + 1)) + (wrap64 (rd l0 a1)))) : Int).toNat).drop ((wrap64 (a1 + 1)) : Int).toNat), wrap64 ((wrap64 (a1 + 1)) + (wrap64 (rd l0 a1))), true)) else (some ((⟨#[]⟩ : ByteArray), 0, false)))) else (none)) else (none)) else (none)) else (none)) else (none)) = some (r1, r2, r3) := by rw [if_neg (show ¬ (false = true) by decide)] at H; exact H
    clear H
    have H := H1
    clear H1
    by_cases c9 : 0 ≤ a1
    ·rw [if_pos c9] at H
     have c9b0 : decide (0 ≤ a1) = true := decide_eq_true c9
     clear c9
     by_cases c10 : a1 < (l0.length : Int)
     ·rw [if_pos c10] at H
      have c10b0 : decide (a1 < (l0.length : Int)) = true := decide_eq_true c10
      clear c10
      obtain ⟨ji11, hji11⟩ : ∃ j_ : Int, (wrap64 (a1 + 1)) = j_ := ⟨_, rfl⟩
      replace H : (if 0 ≤ (ji11) then (if (ji11) ≤ (wrap64 ((ji11) + (wrap64 (rd l0 a1)))) then (if (wrap64 ((ji11) + (wrap64 (rd l0 a1)))) ≤ (l0.length : Int) then ((impl_TextOk.f kj2 (strOfNums ((l0.take ((wrap64 ((ji11) + (wrap64 (rd l0 a1)))) : Int).toNat).drop ((ji11) : Int).toNat))).bind fun t808 => (if t808 = true then (some (strOfNums ((l0.take ((wrap64 ((ji11) + (wrap64 (rd l0 a1)))) : Int).toNat).drop ((ji11) : Int).toNat), wrap64 ((ji11) + (wrap64 (rd l0 a1))), true)) else (some ((⟨#[]⟩ : ByteArray), 0, false)))) else (none)) else (none)) else (none)) = some (r1, r2, r3) := by first | (rw [hji11] at H; exact H) | (simp only [hji11] at H ⊢; exact H)
      have hji11w : (IntKind.i64.wrap (a1 + 1)) = ji11 := (i64_w _).trans hji11
      by_cases c12 : 0 ≤ (ji11)
      ·rw [if_pos c12] at H
       have c12b0 := eq_true c12
       have c12b1 : decide (0 ≤ (ji11)) = true := decide_eq_true c12
       clear c12
       by_cases c13 : (ji11) ≤ (wrap64 ((ji11) + (wrap64 (rd l0 a1))))
       ·rw [if_pos c13] at H
        have c13b0 := eq_true c13
        have c13b1 : decide ((ji11) ≤ (wrap64 ((ji11) + (wrap64 (rd l0 a1))))) = true := decide_eq_true c13
        by_cases c14 : (wrap64 ((ji11) + (wrap64 (rd l0 a1)))) ≤ (l0.length : Int)
        ·rw [if_pos c14] at H
         have c14b0 := eq_true c14
         have c14b1 : decide ((wrap64 ((ji11) + (wrap64 (rd l0 a1)))) ≤ (l0.length : Int)) = true := decide_eq_true c14
         replace H := Option.bind_eq_some_iff.mp H
         obtain ⟨t808, A150, H⟩ := H
         replace H : (if t808 = true then (some (strOfNums ((l0.take ((wrap64 ((ji11) + (wrap64 (rd l0 a1)))) : Int).toNat).drop ((ji11) : Int).toNat), wrap64 ((ji11) + (wrap64 (rd l0 a1))), true)) else (some ((⟨#[]⟩ : ByteArray), 0, false))) = some (r1, r2, r3) := H
         have A15 := Aside0.mk A150
         clear A150
         by_cases c16 : t808 = true
         ·subst c16
          have H1 : (some (strOfNums ((l0.take ((wrap64 ((ji11) + (wrap64 (rd l0 a1)))) : Int).toNat).drop ((ji11) : Int).toNat), wrap64 ((ji11) + (wrap64 (rd l0 a1))), true)) = some (r1, r2, r3) := by rw [if_pos rfl] at H; exact H
          clear H
          have H := H1
          clear H1
          simp only [Option.some.injEq, Prod.mk.injEq] at H
          obtain ⟨rfl, rfl, rfl⟩ := H
          have p806 : 0 ≤ (a1 : Int) := of_decide_eq_true z4_
          have q806 : a1 < (l0.length : Int) := of_decide_eq_true z4_
          obtain ⟨ad806, e806, hx806_0⟩ := Kd.at_int HR0.out a1 p806 q806
          cases e806
          replace p806 := eq_true p806
          replace q806 := eq_true q806
          obtain ⟨i017, hi017, _, hsz17, _⟩ := info_parts info5
          obtain ⟨A17, hcut17, hA17, hC17⟩ := print_mid_of (P := Tryd.prog) (Value.int .u8) 0 42 5 .i64 .i64 Tryd.underlying42 hi017 hsz17 (some ad806) c0 l0 (ji11) (wrap64 ((ji11) + (wrap64 (rd l0 a1)))) (of_decide_eq_true z4_) z94_ (of_decide_eq_true z4_) HC0.out
          have HR807 := Aside0.mk (Kd.C_of_reads (h1 := fun _ => rfl) (hA17 _ (Kd.reads_of_C HR0.out)))
          have HC807 := Aside0.mk hC17
          clear hA17 hC17 hi017 hsz17
          have hcv18 := Kd.C_string (P := Tryd.prog) (A := A17) (c := (c0 - (ji11).toNat)) Tryd.underlying42 Tryd.underlying5 Tryd.underlying9 HR807.out
          have hcv18n := fun (m_ : Nat) => Kd.C_string (P := Tryd.prog) (A := A17) (c := (c0 - (ji11).toNat)) Tryd.underlying42 Tryd.underlying5 Tryd.underlying9 (Kd.C_drewN HR807.out m_)
          have hcv18b := hcv18
          (try simp only [List.length_drop, List.length_take] at hcv18b)
          (try rw [Nat.min_eq_left (by omega)] at hcv18b)
          have hcv18c := hcv18b
          (try simp only [Int.reduceToNat] at hcv18c)
          have hcv18d := hcv18
          (try simp only [Int.reduceToNat] at hcv18d)
          have hcv18nb := hcv18n
          (try simp only [List.length_drop, List.length_take] at hcv18nb)
          (try rw [Nat.min_eq_left (by omega)] at hcv18nb)
          have hcv18nc := hcv18nb
          (try simp only [Int.reduceToNat] at hcv18nc)
          have hcv18nd := hcv18n
          (try simp only [Int.reduceToNat] at hcv18nd)
          go_wp2_with (first | ((with_reducible refine gate_callee (f := 92) rfl ?_); refine goesL_ (some 43) rfl rfl Tryd.func92 (by kernel_rfl) rfl #[.string (strOfNums ((l0.take ((wrap64 ((ji11) + (wrap64 (rd l0 a1)))) : Int).toNat).drop ((ji11) : Int).toNat))] rfl z70_ ?_; (with_reducible refine (impl_TextOk.calls kj2 (strOfNums ((l0.take ((wrap64 ((ji11) + (wrap64 (rd l0 a1)))) : Int).toNat).drop ((ji11) : Int).toNat)) true _ A15.out).mono ?_); rintro e w' ⟨rfl, ⟨nd, rfl⟩⟩; refine ⟨_, rfl, ?_⟩))
          go_ret3
          exact ⟨by first | rfl | (simp; done) | (simp only [← hji11] <;> (first | rfl | simp)) | (simp [*]; done), by repeat (first | exact Drawn0.refl _ | apply Drawn0.step)⟩
         ·replace c16 := Bool.eq_false_iff.mpr c16
          subst c16
          have H1 : (some ((⟨#[]⟩ : ByteArray), 0, false)) = some (r1, r2, r3) := by rw [if_neg (show ¬ (false = true) by decide)] at H; exact H
          clear H
          have H := H1
          clear H1
          simp only [Option.some.injEq, Prod.mk.injEq] at H
          obtain ⟨rfl, rfl, rfl⟩ := H
          have p806 : 0 ≤ (a1 : Int) := of_decide_eq_true z4_
          have q806 : a1 < (l0.length : Int) := of_decide_eq_true z4_
          obtain ⟨ad806, e806, hx806_0⟩ := Kd.at_int HR0.out a1 p806 q806
          cases e806
          replace p806 := eq_true p806
          replace q806 := eq_true q806
          obtain ⟨i019, hi019, _, hsz19, _⟩ := info_parts info5
          obtain ⟨A19, hcut19, hA19, hC19⟩ := print_mid_of (P := Tryd.prog) (Value.int .u8) 0 42 5 .i64 .i64 Tryd.underlying42 hi019 hsz19 (some ad806) c0 l0 (ji11) (wrap64 ((ji11) + (wrap64 (rd l0 a1)))) (of_decide_eq_true z4_) z94_ (of_decide_eq_true z4_) HC0.out
          have HR807 := Aside0.mk (Kd.C_of_reads (h1 := fun _ => rfl) (hA19 _ (Kd.reads_of_C HR0.out)))
          have HC807 := Aside0.mk hC19
          clear hA19 hC19 hi019 hsz19
          have hcv20 := Kd.C_string (P := Tryd.prog) (A := A19) (c := (c0 - (ji11).toNat)) Tryd.underlying42 Tryd.underlying5 Tryd.underlying9 HR807.out
          have hcv20n := fun (m_ : Nat) => Kd.C_string (P := Tryd.prog) (A := A19) (c := (c0 - (ji11).toNat)) Tryd.underlying42 Tryd.underlying5 Tryd.underlying9 (Kd.C_drewN HR807.out m_)
          have hcv20b := hcv20
          (try simp only [List.length_drop, List.length_take] at hcv20b)
          (try rw [Nat.min_eq_left (by omega)] at hcv20b)
          have hcv20c := hcv20b
          (try simp only [Int.reduceToNat] at hcv20c)
          have hcv20d := hcv20
          (try simp only [Int.reduceToNat] at hcv20d)
          have hcv20nb := hcv20n
          (try simp only [List.length_drop, List.length_take] at hcv20nb)
          (try rw [Nat.min_eq_left (by omega)] at hcv20nb)
          have hcv20nc := hcv20nb
          (try simp only [Int.reduceToNat] at hcv20nc)
          have hcv20nd := hcv20n
          (try simp only [Int.reduceToNat] at hcv20nd)
          go_wp2_with (first | ((with_reducible refine gate_callee (f := 92) rfl ?_); refine goesL_ (some 43) rfl rfl Tryd.func92 (by kernel_rfl) rfl #[.string (strOfNums ((l0.take ((wrap64 ((ji11) + (wrap64 (rd l0 a1)))) : Int).toNat).drop ((ji11) : Int).toNat))] rfl z70_ ?_; (with_reducible refine (impl_TextOk.calls kj2 (strOfNums ((l0.take ((wrap64 ((ji11) + (wrap64 (rd l0 a1)))) : Int).toNat).drop ((ji11) : Int).toNat)) false _ A15.out).mono ?_); rintro e w' ⟨rfl, ⟨nd, rfl⟩⟩; refine ⟨_, rfl, ?_⟩))
          go_ret3
          exact ⟨by first | rfl | (simp; done) | (simp only [← hji11] <;> (first | rfl | simp)) | (simp [*]; done), by repeat (first | exact Drawn0.refl _ | apply Drawn0.step)⟩
        ·rw [if_neg c14] at H
         exact absurd H (by simp)
       ·rw [if_neg c13] at H
        exact absurd H (by simp)
      ·rw [if_neg c12] at H
       exact absurd H (by simp)
     ·rw [if_neg c10] at H
      exact absurd H (by simp)
    ·rw [if_neg c9] at H
     exact absurd H (by simp)

/-! ### bytes_Equal: function 81 -/
set_option maxHeartbeats 8000000 in
set_option maxRecDepth 100000 in
theorem bytes_Equal.calls (A0 : Option Addr) (c0 : Nat) (l0 : List Int) (A1 : Option Addr) (c1 : Nat) (l1 : List Int) (r : Bool) (w : World) (hr0 : Kd.C (Kd.int .u8) w A0 l0.length l0) (hc0 : l0.length ≤ c0) (hr1 : Kd.C (Kd.int .u8) w A1 l1.length l1) (hc1 : l1.length ≤ c1) (h : bytes_Equal.f l0 l1 = some r) :
  Calls Tryd.prog 81 #[.slice A0 l0.length c0, .slice A1 l1.length c1] w fun e w' => e = .returned (.bool r) ∧ Drawn0 w w' := by
 have HR0 := Aside0.mk hr0
 have HC0 := Aside0.mk hc0
 clear hr0 hc0
 have HR1 := Aside0.mk hr1
 have HC1 := Aside0.mk hc1
 clear hr1 hc1
 have H : (some ((strOfNums l0).toList == (strOfNums l1).toList)) = some r := h
 clear h
 obtain rfl := Option.some.inj H
 have hcv3 := Kd.C_string (P := Tryd.prog) (A := A0) (c := c0) Tryd.underlying42 Tryd.underlying5 Tryd.underlying9 HR0.out
 have hcv3n := fun (m_ : Nat) => Kd.C_string (P := Tryd.prog) (A := A0) (c := c0) Tryd.underlying42 Tryd.underlying5 Tryd.underlying9 (Kd.C_drewN HR0.out m_)
 have hcv3b := hcv3
 (try simp only [List.length_drop, List.length_take] at hcv3b)
 (try rw [Nat.min_eq_left (by omega)] at hcv3b)
 have hcv3c := hcv3b
 (try simp only [Int.reduceToNat] at hcv3c)
 have hcv3d := hcv3
 (try simp only [Int.reduceToNat] at hcv3d)
 have hcv3nb := hcv3n
 (try simp only [List.length_drop, List.length_take] at hcv3nb)
 (try rw [Nat.min_eq_left (by omega)] at hcv3nb)
 have hcv3nc := hcv3nb
 (try simp only [Int.reduceToNat] at hcv3nc)
 have hcv3nd := hcv3n
 (try simp only [Int.reduceToNat] at hcv3nd)
 have hcv4 := Kd.C_string (P := Tryd.prog) (A := A1) (c := c1) Tryd.underlying42 Tryd.underlying5 Tryd.underlying9 HR1.out
 have hcv4n := fun (m_ : Nat) => Kd.C_string (P := Tryd.prog) (A := A1) (c := c1) Tryd.underlying42 Tryd.underlying5 Tryd.underlying9 (Kd.C_drewN HR1.out m_)
 have hcv4b := hcv4
 (try simp only [List.length_drop, List.length_take] at hcv4b)
 (try rw [Nat.min_eq_left (by omega)] at hcv4b)
 have hcv4c := hcv4b
 (try simp only [Int.reduceToNat] at hcv4c)
 have hcv4d := hcv4
 (try simp only [Int.reduceToNat] at hcv4d)
 have hcv4nb := hcv4n
 (try simp only [List.length_drop, List.length_take] at hcv4nb)
 (try rw [Nat.min_eq_left (by omega)] at hcv4nb)
 have hcv4nc := hcv4nb
 (try simp only [Int.reduceToNat] at hcv4nc)
 have hcv4nd := hcv4n
 (try simp only [Int.reduceToNat] at hcv4nd)
 go_enter Tryd.func81, Tryd.ntmps81
 go_wp2
 go_ret
 exact ⟨by first | rfl | (simp; done) | (simp [*]; done), by repeat (first | exact Drawn0.refl _ | apply Drawn0.step)⟩

/-! ### impl_GetRec: function 38 -/
def impl_GetRec.T7 : Bool × List (List Nat × List Nat) := (true, [([], []), ([0], [0]), ([1], [1]), ([2], [2]), ([], []), ([], []), ([5], [5]), ([6], [6]), ([7], [7]), ([], []), ([3, 4, 8, 9], [3, 4, 8, 9]), ([], []), ([11, 10, 0, 1, 2, 3, 4, 5, 6, 7, 8, 9, 10, 11], [10, 11])])
def impl_GetRec.B7 : List Nat := [0, 1, 3, 7, 0, 0, 32, 96, 224, 0, 1023, 0, 4095]
theorem impl_GetRec.tab7 : rtab .any (opsOf Tryd.f38 7) = impl_GetRec.T7 := by kernel_rfl
theorem impl_GetRec.bits7 : waitsOk impl_GetRec.T7.2 impl_GetRec.B7 = true := by kernel_rfl
set_option maxHeartbeats 8000000 in
set_option maxRecDepth 100000 in
theorem impl_GetRec.calls (k : Nat) (A0 : Option Addr) (c0 : Nat) (l0 : List Int) (r1 : Int) (r2 : Int) (r3 : Int) (r4 : Int) (r5 : Int) (r6 : ByteArray) (r7 : Bool) (w : World) (hgw : GW w) (hr0 : Kd.C (Kd.int .u8) w A0 l0.length l0) (hc0 : l0.length ≤ c0) (h : impl_GetRec.f k l0 = some (r1, r2, r3, r4, r5, r6, r7)) :
  Calls Tryd.prog 38 #[.slice A0 l0.length c0] w fun e w' => e = .returned (.tuple #[.int .i64 r1, .int .i64 r2, .agg #[.int .i64 r3, .int .i64 r4, .int .i64 r5, .string r6], .bool r7]) ∧ Below w.heap.size w w' := by
 have HGW := Aside0.mk hgw
 clear hgw
 have hu38 := Tryd.underlying38
 have HR0 := Aside0.mk hr0
 have HC0 := Aside0.mk hc0
 clear hr0 hc0
 have HB := Aside0.mk (Below.refl w.heap.size w)
 have H : (if (l0.length : Int) < 9 then (some (0, 0, 0, 0, 0, (⟨#[]⟩ : ByteArray), false)) else ((impl_GetWord.f l0 0).bind fun bt810 => ((impl_GetWord.f l0 2).bind fun bt813 => ((impl_GetWord.f l0 5).bind fun bt816 => ((impl_GetText.f k l0 8).bind fun bt819 => (if 4 < (l0.length : Int) then (if 7 < (l0.length : Int) then ((impl_PutRec.f k bt810.1 bt813.1 (wrap64 (rd l0 4)) bt816.1 (wrap64 (rd l0 7)) bt819.1).bind fun t825 => ((bytes_Equal.f t825 l0).bind fun t828 => (if t828 = true then (some (bt810.1, bt813.1, wrap64 (rd l0 4), bt816.1, wrap64 (rd l0 7), bt819.1, true)) else (some (0, 0, 0, 0, 0, (⟨#[]⟩ : ByteArray), false))))) else (none)) else (none))))))) = some (r1, r2, r3, r4, r5, r6, r7) := h
 clear h
 by_cases c2 : (l0.length : Int) < 9
 ·rw [if_pos c2] at H
  have c2b0 : decide ((l0.length : Int) < 9) = true := decide_eq_true c2
  have c2b1 : decide (l0.length < 9) = true := decide_eq_true (by omega)
  clear c2
  simp only [Option.some.injEq, Prod.mk.injEq] at H
  obtain ⟨rfl, rfl, rfl, rfl, rfl, rfl, rfl⟩ := H
  go_enter Tryd.func38, Tryd.ntmps38
  go_wp2_with (first | ((with_reducible refine gate_dst (N := 4) rfl ?_); refine box_event ?hg (N := 4) ?hd (cs := #[.int .i64 0, .int .i64 0, .int .i64 0, .string (⟨#[]⟩ : ByteArray)]) (t := 38) ?hr ?_; (case hd => rfl); (case hg => rfl); (case hr => first | (go_simp; done) | (go_simp; rfl)); intro gb809 hg w3 hbox hb; have n0_ := Aside0.mk (below_step z0_ hb); have n1_ := Aside0.mk (hbox); have n2_ := Aside0.mk ((by rw [hg]; exact (below_size z0_) : w.heap.size ≤ gb809)); have n3_ := Aside0.mk ((by rw [hg]; exact (below_size z0_) : w.heap.size ≤ gb809)); clear HB; have HB := n0_; have BK809 := n1_; have GW809 := n2_; have GE809 := n3_; clear n0_ n1_ n2_ n3_; clear hb hbox hg; have hcz4_0 : w3.cell? ⟨gb809, 0, none⟩ = some (.int .i64 0) := (blk_cell BK809.out 0).trans rfl; have hcz4_1 : w3.cell? ⟨gb809, 1, none⟩ = some (.int .i64 0) := (blk_cell BK809.out 1).trans rfl; have hcz4_2 : w3.cell? ⟨gb809, 2, none⟩ = some (.int .i64 0) := (blk_cell BK809.out 2).trans rfl; have hcz4_3 : w3.cell? ⟨gb809, 3, none⟩ = some (.string (⟨#[]⟩ : ByteArray)) := (blk_cell BK809.out 3).trans rfl; have hfz4_0 := blk_frozen BK809.out 0; have hfz4_1 := blk_frozen BK809.out 1; have hfz4_2 := blk_frozen BK809.out 2; have hfz4_3 := blk_frozen BK809.out 3))
  refine bodyPost_ret (results_list (rs := [.tmp 2, .tmp 3, .cell 4 38, .tmp 5]) rfl (by simp) (.tmp (.tmp (.cell gb809 38 #[.int .i64 0, .int .i64 0, .int .i64 0, .string (⟨#[]⟩ : ByteArray)] (0, 0) _ rfl z30_ Tryd.underlying38 rfl (by kernel_rfl) (.tmp .nil))))) rfl ?_
  exact ⟨by first | rfl | (simp [errW_none, errW_some] <;> rfl) | (simp [*, errW_none, errW_some] <;> rfl), by repeat (first | (with_reducible first | exact HB.out | apply below_alloc | apply pw_below_drewN | apply below_drew1 | refine below_set ?_ GE809.out) | exact HB.out)⟩
 ·rw [if_neg c2] at H
  have c2b0 : decide ((l0.length : Int) < 9) = false := decide_eq_false c2
  have c2b1 : decide (l0.length < 9) = false := decide_eq_false (by omega)
  clear c2
  replace H := Option.bind_eq_some_iff.mp H
  obtain ⟨⟨t810, t811, t812⟩, A50, H⟩ := H
  replace H : ((impl_GetWord.f l0 2).bind fun bt813 => ((impl_GetWord.f l0 5).bind fun bt816 => ((impl_GetText.f k l0 8).bind fun bt819 => (if 4 < (l0.length : Int) then (if 7 < (l0.length : Int) then ((impl_PutRec.f k t810 bt813.1 (wrap64 (rd l0 4)) bt816.1 (wrap64 (rd l0 7)) bt819.1).bind fun t825 => ((bytes_Equal.f t825 l0).bind fun t828 => (if t828 = true then (some (t810, bt813.1, wrap64 (rd l0 4), bt816.1, wrap64 (rd l0 7), bt819.1, true)) else (some (0, 0, 0, 0, 0, (⟨#[]⟩ : ByteArray), false))))) else (none)) else (none))))) = some (r1, r2, r3, r4, r5, r6, r7) := H
  have A5 := Aside0.mk A50
  clear A50
  replace H := Option.bind_eq_some_iff.mp H
  obtain ⟨⟨t813, t814, t815⟩, A60, H⟩ := H
  replace H : ((impl_GetWord.f l0 5).bind fun bt816 => ((impl_GetText.f k l0 8).bind fun bt819 => (if 4 < (l0.length : Int) then (if 7 < (l0.length : Int) then ((impl_PutRec.f k t810 t813 (wrap64 (rd l0 4)) bt816.1 (wrap64 (rd l0 7)) bt819.1).bind fun t825 => ((bytes_Equal.f t825 l0).bind fun t828 => (if t828 = true then (some (t810, t813, wrap64 (rd l0 4), bt816.1, wrap64 (rd l0 7), bt819.1, true)) else (some (0, 0, 0, 0, 0, (⟨#[]⟩ : ByteArray), false))))) else (none)) else (none)))) = some (r1, r2, r3, r4, r5, r6, r7) := H
  have A6 := Aside0.mk A60
  clear A60
  replace H := Option.bind_eq_some_iff.mp H
  obtain ⟨⟨t816, t817, t818⟩, A70, H⟩ := H
  replace H : ((impl_GetText.f k l0 8).bind fun bt819 => (if 4 < (l0.length : Int) then (if 7 < (l0.length : Int) then ((impl_PutRec.f k t810 t813 (wrap64 (rd l0 4)) t816 (wrap64 (rd l0 7)) bt819.1).bind fun t825 => ((bytes_Equal.f t825 l0).bind fun t828 => (if t828 = true then (some (t810, t813, wrap64 (rd l0 4), t816, wrap64 (rd l0 7), bt819.1, true)) else (some (0, 0, 0, 0, 0, (⟨#[]⟩ : ByteArray), false))))) else (none)) else (none))) = some (r1, r2, r3, r4, r5, r6, r7) := H
  have A7 := Aside0.mk A70
  clear A70
  replace H := Option.bind_eq_some_iff.mp H
  obtain ⟨⟨t819, t820, t821⟩, A80, H⟩ := H
  replace H : (if 4 < (l0.length : Int) then (if 7 < (l0.length : Int) then ((impl_PutRec.f k t810 t813 (wrap64 (rd l0 4)) t816 (wrap64 (rd l0 7)) t819).bind fun t825 => ((bytes_Equal.f t825 l0).bind fun t828 => (if t828 = true then (some (t810, t813, wrap64 (rd l0 4), t816, wrap64 (rd l0 7), t819, true)) else (some (0, 0, 0, 0, 0, (⟨#[]⟩ : ByteArray), false))))) else (none)) else (none)) = some (r1, r2, r3, r4, r5, r6, r7) := H
  have A8 := Aside0.mk A80
  clear A80
  by_cases c9 : 4 < (l0.length : Int)
  ·rw [if_pos c9] at H
   have c9b0 : decide (4 < (l0.length : Int)) = true := decide_eq_true c9
   have c9b1 : decide (4 < l0.length) = true := decide_eq_true (by omega)
   clear c9
   by_cases c10 : 7 < (l0.length : Int)
   ·rw [if_pos c10] at H
    have c10b0 : decide (7 < (l0.length : Int)) = true := decide_eq_true c10
    have c10b1 : decide (7 < l0.length) = true := decide_eq_true (by omega)
    clear c10
    replace H := Option.bind_eq_some_iff.mp H
    obtain ⟨t825, A110, H⟩ := H
    replace H : ((bytes_Equal.f t825 l0).bind fun t828 => (if t828 = true then (some (t810, t813, wrap64 (rd l0 4), t816, wrap64 (rd l0 7), t819, true)) else (some (0, 0, 0, 0, 0, (⟨#[]⟩ : ByteArray), false)))) = some (r1, r2, r3, r4, r5, r6, r7) := H
    have A11 := Aside0.mk A110
    clear A110
    replace H := Option.bind_eq_some_iff.mp H
    obtain ⟨t828, A120, H⟩ := H
    replace H : (if t828 = true then (some (t810, t813, wrap64 (rd l0 4), t816, wrap64 (rd l0 7), t819, true)) else (some (0, 0, 0, 0, 0, (⟨#[]⟩ : ByteArray), false))) = some (r1, r2, r3, r4, r5, r6, r7) := H
    have A12 := Aside0.mk A120
    clear A120
    by_cases c13 : t828 = true
    ·subst c13
     have H1 : (some (t810, t813, wrap64 (rd l0 4), t816, wrap64 (rd l0 7), t819, true)) = some (r1, r2, r3, r4, r5, r6, r7) := by rw [if_pos rfl] at H; exact H
     clear H
     have H := H1
     clear H1
     simp only [Option.some.injEq, Prod.mk.injEq] at H
     obtain ⟨rfl, rfl, rfl, rfl, rfl, rfl, rfl⟩ := H
     go_enter Tryd.func38, Tryd.ntmps38
     try go_wp2_with (first | ((with_reducible refine gate_dst (N := 4) rfl ?_); refine box_event ?hg (N := 4) ?hd (cs := #[.int .i64 0, .int .i64 0, .int .i64 0, .string (⟨#[]⟩ : ByteArray)]) (t := 38) ?hr ?_; (case hd => rfl); (case hg => rfl); (case hr => first | (go_simp; done) | (go_simp; rfl)); intro gb809 hg w14 hbox hb; have n0_ := Aside0.mk (below_step z0_ hb); have n1_ := Aside0.mk (hbox); have n2_ := Aside0.mk ((by rw [hg]; exact (below_size z0_) : w.heap.size ≤ gb809)); have n3_ := Aside0.mk ((by rw [hg]; exact (below_size z0_) : w.heap.size ≤ gb809)); clear HB; have HB := n0_; have BK809 := n1_; have GW809 := n2_; have GE809 := n3_; clear n0_ n1_ n2_ n3_; clear hb hbox hg) | ((with_reducible refine gate_callee (f := 79) rfl ?_); refine goesL_ (some 25) rfl rfl Tryd.func79 (by kernel_rfl) rfl #[.slice A0 l0.length c0, .int .i64 0] rfl z1_ ?_; (with_reducible refine (impl_GetWord.calls _ _ l0 0 t810 t811 t812 _ ?side1 ?side2 A5.out).mono ?_); (case side1 => repeat (first | exact (Kd.C_below HR0.out HB.out) | (with_reducible refine Kd.C_alloc ?_ _) | (with_reducible refine Kd.C_drewN ?_ _) | (with_reducible refine Kd.C_drew ?_))); (case side2 => exact HC0.out); rintro e w' ⟨rfl, ⟨nd, rfl⟩⟩; refine ⟨_, rfl, ?_⟩; (try (rw [drewN_self w14]; generalize hq_ : World.drewN w14 _ = w14; have n0_ : Aside0 (w14.heap[gb809]? = some (.cells #[.int .i64 0, .int .i64 0, .int .i64 0, .string (⟨#[]⟩ : ByteArray)] 38 (0, 0))) := ⟨by rw [← hq_]; exact z31_⟩; have n1_ : Aside0 (Below w.heap.size w w14) := ⟨by rw [← hq_]; exact z24_⟩; clear BK809 HB hq_; have BK809 := n0_; have HB := n1_; clear n0_ n1_))) | ((with_reducible refine gate_callee (f := 79) rfl ?_); refine goesL_ (some 31) rfl rfl Tryd.func79 (by kernel_rfl) rfl #[.slice A0 l0.length c0, .int .i64 2] rfl z1_ ?_; (with_reducible refine (impl_GetWord.calls _ _ l0 2 t813 t814 t815 _ ?side1 ?side2 A6.out).mono ?_); (case side1 => repeat (first | exact (Kd.C_below HR0.out HB.out) | (with_reducible refine Kd.C_alloc ?_ _) | (with_reducible refine Kd.C_drewN ?_ _) | (with_reducible refine Kd.C_drew ?_))); (case side2 => exact HC0.out); rintro e w' ⟨rfl, ⟨nd, rfl⟩⟩; refine ⟨_, rfl, ?_⟩; (try (rw [drewN_self w14]; generalize hq_ : World.drewN w14 _ = w14; have n0_ : Aside0 (w14.heap[gb809]? = some (.cells #[.int .i64 0, .int .i64 0, .int .i64 0, .string (⟨#[]⟩ : ByteArray)] 38 (0, 0))) := ⟨by rw [← hq_]; exact z31_⟩; have n1_ : Aside0 (Below w.heap.size w w14) := ⟨by rw [← hq_]; exact z24_⟩; clear BK809 HB hq_; have BK809 := n0_; have HB := n1_; clear n0_ n1_))) | ((with_reducible refine gate_callee (f := 79) rfl ?_); refine goesL_ (some 37) rfl rfl Tryd.func79 (by kernel_rfl) rfl #[.slice A0 l0.length c0, .int .i64 5] rfl z1_ ?_; (with_reducible refine (impl_GetWord.calls _ _ l0 5 t816 t817 t818 _ ?side1 ?side2 A7.out).mono ?_); (case side1 => repeat (first | exact (Kd.C_below HR0.out HB.out) | (with_reducible refine Kd.C_alloc ?_ _) | (with_reducible refine Kd.C_drewN ?_ _) | (with_reducible refine Kd.C_drew ?_))); (case side2 => exact HC0.out); rintro e w' ⟨rfl, ⟨nd, rfl⟩⟩; refine ⟨_, rfl, ?_⟩; (try (rw [drewN_self w14]; generalize hq_ : World.drewN w14 _ = w14; have n0_ : Aside0 (w14.heap[gb809]? = some (.cells #[.int .i64 0, .int .i64 0, .int .i64 0, .string (⟨#[]⟩ : ByteArray)] 38 (0, 0))) := ⟨by rw [← hq_]; exact z31_⟩; have n1_ : Aside0 (Below w.heap.size w w14) := ⟨by rw [← hq_]; exact z24_⟩; clear BK809 HB hq_; have BK809 := n0_; have HB := n1_; clear n0_ n1_))) | ((with_reducible refine gate_callee (f := 80) rfl ?_); refine goesL_ (some 43) rfl rfl Tryd.func80 (by kernel_rfl) rfl #[.slice A0 l0.length c0, .int .i64 8] rfl z1_ ?_; (with_reducible refine (impl_GetText.calls k _ _ l0 8 t819 t820 t821 _ ?side1 ?side2 A8.out).mono ?_); (case side1 => repeat (first | exact (Kd.C_below HR0.out HB.out) | (with_reducible refine Kd.C_alloc ?_ _) | (with_reducible refine Kd.C_drewN ?_ _) | (with_reducible refine Kd.C_drew ?_))); (case side2 => exact HC0.out); rintro e w' ⟨rfl, ⟨nd, rfl⟩⟩; refine ⟨_, rfl, ?_⟩; (try (rw [drewN_self w14]; generalize hq_ : World.drewN w14 _ = w14; have n0_ : Aside0 (w14.heap[gb809]? = some (.cells #[.int .i64 0, .int .i64 0, .int .i64 0, .string (⟨#[]⟩ : ByteArray)] 38 (0, 0))) := ⟨by rw [← hq_]; exact z31_⟩; have n1_ : Aside0 (Below w.heap.size w w14) := ⟨by rw [← hq_]; exact z24_⟩; clear BK809 HB hq_; have BK809 := n0_; have HB := n1_; clear n0_ n1_))))
     have n0_ := Aside0.mk (blk_drew BK809.out)
     have n1_ := Aside0.mk (below_drew1 HB.out)
     clear BK809
     clear HB
     have BK809 := n0_
     have HB := n1_
     clear n0_ n1_
     have p822 : 0 ≤ (4 : Int) := (by omega)
     have q822 : 4 < (l0.length : Int) := of_decide_eq_true z4_
     obtain ⟨ad822, e822, hx822_0⟩ := Kd.at_int HR0.out 4 p822 q822
     have hw822_0 := hx822_0
     (try rw [show ((4 : Int)).toNat = 4 from rfl] at hw822_0)
     (try rw [show 4 * 1 = 4 from rfl] at hw822_0)
     (try simp only [Nat.reduceMul, Nat.reduceEqDiff, Go.Addr.add, ↓reduceIte] at hw822_0)
     cases e822
     (try simp only [show (4 : Int).toNat = 4 from rfl, Nat.reduceMul, Nat.reduceEqDiff, Go.Addr.add, ↓reduceIte] at hx822_0)
     have qi822 : (4 < l0.length) = True := eq_true (by omega)
     (try rw [show ((4 : Int)).toNat = 4 from rfl] at hx822_0)
     replace hx822_0 := (HB.out.cell (World.block_lt_of_cell? w _ hx822_0)).trans hx822_0
     replace p822 := eq_true p822
     replace q822 := eq_true q822
     have p823 : 0 ≤ (7 : Int) := (by omega)
     have q823 : 7 < (l0.length : Int) := of_decide_eq_true z4_
     obtain ⟨ad823, e823, hx823_0⟩ := Kd.at_int HR0.out 7 p823 q823
     have hw823_0 := hx823_0
     (try rw [show ((7 : Int)).toNat = 7 from rfl] at hw823_0)
     (try rw [show 7 * 1 = 7 from rfl] at hw823_0)
     (try simp only [Nat.reduceMul, Nat.reduceEqDiff, Go.Addr.add, ↓reduceIte] at hw823_0)
     obtain rfl : ad822 = ad823 := (by injection e823)
     (try simp only [show (7 : Int).toNat = 7 from rfl, Nat.reduceMul, Nat.reduceEqDiff, Go.Addr.add, ↓reduceIte] at hx823_0)
     have qi823 : (7 < l0.length) = True := eq_true (by omega)
     (try rw [show ((7 : Int)).toNat = 7 from rfl] at hx823_0)
     replace hx823_0 := (HB.out.cell (World.block_lt_of_cell? w _ hx823_0)).trans hx823_0
     replace p823 := eq_true p823
     replace q823 := eq_true q823
     refine start_ (n := 13) (S := fun w' => w'.cell? ⟨ad822.block, ad822.off + 4, none⟩ = some (.int .u8 (rd l0 4)) ∧ w'.cell? ⟨ad822.block, ad822.off + 7, none⟩ = some (.int .u8 (rd l0 7))) (ds := []) #[false, false, false, false, false, false, false, false, false, false, false, false, false] (by kernel_rfl) rfl rfl ⟨((HB.out.cell (World.block_lt_of_cell? w _ hw822_0)).trans hw822_0), ((HB.out.cell (World.block_lt_of_cell? w _ hw823_0)).trans hw823_0)⟩ (fun hHeld => ?_); refine with_tabW impl_GetRec.tab7 impl_GetRec.bits7 (fun HT_ HW_ => ?_)
     generalize w14.drew = w15 at BK809 HB hx822_0 hx823_0 hHeld ⊢
     refine pure_ (i := 0) (N := some 47) (v := ?_) (a' := ?_) #[true, false, false, false, false, false, false, false, false, false, false, false, false] rfl rfl (any_of HT_.out (by kernel_rfl)) (fun _ _ _ h => h) (Or.inl ⟨by rfl, ?_⟩) ?_ ?_
     rotate_left
     ·intro w'
      go_simp
      with_reducible rfl
     rotate_left
     ·simp only [Act.put, List.setIfInBounds_toArray, List.set_cons_zero, List.set_cons_succ, i64_w, i32_w]
      rfl
     refine pure_ (i := 1) (N := some 48) (v := ?_) (a' := ?_) #[true, true, false, false, false, false, false, false, false, false, false, false, false] rfl rfl (any_of HT_.out (by kernel_rfl)) (fun _ _ _ h => h) (Or.inl ⟨by rfl, ?_⟩) ?_ ?_
     rotate_left
     ·intro w'
      go_simp
      with_reducible rfl
     rotate_left
     ·simp only [Act.put, List.setIfInBounds_toArray, List.set_cons_zero, List.set_cons_succ, i64_w, i32_w]
      rfl
     refine pure_ (i := 4) (N := some 51) (v := ?_) (a' := ?_) #[true, true, false, false, true, false, false, false, false, false, false, false, false] rfl rfl (any_of HT_.out (by kernel_rfl)) (fun _ _ _ h => h) (Or.inl ⟨by rfl, ?_⟩) ?_ ?_
     rotate_left
     ·intro w'
      go_simp
      with_reducible rfl
     rotate_left
     ·simp only [Act.put, List.setIfInBounds_toArray, List.set_cons_zero, List.set_cons_succ, i64_w, i32_w]
      rfl
     refine pure_ (i := 5) (N := some 52) (v := ?_) (a' := ?_) #[true, true, false, false, true, true, false, false, false, false, false, false, false] rfl rfl (any_of HT_.out (by kernel_rfl)) (fun _ _ _ h => h) (Or.inl ⟨by rfl, ?_⟩) ?_ ?_
     rotate_left
     ·intro w'
      go_simp
      with_reducible rfl
     rotate_left
     ·simp only [Act.put, List.setIfInBounds_toArray, List.set_cons_zero, List.set_cons_succ, i64_w, i32_w]
      rfl
     refine pure_ (i := 6) (N := some 53) (v := ?_) (a' := ?_) #[true, true, false, false, true, true, true, false, false, false, false, false, false] rfl rfl (any_of HT_.out (by kernel_rfl)) (fun _ _ _ h => h) (Or.inl ⟨by rfl, ?_⟩) ?_ ?_
     rotate_left
     ·intro w'
      go_simp
      with_reducible rfl
     rotate_left
     ·simp only [Act.put, List.setIfInBounds_toArray, List.set_cons_zero, List.set_cons_succ, i64_w, i32_w]
      rfl
     refine pure_ (i := 9) (N := some 56) (v := ?_) (a' := ?_) #[true, true, false, false, true, true, true, false, false, true, false, false, false] rfl rfl (any_of HT_.out (by kernel_rfl)) (fun _ _ _ h => h) (Or.inl ⟨by rfl, ?_⟩) ?_ ?_
     rotate_left
     ·intro w'
      go_simp
      with_reducible rfl
     rotate_left
     ·simp only [Act.put, List.setIfInBounds_toArray, List.set_cons_zero, List.set_cons_succ, i64_w, i32_w]
      rfl
     refine take_ (i := 2) (N := some 49) (v := ?_) (a' := ?_) #[true, true, true, false, true, true, true, false, false, true, false, false, false] rfl rfl (take_ofW HT_.out HW_.out (by kernel_rfl)) (fun _ _ _ h => h) (Or.inl ⟨by rfl, ?_⟩) hHeld ?_ ?_
     rotate_left
     ·rintro w' ⟨s0, s1⟩
      go_simp
      with_reducible rfl
     rotate_left
     ·simp only [Act.put, List.setIfInBounds_toArray, List.set_cons_zero, List.set_cons_succ, i64_w, i32_w]
      rfl
     refine pure_ (i := 3) (N := some 50) (v := ?_) (a' := ?_) #[true, true, true, true, true, true, true, false, false, true, false, false, false] rfl rfl (any_of HT_.out (by kernel_rfl)) (fun _ _ _ h => h) (Or.inl ⟨by rfl, ?_⟩) ?_ ?_
     rotate_left
     ·intro w'
      go_simp
      with_reducible rfl
     rotate_left
     ·simp only [Act.put, List.setIfInBounds_toArray, List.set_cons_zero, List.set_cons_succ, i64_w, i32_w]
      rfl
     refine take_ (i := 7) (N := some 54) (v := ?_) (a' := ?_) #[true, true, true, true, true, true, true, true, false, true, false, false, false] rfl rfl (take_ofW HT_.out HW_.out (by kernel_rfl)) (fun _ _ _ h => h) (Or.inl ⟨by rfl, ?_⟩) hHeld ?_ ?_
     rotate_left
     ·rintro w' ⟨s0, s1⟩
      go_simp
      with_reducible rfl
     rotate_left
     ·simp only [Act.put, List.setIfInBounds_toArray, List.set_cons_zero, List.set_cons_succ, i64_w, i32_w]
      rfl
     refine pure_ (i := 8) (N := some 55) (v := ?_) (a' := ?_) #[true, true, true, true, true, true, true, true, true, true, false, false, false] rfl rfl (any_of HT_.out (by kernel_rfl)) (fun _ _ _ h => h) (Or.inl ⟨by rfl, ?_⟩) ?_ ?_
     rotate_left
     ·intro w'
      go_simp
      with_reducible rfl
     rotate_left
     ·simp only [Act.put, List.setIfInBounds_toArray, List.set_cons_zero, List.set_cons_succ, i64_w, i32_w]
      rfl
     refine pure_ (i := 10) (N := some 57) (v := ?_) (a' := ?_) #[true, true, true, true, true, true, true, true, true, true, true, false, false] rfl rfl (any_of HT_.out (by kernel_rfl)) (fun _ _ _ h => h) (Or.inl ⟨by rfl, ?_⟩) ?_ ?_
     rotate_left
     ·intro w'
      go_simp
      with_reducible rfl
     rotate_left
     ·simp only [Act.put, List.setIfInBounds_toArray, List.set_cons_zero, List.set_cons_succ, i64_w, i32_w]
      rfl
     refine one_ (i := 11) (N := some 18) #[true, true, true, true, true, true, true, true, true, true, true, true, false] rfl rfl (one_of HT_.out (by kernel_rfl)) (by decide) (fun K hK => ?_)
     refine box_step ?hg (N := 18) ?hd (cs := #[.int .i64 0, .int .i64 0, .int .i64 0, .string (⟨#[]⟩ : ByteArray)]) (t := 38) ?hr ?_; (case hd => rfl); (case hg => rfl); (case hr => first | (go_simp; done) | (go_simp; rfl))
     intro gb824 hg w16 hbox hb
     have n0_ := Aside0.mk (blk_below (g := gb809) (o := .cells #[.int .i64 0, .int .i64 0, .int .i64 0, .string (⟨#[]⟩ : ByteArray)] 38 (0, 0)) z31_ hb)
     have n1_ := Aside0.mk (below_step z24_ hb)
     have n2_ := Aside0.mk (hbox)
     have n3_ := Aside0.mk ((by rw [hg]; exact (below_size z24_) : w.heap.size ≤ gb824))
     have n4_ := Aside0.mk ((by rw [hg]; exact (below_size z24_) : w.heap.size ≤ gb824))
     have n5_ := Aside0.mk ((by rw [hg]; exact Nat.ne_of_lt (blk_lt (g := gb809) (o := .cells #[.int .i64 0, .int .i64 0, .int .i64 0, .string (⟨#[]⟩ : ByteArray)] 38 (0, 0)) z31_) : gb809 ≠ gb824))
     have n6_ := Aside0.mk ((by rw [hg]; exact Nat.ne_of_gt (blk_lt (g := gb809) (o := .cells #[.int .i64 0, .int .i64 0, .int .i64 0, .string (⟨#[]⟩ : ByteArray)] 38 (0, 0)) z31_) : gb824 ≠ gb809))
     clear BK809
     clear HB
     have BK809 := n0_
     have HB := n1_
     have BK824 := n2_
     have GW824 := n3_
     have GE824 := n4_
     have NB809_824 := n5_
     have NB824_809 := n6_
     clear n0_ n1_ n2_ n3_ n4_ n5_ n6_
     clear hb hbox hg
     refine hK.out _ _ ⟨((HB.out.cell (World.block_lt_of_cell? w _ hw822_0)).trans hw822_0), ((HB.out.cell (World.block_lt_of_cell? w _ hw823_0)).trans hw823_0)⟩ (fun hHeld => ?_)
     clear hK K
     refine norm_ (a' := ?_) ?_ ?_
     rotate_left
     ·show Act.put _ (some 18) _ = _
      simp only [Act.put, List.setIfInBounds_toArray, List.set_cons_zero, List.set_cons_succ, i64_w, i32_w]
      rfl
     refine one_ (i := 12) (N := none) #[true, true, true, true, true, true, true, true, true, true, true, true, true] rfl rfl (one_of HT_.out (by kernel_rfl)) (by decide) (fun K hK => ?_)
     have hs17 : w16.cell? ⟨gb824, 0, none⟩ = some (.int .i64 0) := (blk_cell BK824.out 0).trans rfl
     have hfs17 := blk_frozen BK824.out 0
     have hns17_0 := NB809_824.out
     have hms17_0 := NB824_809.out
     have hs18 : w16.cell? ⟨gb824, 1, none⟩ = some (.int .i64 0) := (blk_cell BK824.out 1).trans rfl
     have hfs18 := blk_frozen BK824.out 1
     have hns18_0 := NB809_824.out
     have hms18_0 := NB824_809.out
     have hs19 : w16.cell? ⟨gb824, 2, none⟩ = some (.int .i64 0) := (blk_cell BK824.out 2).trans rfl
     have hfs19 := blk_frozen BK824.out 2
     have hns19_0 := NB809_824.out
     have hms19_0 := NB824_809.out
     have hs20 : w16.cell? ⟨gb824, 3, none⟩ = some (.string (⟨#[]⟩ : ByteArray)) := (blk_cell BK824.out 3).trans rfl
     have hfs20 := blk_frozen BK824.out 3
     have hns20_0 := NB809_824.out
     have hms20_0 := NB824_809.out
     refine skip_ (w1 := ?_) (by rfl) rfl ?_ ?_
     rotate_left
     ·go_simp
      rfl
     refine hK.out _ _ ⟨((cell_far (p := ⟨gb824, _, none⟩) z8_ _).trans (((cell_far (p := ⟨gb824, _, none⟩) z8_ _).trans (((cell_far (p := ⟨gb824, _, none⟩) z8_ _).trans (((cell_far (p := ⟨gb824, _, none⟩) z8_ _).trans (hHeld.1)))))))), ((cell_far (p := ⟨gb824, _, none⟩) z9_ _).trans (((cell_far (p := ⟨gb824, _, none⟩) z9_ _).trans (((cell_far (p := ⟨gb824, _, none⟩) z9_ _).trans (((cell_far (p := ⟨gb824, _, none⟩) z9_ _).trans (hHeld.2))))))))⟩ (fun hHeld => ?_)
     clear hK K
     refine done_ (done_of HT_.out (by kernel_rfl)) ?_
     have hnb21 := NB824_809.out
     have hnc21 := NB809_824.out
     have hcz22_0 : w16.cell? ⟨gb824, 0, none⟩ = some (.int .i64 0) := (blk_cell BK824.out 0).trans rfl
     have hcz22_1 : w16.cell? ⟨gb824, 1, none⟩ = some (.int .i64 0) := (blk_cell BK824.out 1).trans rfl
     have hcz22_2 : w16.cell? ⟨gb824, 2, none⟩ = some (.int .i64 0) := (blk_cell BK824.out 2).trans rfl
     have hcz22_3 : w16.cell? ⟨gb824, 3, none⟩ = some (.string (⟨#[]⟩ : ByteArray)) := (blk_cell BK824.out 3).trans rfl
     have hfz22_0 := blk_frozen BK824.out 0
     have hfz22_1 := blk_frozen BK824.out 1
     have hfz22_2 := blk_frozen BK824.out 2
     have hfz22_3 := blk_frozen BK824.out 3
     try go_wp2_with (first | ((with_reducible refine gate_callee (f := 22) rfl ?_); refine goesL_ (some 61) rfl rfl Tryd.func22 (by kernel_rfl) rfl #[.int .i64 t810, .int .i64 t813, .agg #[.int .i64 (wrap64 (rd l0 4)), .int .i64 t816, .int .i64 (wrap64 (rd l0 7)), .string t819]] rfl z1_ ?_; (with_reducible refine (impl_PutRec.calls k t810 t813 (wrap64 (rd l0 4)) t816 (wrap64 (rd l0 7)) t819 t825 _ ?side1 A11.out).mono ?_); (case side1 => exact GW.below HGW.out z35_); rintro e w23 ⟨v826, rfl, ho0, hb⟩; refine ⟨_, rfl, ?_⟩; have n0_ := Aside0.mk (Kd.R_lower ho0 (below_size z35_)); have n1_ := Aside0.mk (blk_below (g := gb809) (o := .cells #[.int .i64 0, .int .i64 0, .int .i64 0, .string (⟨#[]⟩ : ByteArray)] 38 (0, 0)) z39_ hb); have n2_ := Aside0.mk (blk_below (g := gb824) (o := .cells #[.int .i64 (wrap64 (rd l0 4)), .int .i64 t816, .int .i64 (wrap64 (rd l0 7)), .string t819] 38 (0, 0)) z26_ hb); have n3_ := Aside0.mk (below_step z35_ hb); clear BK809; clear BK824; clear HB; have HO827 := n0_; have BK809 := n1_; have BK824 := n2_; have HB := n3_; clear n0_ n1_ n2_ n3_; (try clear hb); (try clear hb2); (try clear hk); (try clear hi); (try clear ho0); obtain ⟨Ao24, co24, eo24⟩ := Kd.R_slice HO827.out; subst eo24) | ((with_reducible refine gate_callee (f := 81) rfl ?_); refine goesL_ (some 63) rfl rfl Tryd.func81 (by kernel_rfl) rfl #[.slice Ao24 t825.length co24, .slice (some ad822) l0.length c0] rfl z1_ ?_; (with_reducible refine (bytes_Equal.calls _ _ t825 _ _ l0 true _ ?side1 ?side2 ?side3 ?side4 A12.out).mono ?_); (case side1 => repeat (first | exact (Kd.R_reads' HO827.out).2.2 | (with_reducible refine Kd.C_alloc ?_ _) | (with_reducible refine Kd.C_drewN ?_ _) | (with_reducible refine Kd.C_drew ?_))); (case side2 => exact (Kd.R_reads' HO827.out).2.1); (case side3 => repeat (first | exact (Kd.C_below HR0.out HB.out) | (with_reducible refine Kd.C_alloc ?_ _) | (with_reducible refine Kd.C_drewN ?_ _) | (with_reducible refine Kd.C_drew ?_))); (case side4 => exact HC0.out); rintro e w' ⟨rfl, ⟨nd, rfl⟩⟩; refine ⟨_, rfl, ?_⟩; (try (rw [drewN_self w23]; generalize hq_ : World.drewN w23 _ = w23; have n0_ : Aside0 (Kd.R (Kd.int .u8) 5 w23 w.heap.size (fun _ => True) (.slice Ao24 t825.length co24) t825) := ⟨by rw [← hq_]; exact z92_⟩; have n1_ : Aside0 (w23.heap[gb809]? = some (.cells #[.int .i64 0, .int .i64 0, .int .i64 0, .string (⟨#[]⟩ : ByteArray)] 38 (0, 0))) := ⟨by rw [← hq_]; exact z31_⟩; have n2_ : Aside0 (w23.heap[gb824]? = some (.cells #[.int .i64 (wrap64 (rd l0 4)), .int .i64 t816, .int .i64 (wrap64 (rd l0 7)), .string t819] 38 (0, 0))) := ⟨by rw [← hq_]; exact z82_⟩; have n3_ : Aside0 (Below w.heap.size w w23) := ⟨by rw [← hq_]; exact z35_⟩; clear HO827 BK809 BK824 HB hq_; have HO827 := n0_; have BK809 := n1_; have BK824 := n2_; have HB := n3_; clear n0_ n1_ n2_ n3_))))
     have n0_ := Aside0.mk (Kd.R_drew HO827.out)
     have n1_ := Aside0.mk (blk_drew BK809.out)
     have n2_ := Aside0.mk (blk_drew BK824.out)
     have n3_ := Aside0.mk (below_drew1 HB.out)
     clear HO827
     clear BK809
     clear BK824
     clear HB
     have HO827 := n0_
     have BK809 := n1_
     have BK824 := n2_
     have HB := n3_
     clear n0_ n1_ n2_ n3_
     refine start_ (n := 7) (S := fun w' => w'.cell? ⟨gb824, 0, none⟩ = some (.int .i64 (wrap64 (rd l0 4))) ∧ w'.cell? ⟨gb824, 1, none⟩ = some (.int .i64 t816) ∧ w'.cell? ⟨gb824, 2, none⟩ = some (.int .i64 (wrap64 (rd l0 7))) ∧ w'.cell? ⟨gb824, 3, none⟩ = some (.string t819)) (ds := []) #[false, false, false, false, false, false, false] (by kernel_rfl) rfl rfl ⟨(blk_cell BK824.out 0).trans rfl, (blk_cell BK824.out 1).trans rfl, (blk_cell BK824.out 2).trans rfl, (blk_cell BK824.out 3).trans rfl⟩ (fun hHeld => ?_)
     generalize w23.drew = w25 at HO827 BK809 BK824 HB hHeld ⊢
     refine pure_ (i := 0) (N := some 66) (v := ?_) (a' := ?_) #[true, false, false, false, false, false, false] rfl rfl (by kernel_rfl) (fun _ _ _ h => h) (Or.inl ⟨by rfl, ?_⟩) ?_ ?_
     rotate_left
     ·intro w'
      go_simp
      with_reducible rfl
     rotate_left
     ·simp only [Act.put, List.setIfInBounds_toArray, List.set_cons_zero, List.set_cons_succ, i64_w, i32_w]
      rfl
     refine pure_ (i := 1) (N := some 67) (v := ?_) (a' := ?_) #[true, true, false, false, false, false, false] rfl rfl (by kernel_rfl) (fun _ _ _ h => h) (Or.inl ⟨by rfl, ?_⟩) ?_ ?_
     rotate_left
     ·intro w'
      go_simp
      with_reducible rfl
     rotate_left
     ·simp only [Act.put, List.setIfInBounds_toArray, List.set_cons_zero, List.set_cons_succ, i64_w, i32_w]
      rfl
     refine pure_ (i := 3) (N := some 2) (v := ?_) (a' := ?_) #[true, true, false, true, false, false, false] rfl rfl (by kernel_rfl) (fun _ _ _ h => h) (Or.inl ⟨by rfl, ?_⟩) ?_ ?_
     rotate_left
     ·intro w'
      go_simp
      with_reducible rfl
     rotate_left
     ·simp only [Act.put, List.setIfInBounds_toArray, List.set_cons_zero, List.set_cons_succ, i64_w, i32_w]
      rfl
     refine pure_ (i := 4) (N := some 3) (v := ?_) (a' := ?_) #[true, true, false, true, true, false, false] rfl rfl (by kernel_rfl) (fun _ _ _ h => h) (Or.inl ⟨by rfl, ?_⟩) ?_ ?_
     rotate_left
     ·intro w'
      go_simp
      with_reducible rfl
     rotate_left
     ·simp only [Act.put, List.setIfInBounds_toArray, List.set_cons_zero, List.set_cons_succ, i64_w, i32_w]
      rfl
     refine take_ (i := 2) (N := some 68) (v := ?_) (a' := ?_) #[true, true, true, true, true, false, false] rfl rfl (by kernel_rfl) (fun _ _ _ h => h) (Or.inl ⟨by rfl, ?_⟩) hHeld ?_ ?_
     rotate_left
     ·rintro w' ⟨s0, s1, s2, s3⟩
      go_simp
      with_reducible rfl
     rotate_left
     ·simp only [Act.put, List.setIfInBounds_toArray, List.set_cons_zero, List.set_cons_succ, i64_w, i32_w]
      rfl
     refine one_ (i := 5) (N := none) #[true, true, true, true, true, true, false] rfl rfl (by kernel_rfl) (by decide) (fun K hK => ?_)
     have hs26 : w25.cell? ⟨gb809, 0, none⟩ = some (.int .i64 0) := (blk_cell BK809.out 0).trans rfl
     have hfs26 := blk_frozen BK809.out 0
     have hns26_1 := NB824_809.out
     have hms26_1 := NB809_824.out
     have hs27 : w25.cell? ⟨gb809, 1, none⟩ = some (.int .i64 0) := (blk_cell BK809.out 1).trans rfl
     have hfs27 := blk_frozen BK809.out 1
     have hns27_1 := NB824_809.out
     have hms27_1 := NB809_824.out
     have hs28 : w25.cell? ⟨gb809, 2, none⟩ = some (.int .i64 0) := (blk_cell BK809.out 2).trans rfl
     have hfs28 := blk_frozen BK809.out 2
     have hns28_1 := NB824_809.out
     have hms28_1 := NB809_824.out
     have hs29 : w25.cell? ⟨gb809, 3, none⟩ = some (.string (⟨#[]⟩ : ByteArray)) := (blk_cell BK809.out 3).trans rfl
     have hfs29 := blk_frozen BK809.out 3
     have hns29_1 := NB824_809.out
     have hms29_1 := NB809_824.out
     refine skip_ (w1 := ?_) (by rfl) rfl ?_ ?_
     rotate_left
     ·go_simp
      rfl
     refine hK.out _ _ ⟨((cell_far (p := ⟨gb809, _, none⟩) NB824_809.out _).trans (((cell_far (p := ⟨gb809, _, none⟩) NB824_809.out _).trans (((cell_far (p := ⟨gb809, _, none⟩) NB824_809.out _).trans (((cell_far (p := ⟨gb809, _, none⟩) NB824_809.out _).trans (hHeld.1)))))))), ((cell_far (p := ⟨gb809, _, none⟩) NB824_809.out _).trans (((cell_far (p := ⟨gb809, _, none⟩) NB824_809.out _).trans (((cell_far (p := ⟨gb809, _, none⟩) NB824_809.out _).trans (((cell_far (p := ⟨gb809, _, none⟩) NB824_809.out _).trans (hHeld.2.1)))))))), ((cell_far (p := ⟨gb809, _, none⟩) NB824_809.out _).trans (((cell_far (p := ⟨gb809, _, none⟩) NB824_809.out _).trans (((cell_far (p := ⟨gb809, _, none⟩) NB824_809.out _).trans (((cell_far (p := ⟨gb809, _, none⟩) NB824_809.out _).trans (hHeld.2.2.1)))))))), ((cell_far (p := ⟨gb809, _, none⟩) NB824_809.out _).trans (((cell_far (p := ⟨gb809, _, none⟩) NB824_809.out _).trans (((cell_far (p := ⟨gb809, _, none⟩) NB824_809.out _).trans (((cell_far (p := ⟨gb809, _, none⟩) NB824_809.out _).trans (hHeld.2.2.2))))))))⟩ (fun hHeld => ?_)
     clear hK K
     refine pure_ (i := 6) (N := some 5) (v := ?_) (a' := ?_) #[true, true, true, true, true, true, true] rfl rfl (by kernel_rfl) (fun _ _ _ h => h) (Or.inl ⟨by rfl, ?_⟩) ?_ ?_
     rotate_left
     ·intro w'
      go_simp
      with_reducible rfl
     rotate_left
     ·simp only [Act.put, List.setIfInBounds_toArray, List.set_cons_zero, List.set_cons_succ, i64_w, i32_w]
      rfl
     refine done_ (by kernel_rfl) ?_
     try go_wp2
     refine bodyPost_ret (results_list (rs := [.tmp 2, .tmp 3, .cell 4 38, .tmp 5]) rfl (by simp) (.tmp (.tmp (.cell gb809 38 #[.int .i64 (wrap64 (rd l0 4)), .int .i64 t816, .int .i64 (wrap64 (rd l0 7)), .string t819] (0, 0) _ rfl (by (with_reducible repeat (first | refine blk_drewN ?_ _ | refine blk_drew ?_ | refine blk_alloc ?_ _)); refine blk_put (cs := #[.int .i64 (wrap64 (rd l0 4)), .int .i64 t816, .int .i64 (wrap64 (rd l0 7)), .string (⟨#[]⟩ : ByteArray)]) ?_ 3 _ rfl; (with_reducible repeat (first | refine blk_drewN ?_ _ | refine blk_drew ?_ | refine blk_alloc ?_ _)); refine blk_put (cs := #[.int .i64 (wrap64 (rd l0 4)), .int .i64 t816, .int .i64 0, .string (⟨#[]⟩ : ByteArray)]) ?_ 2 _ rfl; (with_reducible repeat (first | refine blk_drewN ?_ _ | refine blk_drew ?_ | refine blk_alloc ?_ _)); refine blk_put (cs := #[.int .i64 (wrap64 (rd l0 4)), .int .i64 0, .int .i64 0, .string (⟨#[]⟩ : ByteArray)]) ?_ 1 _ rfl; (with_reducible repeat (first | refine blk_drewN ?_ _ | refine blk_drew ?_ | refine blk_alloc ?_ _)); refine blk_put (cs := #[.int .i64 0, .int .i64 0, .int .i64 0, .string (⟨#[]⟩ : ByteArray)]) ?_ 0 _ rfl; (with_reducible repeat (first | refine blk_drewN ?_ _ | refine blk_drew ?_ | refine blk_alloc ?_ _)); exact BK809.out) Tryd.underlying38 rfl (by kernel_rfl) (.tmp .nil))))) rfl ?_
     exact ⟨by first | rfl | (simp [errW_none, errW_some] <;> rfl) | (simp [*, errW_none, errW_some] <;> rfl), by repeat (first | (with_reducible first | exact HB.out | apply below_alloc | apply pw_below_drewN | apply below_drew1 | refine below_set ?_ GE809.out | refine below_set ?_ GE824.out) | exact HB.out)⟩
    ·replace c13 := Bool.eq_false_iff.mpr c13
     subst c13
     have H1 : (some (0, 0, 0, 0, 0, (⟨#[]⟩ : ByteArray), false)) = some (r1, r2, r3, r4, r5, r6, r7) := by rw [if_neg (show ¬ (false = true) by decide)] at H; exact H
     clear H
     have H := H1
     clear H1
     simp only [Option.some.injEq, Prod.mk.injEq] at H
     obtain ⟨rfl, rfl, rfl, rfl, rfl, rfl, rfl⟩ := H
     go_enter Tryd.func38, Tryd.ntmps38
     try go_wp2_with (first | ((with_reducible refine gate_dst (N := 4) rfl ?_); refine box_event ?hg (N := 4) ?hd (cs := #[.int .i64 0, .int .i64 0, .int .i64 0, .string (⟨#[]⟩ : ByteArray)]) (t := 38) ?hr ?_; (case hd => rfl); (case hg => rfl); (case hr => first | (go_simp; done) | (go_simp; rfl)); intro gb809 hg w30 hbox hb; have n0_ := Aside0.mk (below_step z0_ hb); have n1_ := Aside0.mk (hbox); have n2_ := Aside0.mk ((by rw [hg]; exact (below_size z0_) : w.heap.size ≤ gb809)); have n3_ := Aside0.mk ((by rw [hg]; exact (below_size z0_) : w.heap.size ≤ gb809)); clear HB; have HB := n0_; have BK809 := n1_; have GW809 := n2_; have GE809 := n3_; clear n0_ n1_ n2_ n3_; clear hb hbox hg) | ((with_reducible refine gate_callee (f := 79) rfl ?_); refine goesL_ (some 25) rfl rfl Tryd.func79 (by kernel_rfl) rfl #[.slice A0 l0.length c0, .int .i64 0] rfl z1_ ?_; (with_reducible refine (impl_GetWord.calls _ _ l0 0 t810 t811 t812 _ ?side1 ?side2 A5.out).mono ?_); (case side1 => repeat (first | exact (Kd.C_below HR0.out HB.out) | (with_reducible refine Kd.C_alloc ?_ _) | (with_reducible refine Kd.C_drewN ?_ _) | (with_reducible refine Kd.C_drew ?_))); (case side2 => exact HC0.out); rintro e w' ⟨rfl, ⟨nd, rfl⟩⟩; refine ⟨_, rfl, ?_⟩; (try (rw [drewN_self w30]; generalize hq_ : World.drewN w30 _ = w30; have n0_ : Aside0 (w30.heap[gb809]? = some (.cells #[.int .i64 0, .int .i64 0, .int .i64 0, .string (⟨#[]⟩ : ByteArray)] 38 (0, 0))) := ⟨by rw [← hq_]; exact z31_⟩; have n1_ : Aside0 (Below w.heap.size w w30) := ⟨by rw [← hq_]; exact z24_⟩; clear BK809 HB hq_; have BK809 := n0_; have HB := n1_; clear n0_ n1_))) | ((with_reducible refine gate_callee (f := 79) rfl ?_); refine goesL_ (some 31) rfl rfl Tryd.func79 (by kernel_rfl) rfl #[.slice A0 l0.length c0, .int .i64 2] rfl z1_ ?_; (with_reducible refine (impl_GetWord.calls _ _ l0 2 t813 t814 t815 _ ?side1 ?side2 A6.out).mono ?_); (case side1 => repeat (first | exact (Kd.C_below HR0.out HB.out) | (with_reducible refine Kd.C_alloc ?_ _) | (with_reducible refine Kd.C_drewN ?_ _) | (with_reducible refine Kd.C_drew ?_))); (case side2 => exact HC0.out); rintro e w' ⟨rfl, ⟨nd, rfl⟩⟩; refine ⟨_, rfl, ?_⟩; (try (rw [drewN_self w30]; generalize hq_ : World.drewN w30 _ = w30; have n0_ : Aside0 (w30.heap[gb809]? = some (.cells #[.int .i64 0, .int .i64 0, .int .i64 0, .string (⟨#[]⟩ : ByteArray)] 38 (0, 0))) := ⟨by rw [← hq_]; exact z31_⟩; have n1_ : Aside0 (Below w.heap.size w w30) := ⟨by rw [← hq_]; exact z24_⟩; clear BK809 HB hq_; have BK809 := n0_; have HB := n1_; clear n0_ n1_))) | ((with_reducible refine gate_callee (f := 79) rfl ?_); refine goesL_ (some 37) rfl rfl Tryd.func79 (by kernel_rfl) rfl #[.slice A0 l0.length c0, .int .i64 5] rfl z1_ ?_; (with_reducible refine (impl_GetWord.calls _ _ l0 5 t816 t817 t818 _ ?side1 ?side2 A7.out).mono ?_); (case side1 => repeat (first | exact (Kd.C_below HR0.out HB.out) | (with_reducible refine Kd.C_alloc ?_ _) | (with_reducible refine Kd.C_drewN ?_ _) | (with_reducible refine Kd.C_drew ?_))); (case side2 => exact HC0.out); rintro e w' ⟨rfl, ⟨nd, rfl⟩⟩; refine ⟨_, rfl, ?_⟩; (try (rw [drewN_self w30]; generalize hq_ : World.drewN w30 _ = w30; have n0_ : Aside0 (w30.heap[gb809]? = some (.cells #[.int .i64 0, .int .i64 0, .int .i64 0, .string (⟨#[]⟩ : ByteArray)] 38 (0, 0))) := ⟨by rw [← hq_]; exact z31_⟩; have n1_ : Aside0 (Below w.heap.size w w30) := ⟨by rw [← hq_]; exact z24_⟩; clear BK809 HB hq_; have BK809 := n0_; have HB := n1_; clear n0_ n1_))) | ((with_reducible refine gate_callee (f := 80) rfl ?_); refine goesL_ (some 43) rfl rfl Tryd.func80 (by kernel_rfl) rfl #[.slice A0 l0.length c0, .int .i64 8] rfl z1_ ?_; (with_reducible refine (impl_GetText.calls k _ _ l0 8 t819 t820 t821 _ ?side1 ?side2 A8.out).mono ?_); (case side1 => repeat (first | exact (Kd.C_below HR0.out HB.out) | (with_reducible refine Kd.C_alloc ?_ _) | (with_reducible refine Kd.C_drewN ?_ _) | (with_reducible refine Kd.C_drew ?_))); (case side2 => exact HC0.out); rintro e w' ⟨rfl, ⟨nd, rfl⟩⟩; refine ⟨_, rfl, ?_⟩; (try (rw [drewN_self w30]; generalize hq_ : World.drewN w30 _ = w30; have n0_ : Aside0 (w30.heap[gb809]? = some (.cells #[.int .i64 0, .int .i64 0, .int .i64 0, .string (⟨#[]⟩ : ByteArray)] 38 (0, 0))) := ⟨by rw [← hq_]; exact z31_⟩; have n1_ : Aside0 (Below w.heap.size w w30) := ⟨by rw [← hq_]; exact z24_⟩; clear BK809 HB hq_; have BK809 := n0_; have HB := n1_; clear n0_ n1_))))
     have n0_ := Aside0.mk (blk_drew BK809.out)
     have n1_ := Aside0.mk (below_drew1 HB.out)
     clear BK809
     clear HB
     have BK809 := n0_
     have HB := n1_
     clear n0_ n1_
     have p822 : 0 ≤ (4 : Int) := (by omega)
     have q822 : 4 < (l0.length : Int) := of_decide_eq_true z4_
     obtain ⟨ad822, e822, hx822_0⟩ := Kd.at_int HR0.out 4 p822 q822
     have hw822_0 := hx822_0
     (try rw [show ((4 : Int)).toNat = 4 from rfl] at hw822_0)
     (try rw [show 4 * 1 = 4 from rfl] at hw822_0)
     (try simp only [Nat.reduceMul, Nat.reduceEqDiff, Go.Addr.add, ↓reduceIte] at hw822_0)
     cases e822
     (try simp only [show (4 : Int).toNat = 4 from rfl, Nat.reduceMul, Nat.reduceEqDiff, Go.Addr.add, ↓reduceIte] at hx822_0)
     have qi822 : (4 < l0.length) = True := eq_true (by omega)
     (try rw [show ((4 : Int)).toNat = 4 from rfl] at hx822_0)
     replace hx822_0 := (HB.out.cell (World.block_lt_of_cell? w _ hx822_0)).trans hx822_0
     replace p822 := eq_true p822
     replace q822 := eq_true q822
     have p823 : 0 ≤ (7 : Int) := (by omega)
     have q823 : 7 < (l0.length : Int) := of_decide_eq_true z4_
     obtain ⟨ad823, e823, hx823_0⟩ := Kd.at_int HR0.out 7 p823 q823
     have hw823_0 := hx823_0
     (try rw [show ((7 : Int)).toNat = 7 from rfl] at hw823_0)
     (try rw [show 7 * 1 = 7 from rfl] at hw823_0)
     (try simp only [Nat.reduceMul, Nat.reduceEqDiff, Go.Addr.add, ↓reduceIte] at hw823_0)
     obtain rfl : ad822 = ad823 := (by injection e823)
     (try simp only [show (7 : Int).toNat = 7 from rfl, Nat.reduceMul, Nat.reduceEqDiff, Go.Addr.add, ↓reduceIte] at hx823_0)
     have qi823 : (7 < l0.length) = True := eq_true (by omega)
     (try rw [show ((7 : Int)).toNat = 7 from rfl] at hx823_0)
     replace hx823_0 := (HB.out.cell (World.block_lt_of_cell? w _ hx823_0)).trans hx823_0
     replace p823 := eq_true p823
     replace q823 := eq_true q823
     refine start_ (n := 13) (S := fun w' => w'.cell? ⟨ad822.block, ad822.off + 4, none⟩ = some (.int .u8 (rd l0 4)) ∧ w'.cell? ⟨ad822.block, ad822.off + 7, none⟩ = some (.int .u8 (rd l0 7))) (ds := []) #[false, false, false, false, false, false, false, false, false, false, false, false, false] (by kernel_rfl) rfl rfl ⟨((HB.out.cell (World.block_lt_of_cell? w _ hw822_0)).trans hw822_0), ((HB.out.cell (World.block_lt_of_cell? w _ hw823_0)).trans hw823_0)⟩ (fun hHeld => ?_); refine with_tabW impl_GetRec.tab7 impl_GetRec.bits7 (fun HT_ HW_ => ?_)
     generalize w30.drew = w31 at BK809 HB hx822_0 hx823_0 hHeld ⊢
     refine pure_ (i := 0) (N := some 47) (v := ?_) (a' := ?_) #[true, false, false, false, false, false, false, false, false, false, false, false, false] rfl rfl (any_of HT_.out (by kernel_rfl)) (fun _ _ _ h => h) (Or.inl ⟨by rfl, ?_⟩) ?_ ?_
     rotate_left
     ·intro w'
      go_simp
      with_reducible rfl
     rotate_left
     ·simp only [Act.put, List.setIfInBounds_toArray, List.set_cons_zero, List.set_cons_succ, i64_w, i32_w]
      rfl
     refine pure_ (i := 1) (N := some 48) (v := ?_) (a' := ?_) #[true, true, false, false, false, false, false, false, false, false, false, false, false] rfl rfl (any_of HT_.out (by kernel_rfl)) (fun _ _ _ h => h) (Or.inl ⟨by rfl, ?_⟩) ?_ ?_
     rotate_left
     ·intro w'
      go_simp
      with_reducible rfl
     rotate_left
     ·simp only [Act.put, List.setIfInBounds_toArray, List.set_cons_zero, List.set_cons_succ, i64_w, i32_w]
      rfl
     refine pure_ (i := 4) (N := some 51) (v := ?_) (a' := ?_) #[true, true, false, false, true, false, false, false, false, false, false, false, false] rfl rfl (any_of HT_.out (by kernel_rfl)) (fun _ _ _ h => h) (Or.inl ⟨by rfl, ?_⟩) ?_ ?_
     rotate_left
     ·intro w'
      go_simp
      with_reducible rfl
     rotate_left
     ·simp only [Act.put, List.setIfInBounds_toArray, List.set_cons_zero, List.set_cons_succ, i64_w, i32_w]
      rfl
     refine pure_ (i := 5) (N := some 52) (v := ?_) (a' := ?_) #[true, true, false, false, true, true, false, false, false, false, false, false, false] rfl rfl (any_of HT_.out (by kernel_rfl)) (fun _ _ _ h => h) (Or.inl ⟨by rfl, ?_⟩) ?_ ?_
     rotate_left
     ·intro w'
      go_simp
      with_reducible rfl
     rotate_left
     ·simp only [Act.put, List.setIfInBounds_toArray, List.set_cons_zero, List.set_cons_succ, i64_w, i32_w]
      rfl
     refine pure_ (i := 6) (N := some 53) (v := ?_) (a' := ?_) #[true, true, false, false, true, true, true, false, false, false, false, false, false] rfl rfl (any_of HT_.out (by kernel_rfl)) (fun _ _ _ h => h) (Or.inl ⟨by rfl, ?_⟩) ?_ ?_
     rotate_left
     ·intro w'
      go_simp
      with_reducible rfl
     rotate_left
     ·simp only [Act.put, List.setIfInBounds_toArray, List.set_cons_zero, List.set_cons_succ, i64_w, i32_w]
      rfl
     refine pure_ (i := 9) (N := some 56) (v := ?_) (a' := ?_) #[true, true, false, false, true, true, true, false, false, true, false, false, false] rfl rfl (any_of HT_.out (by kernel_rfl)) (fun _ _ _ h => h) (Or.inl ⟨by rfl, ?_⟩) ?_ ?_
     rotate_left
     ·intro w'
      go_simp
      with_reducible rfl
     rotate_left
     ·simp only [Act.put, List.setIfInBounds_toArray, List.set_cons_zero, List.set_cons_succ, i64_w, i32_w]
      rfl
     refine take_ (i := 2) (N := some 49) (v := ?_) (a' := ?_) #[true, true, true, false, true, true, true, false, false, true, false, false, false] rfl rfl (take_ofW HT_.out HW_.out (by kernel_rfl)) (fun _ _ _ h => h) (Or.inl ⟨by rfl, ?_⟩) hHeld ?_ ?_
     rotate_left
     ·rintro w' ⟨s0, s1⟩
      go_simp
      with_reducible rfl
     rotate_left
     ·simp only [Act.put, List.setIfInBounds_toArray, List.set_cons_zero, List.set_cons_succ, i64_w, i32_w]
      rfl
     refine pure_ (i := 3) (N := some 50) (v := ?_) (a' := ?_) #[true, true, true, true, true, true, true, false, false, true, false, false, false] rfl rfl (any_of HT_.out (by kernel_rfl)) (fun _ _ _ h => h) (Or.inl ⟨by rfl, ?_⟩) ?_ ?_
     rotate_left
     ·intro w'
      go_simp
      with_reducible rfl
     rotate_left
     ·simp only [Act.put, List.setIfInBounds_toArray, List.set_cons_zero, List.set_cons_succ, i64_w, i32_w]
      rfl
     refine take_ (i := 7) (N := some 54) (v := ?_) (a' := ?_) #[true, true, true, true, true, true, true, true, false, true, false, false, false] rfl rfl (take_ofW HT_.out HW_.out (by kernel_rfl)) (fun _ _ _ h => h) (Or.inl ⟨by rfl, ?_⟩) hHeld ?_ ?_
     rotate_left
     ·rintro w' ⟨s0, s1⟩
      go_simp
      with_reducible rfl
     rotate_left
     ·simp only [Act.put, List.setIfInBounds_toArray, List.set_cons_zero, List.set_cons_succ, i64_w, i32_w]
      rfl
     refine pure_ (i := 8) (N := some 55) (v := ?_) (a' := ?_) #[true, true, true, true, true, true, true, true, true, true, false, false, false] rfl rfl (any_of HT_.out (by kernel_rfl)) (fun _ _ _ h => h) (Or.inl ⟨by rfl, ?_⟩) ?_ ?_
     rotate_left
     ·intro w'
      go_simp
      with_reducible rfl
     rotate_left
     ·simp only [Act.put, List.setIfInBounds_toArray, List.set_cons_zero, List.set_cons_succ, i64_w, i32_w]
      rfl
     refine pure_ (i := 10) (N := some 57) (v := ?_) (a' := ?_) #[true, true, true, true, true, true, true, true, true, true, true, false, false] rfl rfl (any_of HT_.out (by kernel_rfl)) (fun _ _ _ h => h) (Or.inl ⟨by rfl, ?_⟩) ?_ ?_
     rotate_left
     ·intro w'
      go_simp
      with_reducible rfl
     rotate_left
     ·simp only [Act.put, List.setIfInBounds_toArray, List.set_cons_zero, List.set_cons_succ, i64_w, i32_w]
      rfl
     refine one_ (i := 11) (N := some 18) #[true, true, true, true, true, true, true, true, true, true, true, true, false] rfl rfl (one_of HT_.out (by kernel_rfl)) (by decide) (fun K hK => ?_)
     refine box_step ?hg (N := 18) ?hd (cs := #[.int .i64 0, .int .i64 0, .int .i64 0, .string (⟨#[]⟩ : ByteArray)]) (t := 38) ?hr ?_; (case hd => rfl); (case hg => rfl); (case hr => first | (go_simp; done) | (go_simp; rfl))
     intro gb824 hg w32 hbox hb
     have n0_ := Aside0.mk (blk_below (g := gb809) (o := .cells #[.int .i64 0, .int .i64 0, .int .i64 0, .string (⟨#[]⟩ : ByteArray)] 38 (0, 0)) z31_ hb)
     have n1_ := Aside0.mk (below_step z24_ hb)
     have n2_ := Aside0.mk (hbox)
     have n3_ := Aside0.mk ((by rw [hg]; exact (below_size z24_) : w.heap.size ≤ gb824))
     have n4_ := Aside0.mk ((by rw [hg]; exact (below_size z24_) : w.heap.size ≤ gb824))
     have n5_ := Aside0.mk ((by rw [hg]; exact Nat.ne_of_lt (blk_lt (g := gb809) (o := .cells #[.int .i64 0, .int .i64 0, .int .i64 0, .string (⟨#[]⟩ : ByteArray)] 38 (0, 0)) z31_) : gb809 ≠ gb824))
     have n6_ := Aside0.mk ((by rw [hg]; exact Nat.ne_of_gt (blk_lt (g := gb809) (o := .cells #[.int .i64 0, .int .i64 0, .int .i64 0, .string (⟨#[]⟩ : ByteArray)] 38 (0, 0)) z31_) : gb824 ≠ gb809))
     clear BK809
     clear HB
     have BK809 := n0_
     have HB := n1_
     have BK824 := n2_
     have GW824 := n3_
     have GE824 := n4_
     have NB809_824 := n5_
     have NB824_809 := n6_
     clear n0_ n1_ n2_ n3_ n4_ n5_ n6_
     clear hb hbox hg
     refine hK.out _ _ ⟨((HB.out.cell (World.block_lt_of_cell? w _ hw822_0)).trans hw822_0), ((HB.out.cell (World.block_lt_of_cell? w _ hw823_0)).trans hw823_0)⟩ (fun hHeld => ?_)
     clear hK K
     refine norm_ (a' := ?_) ?_ ?_
     rotate_left
     ·show Act.put _ (some 18) _ = _
      simp only [Act.put, List.setIfInBounds_toArray, List.set_cons_zero, List.set_cons_succ, i64_w, i32_w]
      rfl
     refine one_ (i := 12) (N := none) #[true, true, true, true, true, true, true, true, true, true, true, true, true] rfl rfl (one_of HT_.out (by kernel_rfl)) (by decide) (fun K hK => ?_)
     have hs33 : w32.cell? ⟨gb824, 0, none⟩ = some (.int .i64 0) := (blk_cell BK824.out 0).trans rfl
     have hfs33 := blk_frozen BK824.out 0
     have hns33_0 := NB809_824.out
     have hms33_0 := NB824_809.out
     have hs34 : w32.cell? ⟨gb824, 1, none⟩ = some (.int .i64 0) := (blk_cell BK824.out 1).trans rfl
     have hfs34 := blk_frozen BK824.out 1
     have hns34_0 := NB809_824.out
     have hms34_0 := NB824_809.out
     have hs35 : w32.cell? ⟨gb824, 2, none⟩ = some (.int .i64 0) := (blk_cell BK824.out 2).trans rfl
     have hfs35 := blk_frozen BK824.out 2
     have hns35_0 := NB809_824.out
     have hms35_0 := NB824_809.out
     have hs36 : w32.cell? ⟨gb824, 3, none⟩ = some (.string (⟨#[]⟩ : ByteArray)) := (blk_cell BK824.out 3).trans rfl
     have hfs36 := blk_frozen BK824.out 3
     have hns36_0 := NB809_824.out
     have hms36_0 := NB824_809.out
     refine skip_ (w1 := ?_) (by rfl) rfl ?_ ?_
     rotate_left
     ·go_simp
      rfl
     refine hK.out _ _ ⟨((cell_far (p := ⟨gb824, _, none⟩) z8_ _).trans (((cell_far (p := ⟨gb824, _, none⟩) z8_ _).trans (((cell_far (p := ⟨gb824, _, none⟩) z8_ _).trans (((cell_far (p := ⟨gb824, _, none⟩) z8_ _).trans (hHeld.1)))))))), ((cell_far (p := ⟨gb824, _, none⟩) z9_ _).trans (((cell_far (p := ⟨gb824, _, none⟩) z9_ _).trans (((cell_far (p := ⟨gb824, _, none⟩) z9_ _).trans (((cell_far (p := ⟨gb824, _, none⟩) z9_ _).trans (hHeld.2))))))))⟩ (fun hHeld => ?_)
     clear hK K
     refine done_ (done_of HT_.out (by kernel_rfl)) ?_
     have hnb37 := NB824_809.out
     have hnc37 := NB809_824.out
     have hcz38_0 : w32.cell? ⟨gb824, 0, none⟩ = some (.int .i64 0) := (blk_cell BK824.out 0).trans rfl
     have hcz38_1 : w32.cell? ⟨gb824, 1, none⟩ = some (.int .i64 0) := (blk_cell BK824.out 1).trans rfl
     have hcz38_2 : w32.cell? ⟨gb824, 2, none⟩ = some (.int .i64 0) := (blk_cell BK824.out 2).trans rfl
     have hcz38_3 : w32.cell? ⟨gb824, 3, none⟩ = some (.string (⟨#[]⟩ : ByteArray)) := (blk_cell BK824.out 3).trans rfl
     have hfz38_0 := blk_frozen BK824.out 0
     have hfz38_1 := blk_frozen BK824.out 1
     have hfz38_2 := blk_frozen BK824.out 2
     have hfz38_3 := blk_frozen BK824.out 3
     try go_wp2_with (first | ((with_reducible refine gate_callee (f := 22) rfl ?_); refine goesL_ (some 61) rfl rfl Tryd.func22 (by kernel_rfl) rfl #[.int .i64 t810, .int .i64 t813, .agg #[.int .i64 (wrap64 (rd l0 4)), .int .i64 t816, .int .i64 (wrap64 (rd l0 7)), .string t819]] rfl z1_ ?_; (with_reducible refine (impl_PutRec.calls k t810 t813 (wrap64 (rd l0 4)) t816 (wrap64 (rd l0 7)) t819 t825 _ ?side1 A11.out).mono ?_); (case side1 => exact GW.below HGW.out z35_); rintro e w39 ⟨v826, rfl, ho0, hb⟩; refine ⟨_, rfl, ?_⟩; have n0_ := Aside0.mk (Kd.R_lower ho0 (below_size z35_)); have n1_ := Aside0.mk (blk_below (g := gb809) (o := .cells #[.int .i64 0, .int .i64 0, .int .i64 0, .string (⟨#[]⟩ : ByteArray)] 38 (0, 0)) z39_ hb); have n2_ := Aside0.mk (blk_below (g := gb824) (o := .cells #[.int .i64 (wrap64 (rd l0 4)), .int .i64 t816, .int .i64 (wrap64 (rd l0 7)), .string t819] 38 (0, 0)) z26_ hb); have n3_ := Aside0.mk (below_step z35_ hb); clear BK809; clear BK824; clear HB; have HO827 := n0_; have BK809 := n1_; have BK824 := n2_; have HB := n3_; clear n0_ n1_ n2_ n3_; (try clear hb); (try clear hb2); (try clear hk); (try clear hi); (try clear ho0); obtain ⟨Ao40, co40, eo40⟩ := Kd.R_slice HO827.out; subst eo40) | ((with_reducible refine gate_callee (f := 81) rfl ?_); refine goesL_ (some 63) rfl rfl Tryd.func81 (by kernel_rfl) rfl #[.slice Ao40 t825.length co40, .slice (some ad822) l0.length c0] rfl z1_ ?_; (with_reducible refine (bytes_Equal.calls _ _ t825 _ _ l0 false _ ?side1 ?side2 ?side3 ?side4 A12.out).mono ?_); (case side1 => repeat (first | exact (Kd.R_reads' HO827.out).2.2 | (with_reducible refine Kd.C_alloc ?_ _) | (with_reducible refine Kd.C_drewN ?_ _) | (with_reducible refine Kd.C_drew ?_))); (case side2 => exact (Kd.R_reads' HO827.out).2.1); (case side3 => repeat (first | exact (Kd.C_below HR0.out HB.out) | (with_reducible refine Kd.C_alloc ?_ _) | (with_reducible refine Kd.C_drewN ?_ _) | (with_reducible refine Kd.C_drew ?_))); (case side4 => exact HC0.out); rintro e w' ⟨rfl, ⟨nd, rfl⟩⟩; refine ⟨_, rfl, ?_⟩; (try (rw [drewN_self w39]; generalize hq_ : World.drewN w39 _ = w39; have n0_ : Aside0 (Kd.R (Kd.int .u8) 5 w39 w.heap.size (fun _ => True) (.slice Ao40 t825.length co40) t825) := ⟨by rw [← hq_]; exact z92_⟩; have n1_ : Aside0 (w39.heap[gb809]? = some (.cells #[.int .i64 0, .int .i64 0, .int .i64 0, .string (⟨#[]⟩ : ByteArray)] 38 (0, 0))) := ⟨by rw [← hq_]; exact z31_⟩; have n2_ : Aside0 (w39.heap[gb824]? = some (.cells #[.int .i64 (wrap64 (rd l0 4)), .int .i64 t816, .int .i64 (wrap64 (rd l0 7)), .string t819] 38 (0, 0))) := ⟨by rw [← hq_]; exact z82_⟩; have n3_ : Aside0 (Below w.heap.size w w39) := ⟨by rw [← hq_]; exact z35_⟩; clear HO827 BK809 BK824 HB hq_; have HO827 := n0_; have BK809 := n1_; have BK824 := n2_; have HB := n3_; clear n0_ n1_ n2_ n3_)); have hcz41_0 : w39.cell? ⟨gb809, 0, none⟩ = some (.int .i64 0) := (blk_cell BK809.out 0).trans rfl; have hcz41_1 : w39.cell? ⟨gb809, 1, none⟩ = some (.int .i64 0) := (blk_cell BK809.out 1).trans rfl; have hcz41_2 : w39.cell? ⟨gb809, 2, none⟩ = some (.int .i64 0) := (blk_cell BK809.out 2).trans rfl; have hcz41_3 : w39.cell? ⟨gb809, 3, none⟩ = some (.string (⟨#[]⟩ : ByteArray)) := (blk_cell BK809.out 3).trans rfl; have hfz41_0 := blk_frozen BK809.out 0; have hfz41_1 := blk_frozen BK809.out 1; have hfz41_2 := blk_frozen BK809.out 2; have hfz41_3 := blk_frozen BK809.out 3))
     refine bodyPost_ret (results_list (rs := [.tmp 2, .tmp 3, .cell 4 38, .tmp 5]) rfl (by simp) (.tmp (.tmp (.cell gb809 38 #[.int .i64 0, .int .i64 0, .int .i64 0, .string (⟨#[]⟩ : ByteArray)] (0, 0) _ rfl z30_ Tryd.underlying38 rfl (by kernel_rfl) (.tmp .nil))))) rfl ?_
     exact ⟨by first | rfl | (simp [errW_none, errW_some] <;> rfl) | (simp [*, errW_none, errW_some] <;> rfl), by repeat (first | (with_reducible first | exact HB.out | apply below_alloc | apply pw_below_drewN | apply below_drew1 | refine below_set ?_ GE809.out | refine below_set ?_ GE824.out) | exact HB.out)⟩
   ·rw [if_neg c10] at H
    exact absurd H (by simp)
  ·rw [if_neg c9] at H
   exact absurd H (by simp)

/-! ### laws_eqRec: function 39 -/
set_option maxHeartbeats 8000000 in
set_option maxRecDepth 100000 in
theorem laws_eqRec.calls (a0_0 : Int) (a0_1 : Int) (a0_2 : Int) (a0_3 : ByteArray) (a1_0 : Int) (a1_1 : Int) (a1_2 : Int) (a1_3 : ByteArray) (r : Bool) (w : World) (h : laws_eqRec.f a0_0 a0_1 a0_2 a0_3 a1_0 a1_1 a1_2 a1_3 = some r) :
  Calls Tryd.prog 39 #[.agg #[.int .i64 a0_0, .int .i64 a0_1, .int .i64 a0_2, .string a0_3], .agg #[.int .i64 a1_0, .int .i64 a1_1, .int .i64 a1_2, .string a1_3]] w fun e w' => e = .returned (.bool r) ∧ Below w.heap.size w w' := by
 have hu38 := Tryd.underlying38
 have HB := Aside0.mk (Below.refl w.heap.size w)
 have H : (if a0_0 = a1_0 then (if a0_1 = a1_1 then (if a0_2 = a1_2 then (if a0_3.toList = a1_3.toList then (some true) else (some false)) else (some false)) else (some false)) else (some false)) = some r := h
 clear h
 by_cases c3 : a0_0 = a1_0
 ·rw [if_pos c3] at H
  have c3b0 : (a0_0 == a1_0) = true := beq_iff_eq.mpr c3
  have c3b1 : (a0_0 != a1_0) = false := bne_eq_false_iff_eq.mpr c3
  clear c3
  by_cases c4 : a0_1 = a1_1
  ·rw [if_pos c4] at H
   have c4b0 : (a0_1 == a1_1) = true := beq_iff_eq.mpr c4
   have c4b1 : (a0_1 != a1_1) = false := bne_eq_false_iff_eq.mpr c4
   clear c4
   by_cases c5 : a0_2 = a1_2
   ·rw [if_pos c5] at H
    have c5b0 : (a0_2 == a1_2) = true := beq_iff_eq.mpr c5
    have c5b1 : (a0_2 != a1_2) = false := bne_eq_false_iff_eq.mpr c5
    clear c5
    by_cases c6 : a0_3.toList = a1_3.toList
    ·rw [if_pos c6] at H
     have c6b0 : (a0_3.toList == a1_3.toList) = true := beq_iff_eq.mpr c6
     have c6b1 : (a0_3.toList != a1_3.toList) = false := bne_eq_false_iff_eq.mpr c6
     clear c6
     obtain rfl := Option.some.inj H
     go_enter Tryd.func39, Tryd.ntmps39
     go_wp2_with (first | ((with_reducible refine gate_dst (N := 2) rfl ?_); refine box_event ?hg (N := 2) ?hd (cs := #[.int .i64 a0_0, .int .i64 a0_1, .int .i64 a0_2, .string a0_3]) (t := 38) ?hr ?_; (case hd => rfl); (case hg => rfl); (case hr => first | (go_simp; done) | (go_simp; rfl)); intro gb829 hg w7 hbox hb; have n0_ := Aside0.mk (below_step z0_ hb); have n1_ := Aside0.mk (hbox); have n2_ := Aside0.mk ((by rw [hg]; exact (below_size z0_) : w.heap.size ≤ gb829)); have n3_ := Aside0.mk ((by rw [hg]; exact (below_size z0_) : w.heap.size ≤ gb829)); clear HB; have HB := n0_; have BK829 := n1_; have GW829 := n2_; have GE829 := n3_; clear n0_ n1_ n2_ n3_; clear hb hbox hg) | ((with_reducible refine gate_dst (N := 3) rfl ?_); refine box_event ?hg (N := 3) ?hd (cs := #[.int .i64 a1_0, .int .i64 a1_1, .int .i64 a1_2, .string a1_3]) (t := 38) ?hr ?_; (case hd => rfl); (case hg => rfl); (case hr => first | (go_simp; done) | (go_simp; rfl)); intro gb830 hg w8 hbox hb; have n0_ := Aside0.mk (blk_below (g := gb829) (o := .cells #[.int .i64 a0_0, .int .i64 a0_1, .int .i64 a0_2, .string a0_3] 38 (0, 0)) z33_ hb); have n1_ := Aside0.mk (below_step z23_ hb); have n2_ := Aside0.mk (hbox); have n3_ := Aside0.mk ((by rw [hg]; exact (below_size z23_) : w.heap.size ≤ gb830)); have n4_ := Aside0.mk ((by rw [hg]; exact (below_size z23_) : w.heap.size ≤ gb830)); have n5_ := Aside0.mk ((by rw [hg]; exact Nat.ne_of_lt (blk_lt (g := gb829) (o := .cells #[.int .i64 a0_0, .int .i64 a0_1, .int .i64 a0_2, .string a0_3] 38 (0, 0)) z33_) : gb829 ≠ gb830)); have n6_ := Aside0.mk ((by rw [hg]; exact Nat.ne_of_gt (blk_lt (g := gb829) (o := .cells #[.int .i64 a0_0, .int .i64 a0_1, .int .i64 a0_2, .string a0_3] 38 (0, 0)) z33_) : gb830 ≠ gb829)); clear BK829; clear HB; have BK829 := n0_; have HB := n1_; have BK830 := n2_; have GW830 := n3_; have GE830 := n4_; have NB829_830 := n5_; have NB830_829 := n6_; clear n0_ n1_ n2_ n3_ n4_ n5_ n6_; clear hb hbox hg; have hnb9 := NB829_830.out; have hnc9 := NB830_829.out; have hcz10_0 : w8.cell? ⟨gb829, 0, none⟩ = some (.int .i64 a0_0) := (blk_cell BK829.out 0).trans rfl; have hcz10_1 : w8.cell? ⟨gb829, 1, none⟩ = some (.int .i64 a0_1) := (blk_cell BK829.out 1).trans rfl; have hcz10_2 : w8.cell? ⟨gb829, 2, none⟩ = some (.int .i64 a0_2) := (blk_cell BK829.out 2).trans rfl; have hcz10_3 : w8.cell? ⟨gb829, 3, none⟩ = some (.string a0_3) := (blk_cell BK829.out 3).trans rfl; have hfz10_0 := blk_frozen BK829.out 0; have hfz10_1 := blk_frozen BK829.out 1; have hfz10_2 := blk_frozen BK829.out 2; have hfz10_3 := blk_frozen BK829.out 3; have hcz11_0 : w8.cell? ⟨gb830, 0, none⟩ = some (.int .i64 a1_0) := (blk_cell BK830.out 0).trans rfl; have hcz11_1 : w8.cell? ⟨gb830, 1, none⟩ = some (.int .i64 a1_1) := (blk_cell BK830.out 1).trans rfl; have hcz11_2 : w8.cell? ⟨gb830, 2, none⟩ = some (.int .i64 a1_2) := (blk_cell BK830.out 2).trans rfl; have hcz11_3 : w8.cell? ⟨gb830, 3, none⟩ = some (.string a1_3) := (blk_cell BK830.out 3).trans rfl; have hfz11_0 := blk_frozen BK830.out 0; have hfz11_1 := blk_frozen BK830.out 1; have hfz11_2 := blk_frozen BK830.out 2; have hfz11_3 := blk_frozen BK830.out 3))
     go_ret
     exact ⟨by first | rfl | (simp [errW_none, errW_some] <;> rfl) | (simp [*, errW_none, errW_some] <;> rfl), by repeat (first | (with_reducible first | exact HB.out | apply below_alloc | apply pw_below_drewN | apply below_drew1 | refine below_set ?_ GE829.out | refine below_set ?_ GE830.out) | exact HB.out)⟩
    ·rw [if_neg c6] at H
     have c6b0 : (a0_3.toList == a1_3.toList) = false := beq_eq_false_iff_ne.mpr c6
     have c6b1 : (a0_3.toList != a1_3.toList) = true := bne_iff_ne.mpr c6
     obtain rfl := Option.some.inj H
     go_enter Tryd.func39, Tryd.ntmps39
     go_wp2_with (first | ((with_reducible refine gate_dst (N := 2) rfl ?_); refine box_event ?hg (N := 2) ?hd (cs := #[.int .i64 a0_0, .int .i64 a0_1, .int .i64 a0_2, .string a0_3]) (t := 38) ?hr ?_; (case hd => rfl); (case hg => rfl); (case hr => first | (go_simp; done) | (go_simp; rfl)); intro gb829 hg w12 hbox hb; have n0_ := Aside0.mk (below_step z0_ hb); have n1_ := Aside0.mk (hbox); have n2_ := Aside0.mk ((by rw [hg]; exact (below_size z0_) : w.heap.size ≤ gb829)); have n3_ := Aside0.mk ((by rw [hg]; exact (below_size z0_) : w.heap.size ≤ gb829)); clear HB; have HB := n0_; have BK829 := n1_; have GW829 := n2_; have GE829 := n3_; clear n0_ n1_ n2_ n3_; clear hb hbox hg) | ((with_reducible refine gate_dst (N := 3) rfl ?_); refine box_event ?hg (N := 3) ?hd (cs := #[.int .i64 a1_0, .int .i64 a1_1, .int .i64 a1_2, .string a1_3]) (t := 38) ?hr ?_; (case hd => rfl); (case hg => rfl); (case hr => first | (go_simp; done) | (go_simp; rfl)); intro gb830 hg w13 hbox hb; have n0_ := Aside0.mk (blk_below (g := gb829) (o := .cells #[.int .i64 a0_0, .int .i64 a0_1, .int .i64 a0_2, .string a0_3] 38 (0, 0)) z33_ hb); have n1_ := Aside0.mk (below_step z23_ hb); have n2_ := Aside0.mk (hbox); have n3_ := Aside0.mk ((by rw [hg]; exact (below_size z23_) : w.heap.size ≤ gb830)); have n4_ := Aside0.mk ((by rw [hg]; exact (below_size z23_) : w.heap.size ≤ gb830)); have n5_ := Aside0.mk ((by rw [hg]; exact Nat.ne_of_lt (blk_lt (g := gb829) (o := .cells #[.int .i64 a0_0, .int .i64 a0_1, .int .i64 a0_2, .string a0_3] 38 (0, 0)) z33_) : gb829 ≠ gb830)); have n6_ := Aside0.mk ((by rw [hg]; exact Nat.ne_of_gt (blk_lt (g := gb829) (o := .cells #[.int .i64 a0_0, .int .i64 a0_1, .int .i64 a0_2, .string a0_3] 38 (0, 0)) z33_) : gb830 ≠ gb829)); clear BK829; clear HB; have BK829 := n0_; have HB := n1_; have BK830 := n2_; have GW830 := n3_; have GE830 := n4_; have NB829_830 := n5_; have NB830_829 := n6_; clear n0_ n1_ n2_ n3_ n4_ n5_ n6_; clear hb hbox hg; have hnb14 := NB829_830.out; have hnc14 := NB830_829.out; have hcz15_0 : w13.cell? ⟨gb829, 0, none⟩ = some (.int .i64 a0_0) := (blk_cell BK829.out 0).trans rfl; have hcz15_1 : w13.cell? ⟨gb829, 1, none⟩ = some (.int .i64 a0_1) := (blk_cell BK829.out 1).trans rfl; have hcz15_2 : w13.cell? ⟨gb829, 2, none⟩ = some (.int .i64 a0_2) := (blk_cell BK829.out 2).trans rfl; have hcz15_3 : w13.cell? ⟨gb829, 3, none⟩ = some (.string a0_3) := (blk_cell BK829.out 3).trans rfl; have hfz15_0 := blk_frozen BK829.out 0; have hfz15_1 := blk_frozen BK829.out 1; have hfz15_2 := blk_frozen BK829.out 2; have hfz15_3 := blk_frozen BK829.out 3; have hcz16_0 : w13.cell? ⟨gb830, 0, none⟩ = some (.int .i64 a1_0) := (blk_cell BK830.out 0).trans rfl; have hcz16_1 : w13.cell? ⟨gb830, 1, none⟩ = some (.int .i64 a1_1) := (blk_cell BK830.out 1).trans rfl; have hcz16_2 : w13.cell? ⟨gb830, 2, none⟩ = some (.int .i64 a1_2) := (blk_cell BK830.out 2).trans rfl; have hcz16_3 : w13.cell? ⟨gb830, 3, none⟩ = some (.string a1_3) := (blk_cell BK830.out 3).trans rfl; have hfz16_0 := blk_frozen BK830.out 0; have hfz16_1 := blk_frozen BK830.out 1; have hfz16_2 := blk_frozen BK830.out 2; have hfz16_3 := blk_frozen BK830.out 3))
     go_ret
     exact ⟨by first | rfl | (simp [errW_none, errW_some] <;> rfl) | (simp [*, errW_none, errW_some] <;> rfl), by repeat (first | (with_reducible first | exact HB.out | apply below_alloc | apply pw_below_drewN | apply below_drew1 | refine below_set ?_ GE829.out | refine below_set ?_ GE830.out) | exact HB.out)⟩
   ·rw [if_neg c5] at H
    have c5b0 : (a0_2 == a1_2) = false := beq_eq_false_iff_ne.mpr c5
    have c5b1 : (a0_2 != a1_2) = true := bne_iff_ne.mpr c5
    obtain rfl := Option.some.inj H
    go_enter Tryd.func39, Tryd.ntmps39
    go_wp2_with (first | ((with_reducible refine gate_dst (N := 2) rfl ?_); refine box_event ?hg (N := 2) ?hd (cs := #[.int .i64 a0_0, .int .i64 a0_1, .int .i64 a0_2, .string a0_3]) (t := 38) ?hr ?_; (case hd => rfl); (case hg => rfl); (case hr => first | (go_simp; done) | (go_simp; rfl)); intro gb829 hg w17 hbox hb; have n0_ := Aside0.mk (below_step z0_ hb); have n1_ := Aside0.mk (hbox); have n2_ := Aside0.mk ((by rw [hg]; exact (below_size z0_) : w.heap.size ≤ gb829)); have n3_ := Aside0.mk ((by rw [hg]; exact (below_size z0_) : w.heap.size ≤ gb829)); clear HB; have HB := n0_; have BK829 := n1_; have GW829 := n2_; have GE829 := n3_; clear n0_ n1_ n2_ n3_; clear hb hbox hg) | ((with_reducible refine gate_dst (N := 3) rfl ?_); refine box_event ?hg (N := 3) ?hd (cs := #[.int .i64 a1_0, .int .i64 a1_1, .int .i64 a1_2, .string a1_3]) (t := 38) ?hr ?_; (case hd => rfl); (case hg => rfl); (case hr => first | (go_simp; done) | (go_simp; rfl)); intro gb830 hg w18 hbox hb; have n0_ := Aside0.mk (blk_below (g := gb829) (o := .cells #[.int .i64 a0_0, .int .i64 a0_1, .int .i64 a0_2, .string a0_3] 38 (0, 0)) z33_ hb); have n1_ := Aside0.mk (below_step z23_ hb); have n2_ := Aside0.mk (hbox); have n3_ := Aside0.mk ((by rw [hg]; exact (below_size z23_) : w.heap.size ≤ gb830)); have n4_ := Aside0.mk ((by rw [hg]; exact (below_size z23_) : w.heap.size ≤ gb830)); have n5_ := Aside0.mk ((by rw [hg]; exact Nat.ne_of_lt (blk_lt (g := gb829) (o := .cells #[.int .i64 a0_0, .int .i64 a0_1, .int .i64 a0_2, .string a0_3] 38 (0, 0)) z33_) : gb829 ≠ gb830)); have n6_ := Aside0.mk ((by rw [hg]; exact Nat.ne_of_gt (blk_lt (g := gb829) (o := .cells #[.int .i64 a0_0, .int .i64 a0_1, .int .i64 a0_2, .string a0_3] 38 (0, 0)) z33_) : gb830 ≠ gb829)); clear BK829; clear HB; have BK829 := n0_; have HB := n1_; have BK830 := n2_; have GW830 := n3_; have GE830 := n4_; have NB829_830 := n5_; have NB830_829 := n6_; clear n0_ n1_ n2_ n3_ n4_ n5_ n6_; clear hb hbox hg; have hnb19 := NB829_830.out; have hnc19 := NB830_829.out; have hcz20_0 : w18.cell? ⟨gb829, 0, none⟩ = some (.int .i64 a0_0) := (blk_cell BK829.out 0).trans rfl; have hcz20_1 : w18.cell? ⟨gb829, 1, none⟩ = some (.int .i64 a0_1) := (blk_cell BK829.out 1).trans rfl; have hcz20_2 : w18.cell? ⟨gb829, 2, none⟩ = some (.int .i64 a0_2) := (blk_cell BK829.out 2).trans rfl; have hcz20_3 : w18.cell? ⟨gb829, 3, none⟩ = some (.string a0_3) := (blk_cell BK829.out 3).trans rfl; have hfz20_0 := blk_frozen BK829.out 0; have hfz20_1 := blk_frozen BK829.out 1; have hfz20_2 := blk_frozen BK829.out 2; have hfz20_3 := blk_frozen BK829.out 3; have hcz21_0 : w18.cell? ⟨gb830, 0, none⟩ = some (.int .i64 a1_0) := (blk_cell BK830.out 0).trans rfl; have hcz21_1 : w18.cell? ⟨gb830, 1, none⟩ = some (.int .i64 a1_1) := (blk_cell BK830.out 1).trans rfl; have hcz21_2 : w18.cell? ⟨gb830, 2, none⟩ = some (.int .i64 a1_2) := (blk_cell BK830.out 2).trans rfl; have hcz21_3 : w18.cell? ⟨gb830, 3, none⟩ = some (.string a1_3) := (blk_cell BK830.out 3).trans rfl; have hfz21_0 := blk_frozen BK830.out 0; have hfz21_1 := blk_frozen BK830.out 1; have hfz21_2 := blk_frozen BK830.out 2; have hfz21_3 := blk_frozen BK830.out 3))
    go_ret
    exact ⟨by first | rfl | (simp [errW_none, errW_some] <;> rfl) | (simp [*, errW_none, errW_some] <;> rfl), by repeat (first | (with_reducible first | exact HB.out | apply below_alloc | apply pw_below_drewN | apply below_drew1 | refine below_set ?_ GE829.out | refine below_set ?_ GE830.out) | exact HB.out)⟩
  ·rw [if_neg c4] at H
   have c4b0 : (a0_1 == a1_1) = false := beq_eq_false_iff_ne.mpr c4
   have c4b1 : (a0_1 != a1_1) = true := bne_iff_ne.mpr c4
   obtain rfl := Option.some.inj H
   go_enter Tryd.func39, Tryd.ntmps39
   go_wp2_with (first | ((with_reducible refine gate_dst (N := 2) rfl ?_); refine box_event ?hg (N := 2) ?hd (cs := #[.int .i64 a0_0, .int .i64 a0_1, .int .i64 a0_2, .string a0_3]) (t := 38) ?hr ?_; (case hd => rfl); (case hg => rfl); (case hr => first | (go_simp; done) | (go_simp; rfl)); intro gb829 hg w22 hbox hb; have n0_ := Aside0.mk (below_step z0_ hb); have n1_ := Aside0.mk (hbox); have n2_ := Aside0.mk ((by rw [hg]; exact (below_size z0_) : w.heap.size ≤ gb829)); have n3_ := Aside0.mk ((by rw [hg]; exact (below_size z0_) : w.heap.size ≤ gb829)); clear HB; have HB := n0_; have BK829 := n1_; have GW829 := n2_; have GE829 := n3_; clear n0_ n1_ n2_ n3_; clear hb hbox hg) | ((with_reducible refine gate_dst (N := 3) rfl ?_); refine box_event ?hg (N := 3) ?hd (cs := #[.int .i64 a1_0, .int .i64 a1_1, .int .i64 a1_2, .string a1_3]) (t := 38) ?hr ?_; (case hd => rfl); (case hg => rfl); (case hr => first | (go_simp; done) | (go_simp; rfl)); intro gb830 hg w23 hbox hb; have n0_ := Aside0.mk (blk_below (g := gb829) (o := .cells #[.int .i64 a0_0, .int .i64 a0_1, .int .i64 a0_2, .string a0_3] 38 (0, 0)) z33_ hb); have n1_ := Aside0.mk (below_step z23_ hb); have n2_ := Aside0.mk (hbox); have n3_ := Aside0.mk ((by rw [hg]; exact (below_size z23_) : w.heap.size ≤ gb830)); have n4_ := Aside0.mk ((by rw [hg]; exact (below_size z23_) : w.heap.size ≤ gb830)); have n5_ := Aside0.mk ((by rw [hg]; exact Nat.ne_of_lt (blk_lt (g := gb829) (o := .cells #[.int .i64 a0_0, .int .i64 a0_1, .int .i64 a0_2, .string a0_3] 38 (0, 0)) z33_) : gb829 ≠ gb830)); have n6_ := Aside0.mk ((by rw [hg]; exact Nat.ne_of_gt (blk_lt (g := gb829) (o := .cells #[.int .i64 a0_0, .int .i64 a0_1, .int .i64 a0_2, .string a0_3] 38 (0, 0)) z33_) : gb830 ≠ gb829)); clear BK829; clear HB; have BK829 := n0_; have HB := n1_; have BK830 := n2_; have GW830 := n3_; have GE830 := n4_; have NB829_830 := n5_; have NB830_829 := n6_; clear n0_ n1_ n2_ n3_ n4_ n5_ n6_; clear hb hbox hg; have hnb24 := NB829_830.out; have hnc24 := NB830_829.out; have hcz25_0 : w23.cell? ⟨gb829, 0, none⟩ = some (.int .i64 a0_0) := (blk_cell BK829.out 0).trans rfl; have hcz25_1 : w23.cell? ⟨gb829, 1, none⟩ = some (.int .i64 a0_1) := (blk_cell BK829.out 1).trans rfl; have hcz25_2 : w23.cell? ⟨gb829, 2, none⟩ = some (.int .i64 a0_2) := (blk_cell BK829.out 2).trans rfl; have hcz25_3 : w23.cell? ⟨gb829, 3, none⟩ = some (.string a0_3) := (blk_cell BK829.out 3).trans rfl; have hfz25_0 := blk_frozen BK829.out 0; have hfz25_1 := blk_frozen BK829.out 1; have hfz25_2 := blk_frozen BK829.out 2; have hfz25_3 := blk_frozen BK829.out 3; have hcz26_0 : w23.cell? ⟨gb830, 0, none⟩ = some (.int .i64 a1_0) := (blk_cell BK830.out 0).trans rfl; have hcz26_1 : w23.cell? ⟨gb830, 1, none⟩ = some (.int .i64 a1_1) := (blk_cell BK830.out 1).trans rfl; have hcz26_2 : w23.cell? ⟨gb830, 2, none⟩ = some (.int .i64 a1_2) := (blk_cell BK830.out 2).trans rfl; have hcz26_3 : w23.cell? ⟨gb830, 3, none⟩ = some (.string a1_3) := (blk_cell BK830.out 3).trans rfl; have hfz26_0 := blk_frozen BK830.out 0; have hfz26_1 := blk_frozen BK830.out 1; have hfz26_2 := blk_frozen BK830.out 2; have hfz26_3 := blk_frozen BK830.out 3))
   go_ret
   exact ⟨by first | rfl | (simp [errW_none, errW_some] <;> rfl) | (simp [*, errW_none, errW_some] <;> rfl), by repeat (first | (with_reducible first | exact HB.out | apply below_alloc | apply pw_below_drewN | apply below_drew1 | refine below_set ?_ GE829.out | refine below_set ?_ GE830.out) | exact HB.out)⟩
 ·rw [if_neg c3] at H
  have c3b0 : (a0_0 == a1_0) = false := beq_eq_false_iff_ne.mpr c3
  have c3b1 : (a0_0 != a1_0) = true := bne_iff_ne.mpr c3
  obtain rfl := Option.some.inj H
  go_enter Tryd.func39, Tryd.ntmps39
  go_wp2_with (first | ((with_reducible refine gate_dst (N := 2) rfl ?_); refine box_event ?hg (N := 2) ?hd (cs := #[.int .i64 a0_0, .int .i64 a0_1, .int .i64 a0_2, .string a0_3]) (t := 38) ?hr ?_; (case hd => rfl); (case hg => rfl); (case hr => first | (go_simp; done) | (go_simp; rfl)); intro gb829 hg w27 hbox hb; have n0_ := Aside0.mk (below_step z0_ hb); have n1_ := Aside0.mk (hbox); have n2_ := Aside0.mk ((by rw [hg]; exact (below_size z0_) : w.heap.size ≤ gb829)); have n3_ := Aside0.mk ((by rw [hg]; exact (below_size z0_) : w.heap.size ≤ gb829)); clear HB; have HB := n0_; have BK829 := n1_; have GW829 := n2_; have GE829 := n3_; clear n0_ n1_ n2_ n3_; clear hb hbox hg) | ((with_reducible refine gate_dst (N := 3) rfl ?_); refine box_event ?hg (N := 3) ?hd (cs := #[.int .i64 a1_0, .int .i64 a1_1, .int .i64 a1_2, .string a1_3]) (t := 38) ?hr ?_; (case hd => rfl); (case hg => rfl); (case hr => first | (go_simp; done) | (go_simp; rfl)); intro gb830 hg w28 hbox hb; have n0_ := Aside0.mk (blk_below (g := gb829) (o := .cells #[.int .i64 a0_0, .int .i64 a0_1, .int .i64 a0_2, .string a0_3] 38 (0, 0)) z33_ hb); have n1_ := Aside0.mk (below_step z23_ hb); have n2_ := Aside0.mk (hbox); have n3_ := Aside0.mk ((by rw [hg]; exact (below_size z23_) : w.heap.size ≤ gb830)); have n4_ := Aside0.mk ((by rw [hg]; exact (below_size z23_) : w.heap.size ≤ gb830)); have n5_ := Aside0.mk ((by rw [hg]; exact Nat.ne_of_lt (blk_lt (g := gb829) (o := .cells #[.int .i64 a0_0, .int .i64 a0_1, .int .i64 a0_2, .string a0_3] 38 (0, 0)) z33_) : gb829 ≠ gb830)); have n6_ := Aside0.mk ((by rw [hg]; exact Nat.ne_of_gt (blk_lt (g := gb829) (o := .cells #[.int .i64 a0_0, .int .i64 a0_1, .int .i64 a0_2, .string a0_3] 38 (0, 0)) z33_) : gb830 ≠ gb829)); clear BK829; clear HB; have BK829 := n0_; have HB := n1_; have BK830 := n2_; have GW830 := n3_; have GE830 := n4_; have NB829_830 := n5_; have NB830_829 := n6_; clear n0_ n1_ n2_ n3_ n4_ n5_ n6_; clear hb hbox hg; have hnb29 := NB829_830.out; have hnc29 := NB830_829.out; have hcz30_0 : w28.cell? ⟨gb829, 0, none⟩ = some (.int .i64 a0_0) := (blk_cell BK829.out 0).trans rfl; have hcz30_1 : w28.cell? ⟨gb829, 1, none⟩ = some (.int .i64 a0_1) := (blk_cell BK829.out 1).trans rfl; have hcz30_2 : w28.cell? ⟨gb829, 2, none⟩ = some (.int .i64 a0_2) := (blk_cell BK829.out 2).trans rfl; have hcz30_3 : w28.cell? ⟨gb829, 3, none⟩ = some (.string a0_3) := (blk_cell BK829.out 3).trans rfl; have hfz30_0 := blk_frozen BK829.out 0; have hfz30_1 := blk_frozen BK829.out 1; have hfz30_2 := blk_frozen BK829.out 2; have hfz30_3 := blk_frozen BK829.out 3; have hcz31_0 : w28.cell? ⟨gb830, 0, none⟩ = some (.int .i64 a1_0) := (blk_cell BK830.out 0).trans rfl; have hcz31_1 : w28.cell? ⟨gb830, 1, none⟩ = some (.int .i64 a1_1) := (blk_cell BK830.out 1).trans rfl; have hcz31_2 : w28.cell? ⟨gb830, 2, none⟩ = some (.int .i64 a1_2) := (blk_cell BK830.out 2).trans rfl; have hcz31_3 : w28.cell? ⟨gb830, 3, none⟩ = some (.string a1_3) := (blk_cell BK830.out 3).trans rfl; have hfz31_0 := blk_frozen BK830.out 0; have hfz31_1 := blk_frozen BK830.out 1; have hfz31_2 := blk_frozen BK830.out 2; have hfz31_3 := blk_frozen BK830.out 3))
  go_ret
  exact ⟨by first | rfl | (simp [errW_none, errW_some] <;> rfl) | (simp [*, errW_none, errW_some] <;> rfl), by repeat (first | (with_reducible first | exact HB.out | apply below_alloc | apply pw_below_drewN | apply below_drew1 | refine below_set ?_ GE829.out | refine below_set ?_ GE830.out) | exact HB.out)⟩

/-! ### laws_FnExactGetRec: function 7 -/
set_option maxHeartbeats 8000000 in
set_option maxRecDepth 100000 in
theorem laws_FnExactGetRec.calls (k : Nat) (A0 : Option Addr) (c0 : Nat) (l0 : List Int) (r : Bool) (w : World) (hgw : GW w) (hr0 : Kd.C (Kd.int .u8) w A0 l0.length l0) (hc0 : l0.length ≤ c0) (hr_ : Aside0 (r = true)) (h : laws_FnExactGetRec.f k l0 = some r) :
  Calls Tryd.prog 7 #[.slice A0 l0.length c0] w fun e w' => e = .returned (.bool r) ∧ Below w.heap.size w w' := by
 have HGW := Aside0.mk hgw
 clear hgw
 have hu38 := Tryd.underlying38
 have HR0 := Aside0.mk hr0
 have HC0 := Aside0.mk hc0
 clear hr0 hc0
 have HB := Aside0.mk (Below.refl w.heap.size w)
 have H : (if (l0.length : Int) > 1048576 then (some true) else ((laws_toByteS.f k l0).bind fun t831 => ((spec_GetRec.f k t831).bind fun bt834 => ((laws_toByteS.f k l0).bind fun t842 => ((impl_GetRec.f k t842).bind fun bt845 => (if bt845.1 = bt834.1 then (if bt845.2.1 = bt834.2.1 then ((laws_eqRec.f bt845.2.2.1 bt845.2.2.2.1 bt845.2.2.2.2.1 bt845.2.2.2.2.2.1 bt834.2.2.1 bt834.2.2.2.1 bt834.2.2.2.2.1 bt834.2.2.2.2.2.1).bind fun t853 => (if t853 = true then (laws_FnExactGetRec.j0 k l0 t842 (bt845.2.2.2.2.2.2 != bt834.2.2.2.2.2.2)) else (laws_FnExactGetRec.j0 k l0 t842 true))) else (laws_FnExactGetRec.j0 k l0 t842 true)) else (laws_FnExactGetRec.j0 k l0 t842 true))))))) = some r := h
 clear h
 by_cases c2 : (l0.length : Int) > 1048576
 ·rw [if_pos c2] at H
  have c2b0 : decide (1048576 < (l0.length : Int)) = true := decide_eq_true c2
  have c2b1 : decide (1048576 < l0.length) = true := decide_eq_true (by omega)
  clear c2
  obtain rfl := Option.some.inj H
  go_enter Tryd.func7, Tryd.ntmps7
  go_wp2
  go_ret
  exact ⟨by first | rfl | (simp [errW_none, errW_some] <;> rfl) | (simp [*, errW_none, errW_some] <;> rfl), by repeat (first | (with_reducible first | exact HB.out | apply below_alloc | apply pw_below_drewN | apply below_drew1) | exact HB.out)⟩
 ·rw [if_neg c2] at H
  have c2b0 : decide (1048576 < (l0.length : Int)) = false := decide_eq_false c2
  have c2b1 : decide (1048576 < l0.length) = false := decide_eq_false (by omega)
  clear c2
  replace H := Option.bind_eq_some_iff.mp H
  obtain ⟨t831, A30, H⟩ := H
  replace H : ((spec_GetRec.f k t831).bind fun bt834 => ((laws_toByteS.f k l0).bind fun t842 => ((impl_GetRec.f k t842).bind fun bt845 => (if bt845.1 = bt834.1 then (if bt845.2.1 = bt834.2.1 then ((laws_eqRec.f bt845.2.2.1 bt845.2.2.2.1 bt845.2.2.2.2.1 bt845.2.2.2.2.2.1 bt834.2.2.1 bt834.2.2.2.1 bt834.2.2.2.2.1 bt834.2.2.2.2.2.1).bind fun t853 => (if t853 = true then (laws_FnExactGetRec.j0 k l0 t842 (bt845.2.2.2.2.2.2 != bt834.2.2.2.2.2.2)) else (laws_FnExactGetRec.j0 k l0 t842 true))) else (laws_FnExactGetRec.j0 k l0 t842 true)) else (laws_FnExactGetRec.j0 k l0 t842 true))))) = some r := H
  have A3 := Aside0.mk A30
  clear A30
  replace H := Option.bind_eq_some_iff.mp H
  obtain ⟨⟨t834, t835, t836, t837, t838, t839, t840⟩, A40, H⟩ := H
  replace H : ((laws_toByteS.f k l0).bind fun t842 => ((impl_GetRec.f k t842).bind fun bt845 => (if bt845.1 = t834 then (if bt845.2.1 = t835 then ((laws_eqRec.f bt845.2.2.1 bt845.2.2.2.1 bt845.2.2.2.2.1 bt845.2.2.2.2.2.1 t836 t837 t838 t839).bind fun t853 => (if t853 = true then (laws_FnExactGetRec.j0 k l0 t842 (bt845.2.2.2.2.2.2 != t840)) else (laws_FnExactGetRec.j0 k l0 t842 true))) else (laws_FnExactGetRec.j0 k l0 t842 true)) else (laws_FnExactGetRec.j0 k l0 t842 true)))) = some r := H
  have A4 := Aside0.mk A40
  clear A40
  replace H := Option.bind_eq_some_iff.mp H
  obtain ⟨t842, A50, H⟩ := H
  replace H : ((impl_GetRec.f k t842).bind fun bt845 => (if bt845.1 = t834 then (if bt845.2.1 = t835 then ((laws_eqRec.f bt845.2.2.1 bt845.2.2.2.1 bt845.2.2.2.2.1 bt845.2.2.2.2.2.1 t836 t837 t838 t839).bind fun t853 => (if t853 = true then (laws_FnExactGetRec.j0 k l0 t842 (bt845.2.2.2.2.2.2 != t840)) else (laws_FnExactGetRec.j0 k l0 t842 true))) else (laws_FnExactGetRec.j0 k l0 t842 true)) else (laws_FnExactGetRec.j0 k l0 t842 true))) = some r := H
  have A5 := Aside0.mk A50
  clear A50
  replace H := Option.bind_eq_some_iff.mp H
  obtain ⟨⟨t845, t846, t847, t848, t849, t850, t851⟩, A60, H⟩ := H
  replace H : (if t845 = t834 then (if t846 = t835 then ((laws_eqRec.f t847 t848 t849 t850 t836 t837 t838 t839).bind fun t853 => (if t853 = true then (laws_FnExactGetRec.j0 k l0 t842 (t851 != t840)) else (laws_FnExactGetRec.j0 k l0 t842 true))) else (laws_FnExactGetRec.j0 k l0 t842 true)) else (laws_FnExactGetRec.j0 k l0 t842 true)) = some r := H
  have A6 := Aside0.mk A60
  clear A60
  have HC7 := Aside0.mk H
  clear H
  go_enter Tryd.func7, Tryd.ntmps7
  go_upto_region 6 with (first | ((with_reducible refine gate_callee (f := 37) rfl ?_); refine goesL_ (some 17) rfl rfl Tryd.func37 (by kernel_rfl) rfl #[.slice A0 l0.length c0] rfl z1_ ?_; (with_reducible refine (laws_toByteS.calls k _ _ l0 t831 _ ?side1 ?side2 A3.out).mono ?_); (case side1 => repeat (first | exact HR0.out | (with_reducible refine Kd.C_alloc ?_ _) | (with_reducible refine Kd.C_drewN ?_ _) | (with_reducible refine Kd.C_drew ?_))); (case side2 => exact HC0.out); rintro e w8 ⟨v832, rfl, ho0, hb⟩; refine ⟨_, rfl, ?_⟩; have n0_ := Aside0.mk (Kd.R_lower ho0 (below_size z0_)); have n1_ := Aside0.mk (below_step z0_ hb); clear HB; have HO833 := n0_; have HB := n1_; clear n0_ n1_; (try clear hb); (try clear hb2); (try clear hk); (try clear hi); (try clear ho0); obtain ⟨Ao9, co9, eo9⟩ := Kd.R_slice HO833.out; subst eo9) | ((with_reducible refine gate_callee (f := 36) rfl ?_); refine goesL_ (some 18) rfl rfl Tryd.func36 (by kernel_rfl) rfl #[.slice Ao9 t831.length co9] rfl z1_ ?_; (with_reducible refine (spec_GetRec.calls k _ _ t831 t834 t835 t836 t837 t838 t839 t840 _ ?side1 ?side2 A4.out).mono ?_); (case side1 => repeat (first | exact (Kd.R_reads' HO833.out).2.2 | (with_reducible refine Kd.C_alloc ?_ _) | (with_reducible refine Kd.C_drewN ?_ _) | (with_reducible refine Kd.C_drew ?_))); (case side2 => exact (Kd.R_reads' HO833.out).2.1); rintro e w10 ⟨rfl, hb⟩; refine ⟨_, rfl, ?_⟩; have n0_ := Aside0.mk (Kd.R_below z64_ hb); have n1_ := Aside0.mk (below_step z0_ hb); clear HO833; clear HB; have HO833 := n0_; have HB := n1_; clear n0_ n1_; (try clear hb); (try clear hb2); (try clear hk); (try clear hi)) | ((with_reducible refine gate_dst (N := 5) rfl ?_); refine box_event ?hg (N := 5) ?hd (cs := #[.int .i64 0, .int .i64 0, .int .i64 0, .string (⟨#[]⟩ : ByteArray)]) (t := 38) ?hr ?_; (case hd => rfl); (case hg => rfl); (case hr => first | (go_simp; done) | (go_simp; rfl)); intro gb841 hg w11 hbox hb; have n0_ := Aside0.mk (Kd.R_below z64_ hb); have n1_ := Aside0.mk (below_step z0_ hb); have n2_ := Aside0.mk (hbox); have n3_ := Aside0.mk ((by rw [hg]; exact (below_size z0_) : w.heap.size ≤ gb841)); have n4_ := Aside0.mk ((by rw [hg]; exact (below_size z0_) : w.heap.size ≤ gb841)); clear HO833; clear HB; have HO833 := n0_; have HB := n1_; have BK841 := n2_; have GW841 := n3_; have GE841 := n4_; clear n0_ n1_ n2_ n3_ n4_; clear hb hbox hg; have hcz12_0 : w11.cell? ⟨gb841, 0, none⟩ = some (.int .i64 0) := (blk_cell BK841.out 0).trans rfl; have hcz12_1 : w11.cell? ⟨gb841, 1, none⟩ = some (.int .i64 0) := (blk_cell BK841.out 1).trans rfl; have hcz12_2 : w11.cell? ⟨gb841, 2, none⟩ = some (.int .i64 0) := (blk_cell BK841.out 2).trans rfl; have hcz12_3 : w11.cell? ⟨gb841, 3, none⟩ = some (.string (⟨#[]⟩ : ByteArray)) := (blk_cell BK841.out 3).trans rfl; have hfz12_0 := blk_frozen BK841.out 0; have hfz12_1 := blk_frozen BK841.out 1; have hfz12_2 := blk_frozen BK841.out 2; have hfz12_3 := blk_frozen BK841.out 3) | ((with_reducible refine gate_callee (f := 37) rfl ?_); refine goesL_ (some 24) rfl rfl Tryd.func37 (by kernel_rfl) rfl #[.slice A0 l0.length c0] rfl z1_ ?_; (with_reducible refine (laws_toByteS.calls k _ _ l0 t842 _ ?side1 ?side2 A5.out).mono ?_); (case side1 => exact Kd.C_below HR0.out z41_); (case side2 => exact HC0.out); rintro e w13 ⟨v843, rfl, ho0, hb⟩; refine ⟨_, rfl, ?_⟩; have n0_ := Aside0.mk (Kd.R_elder' z44_ (Kd.R_base ho0) hb); have n1_ := Aside0.mk (Kd.R_lower (Kd.R_new' ho0 (Kd.R_lt z44_)) (below_size z41_)); have n2_ := Aside0.mk (blk_below (g := gb841) (o := .cells #[.int .i64 t836, .int .i64 t837, .int .i64 t838, .string t839] 38 (0, 0)) (by (with_reducible repeat (first | refine blk_drewN ?_ _ | refine blk_drew ?_ | refine blk_alloc ?_ _)); refine blk_put (cs := #[.int .i64 t836, .int .i64 t837, .int .i64 t838, .string (⟨#[]⟩ : ByteArray)]) ?_ 3 _ rfl; (with_reducible repeat (first | refine blk_drewN ?_ _ | refine blk_drew ?_ | refine blk_alloc ?_ _)); refine blk_put (cs := #[.int .i64 t836, .int .i64 t837, .int .i64 0, .string (⟨#[]⟩ : ByteArray)]) ?_ 2 _ rfl; (with_reducible repeat (first | refine blk_drewN ?_ _ | refine blk_drew ?_ | refine blk_alloc ?_ _)); refine blk_put (cs := #[.int .i64 t836, .int .i64 0, .int .i64 0, .string (⟨#[]⟩ : ByteArray)]) ?_ 1 _ rfl; (with_reducible repeat (first | refine blk_drewN ?_ _ | refine blk_drew ?_ | refine blk_alloc ?_ _)); refine blk_put (cs := #[.int .i64 0, .int .i64 0, .int .i64 0, .string (⟨#[]⟩ : ByteArray)]) ?_ 0 _ rfl; (with_reducible repeat (first | refine blk_drewN ?_ _ | refine blk_drew ?_ | refine blk_alloc ?_ _)); exact BK841.out) hb); have n3_ := Aside0.mk (below_step z41_ hb); clear HO833; clear BK841; clear HB; have HO833 := n0_; have HO844 := n1_; have BK841 := n2_; have HB := n3_; clear n0_ n1_ n2_ n3_; (try clear hb); (try clear hb2); (try clear hk); (try clear hi); (try clear ho0); obtain ⟨Ao14, co14, eo14⟩ := Kd.R_slice HO844.out; subst eo14) | ((with_reducible refine gate_callee (f := 38) rfl ?_); refine goesL_ (some 27) rfl rfl Tryd.func38 (by kernel_rfl) rfl #[.slice Ao14 t842.length co14] rfl z1_ ?_; (with_reducible refine (impl_GetRec.calls k _ _ t842 t845 t846 t847 t848 t849 t850 t851 _ ?side3 ?side1 ?side2 A6.out).mono ?_); (case side1 => repeat (first | exact (Kd.R_reads' HO844.out).2.2 | (with_reducible refine Kd.C_alloc ?_ _) | (with_reducible refine Kd.C_drewN ?_ _) | (with_reducible refine Kd.C_drew ?_))); (case side2 => exact (Kd.R_reads' HO844.out).2.1); (case side3 => exact GW.below HGW.out z41_); rintro e w15 ⟨rfl, hb⟩; refine ⟨_, rfl, ?_⟩; have n0_ := Aside0.mk (Kd.R_below z64_ hb); have n1_ := Aside0.mk (Kd.R_below z93_ hb); have n2_ := Aside0.mk (blk_below (g := gb841) (o := .cells #[.int .i64 t836, .int .i64 t837, .int .i64 t838, .string t839] 38 (0, 0)) z57_ hb); have n3_ := Aside0.mk (below_step z41_ hb); clear HO833; clear HO844; clear BK841; clear HB; have HO833 := n0_; have HO844 := n1_; have BK841 := n2_; have HB := n3_; clear n0_ n1_ n2_ n3_; (try clear hb); (try clear hb2); (try clear hk); (try clear hi)) | ((with_reducible refine gate_dst (N := 10) rfl ?_); refine box_event ?hg (N := 10) ?hd (cs := #[.int .i64 0, .int .i64 0, .int .i64 0, .string (⟨#[]⟩ : ByteArray)]) (t := 38) ?hr ?_; (case hd => rfl); (case hg => rfl); (case hr => first | (go_simp; done) | (go_simp; rfl)); intro gb852 hg w16 hbox hb; have n0_ := Aside0.mk (Kd.R_below z64_ hb); have n1_ := Aside0.mk (Kd.R_below z93_ hb); have n2_ := Aside0.mk (blk_below (g := gb841) (o := .cells #[.int .i64 t836, .int .i64 t837, .int .i64 t838, .string t839] 38 (0, 0)) z57_ hb); have n3_ := Aside0.mk (below_step z41_ hb); have n4_ := Aside0.mk (hbox); have n5_ := Aside0.mk ((by rw [hg]; exact (below_size z41_) : w.heap.size ≤ gb852)); have n6_ := Aside0.mk ((by rw [hg]; exact (below_size z41_) : w.heap.size ≤ gb852)); have n7_ := Aside0.mk ((by rw [hg]; exact Nat.ne_of_lt (blk_lt (g := gb841) (o := .cells #[.int .i64 t836, .int .i64 t837, .int .i64 t838, .string t839] 38 (0, 0)) z57_) : gb841 ≠ gb852)); have n8_ := Aside0.mk ((by rw [hg]; exact Nat.ne_of_gt (blk_lt (g := gb841) (o := .cells #[.int .i64 t836, .int .i64 t837, .int .i64 t838, .string t839] 38 (0, 0)) z57_) : gb852 ≠ gb841)); clear HO833; clear HO844; clear BK841; clear HB; have HO833 := n0_; have HO844 := n1_; have BK841 := n2_; have HB := n3_; have BK852 := n4_; have GW852 := n5_; have GE852 := n6_; have NB841_852 := n7_; have NB852_841 := n8_; clear n0_ n1_ n2_ n3_ n4_ n5_ n6_ n7_ n8_; clear hb hbox hg; have hnb17 := NB852_841.out; have hnc17 := NB841_852.out; have hcz18_0 : w16.cell? ⟨gb852, 0, none⟩ = some (.int .i64 0) := (blk_cell BK852.out 0).trans rfl; have hcz18_1 : w16.cell? ⟨gb852, 1, none⟩ = some (.int .i64 0) := (blk_cell BK852.out 1).trans rfl; have hcz18_2 : w16.cell? ⟨gb852, 2, none⟩ = some (.int .i64 0) := (blk_cell BK852.out 2).trans rfl; have hcz18_3 : w16.cell? ⟨gb852, 3, none⟩ = some (.string (⟨#[]⟩ : ByteArray)) := (blk_cell BK852.out 3).trans rfl; have hfz18_0 := blk_frozen BK852.out 0; have hfz18_1 := blk_frozen BK852.out 1; have hfz18_2 := blk_frozen BK852.out 2; have hfz18_3 := blk_frozen BK852.out 3))
  (try simp only [Act.put, List.setIfInBounds_toArray, List.set_cons_zero, List.set_cons_succ])
  go_cut [50] (fun v50 wc => ∃ (kq : Nat) (x50_6 : Bool), v50 = .bool x50_6 ∧ Aside0 (laws_FnExactGetRec.j0 kq l0 t842 x50_6 = some r) ∧ Aside0 (kq ≤ k) ∧ Aside0 (Kd.R (Kd.int .u8) 5 wc w.heap.size (fun _ => True) (.slice Ao14 t842.length co14) t842) ∧ Aside0 (wc.heap[gb841]? = some (.cells #[.int .i64 t836, .int .i64 t837, .int .i64 t838, .string t839] 38 (0, 0))) ∧ Aside0 (wc.heap[gb852]? = some (.cells #[.int .i64 t847, .int .i64 t848, .int .i64 t849, .string t850] 38 (0, 0))) ∧ Aside0 (Below w.heap.size w wc))
  case first =>
   have H := HC7.out
   clear HC7
   by_cases c19 : t845 = t834
   ·rw [if_pos c19] at H
    have c19b0 : (t845 == t834) = true := beq_iff_eq.mpr c19
    have c19b1 : (t845 != t834) = false := bne_eq_false_iff_eq.mpr c19
    clear c19
    (first | rw [c19b0] | (simp only [i64_w, i32_w]; rw [c19b0]) | skip)
    by_cases c20 : t846 = t835
    ·rw [if_pos c20] at H
     have c20b0 : (t846 == t835) = true := beq_iff_eq.mpr c20
     have c20b1 : (t846 != t835) = false := bne_eq_false_iff_eq.mpr c20
     clear c20
     replace H := Option.bind_eq_some_iff.mp H
     obtain ⟨t853, A210, H⟩ := H
     replace H : (if t853 = true then (laws_FnExactGetRec.j0 k l0 t842 (t851 != t840)) else (laws_FnExactGetRec.j0 k l0 t842 true)) = some r := H
     have A21 := Aside0.mk A210
     clear A210
     by_cases c22 : t853 = true
     ·subst c22
      have H1 : (laws_FnExactGetRec.j0 k l0 t842 (t851 != t840)) = some r := by rw [if_pos rfl] at H; exact H
      clear H
      have H := H1
      clear H1
      have H' := Aside0.mk H
      clear H
      have hnb23 := NB852_841.out
      have hnc23 := NB841_852.out
      have hcz24_0 : w16.cell? ⟨gb852, 0, none⟩ = some (.int .i64 0) := (blk_cell BK852.out 0).trans rfl
      have hcz24_1 : w16.cell? ⟨gb852, 1, none⟩ = some (.int .i64 0) := (blk_cell BK852.out 1).trans rfl
      have hcz24_2 : w16.cell? ⟨gb852, 2, none⟩ = some (.int .i64 0) := (blk_cell BK852.out 2).trans rfl
      have hcz24_3 : w16.cell? ⟨gb852, 3, none⟩ = some (.string (⟨#[]⟩ : ByteArray)) := (blk_cell BK852.out 3).trans rfl
      have hfz24_0 := blk_frozen BK852.out 0
      have hfz24_1 := blk_frozen BK852.out 1
      have hfz24_2 := blk_frozen BK852.out 2
      have hfz24_3 := blk_frozen BK852.out 3
      have hcz25_0 : w16.cell? ⟨gb841, 0, none⟩ = some (.int .i64 t836) := (blk_cell BK841.out 0).trans rfl
      have hcz25_1 : w16.cell? ⟨gb841, 1, none⟩ = some (.int .i64 t837) := (blk_cell BK841.out 1).trans rfl
      have hcz25_2 : w16.cell? ⟨gb841, 2, none⟩ = some (.int .i64 t838) := (blk_cell BK841.out 2).trans rfl
      have hcz25_3 : w16.cell? ⟨gb841, 3, none⟩ = some (.string t839) := (blk_cell BK841.out 3).trans rfl
      have hfz25_0 := blk_frozen BK841.out 0
      have hfz25_1 := blk_frozen BK841.out 1
      have hfz25_2 := blk_frozen BK841.out 2
      have hfz25_3 := blk_frozen BK841.out 3
      go_wp2_with (first | (go_at_call 39; (with_reducible refine (laws_eqRec.calls t847 t848 t849 t850 t836 t837 t838 t839 true _ A21.out).mono ?_); rintro e w26 ⟨rfl, hb⟩; have n0_ := Aside0.mk (Kd.R_below z45_ hb); have n1_ := Aside0.mk (Kd.R_below z46_ hb); have n2_ := Aside0.mk (blk_below (g := gb841) (o := .cells #[.int .i64 t836, .int .i64 t837, .int .i64 t838, .string t839] 38 (0, 0)) z40_ hb); have n3_ := Aside0.mk (blk_below (g := gb852) (o := .cells #[.int .i64 t847, .int .i64 t848, .int .i64 t849, .string t850] 38 (0, 0)) z29_ hb); have n4_ := Aside0.mk (below_step z48_ hb); clear HO833; clear HO844; clear BK841; clear BK852; clear HB; have HO833 := n0_; have HO844 := n1_; have BK841 := n2_; have BK852 := n3_; have HB := n4_; clear n0_ n1_ n2_ n3_ n4_; (try clear hb); (try clear hb2); (try clear hk); (try clear hi)))
      go_meet
      case rel => exact ⟨_, ((t851 != t840)), z11_, H', ⟨by first | omega | exact Nat.le_refl _⟩, ⟨by (with_reducible repeat (first | apply Kd.R_alloc | apply Kd.R_drewN | apply Kd.R_drew)); exact Kd.R_mono HO844.out (fun _ hk => trivial)⟩, ⟨by (with_reducible repeat (first | refine blk_drewN ?_ _ | refine blk_drew ?_ | refine blk_alloc ?_ _)); exact BK841.out⟩, ⟨by (with_reducible repeat (first | refine blk_drewN ?_ _ | refine blk_drew ?_ | refine blk_alloc ?_ _)); exact BK852.out⟩, ⟨by repeat (first | (with_reducible first | exact HB.out | apply below_alloc | apply pw_below_drewN | apply below_drew1 | refine below_set ?_ GE841.out | refine below_set ?_ GE852.out) | exact HB.out)⟩⟩
     ·replace c22 := Bool.eq_false_iff.mpr c22
      subst c22
      have H1 : (laws_FnExactGetRec.j0 k l0 t842 true) = some r := by rw [if_neg (show ¬ (false = true) by decide)] at H; exact H
      clear H
      have H := H1
      clear H1
      have H' := Aside0.mk H
      clear H
      have hnb27 := NB852_841.out
      have hnc27 := NB841_852.out
      have hcz28_0 : w16.cell? ⟨gb852, 0, none⟩ = some (.int .i64 0) := (blk_cell BK852.out 0).trans rfl
      have hcz28_1 : w16.cell? ⟨gb852, 1, none⟩ = some (.int .i64 0) := (blk_cell BK852.out 1).trans rfl
      have hcz28_2 : w16.cell? ⟨gb852, 2, none⟩ = some (.int .i64 0) := (blk_cell BK852.out 2).trans rfl
      have hcz28_3 : w16.cell? ⟨gb852, 3, none⟩ = some (.string (⟨#[]⟩ : ByteArray)) := (blk_cell BK852.out 3).trans rfl
      have hfz28_0 := blk_frozen BK852.out 0
      have hfz28_1 := blk_frozen BK852.out 1
      have hfz28_2 := blk_frozen BK852.out 2
      have hfz28_3 := blk_frozen BK852.out 3
      have hcz29_0 : w16.cell? ⟨gb841, 0, none⟩ = some (.int .i64 t836) := (blk_cell BK841.out 0).trans rfl
      have hcz29_1 : w16.cell? ⟨gb841, 1, none⟩ = some (.int .i64 t837) := (blk_cell BK841.out 1).trans rfl
      have hcz29_2 : w16.cell? ⟨gb841, 2, none⟩ = some (.int .i64 t838) := (blk_cell BK841.out 2).trans rfl
      have hcz29_3 : w16.cell? ⟨gb841, 3, none⟩ = some (.string t839) := (blk_cell BK841.out 3).trans rfl
      have hfz29_0 := blk_frozen BK841.out 0
      have hfz29_1 := blk_frozen BK841.out 1
      have hfz29_2 := blk_frozen BK841.out 2
      have hfz29_3 := blk_frozen BK841.out 3
      go_wp2_with (first | (go_at_call 39; (with_reducible refine (laws_eqRec.calls t847 t848 t849 t850 t836 t837 t838 t839 false _ A21.out).mono ?_); rintro e w30 ⟨rfl, hb⟩; have n0_ := Aside0.mk (Kd.R_below z45_ hb); have n1_ := Aside0.mk (Kd.R_below z46_ hb); have n2_ := Aside0.mk (blk_below (g := gb841) (o := .cells #[.int .i64 t836, .int .i64 t837, .int .i64 t838, .string t839] 38 (0, 0)) z40_ hb); have n3_ := Aside0.mk (blk_below (g := gb852) (o := .cells #[.int .i64 t847, .int .i64 t848, .int .i64 t849, .string t850] 38 (0, 0)) z29_ hb); have n4_ := Aside0.mk (below_step z48_ hb); clear HO833; clear HO844; clear BK841; clear BK852; clear HB; have HO833 := n0_; have HO844 := n1_; have BK841 := n2_; have BK852 := n3_; have HB := n4_; clear n0_ n1_ n2_ n3_ n4_; (try clear hb); (try clear hb2); (try clear hk); (try clear hi)))
      go_meet
      case rel => exact ⟨_, (true), z11_, H', ⟨by first | omega | exact Nat.le_refl _⟩, ⟨by (with_reducible repeat (first | apply Kd.R_alloc | apply Kd.R_drewN | apply Kd.R_drew)); exact Kd.R_mono HO844.out (fun _ hk => trivial)⟩, ⟨by (with_reducible repeat (first | refine blk_drewN ?_ _ | refine blk_drew ?_ | refine blk_alloc ?_ _)); exact BK841.out⟩, ⟨by (with_reducible repeat (first | refine blk_drewN ?_ _ | refine blk_drew ?_ | refine blk_alloc ?_ _)); exact BK852.out⟩, ⟨by repeat (first | (with_reducible first | exact HB.out | apply below_alloc | apply pw_below_drewN | apply below_drew1 | refine below_set ?_ GE841.out | refine below_set ?_ GE852.out) | exact HB.out)⟩⟩
    ·rw [if_neg c20] at H
     have c20b0 : (t846 == t835) = false := beq_eq_false_iff_ne.mpr c20
     have c20b1 : (t846 != t835) = true := bne_iff_ne.mpr c20
     have H' := Aside0.mk H
     clear H
     go_wp2
     go_meet
     case rel => exact ⟨_, (true), z11_, H', ⟨by first | omega | exact Nat.le_refl _⟩, ⟨by (with_reducible repeat (first | apply Kd.R_alloc | apply Kd.R_drewN | apply Kd.R_drew)); exact Kd.R_mono (Kd.R_far (p := ⟨gb852, 3, none⟩) (Kd.R_far (p := ⟨gb852, 2, none⟩) (Kd.R_far (p := ⟨gb852, 1, none⟩) (Kd.R_far (p := ⟨gb852, 0, none⟩) (Kd.R_types HO844.out BK852.out (by decide)) (fun _ hk => hk.2) (.int .i64 t847)) (fun _ hk => hk.2) (.int .i64 t848)) (fun _ hk => hk.2) (.int .i64 t849)) (fun _ hk => hk.2) (.string t850)) (fun _ hk => trivial)⟩, ⟨by (with_reducible repeat (first | refine blk_drewN ?_ _ | refine blk_drew ?_ | refine blk_alloc ?_ _)); refine blk_far ?_ NB841_852.out _; (with_reducible repeat (first | refine blk_drewN ?_ _ | refine blk_drew ?_ | refine blk_alloc ?_ _)); refine blk_far ?_ NB841_852.out _; (with_reducible repeat (first | refine blk_drewN ?_ _ | refine blk_drew ?_ | refine blk_alloc ?_ _)); refine blk_far ?_ NB841_852.out _; (with_reducible repeat (first | refine blk_drewN ?_ _ | refine blk_drew ?_ | refine blk_alloc ?_ _)); refine blk_far ?_ NB841_852.out _; (with_reducible repeat (first | refine blk_drewN ?_ _ | refine blk_drew ?_ | refine blk_alloc ?_ _)); exact BK841.out⟩, ⟨by (with_reducible repeat (first | refine blk_drewN ?_ _ | refine blk_drew ?_ | refine blk_alloc ?_ _)); refine blk_put (cs := #[.int .i64 t847, .int .i64 t848, .int .i64 t849, .string (⟨#[]⟩ : ByteArray)]) ?_ 3 _ rfl; (with_reducible repeat (first | refine blk_drewN ?_ _ | refine blk_drew ?_ | refine blk_alloc ?_ _)); refine blk_put (cs := #[.int .i64 t847, .int .i64 t848, .int .i64 0, .string (⟨#[]⟩ : ByteArray)]) ?_ 2 _ rfl; (with_reducible repeat (first | refine blk_drewN ?_ _ | refine blk_drew ?_ | refine blk_alloc ?_ _)); refine blk_put (cs := #[.int .i64 t847, .int .i64 0, .int .i64 0, .string (⟨#[]⟩ : ByteArray)]) ?_ 1 _ rfl; (with_reducible repeat (first | refine blk_drewN ?_ _ | refine blk_drew ?_ | refine blk_alloc ?_ _)); refine blk_put (cs := #[.int .i64 0, .int .i64 0, .int .i64 0, .string (⟨#[]⟩ : ByteArray)]) ?_ 0 _ rfl; (with_reducible repeat (first | refine blk_drewN ?_ _ | refine blk_drew ?_ | refine blk_alloc ?_ _)); exact BK852.out⟩, ⟨by repeat (first | (with_reducible first | exact HB.out | apply below_alloc | apply pw_below_drewN | apply below_drew1 | refine below_set ?_ GE841.out | refine below_set ?_ GE852.out) | exact HB.out)⟩⟩
   ·rw [if_neg c19] at H
    have c19b0 : (t845 == t834) = false := beq_eq_false_iff_ne.mpr c19
    have c19b1 : (t845 != t834) = true := bne_iff_ne.mpr c19
    (first | rw [c19b0] | (simp only [i64_w, i32_w]; rw [c19b0]) | skip)
    have H' := Aside0.mk H
    clear H
    go_wp2
    go_meet
    case rel => exact ⟨_, (true), z11_, H', ⟨by first | omega | exact Nat.le_refl _⟩, ⟨by (with_reducible repeat (first | apply Kd.R_alloc | apply Kd.R_drewN | apply Kd.R_drew)); exact Kd.R_mono (Kd.R_far (p := ⟨gb852, 3, none⟩) (Kd.R_far (p := ⟨gb852, 2, none⟩) (Kd.R_far (p := ⟨gb852, 1, none⟩) (Kd.R_far (p := ⟨gb852, 0, none⟩) (Kd.R_types HO844.out BK852.out (by decide)) (fun _ hk => hk.2) (.int .i64 t847)) (fun _ hk => hk.2) (.int .i64 t848)) (fun _ hk => hk.2) (.int .i64 t849)) (fun _ hk => hk.2) (.string t850)) (fun _ hk => trivial)⟩, ⟨by (with_reducible repeat (first | refine blk_drewN ?_ _ | refine blk_drew ?_ | refine blk_alloc ?_ _)); refine blk_far ?_ NB841_852.out _; (with_reducible repeat (first | refine blk_drewN ?_ _ | refine blk_drew ?_ | refine blk_alloc ?_ _)); refine blk_far ?_ NB841_852.out _; (with_reducible repeat (first | refine blk_drewN ?_ _ | refine blk_drew ?_ | refine blk_alloc ?_ _)); refine blk_far ?_ NB841_852.out _; (with_reducible repeat (first | refine blk_drewN ?_ _ | refine blk_drew ?_ | refine blk_alloc ?_ _)); refine blk_far ?_ NB841_852.out _; (with_reducible repeat (first | refine blk_drewN ?_ _ | refine blk_drew ?_ | refine blk_alloc ?_ _)); exact BK841.out⟩, ⟨by (with_reducible repeat (first | refine blk_drewN ?_ _ | refine blk_drew ?_ | refine blk_alloc ?_ _)); refine blk_put (cs := #[.int .i64 t847, .int .i64 t848, .int .i64 t849, .string (⟨#[]⟩ : ByteArray)]) ?_ 3 _ rfl; (with_reducible repeat (first | refine blk_drewN ?_ _ | refine blk_drew ?_ | refine blk_alloc ?_ _)); refine blk_put (cs := #[.int .i64 t847, .int .i64 t848, .int .i64 0, .string (⟨#[]⟩ : ByteArray)]) ?_ 2 _ rfl; (with_reducible repeat (first | refine blk_drewN ?_ _ | refine blk_drew ?_ | refine blk_alloc ?_ _)); refine blk_put (cs := #[.int .i64 t847, .int .i64 0, .int .i64 0, .string (⟨#[]⟩ : ByteArray)]) ?_ 1 _ rfl; (with_reducible repeat (first | refine blk_drewN ?_ _ | refine blk_drew ?_ | refine blk_alloc ?_ _)); refine blk_put (cs := #[.int .i64 0, .int .i64 0, .int .i64 0, .string (⟨#[]⟩ : ByteArray)]) ?_ 0 _ rfl; (with_reducible repeat (first | refine blk_drewN ?_ _ | refine blk_drew ?_ | refine blk_alloc ?_ _)); exact BK852.out⟩, ⟨by repeat (first | (with_reducible first | exact HB.out | apply below_alloc | apply pw_below_drewN | apply below_drew1 | refine below_set ?_ GE841.out | refine below_set ?_ GE852.out) | exact HB.out)⟩⟩
  case rest =>
   clear HC7
   try clear c1
   try clear c2
   try clear c2b0
   try clear c2b1
   try clear p2
   try clear c3
   try clear c7
   try clear c17
   try clear c19
   try clear c19b0
   try clear c19b1
   try clear c20
   try clear c20b0
   try clear c20b1
   try clear c22
   try clear c23
   try clear c27
   try clear hcz12_0
   try clear hcz12_1
   try clear hcz12_2
   try clear hcz12_3
   try clear hcz18_0
   try clear hcz18_1
   try clear hcz18_2
   try clear hcz18_3
   try clear hcz24_0
   try clear hcz24_1
   try clear hcz24_2
   try clear hcz24_3
   try clear hcz25_0
   try clear hcz25_1
   try clear hcz25_2
   try clear hcz25_3
   try clear hcz28_0
   try clear hcz28_1
   try clear hcz28_2
   try clear hcz28_3
   try clear hcz29_0
   try clear hcz29_1
   try clear hcz29_2
   try clear hcz29_3
   try clear hfz12_0
   try clear hfz12_1
   try clear hfz12_2
   try clear hfz12_3
   try clear hfz18_0
   try clear hfz18_1
   try clear hfz18_2
   try clear hfz18_3
   try clear hfz24_0
   try clear hfz24_1
   try clear hfz24_2
   try clear hfz24_3
   try clear hfz25_0
   try clear hfz25_1
   try clear hfz25_2
   try clear hfz25_3
   try clear hfz28_0
   try clear hfz28_1
   try clear hfz28_2
   try clear hfz28_3
   try clear hfz29_0
   try clear hfz29_1
   try clear hfz29_2
   try clear hfz29_3
   obtain ⟨kq, x50_6, rfl, HA, HJ6, HO_7, BK841, BK852, HB⟩ := hcut
   cases kq with
   | zero => exact absurd HA.out (by simp [laws_FnExactGetRec.j0])
   | succ kj6 =>
    have H := HA.out
    clear HA
    simp only [laws_FnExactGetRec.j0] at H
    by_cases c31 : x50_6 = true
    ·subst c31
     have H1 : (some false) = some r := by rw [if_pos rfl] at H; exact H
     clear H
     have H := H1
     clear H1
     exact absurd ((Option.some.inj H).trans hr_.out) (by decide)
    ·replace c31 := Bool.eq_false_iff.mpr c31
     subst c31
     have H1 : ((laws_toByteS.f kj6 l0).bind fun t854 => ((laws_eqByteS.f kj6 t842 t854).bind fun t857 => (if t857 = true then (some true) else (some false)))) = some r := by rw [if_neg (show ¬ (false = true) by decide)] at H; exact H
     clear H
     have H := H1
     clear H1
     replace H := Option.bind_eq_some_iff.mp H
     obtain ⟨t854, A320, H⟩ := H
     replace H : ((laws_eqByteS.f kj6 t842 t854).bind fun t857 => (if t857 = true then (some true) else (some false))) = some r := H
     have A32 := Aside0.mk A320
     clear A320
     replace H := Option.bind_eq_some_iff.mp H
     obtain ⟨t857, A330, H⟩ := H
     replace H : (if t857 = true then (some true) else (some false)) = some r := H
     have A33 := Aside0.mk A330
     clear A330
     by_cases c34 : t857 = true
     ·subst c34
      have H1 : (some true) = some r := by rw [if_pos rfl] at H; exact H
      clear H
      have H := H1
      clear H1
      obtain rfl := Option.some.inj H
      go_wp2_with (first | ((with_reducible refine gate_callee (f := 37) rfl ?_); refine goesL_ (some 53) rfl rfl Tryd.func37 (by kernel_rfl) rfl #[.slice A0 l0.length c0] rfl z1_ ?_; (with_reducible refine (laws_toByteS.calls kj6 _ _ l0 t854 _ ?side1 ?side2 A32.out).mono ?_); (case side1 => repeat (first | exact (Kd.C_below HR0.out HB.out) | (with_reducible refine Kd.C_alloc ?_ _) | (with_reducible refine Kd.C_drewN ?_ _) | (with_reducible refine Kd.C_drew ?_))); (case side2 => exact HC0.out); rintro e w35 ⟨v855, rfl, ho0, hb⟩; refine ⟨_, rfl, ?_⟩; have n0_ := Aside0.mk (Kd.R_elder' z54_ (Kd.R_base ho0) hb); have n1_ := Aside0.mk (Kd.R_lower (Kd.R_new' ho0 (Kd.R_lt z54_)) (below_size z48_)); have n2_ := Aside0.mk (blk_below (g := gb841) (o := .cells #[.int .i64 t836, .int .i64 t837, .int .i64 t838, .string t839] 38 (0, 0)) z57_ hb); have n3_ := Aside0.mk (blk_below (g := gb852) (o := .cells #[.int .i64 t847, .int .i64 t848, .int .i64 t849, .string t850] 38 (0, 0)) (by (with_reducible repeat (first | refine blk_drewN ?_ _ | refine blk_drew ?_ | refine blk_alloc ?_ _)); exact BK852.out) hb); have n4_ := Aside0.mk (below_step z48_ hb); clear HO_7; clear BK841; clear BK852; clear HB; have HO_7 := n0_; have HO856 := n1_; have BK841 := n2_; have BK852 := n3_; have HB := n4_; clear n0_ n1_ n2_ n3_ n4_; (try clear hb); (try clear hb2); (try clear hk); (try clear hi); (try clear ho0); obtain ⟨Ao36, co36, eo36⟩ := Kd.R_slice HO856.out; subst eo36) | ((with_reducible refine gate_callee (f := 23) rfl ?_); refine goesL_ (some 54) rfl rfl Tryd.func23 (by kernel_rfl) rfl #[.slice Ao14 t842.length co14, .slice Ao36 t854.length co36] rfl z1_ ?_; (with_reducible refine (laws_eqByteS.calls kj6 _ _ t842 _ _ t854 true _ ?side1 ?side2 ?side3 ?side4 A33.out).mono ?_); (case side1 => repeat (first | exact (Kd.R_reads' HO_7.out).2.2 | (with_reducible refine Kd.C_alloc ?_ _) | (with_reducible refine Kd.C_drewN ?_ _) | (with_reducible refine Kd.C_drew ?_))); (case side2 => exact (Kd.R_reads' HO_7.out).2.1); (case side3 => repeat (first | exact (Kd.R_reads' HO856.out).2.2 | (with_reducible refine Kd.C_alloc ?_ _) | (with_reducible refine Kd.C_drewN ?_ _) | (with_reducible refine Kd.C_drew ?_))); (case side4 => exact (Kd.R_reads' HO856.out).2.1); rintro e w' ⟨rfl, ⟨nd, rfl⟩⟩; refine ⟨_, rfl, ?_⟩))
      go_ret
      exact ⟨by first | rfl | (simp [errW_none, errW_some] <;> rfl) | (simp [*, errW_none, errW_some] <;> rfl), by repeat (first | (with_reducible first | exact HB.out | apply below_alloc | apply pw_below_drewN | apply below_drew1 | refine below_set ?_ GE841.out | refine below_set ?_ GE852.out) | exact HB.out)⟩
     ·replace c34 := Bool.eq_false_iff.mpr c34
      subst c34
      have H1 : (some false) = some r := by rw [if_neg (show ¬ (false = true) by decide)] at H; exact H
      clear H
      have H := H1
      clear H1
      exact absurd ((Option.some.inj H).trans hr_.out) (by decide)

/-- THE ONE PURE STATEMENT of laws_FnExactGetRec: yours. -/
theorem laws_FnExactGetRec.walk (P : laws_FnExactGetRec.Pure) (a0 : Option Addr) (len0 cap0 : Nat) (z0 : List Int) (w : World) (hgw : GW w) (w0 : (a0 = none ∧ len0 = 0 ∧ cap0 = 0 ∧ z0 = []) ∨ ∃ x, a0 = some x ∧ len0 ≤ cap0 ∧ cap0 ≤ maxLen ∧ z0.length = cap0 ∧ (∀ i, i < z0.length → w.cell? (x.add i) = some (.int .u8 (z0.getD i 0))) ∧ ∀ n ∈ z0, (Lit.int .u8 n).wf = true) (y0 : len0 * 1 ≤ 140737488351232) :
  Calls Tryd.prog 7 #[.slice a0 len0 cap0] w fun e w' => e = .returned (.bool true) ∧ Below w.heap.size w w' := by
 obtain ⟨l0, rfl, hr0, hm0, hw0, hc0⟩ := ReadsInt.ofRowC w0
 obtain ⟨k, h⟩ := P l0 hm0 y0 hw0
 refine (laws_FnExactGetRec.calls k _ _ l0 true w hgw (Kd.C_of_reads (d := (0 : Int)) (h1 := fun _ => rfl) hr0) hc0 ⟨rfl⟩ h).mono ?_
 rintro e w' ⟨rfl, hd⟩
 exact ⟨rfl, hd⟩

end Go.Proofs.YthkepmicdpgbbaaDoor.P

/- Plain words that all further texts of this seat use: rounds of printed functions ('Ev'), whole numbers without wrap, bytes. No program is in sight here. -/
namespace Go.Proofs.YthkepmicdpgbbaaDoor.Base
set_option linter.unusedVariables false
set_option linter.unusedSimpArgs false
open Go.RowKit Go.Proofs.YthkepmicdpgbbaaDoorW.PrintWords

/-! ### rounds -/
section
variable {α β : Type} {c : Prop} [Decidable c] {f g : Nat → Option α} {r : α}
theorem Ev.pos (h : c) (k : Ev f r) : Ev (fun n => if c then f n else g n) r := by
  obtain ⟨K, hK⟩ := k
  exact ⟨K, fun n hn => (if_pos h).trans (hK n hn)⟩
theorem Ev.neg (h : ¬ c) (k : Ev g r) : Ev (fun n => if c then f n else g n) r := by
  obtain ⟨K, hK⟩ := k
  exact ⟨K, fun n hn => (if_neg h).trans (hK n hn)⟩
theorem Ev.done {a : α} (h : a = r) : Ev (fun _ => some a) r := ⟨0, fun _ _ => by rw [h]⟩
theorem Ev.then {x : Option β} {a : β} {h : Nat → β → Option α} (e : x = some a) (k : Ev (fun n => h n a) r) : Ev (fun n => x.bind (h n)) r := by
  subst e
  exact k
theorem Ev.all {k : Nat} (h : Ev f r) : ∃ n, k ≤ n ∧ f n = some r := by
  obtain ⟨K, hK⟩ := h
  exact ⟨max K k, Nat.le_max_right _ _, hK _ (Nat.le_max_left _ _)⟩
theorem Ev.eq {r' : α} (h : Ev f r) (e : r = r') : Ev f r' := e ▸ h
end

/-! ### whole numbers -/
theorem w64 {n : Int} (h : -9223372036854775808 ≤ n) (h' : n ≤ 9223372036854775807) : wrap64 n = n := by unfold wrap64; omega
theorem wf_u8 {x : Int} (h : (Lit.int .u8 x).wf = true) : 0 ≤ x ∧ x ≤ 255 := by
  simpa [Lit.wf, IntKind.min, IntKind.max, IntKind.bits, IntKind.signed] using h

/-! ### bytes -/
def Bytes (l : List Int) : Prop := ∀ x ∈ l, 0 ≤ x ∧ x ≤ 255
theorem Bytes.of_wf {l : List Int} (h : ∀ x ∈ l, (Lit.int .u8 x).wf = true) : Bytes l := fun x hx => wf_u8 (h x hx)
theorem Bytes.nil : Bytes [] := fun _ h => by cases h
theorem Bytes.append {l m : List Int} (h : Bytes l) (k : Bytes m) : Bytes (l ++ m) := fun x hx => (List.mem_append.1 hx).elim (h x) (k x)
theorem Bytes.cons {a : Int} {l : List Int} (ha : 0 ≤ a ∧ a ≤ 255) (h : Bytes l) : Bytes (a :: l) := fun x hx => (List.mem_cons.1 hx).elim (fun e => e ▸ ha) (h x)
theorem Bytes.take {l : List Int} (h : Bytes l) (n : Nat) : Bytes (l.take n) := fun x hx => h x (List.mem_of_mem_take hx)
theorem Bytes.drop {l : List Int} (h : Bytes l) (n : Nat) : Bytes (l.drop n) := fun x hx => h x (List.mem_of_mem_drop hx)
theorem rd_byte {l : List Int} (h : Bytes l) (i : Int) : 0 ≤ rd l i ∧ rd l i ≤ 255 := by
  unfold rd
  rw [List.getD_eq_getElem?_getD]
  by_cases hi : i.toNat < l.length
  · rw [List.getElem?_eq_getElem hi]
    exact h _ (List.getElem_mem hi)
  · rw [List.getElem?_eq_none (by omega)]
    exact ⟨by decide, by decide⟩
theorem w64_byte {l : List Int} (h : Bytes l) (i : Int) : wrap64 (rd l i) = rd l i := by
  obtain ⟨a, b⟩ := rd_byte h i
  exact w64 (by omega) (by omega)
theorem bt_byte (s : ByteArray) (i : Int) : 0 ≤ bt s i ∧ bt s i ≤ 255 := by
  unfold bt
  split
  · rename_i h
    have := (s[i.toNat]'h).toNat_lt
    omega
  · exact ⟨by decide, by decide⟩

/-! ### equality, and lists by their elements -/
noncomputable def eqB {α : Type} (x y : α) : Bool := @decide (x = y) (Classical.propDecidable _)
theorem eqB_iff {α : Type} {x y : α} : eqB x y = true ↔ x = y := by unfold eqB; simp
theorem eqB_same {α : Type} (x : α) : eqB x x = true := eqB_iff.2 rfl
theorem eqB_not {α : Type} {x y : α} (h : x ≠ y) : eqB x y = false := by rw [← Bool.not_eq_true, eqB_iff]; exact h
theorem text_inj {s t : ByteArray} (h : s.toList = t.toList) : s = t := by
  rw [ByteArray.toList_eq, ByteArray.toList_eq] at h
  exact WideShapes.bytes_inj h
theorem text_nil {s : ByteArray} : s.toList = [] ↔ s = ⟨#[]⟩ := ⟨fun h => text_inj (h.trans (by rw [ByteArray.toList_eq])), fun h => by rw [h, ByteArray.toList_eq]⟩
theorem cast_succ (i : Nat) : ((i : Int) + 1) = ((i + 1 : Nat) : Int) := rfl
theorem set_take {α : Type} {o t : List α} {i : Nat} {x : α} (ho : o.length = t.length) (hi : i < t.length) (ht : o.take i = t.take i) (hx : x = t[i]) : (o.set i x).take (i + 1) = t.take (i + 1) := by
  rw [List.take_succ_eq_append_getElem (by rw [List.length_set]; omega), List.take_succ_eq_append_getElem hi, List.getElem_set_self, hx, List.take_set_of_le (Nat.le_refl i), ht]
theorem take_all {α : Type} {o t : List α} {i : Nat} (ho : o.length = t.length) (hi : i = t.length) (ht : o.take i = t.take i) : o = t := by
  rw [List.take_of_length_le (by omega), List.take_of_length_le (by omega)] at ht
  exact ht
theorem getD_nat {α : Type} (l : List α) (d : α) {i : Nat} (h : i < l.length) : l.getD ((i : Int)).toNat d = l[i] := by
  rw [Int.toNat_natCast, List.getD_eq_getElem?_getD, List.getElem?_eq_getElem h]; rfl
theorem rd_getElem {l : List Int} {i : Nat} (h : i < l.length) : rd l (i : Int) = l[i] := getD_nat l 0 h
theorem drop_rd {l : List Int} {i : Nat} (h : i < l.length) : l.drop i = rd l (i : Int) :: l.drop (i + 1) := by
  rw [rd_getElem h]; exact List.drop_eq_getElem_cons h
theorem size_append (s t : ByteArray) : (s ++ t).size = s.size + t.size := by simp
theorem size_strOfNums (l : List Int) : (strOfNums l).size = l.length := by
  unfold strOfNums
  rw [ByteArray.size]
  simp
theorem bytesOf_strOfNums {l : List Int} (h : Bytes l) : bytesOf (strOfNums l) = l := by
  unfold bytesOf strOfNums
  simp only [List.map_map]
  refine (List.map_congr_left (g := id) fun x hx => ?_).trans (List.map_id _)
  have := h x hx
  simp only [Function.comp_apply, id_eq, UInt8.toNat_ofNat']
  omega
theorem strOfNums_inj {l m : List Int} (hl : Bytes l) (hm : Bytes m) : (strOfNums l).toList = (strOfNums m).toList ↔ l = m :=
  ⟨fun h => by rw [← bytesOf_strOfNums hl, ← bytesOf_strOfNums hm, text_inj h], fun h => by rw [h]⟩
theorem bytesOf_bytes (s : ByteArray) : Bytes (bytesOf s) := by
  intro x hx
  unfold bytesOf at hx
  obtain ⟨b, _, rfl⟩ := List.mem_map.1 hx
  have := b.toNat_lt
  omega
end Go.Proofs.YthkepmicdpgbbaaDoor.Base

/- The checksum as a function on natural numbers, and that a changed byte changes it. Plain arithmetic: no program is in sight here. -/
namespace Go.Proofs.YthkepmicdpgbbaaDoor.Crc
set_option linter.unusedVariables false
set_option linter.unusedSimpArgs false

def bit (s : Nat) : Nat := if 2 * s > 65535 then (2 * s) ^^^ 69665 else 2 * s
def bits (s : Nat) : Nat → Nat
  | 0 => s
  | k + 1 => bits (bit s) k
@[irreducible] def byte (s x : Nat) : Nat := bits (s ^^^ (256 * x)) 8
def sum : Nat → List Int → Nat
  | s, [] => s
  | s, x :: xs => sum (byte s x.toNat) xs

theorem sum_cons (s : Nat) (x : Int) (xs : List Int) : sum s (x :: xs) = sum (byte s x.toNat) xs := by rw [sum]
theorem bit_lt {s : Nat} (h : s < 65536) : bit s < 65536 := by
  unfold bit
  split
  · have e : ((2 * s) ^^^ 69665) / 2 ^ 16 = (2 * s) / 2 ^ 16 ^^^ 69665 / 2 ^ 16 := Nat.xor_div_two_pow
    have e1 : (2 * s) / 2 ^ 16 = 1 := by omega
    rw [e1] at e
    have e2 : (1 : Nat) ^^^ 69665 / 2 ^ 16 = 0 := by decide
    rw [e2] at e
    omega
  · omega
theorem bits_lt {s : Nat} (h : s < 65536) (k : Nat) : bits s k < 65536 := by
  induction k generalizing s with
  | zero => exact h
  | succ k ih => exact ih (bit_lt h)
theorem byte_def (s x : Nat) : bits (s ^^^ (256 * x)) 8 = byte s x := by unfold byte; rfl
theorem byte_lt {s x : Nat} (h : s < 65536) (hx : x ≤ 255) : byte s x < 65536 := by
  unfold byte
  have h2 : s ^^^ (256 * x) < 65536 := Nat.xor_lt_two_pow (n := 16) h (by omega)
  generalize s ^^^ (256 * x) = y at h2
  exact bits_lt h2 _
end Go.Proofs.YthkepmicdpgbbaaDoor.Crc

/- What the printed functions on bytes, words and texts come to: the laws' own copies, marks and comparisons, and the functions of the first chapter. No memory is in sight here. -/
namespace Go.Proofs.YthkepmicdpgbbaaDoor.Fn
set_option linter.unusedVariables false
set_option linter.unusedSimpArgs false
open Go.RowKit Go.Proofs.YthkepmicdpgbbaaDoorW.PrintWords Go.Proofs.YthkepmicdpgbbaaDoor.P Go.Proofs.YthkepmicdpgbbaaDoor.Base

/-! ### copies -/
theorem toByteS_l0 (l : List Int) (hl : l.length ≤ 140737488351232) (d : Nat) : ∀ (i : Nat) (o : List Int), i + d = l.length → o.length = l.length → o.take i = l.take i → Ev (fun k => laws_toByteS.l0 k l o (i : Int)) l := by
  induction d with
  | zero =>
    intro i o hi ho ht
    refine Ev.step (fun k => laws_toByteS.l0.eq_2 _ _ _ k) (Ev.neg (by omega) (Ev.done ?_))
    exact take_all ho (by omega) ht
  | succ d ih =>
    intro i o hi ho ht
    refine Ev.step (fun k => laws_toByteS.l0.eq_2 _ _ _ k) (Ev.pos (by omega) (Ev.pos (by omega) (Ev.pos (by omega) ?_)))
    rw [w64 (by omega) (by omega), cast_succ, Int.toNat_natCast]
    exact ih (i + 1) _ (by omega) (by rw [List.length_set]; exact ho) (set_take ho (by omega) ht (rd_getElem (by omega)))
theorem toByteS (l : List Int) (hl : l.length ≤ 140737488351232) : Ev (fun k => laws_toByteS.f k l) l := by
  unfold laws_toByteS.f
  refine Ev.pos (by omega) (Ev.pos (by omega) ?_)
  rw [Int.toNat_natCast]
  exact toByteS_l0 l hl l.length 0 _ (by omega) (by simp) (by simp)

/-! ### comparisons -/
theorem eqByteS_l0 (l m : List Int) (hl : l.length ≤ 140737488351232) (hm : l.length = m.length) (d : Nat) : ∀ (i : Nat), i + d = l.length → Ev (fun k => laws_eqByteS.l0 k l m (i : Int)) (decide (l.drop i = m.drop i)) := by
  induction d with
  | zero =>
    intro i hi
    refine Ev.step (fun k => laws_eqByteS.l0.eq_2 _ _ _ k) (Ev.neg (by omega) (Ev.done ?_))
    rw [List.drop_of_length_le (by omega), List.drop_of_length_le (by omega)]; simp
  | succ d ih =>
    intro i hi
    refine Ev.step (fun k => laws_eqByteS.l0.eq_2 _ _ _ k) (Ev.pos (by omega) (Ev.pos (by omega) (Ev.pos (by omega) ?_)))
    rw [drop_rd (by omega), drop_rd (l := m) (by omega), w64 (by omega) (by omega), cast_succ]
    by_cases h : rd l (i : Int) = rd m (i : Int)
    · refine Ev.pos h (Ev.eq (ih (i + 1) (by omega)) ?_)
      simp [h]
    · exact Ev.neg h (Ev.done (by simp [h]))
theorem eqByteS (l m : List Int) (hl : l.length ≤ 140737488351232) : Ev (fun k => laws_eqByteS.f k l m) (decide (l = m)) := by
  unfold laws_eqByteS.f
  by_cases h : l.length = m.length
  · exact Ev.pos (by omega) (eqByteS_l0 l m hl h l.length 0 (by omega))
  · exact Ev.neg (by omega) (Ev.done (by simp; intro e; exact h (by rw [e])))
theorem eqByteS_same (l : List Int) (hl : l.length ≤ 140737488351232) : Ev (fun k => laws_eqByteS.f k l l) true := Ev.eq (eqByteS l l hl) (by simp)

/-! ### marks -/

/-! ### ranges and words -/
theorem isIn (a b c : Int) : impl_isIn.f a b c = some (decide (b ≤ a ∧ a ≤ c)) := by
  unfold impl_isIn.f
  by_cases h : b ≤ a
  · rw [if_pos h]; simp [h]
  · rw [if_neg h]; simp [h]
theorem l1In (a b c : Int) : spec_l1In.f a b c = some (decide (b ≤ a ∧ a ≤ c)) := by
  unfold spec_l1In.f
  by_cases h : a ≥ b
  · rw [if_pos h]; simp; omega
  · rw [if_neg h]; simp; omega
theorem wraps_i64 : ∀ n : Int, 0 ≤ n → n < 2 ^ 63 → IntKind.i64.wrap n = n := fun n h h' => by
  rw [IntKind.wrap_i64]; omega
theorem or_word {x y : Int} (hx : 0 ≤ x ∧ x ≤ 255) (hy : 0 ≤ y ∧ y ≤ 255) : Go.bits .or .i64 (x * 256) y = x * 256 + y :=
  Go.bits_join .i64 63 (by decide) wraps_i64 8 (x * 256) y (by omega) (by omega) (by omega) (by omega) (by omega) (by omega)
/-- The word at an offset. -/
def word (l : List Int) (a : Int) : Int × Int × Bool := if a < 0 ∨ (l.length : Int) - 2 < a then (0, 0, false) else (rd l a * 256 + rd l (a + 1), a + 2, true)
theorem spec_getWord (l : List Int) (a : Int) (hb : Bytes l) (hl : l.length ≤ 140737488351232) : spec_GetWord.f l a = some (word l a) := by
  unfold spec_GetWord.f word
  by_cases h0 : a < 0
  · rw [if_pos h0, if_pos (.inl h0)]
  rw [if_neg h0, w64 (n := (l.length : Int) - 2) (by omega) (by omega)]
  by_cases h1 : a > (l.length : Int) - 2
  · rw [if_pos h1, if_pos (.inr h1)]
  have r0 := rd_byte hb a
  have r1 := rd_byte hb (a + 1)
  rw [if_neg h1, if_neg (show ¬ (a < 0 ∨ (l.length : Int) - 2 < a) by omega), if_pos (by omega), if_pos (by omega), w64 (n := a + 1) (by omega) (by omega), if_pos (by omega), if_pos (by omega), w64_byte hb, w64_byte hb, w64 (n := rd l a * 256) (by omega) (by omega), w64 (n := rd l a * 256 + rd l (a + 1)) (by omega) (by omega), w64 (by omega) (by omega)]
theorem impl_getWord (l : List Int) (a : Int) (hb : Bytes l) (hl : l.length ≤ 140737488351232) : impl_GetWord.f l a = some (word l a) := by
  unfold impl_GetWord.f word
  rw [isIn, w64 (n := (l.length : Int) - 2) (by omega) (by omega)]
  simp only [Option.bind_some, decide_eq_true_eq]
  by_cases h : 0 ≤ a ∧ a ≤ (l.length : Int) - 2
  · have r0 := rd_byte hb a
    have r1 := rd_byte hb (a + 1)
    rw [if_pos h, if_neg (show ¬ (a < 0 ∨ (l.length : Int) - 2 < a) by omega), if_pos (by omega), if_pos (by omega), w64 (n := a + 1) (by omega) (by omega), if_pos (by omega), if_pos (by omega), w64_byte hb, w64_byte hb, w64 (n := rd l a * 256) (by omega) (by omega), or_word r0 r1, w64 (by omega) (by omega)]
  · rw [if_neg h, if_pos (by omega)]
end Go.Proofs.YthkepmicdpgbbaaDoor.Fn

/- Plain words on lists by their elements. No program is in sight here. -/
namespace Go.Proofs.YthkepmicdpgbbaaDoor.Fn
set_option linter.unusedVariables false
set_option linter.unusedSimpArgs false
open Go.RowKit Go.Proofs.YthkepmicdpgbbaaDoorW.PrintWords Go.Proofs.YthkepmicdpgbbaaDoor.Base

theorem drop_get {α : Type} (l : List α) (d : α) {i : Nat} (h : i < l.length) : l.drop i = l.getD ((i : Int)).toNat d :: l.drop (i + 1) := by
  rw [getD_nat l d h]; exact List.drop_eq_getElem_cons h
end Go.Proofs.YthkepmicdpgbbaaDoor.Fn

/- What the printed functions that copy, size and compare databases come to. No memory is in sight here. -/
namespace Go.Proofs.YthkepmicdpgbbaaDoor.Fn
set_option linter.unusedVariables false
set_option linter.unusedSimpArgs false
open Go.RowKit Go.Proofs.YthkepmicdpgbbaaDoorW.PrintWords Go.Proofs.YthkepmicdpgbbaaDoor.P Go.Proofs.YthkepmicdpgbbaaDoor.Base

abbrev Db := S55
/-! ### sizes: 'left' only falls, and is not below 0 where it counts -/
end Go.Proofs.YthkepmicdpgbbaaDoor.Fn

/- What the printed functions that test texts come to. No memory is in sight here. -/
namespace Go.Proofs.YthkepmicdpgbbaaDoor.Fn
set_option linter.unusedVariables false
set_option linter.unusedSimpArgs false
open Go.RowKit Go.Proofs.YthkepmicdpgbbaaDoorW.PrintWords Go.Proofs.YthkepmicdpgbbaaDoor.P Go.Proofs.YthkepmicdpgbbaaDoor.Base

/-! ### texts -/
def textOk (s : ByteArray) : Bool := decide (s.size ≤ 100) && decide (∀ i : Nat, i < s.size → 32 ≤ bt s (i : Int) ∧ bt s (i : Int) ≤ 126)
theorem textOk_iff (s : ByteArray) : textOk s = true ↔ s.size ≤ 100 ∧ ∀ i : Nat, i < s.size → 32 ≤ bt s (i : Int) ∧ bt s (i : Int) ≤ 126 := by simp [textOk]
theorem textOk_false {s : ByteArray} {i : Nat} (hi : i < s.size) (h : bt s (i : Int) < 32 ∨ 126 < bt s (i : Int)) : textOk s = false := by
  rw [← Bool.not_eq_true, textOk_iff]
  rintro ⟨_, a⟩
  have := a i hi
  omega
theorem textOk_long {s : ByteArray} (h : 100 < s.size) : textOk s = false := by
  rw [← Bool.not_eq_true, textOk_iff]
  rintro ⟨a, _⟩
  omega
theorem textOk_all {s : ByteArray} (hp : ∀ j : Nat, j < s.size → 32 ≤ bt s (j : Int) ∧ bt s (j : Int) ≤ 126) : decide ((s.size : Int) ≤ 100) = textOk s := by
  rw [Bool.eq_iff_iff, textOk_iff, decide_eq_true_eq]
  exact ⟨fun h => ⟨by omega, hp⟩, fun h => by omega⟩
theorem impl_TextOk_l0 (s : ByteArray) (hs : s.size ≤ 9223372036854775807) (d : Nat) : ∀ (i : Nat), i + d = s.size → (∀ j : Nat, j < i → 32 ≤ bt s (j : Int) ∧ bt s (j : Int) ≤ 126) → Ev (fun k => impl_TextOk.l0 k s (s.size : Int) (i : Int)) (textOk s) := by
  induction d with
  | zero =>
    intro i hi hp
    obtain rfl : i = s.size := by omega
    exact Ev.step (fun k => impl_TextOk.l0.eq_2 _ _ _ k) (Ev.neg (by omega) (Ev.done (textOk_all hp)))
  | succ d ih =>
    intro i hi hp
    refine Ev.step (fun k => impl_TextOk.l0.eq_2 _ _ _ k) (Ev.pos (by omega) (Ev.pos (by omega) (Ev.pos (by omega) ?_)))
    by_cases h1 : bt s (i : Int) < 32
    · exact Ev.pos h1 (Ev.done (textOk_false (by omega) (.inl h1)).symm)
    · refine Ev.neg h1 ?_
      by_cases h2 : bt s (i : Int) > 126
      · exact Ev.pos h2 (Ev.done (textOk_false (by omega) (.inr h2)).symm)
      · refine Ev.neg h2 ?_
        rw [w64 (by omega) (by omega), cast_succ]
        refine ih (i + 1) (by omega) (fun j hj => ?_)
        rcases Nat.lt_or_ge j i with hj' | hj'
        · exact hp j hj'
        · obtain rfl : j = i := by omega
          omega
theorem impl_textOk (s : ByteArray) (hs : s.size ≤ 9223372036854775807) : Ev (fun k => impl_TextOk.f k s) (textOk s) := by
  unfold impl_TextOk.f
  exact impl_TextOk_l0 s hs s.size 0 (by omega) (fun j hj => by omega)
theorem spec_TextOk_l0 (s : ByteArray) (hs : s.size ≤ 9223372036854775807) (d : Nat) : ∀ (i : Nat), i + d = s.size → i ≤ 101 → (∀ j : Nat, j < i → 32 ≤ bt s (j : Int) ∧ bt s (j : Int) ≤ 126) → Ev (fun k => spec_TextOk.l0 k s (i : Int)) (textOk s) := by
  induction d with
  | zero =>
    intro i hi hm hp
    obtain rfl : i = s.size := by omega
    exact Ev.step (fun k => spec_TextOk.l0.eq_2 _ _ k) (Ev.neg (by omega) (Ev.step (fun k => spec_TextOk.j1.eq_2 _ _ _ k) (Ev.neg (by decide) (Ev.done (textOk_all hp)))))
  | succ d ih =>
    intro i hi hm hp
    refine Ev.step (fun k => spec_TextOk.l0.eq_2 _ _ k) (Ev.pos (by omega) (Ev.step (fun k => spec_TextOk.j1.eq_2 _ _ _ k) ?_))
    by_cases h0 : i = 101
    · refine Ev.neg (by simp; omega) (Ev.done ?_)
      rw [textOk_long (by omega)]
      simp
      omega
    refine Ev.pos (by simp; omega) (Ev.pos (by omega) (Ev.pos (by omega) ?_))
    by_cases h1 : bt s (i : Int) < 32
    · exact Ev.pos h1 (Ev.done (textOk_false (by omega) (.inl h1)).symm)
    · refine Ev.neg h1 ?_
      by_cases h2 : bt s (i : Int) > 126
      · exact Ev.pos h2 (Ev.done (textOk_false (by omega) (.inr h2)).symm)
      · refine Ev.neg h2 ?_
        rw [w64 (by omega) (by omega), cast_succ]
        refine ih (i + 1) (by omega) (by omega) (fun j hj => ?_)
        rcases Nat.lt_or_ge j i with hj' | hj'
        · exact hp j hj'
        · obtain rfl : j = i := by omega
          omega
theorem spec_textOk (s : ByteArray) (hs : s.size ≤ 9223372036854775807) : Ev (fun k => spec_TextOk.f k s) (textOk s) := by
  unfold spec_TextOk.f
  exact spec_TextOk_l0 s hs s.size 0 (by omega) (by omega) (fun j hj => by omega)

end Go.Proofs.YthkepmicdpgbbaaDoor.Fn

/- What the printed functions on frames come to. No memory is in sight here. -/
namespace Go.Proofs.YthkepmicdpgbbaaDoor.Fn
set_option linter.unusedVariables false
set_option linter.unusedSimpArgs false
open Go.RowKit Go.Proofs.YthkepmicdpgbbaaDoorW.PrintWords Go.Proofs.YthkepmicdpgbbaaDoor.P Go.Proofs.YthkepmicdpgbbaaDoor.Base

/-! ### names -/
def nameOk (s : ByteArray) : Bool := decide (1 ≤ s.size ∧ s.size ≤ 8) && decide (∀ i : Nat, i < s.size → 97 ≤ bt s (i : Int) ∧ bt s (i : Int) ≤ 122)
theorem nameOk_iff (s : ByteArray) : nameOk s = true ↔ (1 ≤ s.size ∧ s.size ≤ 8) ∧ ∀ i : Nat, i < s.size → 97 ≤ bt s (i : Int) ∧ bt s (i : Int) ≤ 122 := by simp [nameOk]
theorem nameOk_false {s : ByteArray} {i : Nat} (hi : i < s.size) (h : bt s (i : Int) < 97 ∨ 122 < bt s (i : Int)) : nameOk s = false := by
  rw [← Bool.not_eq_true, nameOk_iff]
  rintro ⟨_, a⟩
  have := a i hi
  omega
theorem nameOk_all {s : ByteArray} (hp : ∀ j : Nat, j < s.size → 97 ≤ bt s (j : Int) ∧ bt s (j : Int) ≤ 122) : decide ((1 : Int) ≤ (s.size : Int) ∧ (s.size : Int) ≤ 8) = nameOk s := by
  rw [Bool.eq_iff_iff, nameOk_iff, decide_eq_true_eq]
  exact ⟨fun h => ⟨by omega, hp⟩, fun h => by omega⟩
theorem impl_nameOk_l0 (s : ByteArray) (hs : s.size ≤ 9223372036854775807) (d : Nat) : ∀ (i : Nat), i + d = s.size → (∀ j : Nat, j < i → 97 ≤ bt s (j : Int) ∧ bt s (j : Int) ≤ 122) → Ev (fun k => impl_nameOk.l0 k s (s.size : Int) (i : Int)) (nameOk s) := by
  induction d with
  | zero =>
    intro i hi hp
    obtain rfl : i = s.size := by omega
    exact Ev.step (fun k => impl_nameOk.l0.eq_2 _ _ _ k) (Ev.neg (by omega) (Ev.then (isIn _ _ _) (Ev.done (nameOk_all hp))))
  | succ d ih =>
    intro i hi hp
    refine Ev.step (fun k => impl_nameOk.l0.eq_2 _ _ _ k) (Ev.pos (by omega) (Ev.pos (by omega) (Ev.pos (by omega) ?_)))
    by_cases h1 : bt s (i : Int) < 97
    · exact Ev.pos h1 (Ev.done (nameOk_false (by omega) (.inl h1)).symm)
    · refine Ev.neg h1 ?_
      by_cases h2 : bt s (i : Int) > 122
      · exact Ev.pos h2 (Ev.done (nameOk_false (by omega) (.inr h2)).symm)
      · refine Ev.neg h2 ?_
        rw [w64 (by omega) (by omega), cast_succ]
        refine ih (i + 1) (by omega) (fun j hj => ?_)
        rcases Nat.lt_or_ge j i with hj' | hj'
        · exact hp j hj'
        · obtain rfl : j = i := by omega
          omega
theorem impl_nameOk (s : ByteArray) (hs : s.size ≤ 9223372036854775807) : Ev (fun k => impl_nameOk.f k s) (nameOk s) := by
  unfold impl_nameOk.f
  exact impl_nameOk_l0 s hs s.size 0 (by omega) (fun j hj => by omega)
theorem spec_l1Name_l0 (s : ByteArray) (hs : s.size ≤ 9223372036854775807) (d : Nat) : ∀ (i : Nat), i + d = s.size → (∀ j : Nat, j < i → 97 ≤ bt s (j : Int) ∧ bt s (j : Int) ≤ 122) → Ev (fun k => spec_l1Name.l0 k s (i : Int)) (nameOk s) := by
  induction d with
  | zero =>
    intro i hi hp
    obtain rfl : i = s.size := by omega
    exact Ev.step (fun k => spec_l1Name.l0.eq_2 _ _ k) (Ev.neg (by omega) (Ev.then (l1In _ _ _) (Ev.done (nameOk_all hp))))
  | succ d ih =>
    intro i hi hp
    refine Ev.step (fun k => spec_l1Name.l0.eq_2 _ _ k) (Ev.pos (by omega) (Ev.pos (by omega) ?_))
    by_cases h1 : bt s (i : Int) < 97
    · exact Ev.pos h1 (Ev.done (nameOk_false (by omega) (.inl h1)).symm)
    · refine Ev.neg h1 ?_
      by_cases h2 : bt s (i : Int) > 122
      · exact Ev.pos h2 (Ev.done (nameOk_false (by omega) (.inr h2)).symm)
      · refine Ev.neg h2 ?_
        rw [w64 (by omega) (by omega), cast_succ]
        refine ih (i + 1) (by omega) (fun j hj => ?_)
        rcases Nat.lt_or_ge j i with hj' | hj'
        · exact hp j hj'
        · obtain rfl : j = i := by omega
          omega
theorem l1Name (s : ByteArray) (hs : s.size ≤ 9223372036854775807) : Ev (fun k => spec_l1Name.f k s) (nameOk s) := by
  unfold spec_l1Name.f
  exact spec_l1Name_l0 s hs s.size 0 (by omega) (fun j hj => by omega)

/-! ### frames -/
end Go.Proofs.YthkepmicdpgbbaaDoor.Fn
