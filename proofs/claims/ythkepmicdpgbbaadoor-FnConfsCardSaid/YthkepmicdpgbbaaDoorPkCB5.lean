/- Texts of this seat's claims, put together: Pxl, EvY, Enc -/
import Derived.Test.YthkepmicdpgbbaaDoorPkCB4
-- Written by xprint.py (by way of the kit's print program) out of the translation.
namespace Go.Proofs.YthkepmicdpgbbaaDoor.P
open Go.RowKit Go.Proofs.YthkepmicdpgbbaaDoorW.PrintWords Go.Proofs.YthkepmicdpgbbaaDoorW.PrintLast Go.Proofs.YthkepmicdpgbbaaDoorW.PrintMore
attribute [local go_sem] max2_int min2_int max_two min_two max_three min_three max_four min_four   -- for this text's walks alone
set_option linter.unusedVariables false
set_option linter.unusedSimpArgs false

/-! ### impl_dbPlace: function 71 -/

set_option maxHeartbeats 1000000 in
theorem impl_dbPlace.one (x : S55) (name : ByteArray) (B : Nat) (w : World) (hB : B < w.heap.size) (hcell : w.cell? ⟨B, 0, none⟩ = some (.string name)) :
    Calls Tryd.prog 104 #[.agg #[.string x.f0, .int .i64 x.f1, .int .i64 x.f2, .int .i64 x.f3, .int .i64 x.f4], .pointer (some ⟨B, 0, none⟩)] w fun e w' => e = .returned (.bool (x.f0.toList == name.toList)) ∧ Below w.heap.size w w' := by
  have hu := Tryd.underlying55
  go_enter Tryd.func104, Tryd.ntmps104
  go_wp2
  go_ret
  exact ⟨rfl, (Below.refl _ _).alloc (Nat.le_refl _) _⟩
theorem impl_dbPlace.p_skip (l : List S55) (name : ByteArray) (i : Nat) (hi : i < l.length) (h : ¬ l[i].f0.toList = name.toList) : impl_dbPlace.l0 (l.drop i) name i = impl_dbPlace.l0 (l.drop (i + 1)) name ((i + 1 : Nat) : Int) := by
  rw [List.drop_eq_getElem_cons hi, impl_dbPlace.l0, if_neg h]
  rfl
theorem impl_dbPlace.p_hit (l : List S55) (name : ByteArray) (i : Nat) (hi : i < l.length) (h : l[i].f0.toList = name.toList) : impl_dbPlace.l0 (l.drop i) name i = i := by
  rw [List.drop_eq_getElem_cons hi, impl_dbPlace.l0, if_pos h]
set_option maxHeartbeats 2000000 in
set_option maxRecDepth 100000 in
theorem impl_dbPlace.index (A0 : Option Addr) (c0 : Nat) (l0 : List S55) (name : ByteArray) (B : Nat) (w : World) (hr : Kd.C k55 w A0 l0.length l0) (hB : B < w.heap.size) (hcell : w.cell? ⟨B, 0, none⟩ = some (.string name)) :
    Calls Tryd.prog 103 #[.slice A0 l0.length c0, .func (.func 104) #[] #[.pointer (some ⟨B, 0, none⟩)]] w fun e w' => e = .returned (.int .i64 (impl_dbPlace.l0 l0 name 0)) ∧ Below w.heap.size w w' := by
  have hu := Tryd.underlying55
  have hlen : l0.length ≤ 9223372036854775807 := hr.2.1
  have HR := Aside0.mk hr
  have HC := Aside0.mk hcell
  clear hr hcell
  go_enter Tryd.func103, Tryd.ntmps103
  go_wp2
  go_loopw [8] (fun v8 wr => ∃ i : Nat, i ≤ l0.length ∧ v8 = .int .i64 i ∧ Aside0 (impl_dbPlace.l0 l0 name 0 = impl_dbPlace.l0 (l0.drop i) name i) ∧ Aside0 (Below w.heap.size w wr)) (fun v8 _ => l0.length - (intOf v8).toNat)
  case atStart => exact ⟨0, Nat.zero_le _, rfl, ⟨rfl⟩, ⟨Below.refl _ _⟩⟩
  case round =>
    obtain ⟨i, hi, rfl, HP, HB⟩ := hrel
    by_cases hlt : i < l0.length
    · have hge : rd_T55 l0 (i : Int) = l0[i] := by unfold rd_T55; rw [Int.toNat_natCast, List.getD_eq_getElem?_getD, List.getElem?_eq_getElem hlt]; rfl
      obtain ⟨ad, hA, h0, h1, h2, h3, h4⟩ := at_T55 (Kd.C_below HR.out HB.out) (i : Int) (by omega) (by omega)
      subst hA
      rw [hge] at h0 h1 h2 h3 h4
      rw [Int.toNat_natCast] at h0 h1 h2 h3 h4
      clear hge
      have hcl := impl_dbPlace.one l0[i] name B
      generalize hx : l0[i] = x at *
      have HX := Aside0.mk hx
      clear hx
      have hBw : w.heap.size ≤ wr.heap.size := HB.out.size
      have HCw := Aside0.mk ((HB.out.cell (p := ⟨B, 0, none⟩) hB).trans HC.out)
      have Hcl := Aside0.mk hcl
      clear hcl
      by_cases hm : x.f0.toList = name.toList
      · have hmb : (x.f0.toList == name.toList) = true := by simpa using hm
        have HM := Aside0.mk hm
        have HMB := Aside0.mk hmb
        clear hm hmb
        go_wp2_with (go_at_call 104; refine (Hcl.out _ (by omega) HCw.out).mono ?_; rintro e w' ⟨rfl, hb⟩; rw [HMB.out])
        go_ret
        exact ⟨by rw [HP.out, impl_dbPlace.p_hit l0 name i hlt (by rw [HX.out]; exact HM.out)]; rfl, below_step HB.out hb⟩
      · have hmb : (x.f0.toList == name.toList) = false := by simpa using hm
        have HM := Aside0.mk hm
        have HMB := Aside0.mk hmb
        clear hm hmb
        go_wp2_with (go_at_call 104; refine (Hcl.out _ (by omega) HCw.out).mono ?_; rintro e w' ⟨rfl, hb⟩; rw [HMB.out])
        go_roundw
        case rel => exact ⟨i + 1, by omega, by go_num, ⟨HP.out.trans (impl_dbPlace.p_skip l0 name i hlt (by rw [HX.out]; exact HM.out))⟩, ⟨below_step HB.out hb⟩⟩
        case measure => simp [intOf]; omega
    · go_wp2
      go_ret
      refine ⟨?_, HB.out⟩
      rw [HP.out, List.drop_of_length_le (by omega)]
      rfl
set_option maxHeartbeats 1000000 in
theorem impl_dbPlace.calls (A0 : Option Addr) (c0 : Nat) (l0 : List (S55)) (a1 : ByteArray) (r : Int) (w : World) (hr0 : Kd.C k55 w A0 l0.length l0) (hc0 : l0.length ≤ c0) (h : impl_dbPlace.f l0 a1 = some r) :
    Calls Tryd.prog 71 #[.slice A0 l0.length c0, .string a1] w fun e w' => e = .returned (.int .i64 r) ∧ Below w.heap.size w w' := by
  obtain rfl : impl_dbPlace.l0 l0 a1 0 = r := Option.some.inj h
  have hcon := impl_dbPlace.index A0 c0 l0 a1 w.heap.size (w.alloc (.cells #[.string a1] 9)) (Kd.C_below hr0 ((Below.refl _ w).alloc (Nat.le_refl _) _)) (by simp) (by simp)
  generalize impl_dbPlace.l0 l0 a1 0 = r at hcon ⊢
  have HCON := Aside0.mk hcon
  clear hcon hr0 hc0 h
  go_enter Tryd.func71, Tryd.ntmps71
  go_wp2_with (go_at_call 103; refine HCON.out.mono ?_; rintro e w' ⟨rfl, hb⟩)
  go_ret
  exact ⟨rfl, below_step ((Below.refl _ w).alloc (Nat.le_refl _) _) hb⟩

/-! ### slices_Clone_byte_byte: function 91 -/

/-! ### strconv_Itoa_97: function 97 -/
theorem strconv_Itoa_97.calls (a0 : Int) (r : ByteArray) (w : World) (hgw : GW w) (h : strconv_Itoa_97.f a0 = some r) :
    Calls Tryd.prog 97 #[.int .i64 a0] w fun e w' => e = .returned (.string r) ∧ Below w.heap.size w w' := by
  unfold strconv_Itoa_97.f at h
  split at h
  · rename_i hr
    obtain rfl := Option.some.inj h
    refine (Tryd.strconv_Itoa a0 hr.1 hr.2 w hgw.tab).mono ?_
    rintro e w' ⟨he, k, os, rfl⟩
    exact ⟨he, Lib.below_grow _ _ (Nat.le_refl _) _ _⟩
  · cases h

/-! ### strings_Cut: function 49 -/
theorem strings_Cut.calls (a0 : ByteArray) (a1 : ByteArray) (r1 : ByteArray) (r2 : ByteArray) (r3 : Bool) (w : World) (hgw : GW w) (h : strings_Cut.f a0 a1 = some (r1, r2, r3)) :
    Calls Tryd.prog 49 #[.string a0, .string a1] w fun e w' => e = .returned (.tuple #[.string r1, .string r2, .bool r3]) ∧ Below w.heap.size w w' := by
  unfold strings_Cut.f at h
  split at h
  · rename_i hr
    simp only [Option.some.injEq, Prod.mk.injEq] at h
    obtain ⟨rfl, rfl, rfl⟩ := h
    obtain ⟨m_, g_, hn_, hm_, hl_⟩ := hgw.most
    obtain rfl : g_ = 0 := Option.some.inj (hn_.symm.trans (show Tryd.prog.globalNamed "internal/bytealg.MaxLen" = some 0 by kernel_rfl))
    refine (Tryd.strings_Cut a0 a1 m_ w hr hm_).mono ?_
    rintro e w' ⟨he, k_, rfl⟩
    exact ⟨he, pw_below_drewN (Below.refl _ w) _⟩
  · cases h

/-! ### strings_Join: function 66 -/
theorem strings_Join.calls (A0 : Option Addr) (c0 : Nat) (l0 : List ByteArray) (a1 : ByteArray) (r : ByteArray) (w : World) (hgw : GW w) (hsp : ∀ ad, A0 = some ad → ad.spot = none) (hr0 : Kd.C Kd.string w A0 l0.length l0) (hc0 : l0.length ≤ c0) (h : strings_Join.f l0 a1 = some r) :
    Calls Tryd.prog 66 #[.slice A0 l0.length c0, .string a1] w fun e w' => e = .returned (.string r) ∧ Below w.heap.size w w' := by
  unfold strings_Join.f at h
  split at h
  · rename_i hr
    obtain rfl := Option.some.inj h
    by_cases h0 : l0 = []
    · subst h0
      exact (Tryd.strings_Join_none A0 c0 a1 w).mono fun e w' ⟨he, hw⟩ => ⟨he, hw ▸ Below.refl _ _⟩
    · obtain ⟨ad, hA, hc⟩ := Kd.at_string hr0 0 (Int.le_refl _) (by have := List.length_pos_iff.2 h0; omega)
      have hs := hsp ad hA
      subst hA
      obtain ⟨bk, o, sp⟩ := ad
      obtain rfl : sp = none := hs
      have hcells : ∀ (j : Nat) x, l0[j]? = some x → w.cell? ⟨bk, o + j, none⟩ = some (.string x) := by
        intro j x hx
        obtain ⟨hj, hx'⟩ := List.getElem?_eq_some_iff.1 hx
        obtain ⟨ad', he', hc'⟩ := Kd.at_string hr0 (j : Int) (by omega) (by omega)
        injection he' with he'
        subst he'
        have e2 : rdOf ByteArray.empty l0 (j : Int) = x := by
          unfold rdOf
          rw [Int.toNat_natCast, List.getD_eq_getElem?_getD, hx]
          rfl
        rw [Int.toNat_natCast, e2, Addr.add_lit] at hc'
        exact hc'
      exact (Tryd.strings_Join bk o c0 l0 a1 w hcells (by have := World.block_lt_of_cell? w _ hc; exact this) hr.1 hc0 hr.2).mono fun e w' h => h
  · cases h

/-! ### strings_Split: function 48 -/
theorem strings_Split.calls (a0 : ByteArray) (a1 : ByteArray) (r : List ByteArray) (w : World) (hgw : GW w) (h : strings_Split.f a0 a1 = some r) :
    Calls Tryd.prog 48 #[.string a0, .string a1] w fun e w' => ∃ v0_ : Value, e = .returned (v0_) ∧ Kd.R Kd.string 9 w' w.heap.size (fun _ => True) v0_ r ∧ Below w.heap.size w w' := by
  unfold strings_Split.f at h
  split at h
  · rename_i hr
    obtain rfl := Option.some.inj h
    obtain ⟨m_, g_, hn_, hm_, hl_⟩ := hgw.most
    obtain rfl : g_ = 0 := Option.some.inj (hn_.symm.trans (show Tryd.prog.globalNamed "internal/bytealg.MaxLen" = some 0 by kernel_rfl))
    have hlen := Lib.splitB_all a1 hr.2 0 _ a0 rfl
    have hle := Lib.countB_le a1 hr.2 a0.size a0 (Nat.le_refl _)
    have hmx : maxLen = 9223372036854775807 := by decide
    refine (Tryd.strings_Split a0 a1 m_ w hr.1 hm_ hr.2).mono ?_
    rintro e w' ⟨rfl, rfl⟩
    rw [← hlen]
    exact ⟨_, rfl, Kd.R_of_own (own_new w 9 _ _ _ _ (by simp [encs]) (Nat.le_refl _) (by omega) (by simp) (by simp [encs]; exact List.take_of_length_le (by simp))) (fun _ _ => trivial), (Below.refl _ w).alloc (Nat.le_refl _) _⟩
  · cases h

/-! ### strings_SplitN: function 50 -/
theorem strings_SplitN.calls (a0 : ByteArray) (a1 : ByteArray) (a2 : Int) (r : List ByteArray) (w : World) (hgw : GW w) (h : strings_SplitN.f a0 a1 a2 = some r) :
    Calls Tryd.prog 50 #[.string a0, .string a1, .int .i64 a2] w fun e w' => ∃ v0_ : Value, e = .returned (v0_) ∧ Kd.R Kd.string 9 w' w.heap.size (fun _ => True) v0_ r ∧ Below w.heap.size w w' := by
  unfold strings_SplitN.f at h
  split at h
  · rename_i hr
    obtain rfl := Option.some.inj h
    obtain ⟨k_, rfl⟩ := Int.eq_ofNat_of_zero_le (show 0 ≤ a2 by omega)
    rw [Int.toNat_natCast] at *
    obtain ⟨m_, g_, hn_, hm_, hl_⟩ := hgw.most
    obtain rfl : g_ = 0 := Option.some.inj (hn_.symm.trans (show Tryd.prog.globalNamed "internal/bytealg.MaxLen" = some 0 by kernel_rfl))
    have hlen := Lib.splitB_length_le a1 0 (min k_ (a0.size + 1) - 1) a0
    have hmx : maxLen = 9223372036854775807 := by decide
    refine (Tryd.strings_SplitN a0 a1 k_ m_ w hr.1 hm_ hr.2.1 (by omega) (by omega)).mono ?_
    rintro e w' ⟨rfl, rfl⟩
    exact ⟨_, rfl, Kd.R_of_own (own_new w 9 _ _ _ _ (by simp [encs]) (by omega) (by omega) (Lib.cellsOf_size (by omega)) (by simp [Lib.cellsOf, encs])) (fun _ _ => trivial), (Below.refl _ w).alloc (Nat.le_refl _) _⟩
  · cases h

end Go.Proofs.YthkepmicdpgbbaaDoor.P

/- What the library's functions come to. -/
namespace Go.Proofs.YthkepmicdpgbbaaDoor.E
open Go Go.RowKit Go.Proofs.YthkepmicdpgbbaaDoorW.PrintWords Go.Proofs.YthkepmicdpgbbaaDoor.P
set_option linter.unusedVariables false
set_option maxRecDepth 100000
theorem impl_dbPlace_ev {l0 : List S55} {a1 : ByteArray} {r : Int} (H : impl_dbPlace.f l0 a1 = some r) : Spec Tryd.prog 71 [.v (.row (List.map (fun (p : S55) => ([.s p.f0, .i .i64 p.f1, .i .i64 p.f2, .i .i64 p.f3, .i .i64 p.f4] : List CV)) l0)), .v (.s a1)] [] (.v (.i .i64 r)) [] := by
  refine spec_val (callFunc_of Tryd.func71 (by rfl) (by rfl)) fun G w vals hgw hr => ?_
  simp only [RepsL, Reps] at hr
  obtain ⟨v, vs, h1, h2, u, us, rfl, h3, rfl⟩ := hr
  simp only [RepC] at h3
  subst h3
  obtain ⟨A0, c0, rfl, hc, hC, hs⟩ := kdC_of k55 _ (fun _ => rfl) (fun x I w cs h => by
    simp only [RepP, RepC] at h
    obtain ⟨_, _, rfl, rfl, _, _, rfl, rfl, _, _, rfl, rfl, _, _, rfl, rfl, _, _, rfl, rfl, _⟩ := h
    exact ⟨[_], _, rfl, rfl, [_], _, rfl, rfl, [_], _, rfl, rfl, [_], _, rfl, rfl, rfl⟩) h2
  obtain rfl : vals = #[.slice A0 l0.length c0, .string a1] := by rw [← Array.toList_inj, h1]
  refine (impl_dbPlace.calls A0 c0 l0 a1 r w hC hc H).mono fun e w' hq => ?_
  exact ⟨_, hq.1, hq.2, fun G => by simp only [Reps, RepC]⟩
theorem strconv_Itoa_97_ev {a0 : Int} {r : ByteArray} (H : strconv_Itoa_97.f a0 = some r) : Spec Tryd.prog 97 [.v (.i .i64 a0)] [] (.v (.s r)) [] := by
  refine spec_val (callFunc_of Tryd.func97 (by rfl) (by rfl)) fun G w vals hgw hr => ?_
  simp only [RepsL, Reps, RepC] at hr
  obtain ⟨v, vs, h1, rfl, rfl⟩ := hr
  obtain rfl : vals = #[.int .i64 a0] := by rw [← Array.toList_inj, h1]
  refine (strconv_Itoa_97.calls a0 r w hgw H).mono fun e w' hq => ?_
  exact ⟨_, hq.1, hq.2, fun G => by simp only [Reps, RepC]⟩
theorem strings_Cut_ev {a0 a1 : ByteArray} {r : ByteArray × ByteArray × Bool} (H : strings_Cut.f a0 a1 = some r) : Spec Tryd.prog 49 [.v (.s a0), .v (.s a1)] [] (.tup [.v (.s r.1), .v (.s r.2.1), .v (.b r.2.2)]) [] := by
  obtain ⟨r1, r2, r3⟩ := r
  refine spec_val (callFunc_of Tryd.func49 (by rfl) (by rfl)) fun G w vals hgw hr => ?_
  simp only [RepsL, Reps, RepC] at hr
  obtain ⟨v, vs, h1, rfl, u, us, rfl, rfl, rfl⟩ := hr
  obtain rfl : vals = #[.string a0, .string a1] := by rw [← Array.toList_inj, h1]
  refine (strings_Cut.calls a0 a1 r1 r2 r3 w hgw H).mono fun e w' hq => ?_
  exact ⟨_, hq.1, hq.2, fun G => by simp only [Reps, RepC, RepsL]; exact ⟨_, rfl, _, _, rfl, rfl, _, _, rfl, rfl, _, _, rfl, rfl, rfl⟩⟩
theorem strings_Join_ev {l0 : List ByteArray} {a1 r : ByteArray} (H : strings_Join.f l0 a1 = some r) : Spec Tryd.prog 66 [.v (.row (List.map (fun (x : ByteArray) => ([.s x] : List CV)) l0)), .v (.s a1)] [] (.v (.s r)) [] := by
  refine spec_val (callFunc_of Tryd.func66 (by rfl) (by rfl)) fun G w vals hgw hr => ?_
  simp only [RepsL, Reps] at hr
  obtain ⟨v, vs, h1, h2, u, us, rfl, h3, rfl⟩ := hr
  simp only [RepC] at h3
  subst h3
  obtain ⟨A0, c0, rfl, hc, hC, hs⟩ := kdC_of Kd.string _ (fun _ => rfl) (fun x I w cs h => by simp only [RepP, RepC] at h; obtain ⟨v, vs', rfl, rfl, _⟩ := h; rfl) h2
  obtain rfl : vals = #[.slice A0 l0.length c0, .string a1] := by rw [← Array.toList_inj, h1]
  by_cases hl : l0 = []
  · subst hl
    have hr : r = ⟨#[]⟩ := by
      unfold strings_Join.f at H
      split at H
      · rw [← Option.some.inj H]
        rfl
      · cases H
    subst hr
    refine (Tryd.strings_Join_none A0 c0 a1 w).mono fun e w' hq => ?_
    exact ⟨_, hq.1, hq.2 ▸ Below.refl _ _, fun G => by simp only [Reps, RepC]⟩
  · refine (strings_Join.calls A0 c0 l0 a1 r w hgw (hs hl) hC hc H).mono fun e w' hq => ?_
    exact ⟨_, hq.1, hq.2, fun G => by simp only [Reps, RepC]⟩
theorem strings_Split_ev {a0 a1 : ByteArray} {r : List ByteArray} (H : strings_Split.f a0 a1 = some r) : Spec Tryd.prog 48 [.v (.s a0), .v (.s a1)] [] (.own 0 (List.map (fun (x : ByteArray) => ([.s x] : List CV)) r).length) [.arr 1 9 false (List.map (fun (x : ByteArray) => ([.s x] : List CV)) r)] := by
  refine spec_row (by decide) (callFunc_of Tryd.func48 (by rfl) (by rfl)) fun G w vals hgw hr => ?_
  simp only [RepsL, Reps, RepC] at hr
  obtain ⟨v, vs, h1, rfl, u, us, rfl, rfl, rfl⟩ := hr
  obtain rfl : vals = #[.string a0, .string a1] := by rw [← Array.toList_inj, h1]
  refine (strings_Split.calls a0 a1 r w hgw H).mono fun e w' hq => ?_
  obtain ⟨v0, he, hR, hb⟩ := hq
  exact ⟨v0, he, hb, row_of_kd (f := fun x => [.s x]) (enc := Value.string) (h1 := fun _ => rfl) (fun _ _ _ _ => by simp only [RepP, RepC]; exact ⟨_, _, rfl, rfl, trivial⟩) (fun _ => rfl) hR⟩
theorem strings_SplitN_ev {a0 a1 : ByteArray} {a2 : Int} {r : List ByteArray} (H : strings_SplitN.f a0 a1 a2 = some r) : Spec Tryd.prog 50 [.v (.s a0), .v (.s a1), .v (.i .i64 a2)] [] (.own 0 (List.map (fun (x : ByteArray) => ([.s x] : List CV)) r).length) [.arr 1 9 false (List.map (fun (x : ByteArray) => ([.s x] : List CV)) r)] := by
  refine spec_row (by decide) (callFunc_of Tryd.func50 (by rfl) (by rfl)) fun G w vals hgw hr => ?_
  simp only [RepsL, Reps, RepC] at hr
  obtain ⟨v, vs, h1, rfl, u, us, rfl, rfl, u2, us2, rfl, rfl, rfl⟩ := hr
  obtain rfl : vals = #[.string a0, .string a1, .int .i64 a2] := by rw [← Array.toList_inj, h1]
  refine (strings_SplitN.calls a0 a1 a2 r w hgw H).mono fun e w' hq => ?_
  obtain ⟨v0, he, hR, hb⟩ := hq
  exact ⟨v0, he, hb, row_of_kd (f := fun x => [.s x]) (enc := Value.string) (h1 := fun _ => rfl) (fun _ _ _ _ => by simp only [RepP, RepC]; exact ⟨_, _, rfl, rfl, trivial⟩) (fun _ => rfl) hR⟩
end Go.Proofs.YthkepmicdpgbbaaDoor.E

/- What the cells of an element hold, by its type. -/
namespace Go.Proofs.YthkepmicdpgbbaaDoor.E
open Go Go.RowKit Go.Proofs.YthkepmicdpgbbaaDoorW.PrintWords Go.Proofs.YthkepmicdpgbbaaDoor.P
abbrev e3 (x : Int) : List CV := [.i .i64 x]
abbrev e5 (x : Int) : List CV := [.i .u8 x]
abbrev e9 (x : ByteArray) : List CV := [.s x]
abbrev e55 (p : S55) : List CV := [.s p.f0, .i .i64 p.f1, .i .i64 p.f2, .i .i64 p.f3, .i .i64 p.f4]
theorem set55 (v0 : ByteArray) (v1 : Int) (v2 : Int) (v3 : Int) (v4 : Int) {l : List S55} {i : Nat} {y : List CV} {K : List (List CV) → Prop} (h : ([.s v0, .i .i64 v1, .i .i64 v2, .i .i64 v3, .i .i64 v4] : List CV) = y) (k : K (List.map e55 (l.set i ⟨v0, v1, v2, v3, v4⟩))) : Norm 55 ((List.map e55 l).set i y) K := norm_set (f := e55) ⟨v0, v1, v2, v3, v4⟩ h k
end Go.Proofs.YthkepmicdpgbbaaDoor.E
