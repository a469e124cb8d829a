/- Texts of this seat's claims, put together: Pxl, EvY, Enc, Pxh1, Pxh2 -/
import Derived.Test.YthkepmicdpgbbaaGreatDoorPkYzB6
namespace Go.Proofs.YthkepmicdpgbbaaGreatDoor.P
open Go.RowKit Go.Proofs.YthkepmicdpgbbaaGreatDoorW.PrintWords Go.Proofs.YthkepmicdpgbbaaGreatDoorW.PrintLast Go.Proofs.YthkepmicdpgbbaaGreatDoorW.PrintMore
attribute [local go_sem] max2_int min2_int max_two min_two max_three min_three max_four min_four   -- for this text's walks alone
set_option linter.unusedVariables false
set_option linter.unusedSimpArgs false
set_option maxHeartbeats 1000000 in
theorem impl_dbPlace.one (x : S138) (name : ByteArray) (B : Nat) (w : World) (hB : B < w.heap.size) (hcell : w.cell? ⟨B, 0, none⟩ = some (.string name)) :
  Calls Tryz.prog 164 #[.agg #[.string x.f0, .int .i64 x.f1, .int .i64 x.f2, .int .i64 x.f3, .int .i64 x.f4], .pointer (some ⟨B, 0, none⟩)] w fun e w' => e = .returned (.bool (x.f0.toList == name.toList)) ∧ Below w.heap.size w w' := by
 have hu := Tryz.underlying138
 go_enter Tryz.func164, Tryz.ntmps164
 go_wp2
 go_ret
 exact ⟨rfl, (Below.refl _ _).alloc (Nat.le_refl _) _⟩
theorem impl_dbPlace.p_skip (l : List S138) (name : ByteArray) (i : Nat) (hi : i < l.length) (h : ¬ l[i].f0.toList = name.toList) : impl_dbPlace.l0 (l.drop i) name i = impl_dbPlace.l0 (l.drop (i + 1)) name ((i + 1 : Nat) : Int) := by
 rw [List.drop_eq_getElem_cons hi, impl_dbPlace.l0, if_neg h]
 rfl
theorem impl_dbPlace.p_hit (l : List S138) (name : ByteArray) (i : Nat) (hi : i < l.length) (h : l[i].f0.toList = name.toList) : impl_dbPlace.l0 (l.drop i) name i = i := by
 rw [List.drop_eq_getElem_cons hi, impl_dbPlace.l0, if_pos h]
set_option maxHeartbeats 2000000 in
set_option maxRecDepth 100000 in
theorem impl_dbPlace.index (A0 : Option Addr) (c0 : Nat) (l0 : List S138) (name : ByteArray) (B : Nat) (w : World) (hr : Kd.C k138 w A0 l0.length l0) (hB : B < w.heap.size) (hcell : w.cell? ⟨B, 0, none⟩ = some (.string name)) :
  Calls Tryz.prog 163 #[.slice A0 l0.length c0, .func (.func 164) #[] #[.pointer (some ⟨B, 0, none⟩)]] w fun e w' => e = .returned (.int .i64 (impl_dbPlace.l0 l0 name 0)) ∧ Below w.heap.size w w' := by
 have hu := Tryz.underlying138
 have hlen : l0.length ≤ 9223372036854775807 := hr.2.1
 have HR := Aside0.mk hr
 have HC := Aside0.mk hcell
 clear hr hcell
 go_enter Tryz.func163, Tryz.ntmps163
 go_wp2
 go_loopw [8] (fun v8 wr => ∃ i : Nat, i ≤ l0.length ∧ v8 = .int .i64 i ∧ Aside0 (impl_dbPlace.l0 l0 name 0 = impl_dbPlace.l0 (l0.drop i) name i) ∧ Aside0 (Below w.heap.size w wr)) (fun v8 _ => l0.length - (intOf v8).toNat)
 case atStart => exact ⟨0, Nat.zero_le _, rfl, ⟨rfl⟩, ⟨Below.refl _ _⟩⟩
 case round =>
  obtain ⟨i, hi, rfl, HP, HB⟩ := hrel
  by_cases hlt : i < l0.length
  ·have hge : rd_T138 l0 (i : Int) = l0[i] := by unfold rd_T138; rw [Int.toNat_natCast, List.getD_eq_getElem?_getD, List.getElem?_eq_getElem hlt]; rfl
   obtain ⟨ad, hA, h0, h1, h2, h3, h4⟩ := at_T138 (Kd.C_below HR.out HB.out) (i : Int) (by omega) (by omega)
   subst hA
   rw [hge] at h0 h1 h2 h3 h4
   rw [Int.toNat_natCast] at h0 h1 h2 h3 h4
   clear hge
   have hcl := impl_dbPlace.one l0[i] name B
   generalize hx : l0[i] = x at *
   have HX := Aside0.mk hx
   clear hx
   have hBw : w.heap.size ≤ wr.heap.size := HB.out.size
   have HCw := Aside0.mk ((HB.out.cell (p := ⟨B, 0, none⟩) hB).trans HC.out)
   have Hcl := Aside0.mk hcl
   clear hcl
   by_cases hm : x.f0.toList = name.toList
   ·have hmb : (x.f0.toList == name.toList) = true := by simpa using hm
    have HM := Aside0.mk hm
    have HMB := Aside0.mk hmb
    clear hm hmb
    go_wp2_with (go_at_call 164; refine (Hcl.out _ (by omega) HCw.out).mono ?_; rintro e w' ⟨rfl, hb⟩; rw [HMB.out])
    go_ret
    exact ⟨by rw [HP.out, impl_dbPlace.p_hit l0 name i hlt (by rw [HX.out]; exact HM.out)]; rfl, below_step HB.out hb⟩
   ·have hmb : (x.f0.toList == name.toList) = false := by simpa using hm
    have HM := Aside0.mk hm
    have HMB := Aside0.mk hmb
    clear hm hmb
    go_wp2_with (go_at_call 164; refine (Hcl.out _ (by omega) HCw.out).mono ?_; rintro e w' ⟨rfl, hb⟩; rw [HMB.out])
    go_roundw
    case rel => exact ⟨i + 1, by omega, by go_num, ⟨HP.out.trans (impl_dbPlace.p_skip l0 name i hlt (by rw [HX.out]; exact HM.out))⟩, ⟨below_step HB.out hb⟩⟩
    case measure => simp [intOf]; omega
  ·go_wp2
   go_ret
   refine ⟨?_, HB.out⟩
   rw [HP.out, List.drop_of_length_le (by omega)]
   rfl
set_option maxHeartbeats 1000000 in
theorem impl_dbPlace.calls (A0 : Option Addr) (c0 : Nat) (l0 : List (S138)) (a1 : ByteArray) (r : Int) (w : World) (hr0 : Kd.C k138 w A0 l0.length l0) (hc0 : l0.length ≤ c0) (h : impl_dbPlace.f l0 a1 = some r) :
  Calls Tryz.prog 151 #[.slice A0 l0.length c0, .string a1] w fun e w' => e = .returned (.int .i64 r) ∧ Below w.heap.size w w' := by
 obtain rfl : impl_dbPlace.l0 l0 a1 0 = r := Option.some.inj h
 have hcon := impl_dbPlace.index A0 c0 l0 a1 w.heap.size (w.alloc (.cells #[.string a1] 9)) (Kd.C_below hr0 ((Below.refl _ w).alloc (Nat.le_refl _) _)) (by simp) (by simp)
 generalize impl_dbPlace.l0 l0 a1 0 = r at hcon ⊢
 have HCON := Aside0.mk hcon
 clear hcon hr0 hc0 h
 go_enter Tryz.func151, Tryz.ntmps151
 go_wp2_with (go_at_call 163; refine HCON.out.mono ?_; rintro e w' ⟨rfl, hb⟩)
 go_ret
 exact ⟨rfl, below_step ((Below.refl _ w).alloc (Nat.le_refl _) _) hb⟩
set_option maxHeartbeats 8000000 in
set_option maxRecDepth 100000 in
theorem slices_Clone_byte_byte.calls_some (ad0 : Addr) (c0 : Nat) (l0 : List Int) (r : List Int) (w : World) (hr0 : Kd.C (Kd.int .u8) w (some ad0) l0.length l0) (hc0 : l0.length ≤ c0) (h : slices_Clone_byte_byte.f l0 = some r) :
  Calls Tryz.prog 98 #[.slice (some ad0) l0.length c0] w fun e w' => ∃ v0_ : Value, e = .returned (v0_) ∧ Kd.R (Kd.int .u8) 5 w' w.heap.size (fun _ => True) v0_ r ∧ Below w.heap.size w w' := by
 have HR0 := Aside0.mk hr0
 have HC0 := Aside0.mk hc0
 clear hr0 hc0
 have HB := Aside0.mk (Below.refl w.heap.size w)
 have H : ((some (([] : List Int) : List Int)).bind fun y361 => (if y361.length + l0.length < 140737488355328 then (some (y361 ++ l0)) else (none))) = some r := h
 clear h
 obtain ⟨y361, hy361⟩ : ∃ y_ : List Int, y_ = (([] : List Int)) := ⟨_, rfl⟩
 replace H : (if y361.length + l0.length < 140737488355328 then (some (y361 ++ l0)) else (none)) = some r := by first | (rw [hy361]; with_reducible exact H) | (have H2_ := (Option.bind_some _ _).symm.trans H; rw [hy361]; with_reducible exact H2_) | (have H2_ := (Option.bind_some _ _).symm.trans H; with_reducible exact H2_) | with_reducible exact H | (rw [hy361]; exact H) | exact H
 have Ny361 := Aside0.mk hy361
 clear hy361
 by_cases c2 : y361.length + l0.length < 140737488355328
 ·rw [if_pos c2] at H
  have LMc2 := Aside0.mk c2
  clear c2
  obtain ⟨y364, hy364⟩ : ∃ y_ : List Int, y_ = (y361 ++ l0) := ⟨_, rfl⟩
  replace H : (some y364) = some r := by first | (rw [hy364]; with_reducible exact H) | (have H2_ := (Option.bind_some _ _).symm.trans H; rw [hy364]; with_reducible exact H2_) | (have H2_ := (Option.bind_some _ _).symm.trans H; with_reducible exact H2_) | with_reducible exact H | (rw [hy364]; exact H) | exact H
  have Ny364 := Aside0.mk hy364
  clear hy364
  obtain rfl := Option.some.inj H
  have hnil : ∀ (W : World), (binOp .eql 22 (.slice (some ad0) l0.length c0) (.slice none 0 0)).run Tryz.prog W = .ok (.bool false) W := fun W => run_eql_slice_nil W 22 5 (some ad0) l0.length c0 Tryz.underlying22
  go_enter Tryz.func98, Tryz.ntmps98
  go_wp2_with (first | ((with_reducible refine gate_dst (N := 5) rfl ?_); refine Kd.R_lit (Kd.int .u8) _ 5 ?hg (N := 5) ?hd (xs := ([] : List Int)) (inner := []) (ok := fun _ => True) (okp := fun _ => True) ?hr ?hp (fun _ hk => hk) trivial (Below.refl _ _) (Nat.le_refl _) (by simp) ?_; (case hd => rfl); (case hg => rfl); (case hr => first | (go_simp; done) | (go_simp; rfl)); (case hp => exact (Reps.none _ _)); intro v362 w3 ho4 hb hg_ hnew_; clear hg_ hnew_; (first | rw [← Ny361.out] at ho4 | (simp only [Int.reduceToNat] at ho4; rw [← Ny361.out] at ho4)); have n0_ := Aside0.mk (Kd.R_lower ho4 (below_size (by repeat (first | (with_reducible first | exact HB.out | apply below_alloc | apply pw_below_drewN | apply below_drew1) | exact HB.out)))); have n1_ := Aside0.mk (below_step (by repeat (first | (with_reducible first | exact HB.out | apply below_alloc | apply pw_below_drewN | apply below_drew1) | exact HB.out)) hb); clear HB; have HO363 := n0_; have HB := n1_; clear n0_ n1_; clear hb ho4) | ((with_reducible refine gate_builtin (b := .append) (xs := #[.tmp 5, .tmp 6]) rfl ?_); at_builtin; refine Kd.R_append_rows (Kd.int .u8) (w0 := w) w.heap.size rfl (.tmp 5) (.tmp 6) 22 5 (.int .u8 0) 1 rfl Tryz.underlying22 info5 rfl (by decide) (by omega) v362 y361 l0 _ _ _ (fun _ => True) (fun _ => False) rfl rfl ?aO ?aR (fun _ _ h => h) (fun _ h => h.elim) ?aF ?aB ?aS ?aL ?_; (case aR => repeat (first | exact (Kd.C_below HR0.out HB.out) | (with_reducible refine Kd.C_alloc ?_ _) | (with_reducible refine Kd.C_drewN ?_ _) | (with_reducible refine Kd.C_drew ?_))); (case aB => exact (by repeat (first | (with_reducible first | exact HB.out | apply below_alloc | apply pw_below_drewN | apply below_drew1) | exact HB.out))); (case aF => exact (fun _ _ => trivial)); (case aO => exact (by (with_reducible repeat (first | apply Kd.R_alloc | apply Kd.R_drewN | apply Kd.R_drew)); exact HO363.out)); (case aS => exact (below_size (by repeat (first | (with_reducible first | exact HB.out | apply below_alloc | apply pw_below_drewN | apply below_drew1) | exact HB.out)))); (case aL => have := LMc2.out; omega); intro v365 w5 ho hb hg hat; rw [← Ny364.out] at ho; have n0_ := Aside0.mk (hb); have n1_ := Aside0.mk (ho); clear HB; clear HO363; have HB := n0_; have HO366 := n1_; clear n0_ n1_; clear ho hb hg hat))
  go_ret
  exact ⟨_, by first | rfl | (simp [errW_none, errW_some] <;> rfl) | (simp [*, errW_none, errW_some] <;> rfl), by (with_reducible repeat (first | apply Kd.R_alloc | apply Kd.R_drewN | apply Kd.R_drew)); exact HO366.out, by repeat (first | (with_reducible first | exact HB.out | apply below_alloc | apply pw_below_drewN | apply below_drew1) | exact HB.out)⟩
 ·rw [if_neg c2] at H
  exact absurd H (by simp)
set_option maxHeartbeats 1000000 in
theorem slices_Clone_byte_byte.calls_none (c0 : Nat) (w : World) :
  Calls Tryz.prog 98 #[.slice none 0 c0] w fun e w' => e = .returned (.slice none 0 0) ∧ Below w.heap.size w w' := by
 have hnil : ∀ (W : World), (binOp .eql 22 (.slice none 0 c0) (.slice none 0 0)).run Tryz.prog W = .ok (.bool true) W := fun W => run_eql_slice_nil W 22 5 none 0 c0 Tryz.underlying22
 go_enter Tryz.func98, Tryz.ntmps98
 go_wp2
 go_ret
 exact ⟨rfl, by repeat (first | exact Below.refl _ _ | apply below_drew1 | apply pw_below_drewN)⟩
theorem slices_Clone_byte_byte.calls (A0 : Option Addr) (c0 : Nat) (l0 : List Int) (r : List Int) (w : World) (hr0 : Kd.C (Kd.int .u8) w A0 l0.length l0) (hc0 : l0.length ≤ c0) (h : slices_Clone_byte_byte.f l0 = some r) :
  Calls Tryz.prog 98 #[.slice A0 l0.length c0] w fun e w' => ∃ v0_ : Value, e = .returned (v0_) ∧ Kd.R (Kd.int .u8) 5 w' w.heap.size (fun _ => True) v0_ r ∧ Below w.heap.size w w' := by
 cases A0 with
 | some ad0 => exact slices_Clone_byte_byte.calls_some ad0 c0 l0 r w hr0 hc0 h
 | none =>
  have hl : l0 = [] := by
   rcases Nat.eq_zero_or_pos l0.length with h0 | h0
   ·exact List.eq_nil_of_length_eq_zero h0
   ·obtain ⟨ad, he, _⟩ := hr0.2.2 h0
    cases he
  subst hl
  have hr : r = [] := by
   simp [slices_Clone_byte_byte.f] at h
   exact h
  subst hr
  exact (slices_Clone_byte_byte.calls_none c0 w).mono fun e w' ⟨he, hb⟩ => ⟨_, he, Kd.R_nil _ _ _ _ _, hb⟩
theorem strconv_Itoa_152.calls (a0 : Int) (r : ByteArray) (w : World) (hgw : GW w) (h : strconv_Itoa_152.f a0 = some r) :
  Calls Tryz.prog 152 #[.int .i64 a0] w fun e w' => e = .returned (.string r) ∧ Below w.heap.size w w' := by
 unfold strconv_Itoa_152.f at h
 split at h
 ·rename_i hr
  obtain rfl := Option.some.inj h
  refine (Tryz.strconv_Itoa a0 hr.1 hr.2 w hgw.tab).mono ?_
  rintro e w' ⟨he, k, os, rfl⟩
  exact ⟨he, Lib.below_grow _ _ (Nat.le_refl _) _ _⟩
 ·cases h
theorem strings_Cut.calls (a0 : ByteArray) (a1 : ByteArray) (r1 : ByteArray) (r2 : ByteArray) (r3 : Bool) (w : World) (hgw : GW w) (h : strings_Cut.f a0 a1 = some (r1, r2, r3)) :
  Calls Tryz.prog 131 #[.string a0, .string a1] w fun e w' => e = .returned (.tuple #[.string r1, .string r2, .bool r3]) ∧ Below w.heap.size w w' := by
 unfold strings_Cut.f at h
 split at h
 ·rename_i hr
  simp only [Option.some.injEq, Prod.mk.injEq] at h
  obtain ⟨rfl, rfl, rfl⟩ := h
  obtain ⟨m_, g_, hn_, hm_, hl_⟩ := hgw.most
  obtain rfl : g_ = 0 := Option.some.inj (hn_.symm.trans (show Tryz.prog.globalNamed "internal/bytealg.MaxLen" = some 0 by kernel_rfl))
  refine (Tryz.strings_Cut a0 a1 m_ w hr hm_).mono ?_
  rintro e w' ⟨he, k_, rfl⟩
  exact ⟨he, pw_below_drewN (Below.refl _ w) _⟩
 ·cases h
theorem strings_Join.calls (A0 : Option Addr) (c0 : Nat) (l0 : List ByteArray) (a1 : ByteArray) (r : ByteArray) (w : World) (hgw : GW w) (hsp : ∀ ad, A0 = some ad → ad.spot = none) (hr0 : Kd.C Kd.string w A0 l0.length l0) (hc0 : l0.length ≤ c0) (h : strings_Join.f l0 a1 = some r) :
  Calls Tryz.prog 144 #[.slice A0 l0.length c0, .string a1] w fun e w' => e = .returned (.string r) ∧ Below w.heap.size w w' := by
 unfold strings_Join.f at h
 split at h
 ·rename_i hr
  obtain rfl := Option.some.inj h
  by_cases h0 : l0 = []
  ·subst h0
   exact (Tryz.strings_Join_none A0 c0 a1 w).mono fun e w' ⟨he, hw⟩ => ⟨he, hw ▸ Below.refl _ _⟩
  ·obtain ⟨ad, hA, hc⟩ := Kd.at_string hr0 0 (Int.le_refl _) (by have := List.length_pos_iff.2 h0; omega)
   have hs := hsp ad hA
   subst hA
   obtain ⟨bk, o, sp⟩ := ad
   obtain rfl : sp = none := hs
   have hcells : ∀ (j : Nat) x, l0[j]? = some x → w.cell? ⟨bk, o + j, none⟩ = some (.string x) := by
    intro j x hx
    obtain ⟨hj, hx'⟩ := List.getElem?_eq_some_iff.1 hx
    obtain ⟨ad', he', hc'⟩ := Kd.at_string hr0 (j : Int) (by omega) (by omega)
    injection he' with he'
    subst he'
    have e2 : rdOf ByteArray.empty l0 (j : Int) = x := by
     unfold rdOf
     rw [Int.toNat_natCast, List.getD_eq_getElem?_getD, hx]
     rfl
    rw [Int.toNat_natCast, e2, Addr.add_lit] at hc'
    exact hc'
   exact (Tryz.strings_Join bk o c0 l0 a1 w hcells (by have := World.block_lt_of_cell? w _ hc; exact this) hr.1 hc0 hr.2).mono fun e w' h => h
 ·cases h
theorem strings_Split.calls (a0 : ByteArray) (a1 : ByteArray) (r : List ByteArray) (w : World) (hgw : GW w) (h : strings_Split.f a0 a1 = some r) :
  Calls Tryz.prog 130 #[.string a0, .string a1] w fun e w' => ∃ v0_ : Value, e = .returned (v0_) ∧ Kd.R Kd.string 9 w' w.heap.size (fun _ => True) v0_ r ∧ Below w.heap.size w w' := by
 unfold strings_Split.f at h
 split at h
 ·rename_i hr
  obtain rfl := Option.some.inj h
  obtain ⟨m_, g_, hn_, hm_, hl_⟩ := hgw.most
  obtain rfl : g_ = 0 := Option.some.inj (hn_.symm.trans (show Tryz.prog.globalNamed "internal/bytealg.MaxLen" = some 0 by kernel_rfl))
  have hlen := Lib.splitB_all a1 hr.2 0 _ a0 rfl
  have hle := Lib.countB_le a1 hr.2 a0.size a0 (Nat.le_refl _)
  have hmx : maxLen = 9223372036854775807 := by decide
  refine (Tryz.strings_Split a0 a1 m_ w hr.1 hm_ hr.2).mono ?_
  rintro e w' ⟨rfl, rfl⟩
  rw [← hlen]
  exact ⟨_, rfl, Kd.R_of_own (own_new w 9 _ _ _ _ (by simp [encs]) (Nat.le_refl _) (by omega) (by simp) (by simp [encs]; exact List.take_of_length_le (by simp))) (fun _ _ => trivial), (Below.refl _ w).alloc (Nat.le_refl _) _⟩
 ·cases h
theorem strings_SplitN.calls (a0 : ByteArray) (a1 : ByteArray) (a2 : Int) (r : List ByteArray) (w : World) (hgw : GW w) (h : strings_SplitN.f a0 a1 a2 = some r) :
  Calls Tryz.prog 132 #[.string a0, .string a1, .int .i64 a2] w fun e w' => ∃ v0_ : Value, e = .returned (v0_) ∧ Kd.R Kd.string 9 w' w.heap.size (fun _ => True) v0_ r ∧ Below w.heap.size w w' := by
 unfold strings_SplitN.f at h
 split at h
 ·rename_i hr
  obtain rfl := Option.some.inj h
  obtain ⟨k_, rfl⟩ := Int.eq_ofNat_of_zero_le (show 0 ≤ a2 by omega)
  rw [Int.toNat_natCast] at *
  obtain ⟨m_, g_, hn_, hm_, hl_⟩ := hgw.most
  obtain rfl : g_ = 0 := Option.some.inj (hn_.symm.trans (show Tryz.prog.globalNamed "internal/bytealg.MaxLen" = some 0 by kernel_rfl))
  have hlen := Lib.splitB_length_le a1 0 (min k_ (a0.size + 1) - 1) a0
  have hmx : maxLen = 9223372036854775807 := by decide
  refine (Tryz.strings_SplitN a0 a1 k_ m_ w hr.1 hm_ hr.2.1 (by omega) (by omega)).mono ?_
  rintro e w' ⟨rfl, rfl⟩
  exact ⟨_, rfl, Kd.R_of_own (own_new w 9 _ _ _ _ (by simp [encs]) (by omega) (by omega) (Lib.cellsOf_size (by omega)) (by simp [Lib.cellsOf, encs])) (fun _ _ => trivial), (Below.refl _ w).alloc (Nat.le_refl _) _⟩
 ·cases h
end Go.Proofs.YthkepmicdpgbbaaGreatDoor.P

namespace Go.Proofs.YthkepmicdpgbbaaGreatDoor.E
open Go Go.RowKit Go.Proofs.YthkepmicdpgbbaaGreatDoorW.PrintWords Go.Proofs.YthkepmicdpgbbaaGreatDoor.P
set_option linter.unusedVariables false
set_option maxRecDepth 100000
theorem impl_dbPlace_ev {l0 : List S138} {a1 : ByteArray} {r : Int} (H : impl_dbPlace.f l0 a1 = some r) : Spec Tryz.prog 151 [.v (.row (List.map (fun (p : S138) => ([.s p.f0, .i .i64 p.f1, .i .i64 p.f2, .i .i64 p.f3, .i .i64 p.f4] : List CV)) l0)), .v (.s a1)] [] (.v (.i .i64 r)) [] := by
 refine spec_val (callFunc_of Tryz.func151 (by rfl) (by rfl)) fun G w vals hgw hr => ?_
 simp only [RepsL, Reps] at hr
 obtain ⟨v, vs, h1, h2, u, us, rfl, h3, rfl⟩ := hr
 simp only [RepC] at h3
 subst h3
 obtain ⟨A0, c0, rfl, hc, hC, hs⟩ := kdC_of k138 _ (fun _ => rfl) (fun x I w cs h => by
  simp only [RepP, RepC] at h
  obtain ⟨_, _, rfl, rfl, _, _, rfl, rfl, _, _, rfl, rfl, _, _, rfl, rfl, _, _, rfl, rfl, _⟩ := h
  exact ⟨[_], _, rfl, rfl, [_], _, rfl, rfl, [_], _, rfl, rfl, [_], _, rfl, rfl, rfl⟩) h2
 obtain rfl : vals = #[.slice A0 l0.length c0, .string a1] := by rw [← Array.toList_inj, h1]
 refine (impl_dbPlace.calls A0 c0 l0 a1 r w hC hc H).mono fun e w' hq => ?_
 exact ⟨_, hq.1, hq.2, fun G => by simp only [Reps, RepC]⟩
theorem slices_Clone_byte_byte_ev {l0 : List Int} {r : List Int} (H : slices_Clone_byte_byte.f l0 = some r) : Spec Tryz.prog 98 [.v (.row (List.map (fun (x : Int) => ([.i .u8 x] : List CV)) l0))] [] (.own 0 (List.map (fun (x : Int) => ([.i .u8 x] : List CV)) r).length) [.arr 1 5 false (List.map (fun (x : Int) => ([.i .u8 x] : List CV)) r)] := by
 refine spec_row (by decide) (callFunc_of Tryz.func98 (by rfl) (by rfl)) fun G w vals hgw hr => ?_
 simp only [RepsL, Reps] at hr
 obtain ⟨v, vs, h1, h2, h3⟩ := hr
 obtain ⟨A0, c0, rfl, hc, hC, _⟩ := kdC_of (Kd.int .u8) _ (fun _ => rfl) (fun x I w cs h => by simp only [RepP, RepC] at h; obtain ⟨v, vs', rfl, rfl, _⟩ := h; rfl) h2
 obtain rfl : vals = #[.slice A0 l0.length c0] := by rw [← Array.toList_inj, h1, h3]
 refine (slices_Clone_byte_byte.calls A0 c0 l0 r w hC hc H).mono fun e w' hq => ?_
 obtain ⟨v0, he, hR, hb⟩ := hq
 exact ⟨v0, he, hb, row_of_kd (f := fun x => [.i .u8 x]) (enc := Value.int .u8) (h1 := fun _ => rfl) (fun _ _ _ _ => by simp only [RepP, RepC]; exact ⟨_, _, rfl, rfl, trivial⟩) (fun _ => rfl) hR⟩
theorem strconv_Itoa_152_ev {a0 : Int} {r : ByteArray} (H : strconv_Itoa_152.f a0 = some r) : Spec Tryz.prog 152 [.v (.i .i64 a0)] [] (.v (.s r)) [] := by
 refine spec_val (callFunc_of Tryz.func152 (by rfl) (by rfl)) fun G w vals hgw hr => ?_
 simp only [RepsL, Reps, RepC] at hr
 obtain ⟨v, vs, h1, rfl, rfl⟩ := hr
 obtain rfl : vals = #[.int .i64 a0] := by rw [← Array.toList_inj, h1]
 refine (strconv_Itoa_152.calls a0 r w hgw H).mono fun e w' hq => ?_
 exact ⟨_, hq.1, hq.2, fun G => by simp only [Reps, RepC]⟩
theorem strings_Cut_ev {a0 a1 : ByteArray} {r : ByteArray × ByteArray × Bool} (H : strings_Cut.f a0 a1 = some r) : Spec Tryz.prog 131 [.v (.s a0), .v (.s a1)] [] (.tup [.v (.s r.1), .v (.s r.2.1), .v (.b r.2.2)]) [] := by
 obtain ⟨r1, r2, r3⟩ := r
 refine spec_val (callFunc_of Tryz.func131 (by rfl) (by rfl)) fun G w vals hgw hr => ?_
 simp only [RepsL, Reps, RepC] at hr
 obtain ⟨v, vs, h1, rfl, u, us, rfl, rfl, rfl⟩ := hr
 obtain rfl : vals = #[.string a0, .string a1] := by rw [← Array.toList_inj, h1]
 refine (strings_Cut.calls a0 a1 r1 r2 r3 w hgw H).mono fun e w' hq => ?_
 exact ⟨_, hq.1, hq.2, fun G => by simp only [Reps, RepC, RepsL]; exact ⟨_, rfl, _, _, rfl, rfl, _, _, rfl, rfl, _, _, rfl, rfl, rfl⟩⟩
theorem strings_Join_ev {l0 : List ByteArray} {a1 r : ByteArray} (H : strings_Join.f l0 a1 = some r) : Spec Tryz.prog 144 [.v (.row (List.map (fun (x : ByteArray) => ([.s x] : List CV)) l0)), .v (.s a1)] [] (.v (.s r)) [] := by
 refine spec_val (callFunc_of Tryz.func144 (by rfl) (by rfl)) fun G w vals hgw hr => ?_
 simp only [RepsL, Reps] at hr
 obtain ⟨v, vs, h1, h2, u, us, rfl, h3, rfl⟩ := hr
 simp only [RepC] at h3
 subst h3
 obtain ⟨A0, c0, rfl, hc, hC, hs⟩ := kdC_of Kd.string _ (fun _ => rfl) (fun x I w cs h => by simp only [RepP, RepC] at h; obtain ⟨v, vs', rfl, rfl, _⟩ := h; rfl) h2
 obtain rfl : vals = #[.slice A0 l0.length c0, .string a1] := by rw [← Array.toList_inj, h1]
 by_cases hl : l0 = []
 ·subst hl
  have hr : r = ⟨#[]⟩ := by
   unfold strings_Join.f at H
   split at H
   ·rw [← Option.some.inj H]
    rfl
   ·cases H
  subst hr
  refine (Tryz.strings_Join_none A0 c0 a1 w).mono fun e w' hq => ?_
  exact ⟨_, hq.1, hq.2 ▸ Below.refl _ _, fun G => by simp only [Reps, RepC]⟩
 ·refine (strings_Join.calls A0 c0 l0 a1 r w hgw (hs hl) hC hc H).mono fun e w' hq => ?_
  exact ⟨_, hq.1, hq.2, fun G => by simp only [Reps, RepC]⟩
theorem strings_Split_ev {a0 a1 : ByteArray} {r : List ByteArray} (H : strings_Split.f a0 a1 = some r) : Spec Tryz.prog 130 [.v (.s a0), .v (.s a1)] [] (.own 0 (List.map (fun (x : ByteArray) => ([.s x] : List CV)) r).length) [.arr 1 9 false (List.map (fun (x : ByteArray) => ([.s x] : List CV)) r)] := by
 refine spec_row (by decide) (callFunc_of Tryz.func130 (by rfl) (by rfl)) fun G w vals hgw hr => ?_
 simp only [RepsL, Reps, RepC] at hr
 obtain ⟨v, vs, h1, rfl, u, us, rfl, rfl, rfl⟩ := hr
 obtain rfl : vals = #[.string a0, .string a1] := by rw [← Array.toList_inj, h1]
 refine (strings_Split.calls a0 a1 r w hgw H).mono fun e w' hq => ?_
 obtain ⟨v0, he, hR, hb⟩ := hq
 exact ⟨v0, he, hb, row_of_kd (f := fun x => [.s x]) (enc := Value.string) (h1 := fun _ => rfl) (fun _ _ _ _ => by simp only [RepP, RepC]; exact ⟨_, _, rfl, rfl, trivial⟩) (fun _ => rfl) hR⟩
theorem strings_SplitN_ev {a0 a1 : ByteArray} {a2 : Int} {r : List ByteArray} (H : strings_SplitN.f a0 a1 a2 = some r) : Spec Tryz.prog 132 [.v (.s a0), .v (.s a1), .v (.i .i64 a2)] [] (.own 0 (List.map (fun (x : ByteArray) => ([.s x] : List CV)) r).length) [.arr 1 9 false (List.map (fun (x : ByteArray) => ([.s x] : List CV)) r)] := by
 refine spec_row (by decide) (callFunc_of Tryz.func132 (by rfl) (by rfl)) fun G w vals hgw hr => ?_
 simp only [RepsL, Reps, RepC] at hr
 obtain ⟨v, vs, h1, rfl, u, us, rfl, rfl, u2, us2, rfl, rfl, rfl⟩ := hr
 obtain rfl : vals = #[.string a0, .string a1, .int .i64 a2] := by rw [← Array.toList_inj, h1]
 refine (strings_SplitN.calls a0 a1 a2 r w hgw H).mono fun e w' hq => ?_
 obtain ⟨v0, he, hR, hb⟩ := hq
 exact ⟨v0, he, hb, row_of_kd (f := fun x => [.s x]) (enc := Value.string) (h1 := fun _ => rfl) (fun _ _ _ _ => by simp only [RepP, RepC]; exact ⟨_, _, rfl, rfl, trivial⟩) (fun _ => rfl) hR⟩
end Go.Proofs.YthkepmicdpgbbaaGreatDoor.E

namespace Go.Proofs.YthkepmicdpgbbaaGreatDoor.E
open Go Go.RowKit Go.Proofs.YthkepmicdpgbbaaGreatDoorW.PrintWords Go.Proofs.YthkepmicdpgbbaaGreatDoor.P
abbrev e3 (x : Int) : List CV := [.i .i64 x]
abbrev e5 (x : Int) : List CV := [.i .u8 x]
abbrev e9 (x : ByteArray) : List CV := [.s x]
abbrev e22 (x : (List Int)) : List CV := [.row (List.map e5 x)]
abbrev e25 (p : S25) : List CV := [.i .i64 p.f0, .i .i64 p.f1, .i .i64 p.f2, .s p.f3]
theorem lit25 (v0 : Int) (v1 : Int) (v2 : Int) (v3 : ByteArray) {c : List CV} {K : List (List CV) → Prop} (h : ([[.i .i64 v0, .i .i64 v1, .i .i64 v2, .s v3]] : List (List CV)) = chunks 4 1 c) (k : K (List.map e25 [⟨v0, v1, v2, v3⟩])) : Norm 25 (chunks 4 1 c) K := norm_lit (f := e25) [⟨v0, v1, v2, v3⟩] h k
abbrev e125 (p : S125) : List CV := [.i .i64 p.f0, .row (List.map e5 p.f1)]
abbrev e109 (p : S109) : List CV := [.i .i64 p.f0, .row (List.map e5 p.f1)]
theorem set109 (v0 : Int) (v1 : (List Int)) {l : List S109} {i : Nat} {y : List CV} {K : List (List CV) → Prop} (h : ([.i .i64 v0, .row (List.map e5 v1)] : List CV) = y) (k : K (List.map e109 (l.set i ⟨v0, v1⟩))) : Norm 109 ((List.map e109 l).set i y) K := norm_set (f := e109) ⟨v0, v1⟩ h k
theorem lit109 (v0 : Int) (v1 : (List Int)) {c : List CV} {K : List (List CV) → Prop} (h : ([[.i .i64 v0, .row (List.map e5 v1)]] : List (List CV)) = chunks 2 1 c) (k : K (List.map e109 [⟨v0, v1⟩])) : Norm 109 (chunks 2 1 c) K := norm_lit (f := e109) [⟨v0, v1⟩] h k
abbrev e138 (p : S138) : List CV := [.s p.f0, .i .i64 p.f1, .i .i64 p.f2, .i .i64 p.f3, .i .i64 p.f4]
theorem lit138 (v0 : ByteArray) (v1 : Int) (v2 : Int) (v3 : Int) (v4 : Int) {c : List CV} {K : List (List CV) → Prop} (h : ([[.s v0, .i .i64 v1, .i .i64 v2, .i .i64 v3, .i .i64 v4]] : List (List CV)) = chunks 5 1 c) (k : K (List.map e138 [⟨v0, v1, v2, v3, v4⟩])) : Norm 138 (chunks 5 1 c) K := norm_lit (f := e138) [⟨v0, v1, v2, v3, v4⟩] h k
end Go.Proofs.YthkepmicdpgbbaaGreatDoor.E

namespace Go.Proofs.YthkepmicdpgbbaaGreatDoor.P
open Go.RowKit Go.Proofs.YthkepmicdpgbbaaGreatDoorW.PrintWords
set_option linter.unusedVariables false
def impl_diskCopyT.f (k : Nat) (l0_0 : List (List Int)) (l0_1 : List (S109)) (a0_2 : Int) (a0_3 : Bool) : Option ((List (List Int)) × (List (S109)) × Int × Bool) := (impl_diskCopy.f k l0_0 l0_1 a0_2 a0_3).bind some
theorem impl_diskCopyT.eq (k : Nat) (l0_0 : List (List Int)) (l0_1 : List (S109)) (a0_2 : Int) (a0_3 : Bool) : impl_diskCopyT.f k l0_0 l0_1 a0_2 a0_3 = impl_diskCopy.f k l0_0 l0_1 a0_2 a0_3 := by unfold impl_diskCopyT.f; cases impl_diskCopy.f k l0_0 l0_1 a0_2 a0_3 <;> rfl
def laws_toDiskT.f (k : Nat) (l0_0 : List (List Int)) (l0_1 : List (S125)) (a0_2 : Int) (a0_3 : Bool) : Option ((List (List Int)) × (List (S109)) × Int × Bool) := (laws_toDisk.f k l0_0 l0_1 a0_2 a0_3).bind some
theorem laws_toDiskT.eq (k : Nat) (l0_0 : List (List Int)) (l0_1 : List (S125)) (a0_2 : Int) (a0_3 : Bool) : laws_toDiskT.f k l0_0 l0_1 a0_2 a0_3 = laws_toDisk.f k l0_0 l0_1 a0_2 a0_3 := by unfold laws_toDiskT.f; cases laws_toDisk.f k l0_0 l0_1 a0_2 a0_3 <;> rfl
def impl_SyncDiskA.f (k : Nat) (l0_0 : List (List Int)) (l0_1 : List (S109)) (a0_2 : Int) (a0_3 : Bool) : Option ((List (List Int)) × (List (S109)) × Int × Bool) := (impl_diskCopy.f k l0_0 l0_1 a0_2 a0_3).bind fun c => ((impl_DiskOk.f k l0_0 l0_1 a0_2 a0_3).bind fun t => (if t = true then (if a0_3 = true then (some (c.1, c.2.1, c.2.2.1, c.2.2.2)) else (none)) else (some (c.1, c.2.1, c.2.2.1, c.2.2.2))))
def impl_SyncDiskB.l0 : Nat → List (S109) → Int → Int → List (List Int) → List (S109) → Int → Bool → List (List Int) → Int → Bool → Option ((List (List Int)) × (List (S109)) × Int × Bool)
 | 0, _, _, _, _, _, _, _, _, _, _ => none
 | k + 1, x24, x25, x26, x7000, x7001, x7002, x7003, x8000, x8002, x8003 => if x26 < x25 then (if 0 ≤ x26 then (if x26 < (x24.length : Int) then (if 0 ≤ ((rd_T109 x24 x26).f0) then (if ((rd_T109 x24 x26).f0) < (x8000.length : Int) then (impl_SyncDiskB.l0 k x24 x25 (wrap64 (x26 + 1)) x7000 x7001 x7002 x7003 (x8000.set ((rd_T109 x24 x26).f0).toNat ((rd_T109 x24 x26).f1)) x8002 x8003) else (none)) else (none)) else (none)) else (none)) else (impl_diskCopyT.f k x8000 ([] : List (S109)) x8002 x8003)
def impl_SyncDiskB.f (k : Nat) (l0_0 : List (List Int)) (l0_1 : List (S109)) (a0_2 : Int) (a0_3 : Bool) : Option ((List (List Int)) × (List (S109)) × Int × Bool) := (impl_diskCopy.f k l0_0 l0_1 a0_2 a0_3).bind fun c => ((impl_DiskOk.f k l0_0 l0_1 a0_2 a0_3).bind fun t => (if t = true then (if a0_3 = true then (none) else ((impl_powered.f c.1 c.2.1 c.2.2.1 c.2.2.2).bind fun p => (if p.2.2.2.2 = true then (impl_SyncDiskB.l0 k p.2.1 (p.2.1.length : Int) 0 l0_0 l0_1 a0_2 a0_3 p.1 p.2.2.1 p.2.2.2.1) else (impl_diskCopyT.f k p.1 p.2.1 p.2.2.1 p.2.2.2.1)))) else (none)))
theorem impl_SyncDiskB_l0 (k : Nat) : ∀ (x24 : List (S109)) (x25 x26 : Int) (x7000 : List (List Int)) (x7001 : List (S109)) (x7002 : Int) (x7003 : Bool) (x8000 : List (List Int)) (x8002 : Int) (x8003 : Bool), impl_SyncDiskB.l0 k x24 x25 x26 x7000 x7001 x7002 x7003 x8000 x8002 x8003 = impl_SyncDisk.l0 k x24 x25 x26 x7000 x7001 x7002 x7003 x8000 x8002 x8003 := by
 induction k with
 | zero => intros; rfl
 | succ k ih => intros; simp only [impl_SyncDiskB.l0, impl_SyncDisk.l0, ih, impl_diskCopyT.eq]
theorem impl_SyncDisk_split {k : Nat} {l0_0 : List (List Int)} {l0_1 : List (S109)} {a0_2 : Int} {a0_3 : Bool} {r : (List (List Int)) × (List (S109)) × Int × Bool} (H : impl_SyncDisk.f k l0_0 l0_1 a0_2 a0_3 = some r) : impl_SyncDiskA.f k l0_0 l0_1 a0_2 a0_3 = some r ∨ impl_SyncDiskB.f k l0_0 l0_1 a0_2 a0_3 = some r := by
 unfold impl_SyncDisk.f at H
 unfold impl_SyncDiskA.f impl_SyncDiskB.f
 obtain ⟨c, h1, H⟩ := Option.bind_eq_some_iff.1 H
 obtain ⟨t, h2, H⟩ := Option.bind_eq_some_iff.1 H
 rw [h1, h2]
 simp only [Option.bind_some]
 by_cases ht : t = true
 ·rw [if_pos ht] at H
  rw [if_pos ht, if_pos ht]
  by_cases hd : a0_3 = true
  ·rw [if_pos hd] at H
   rw [if_pos hd]
   exact .inl H
  ·rw [if_neg hd] at H
   rw [if_neg hd, if_neg hd]
   refine .inr ?_
   simp only [impl_SyncDiskB_l0, impl_diskCopyT.eq]
   exact H
 ·rw [if_neg ht] at H
  rw [if_neg ht]
  exact .inl H
theorem laws_markByteS_l0_len (k : Nat) : ∀ (l : List Int) (a i : Int) (r : Int × List Int), laws_markByteS.l0 k l a i = some r → r.2.length = l.length := by
 induction k with
 | zero => intro l a i r h; simp [laws_markByteS.l0] at h
 | succ k ih =>
  intro l a i r h
  simp only [laws_markByteS.l0] at h
  split at h
  ·split at h
   ·have := ih _ _ _ _ h
    simpa using this
   ·cases h
  ·injection h with h
   subst h
   rfl
theorem laws_markByteS_len {k : Nat} {l : List Int} {a : Int} {r : Int × List Int} (h : laws_markByteS.f k l a = some r) : r.2.length = l.length := laws_markByteS_l0_len k l a 0 r h
def laws_markByteSS.l0 : Nat → List (List Int) → Int → Int → Option (Int × (List (List Int)))
 | 0, _, _, _ => none
 | k + 1, x0, x1, x5 => if x5 < (x0.length : Int) then (if 0 ≤ x5 then ((laws_markByteS.f k (rd_L6 x0 x5) x1).bind fun p => (laws_markByteSS.l0 k (x0.set x5.toNat p.2) p.1 (wrap64 (x5 + 1)))) else (none)) else (some (x1, x0))
def laws_markByteSS.f (k : Nat) (l0 : List (List Int)) (a1 : Int) : Option (Int × (List (List Int))) := laws_markByteSS.l0 k l0 a1 0
def laws_markWrS.l0 : Nat → List (S109) → Int → Int → Option (Int × (List (S109)))
 | 0, _, _, _ => none
 | k + 1, x0, x1, x5 => if x5 < (x0.length : Int) then (if 0 ≤ x5 then ((laws_markByteS.f k ((rd_T109 x0 x5).f1) (wrap64 (x1 + 1))).bind fun p => (laws_markWrS.l0 k ((x0.set x5.toNat ⟨x1, (rd_T109 x0 x5).f1⟩).set x5.toNat ⟨x1, p.2⟩) p.1 (wrap64 (x5 + 1)))) else (none)) else (some (x1, x0))
def laws_markWrS.f (k : Nat) (l0 : List (S109)) (a1 : Int) : Option (Int × (List (S109))) := laws_markWrS.l0 k l0 a1 0
def laws_markDisk.f (k : Nat) (l0_0 : List (List Int)) (l0_1 : List (S109)) (a0_2 : Int) (a0_3 : Bool) (a1 : Int) : Option (Int × (List (List Int)) × (List (S109))) := (laws_markByteSS.f k l0_0 a1).bind fun p => ((laws_markWrS.f k l0_1 p.1).bind fun q => (some (q.1, p.2, q.2)))
theorem laws_markByteSS_l0_len (k : Nat) : ∀ (l : List (List Int)) (a i : Int) (r : Int × List (List Int)), laws_markByteSS.l0 k l a i = some r → r.2.length = l.length := by
 induction k with
 | zero => intro l a i r h; simp [laws_markByteSS.l0] at h
 | succ k ih =>
  intro l a i r h
  simp only [laws_markByteSS.l0] at h
  split at h
  ·split at h
   ·obtain ⟨p, _, h⟩ := Option.bind_eq_some_iff.1 h
    have := ih _ _ _ _ h
    simpa using this
   ·cases h
  ·injection h with h
   subst h
   rfl
theorem laws_markWrS_l0_len (k : Nat) : ∀ (l : List (S109)) (a i : Int) (r : Int × List (S109)), laws_markWrS.l0 k l a i = some r → r.2.length = l.length := by
 induction k with
 | zero => intro l a i r h; simp [laws_markWrS.l0] at h
 | succ k ih =>
  intro l a i r h
  simp only [laws_markWrS.l0] at h
  split at h
  ·split at h
   ·obtain ⟨p, _, h⟩ := Option.bind_eq_some_iff.1 h
    have := ih _ _ _ _ h
    simpa using this
   ·cases h
  ·injection h with h
   subst h
   rfl
theorem laws_markDisk_len {k : Nat} {l0_0 : List (List Int)} {l0_1 : List (S109)} {a0_2 : Int} {a0_3 : Bool} {a1 : Int} {r : Int × (List (List Int)) × (List (S109))} (h : laws_markDisk.f k l0_0 l0_1 a0_2 a0_3 a1 = some r) : r.2.1.length = l0_0.length ∧ r.2.2.length = l0_1.length := by
 unfold laws_markDisk.f at h
 obtain ⟨p, h1, h⟩ := Option.bind_eq_some_iff.1 h
 obtain ⟨q, h2, h⟩ := Option.bind_eq_some_iff.1 h
 injection h with h
 subst h
 exact ⟨laws_markByteSS_l0_len _ _ _ _ _ h1, laws_markWrS_l0_len _ _ _ _ _ h2⟩
end Go.Proofs.YthkepmicdpgbbaaGreatDoor.P

namespace Go.Proofs.YthkepmicdpgbbaaGreatDoor.P
open Go.RowKit Go.Proofs.YthkepmicdpgbbaaGreatDoorW.PrintWords
set_option linter.unusedVariables false
structure S65 where
 f0 : Int
 f1 : Int
 f2 : Int
 f3 : ByteArray
def k65 : Kd S65 := Kd.iso (Kd.pair (Kd.int .i64) (Kd.pair (Kd.int .i64) (Kd.pair (Kd.int .i64) Kd.string))) (fun x : S65 => (x.f0, x.f1, x.f2, x.f3))
theorem k65_open {w : World} {x : S65} {cs : List Value} (h : k65.K w x cs) : cs = [.int .i64 x.f0, .int .i64 x.f1, .int .i64 x.f2, .string x.f3] := by
 obtain ⟨_, _, rfl, rfl, ⟨_, _, rfl, rfl, ⟨_, _, rfl, rfl, rfl⟩⟩⟩ := h
 exact rfl
def laws_FnExactAddRec.f (k : Nat) (l0_0 : List (List Int)) (l0_1 : List (S125)) (a0_2 : Int) (a0_3 : Bool) (a1_0 : Int) (a1_1 : Int) (a1_2 : Int) (a1_3 : ByteArray) : Option (Bool) := (laws_szDisk.f k l0_0 l0_1 a0_2 a0_3 1048576).bind fun t0 => (if t0 < 0 then (some true) else ((laws_szRec.f a1_0 a1_1 a1_2 a1_3 t0).bind fun t1 => (if t1 < 0 then (some true) else ((laws_toDisk.f k l0_0 l0_1 a0_2 a0_3).bind fun a0 => ((laws_toRec.f a1_0 a1_1 a1_2 a1_3).bind fun u0 => ((spec_AddRec.f k a0.1 a0.2.1 a0.2.2.1 a0.2.2.2 u0.1 u0.2.1 u0.2.2.1 u0.2.2.2).bind fun w0 => ((laws_toDiskT.f k l0_0 l0_1 a0_2 a0_3).bind fun x0 => ((laws_toRec.f a1_0 a1_1 a1_2 a1_3).bind fun x2 => ((impl_AddRec.f k x0.1 x0.2.1 x0.2.2.1 x0.2.2.2 x2.1 x2.2.1 x2.2.2.1 x2.2.2.2).bind fun g0 => ((laws_eqDisk.f k g0.1 g0.2.1 g0.2.2.1 g0.2.2.2.1 w0.1 w0.2.1 w0.2.2.1 w0.2.2.2.1).bind fun b2 => (if b2 = true then (if (g0.2.2.2.2 != w0.2.2.2.2) = true then (some false) else ((laws_toDisk.f k l0_0 l0_1 a0_2 a0_3).bind fun y0 => ((laws_eqDisk.f k x0.1 x0.2.1 x0.2.2.1 x0.2.2.2 y0.1 y0.2.1 y0.2.2.1 y0.2.2.2).bind fun e0 => (if e0 = true then ((laws_markDisk.f k x0.1 x0.2.1 x0.2.2.1 x0.2.2.2 1).bind fun m1 => (if m1.1 < 0 then (some false) else ((laws_eqDisk.f k g0.1 g0.2.1 g0.2.2.1 g0.2.2.2.1 w0.1 w0.2.1 w0.2.2.1 w0.2.2.2.1).bind fun b1 => (if b1 = true then (if (g0.2.2.2.2 != w0.2.2.2.2) = true then (some false) else ((laws_markDisk.f k g0.1 g0.2.1 g0.2.2.1 g0.2.2.2.1 1).bind fun m2 => ((laws_heldDisk.f k m2.2.1 m2.2.2 g0.2.2.1 g0.2.2.2.1 1).bind fun q2 => (if q2 < 0 then (some false) else (if q2 = m2.1 then ((laws_toDisk.f k l0_0 l0_1 a0_2 a0_3).bind fun z0 => ((laws_toRec.f a1_0 a1_1 a1_2 a1_3).bind fun u1 => ((impl_AddRec.f k z0.1 z0.2.1 z0.2.2.1 z0.2.2.2 u1.1 u1.2.1 u1.2.2.1 u1.2.2.2).bind fun h0 => ((laws_eqDisk.f k h0.1 h0.2.1 h0.2.2.1 h0.2.2.2.1 w0.1 w0.2.1 w0.2.2.1 w0.2.2.2.1).bind fun b0 => (if b0 = true then (if (h0.2.2.2.2 != w0.2.2.2.2) = true then (some false) else ((laws_heldDisk.f k m2.2.1 m2.2.2 g0.2.2.1 g0.2.2.2.1 1).bind fun q1 => (if q1 < 0 then (some false) else (if q1 = m2.1 then (some true) else (some false))))) else (some false)))))) else (some false)))))) else (some false))))) else (some false))))) else (some false))))))))))))
def laws_FnExactAddRec.Pure : Prop := ∀ (l0_0 : List (List Int)) (l0_1 : List (S125)) (a0_2 : Int) (a0_3 : Bool) (a1_0 : Int) (a1_1 : Int) (a1_2 : Int) (a1_3 : ByteArray), (l0_0.length ≤ maxLen ∧ ∀ x0_ ∈ l0_0, (x0_.length ≤ maxLen ∧ ∀ x1_ ∈ x0_, (Lit.int .u8 x1_).wf = true)) → (l0_1.length ≤ maxLen ∧ ∀ x0_ ∈ l0_1, ((Lit.int .i64 x0_.f0).wf = true ∧ (x0_.f1.length ≤ maxLen ∧ ∀ x1_ ∈ x0_.f1, (Lit.int .u8 x1_).wf = true))) → (Lit.int .i64 a0_2).wf = true → (Lit.int .i64 a1_0).wf = true → (Lit.int .i64 a1_1).wf = true → (Lit.int .i64 a1_2).wf = true → a1_3.size ≤ maxLen → ∃ k, laws_FnExactAddRec.f k l0_0 l0_1 a0_2 a0_3 a1_0 a1_1 a1_2 a1_3 = some true
end Go.Proofs.YthkepmicdpgbbaaGreatDoor.P
