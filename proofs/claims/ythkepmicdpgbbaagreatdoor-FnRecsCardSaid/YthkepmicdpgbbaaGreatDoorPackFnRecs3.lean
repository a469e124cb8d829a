/- Texts of this claim, put together: Pxl, EvY, Enc, E_laws_big, E_spec_l1New, E_spec_l1Byte, E_spec_l1Below, E_spec_l1Int, E_spec_l1In, E_spec_l1Name, E_spec_l3Db, E_spec_ConfOk, E_spec_NumText, E_spec_ConfText, E_spec_l1Str, E_spec_l3One, E_spec_DbAt, E_spec_l3Draw, E_spec_l4Draw, E_spec_l1Once, E_spec_l3Text, E_spec_l4Any, E_spec_DrawPutRec, E_impl_isIn, E_impl_ParseNum, E_impl_nameOk, E_impl_ConfOk, E_impl_NumText, E_impl_ConfText, E_impl_ParseConf, E_impl_confOk, E_impl_RecOk, E_impl_wordOk, E_impl_PutWord, E_impl_TextOk, E_impl_PutText, E_impl_Sum, E_impl_PutRec, E_spec_l3Split, E_spec_ParseNum, E_spec_ParseConf, E_spec_l4Text, E_spec_RecOk, E_spec_PutWord, E_spec_Sum, E_spec_l4Word, E_spec_TextOk, E_spec_PutText, E_spec_PutRec, E_spec_l1Bend, E_spec_DrawGetRec, E_impl_GetWord, E_impl_GetText, E_bytes_Equal, E_impl_GetRec, E_spec_GetWord, E_spec_GetText, E_spec_l1Same, E_spec_GetRec, E_laws_same, E_laws_at, E_laws_bent -/
import Derived.Test.YthkepmicdpgbbaaGreatDoorPackFnRecs2
-- Written by xprint.py (by way of the kit's print program) out of the translation.
namespace Go.Proofs.YthkepmicdpgbbaaGreatDoor.P
open Go.RowKit Go.Proofs.YthkepmicdpgbbaaGreatDoorW.PrintWords Go.Proofs.YthkepmicdpgbbaaGreatDoorW.PrintLast Go.Proofs.YthkepmicdpgbbaaGreatDoorW.PrintMore
attribute [local go_sem] max2_int min2_int max_two min_two max_three min_three max_four min_four   -- for this text's walks alone
set_option linter.unusedVariables false
set_option linter.unusedSimpArgs false

/-! ### impl_dbPlace: function 151 -/

set_option maxHeartbeats 1000000 in
theorem impl_dbPlace.one (x : S138) (name : ByteArray) (B : Nat) (w : World) (hB : B < w.heap.size) (hcell : w.cell? ⟨B, 0, none⟩ = some (.string name)) :
    Calls Tryz.prog 164 #[.agg #[.string x.f0, .int .i64 x.f1, .int .i64 x.f2, .int .i64 x.f3, .int .i64 x.f4], .pointer (some ⟨B, 0, none⟩)] w fun e w' => e = .returned (.bool (x.f0.toList == name.toList)) ∧ Below w.heap.size w w' := by
  have hu := Tryz.underlying138
  go_enter Tryz.func164, Tryz.ntmps164
  go_wp2
  go_ret
  exact ⟨rfl, (Below.refl _ _).alloc (Nat.le_refl _) _⟩
theorem impl_dbPlace.p_skip (l : List S138) (name : ByteArray) (i : Nat) (hi : i < l.length) (h : ¬ l[i].f0.toList = name.toList) : impl_dbPlace.l0 (l.drop i) name i = impl_dbPlace.l0 (l.drop (i + 1)) name ((i + 1 : Nat) : Int) := by
  rw [List.drop_eq_getElem_cons hi, impl_dbPlace.l0, if_neg h]
  rfl
theorem impl_dbPlace.p_hit (l : List S138) (name : ByteArray) (i : Nat) (hi : i < l.length) (h : l[i].f0.toList = name.toList) : impl_dbPlace.l0 (l.drop i) name i = i := by
  rw [List.drop_eq_getElem_cons hi, impl_dbPlace.l0, if_pos h]
set_option maxHeartbeats 2000000 in
set_option maxRecDepth 100000 in
theorem impl_dbPlace.index (A0 : Option Addr) (c0 : Nat) (l0 : List S138) (name : ByteArray) (B : Nat) (w : World) (hr : Kd.C k138 w A0 l0.length l0) (hB : B < w.heap.size) (hcell : w.cell? ⟨B, 0, none⟩ = some (.string name)) :
    Calls Tryz.prog 163 #[.slice A0 l0.length c0, .func (.func 164) #[] #[.pointer (some ⟨B, 0, none⟩)]] w fun e w' => e = .returned (.int .i64 (impl_dbPlace.l0 l0 name 0)) ∧ Below w.heap.size w w' := by
  have hu := Tryz.underlying138
  have hlen : l0.length ≤ 9223372036854775807 := hr.2.1
  have HR := Aside0.mk hr
  have HC := Aside0.mk hcell
  clear hr hcell
  go_enter Tryz.func163, Tryz.ntmps163
  go_wp2
  go_loopw [8] (fun v8 wr => ∃ i : Nat, i ≤ l0.length ∧ v8 = .int .i64 i ∧ Aside0 (impl_dbPlace.l0 l0 name 0 = impl_dbPlace.l0 (l0.drop i) name i) ∧ Aside0 (Below w.heap.size w wr)) (fun v8 _ => l0.length - (intOf v8).toNat)
  case atStart => exact ⟨0, Nat.zero_le _, rfl, ⟨rfl⟩, ⟨Below.refl _ _⟩⟩
  case round =>
    obtain ⟨i, hi, rfl, HP, HB⟩ := hrel
    by_cases hlt : i < l0.length
    · have hge : rd_T138 l0 (i : Int) = l0[i] := by unfold rd_T138; rw [Int.toNat_natCast, List.getD_eq_getElem?_getD, List.getElem?_eq_getElem hlt]; rfl
      obtain ⟨ad, hA, h0, h1, h2, h3, h4⟩ := at_T138 (Kd.C_below HR.out HB.out) (i : Int) (by omega) (by omega)
      subst hA
      rw [hge] at h0 h1 h2 h3 h4
      rw [Int.toNat_natCast] at h0 h1 h2 h3 h4
      clear hge
      have hcl := impl_dbPlace.one l0[i] name B
      generalize hx : l0[i] = x at *
      have HX := Aside0.mk hx
      clear hx
      have hBw : w.heap.size ≤ wr.heap.size := HB.out.size
      have HCw := Aside0.mk ((HB.out.cell (p := ⟨B, 0, none⟩) hB).trans HC.out)
      have Hcl := Aside0.mk hcl
      clear hcl
      by_cases hm : x.f0.toList = name.toList
      · have hmb : (x.f0.toList == name.toList) = true := by simpa using hm
        have HM := Aside0.mk hm
        have HMB := Aside0.mk hmb
        clear hm hmb
        go_wp2_with (go_at_call 164; refine (Hcl.out _ (by omega) HCw.out).mono ?_; rintro e w' ⟨rfl, hb⟩; rw [HMB.out])
        go_ret
        exact ⟨by rw [HP.out, impl_dbPlace.p_hit l0 name i hlt (by rw [HX.out]; exact HM.out)]; rfl, below_step HB.out hb⟩
      · have hmb : (x.f0.toList == name.toList) = false := by simpa using hm
        have HM := Aside0.mk hm
        have HMB := Aside0.mk hmb
        clear hm hmb
        go_wp2_with (go_at_call 164; refine (Hcl.out _ (by omega) HCw.out).mono ?_; rintro e w' ⟨rfl, hb⟩; rw [HMB.out])
        go_roundw
        case rel => exact ⟨i + 1, by omega, by go_num, ⟨HP.out.trans (impl_dbPlace.p_skip l0 name i hlt (by rw [HX.out]; exact HM.out))⟩, ⟨below_step HB.out hb⟩⟩
        case measure => simp [intOf]; omega
    · go_wp2
      go_ret
      refine ⟨?_, HB.out⟩
      rw [HP.out, List.drop_of_length_le (by omega)]
      rfl
set_option maxHeartbeats 1000000 in
theorem impl_dbPlace.calls (A0 : Option Addr) (c0 : Nat) (l0 : List (S138)) (a1 : ByteArray) (r : Int) (w : World) (hr0 : Kd.C k138 w A0 l0.length l0) (hc0 : l0.length ≤ c0) (h : impl_dbPlace.f l0 a1 = some r) :
    Calls Tryz.prog 151 #[.slice A0 l0.length c0, .string a1] w fun e w' => e = .returned (.int .i64 r) ∧ Below w.heap.size w w' := by
  obtain rfl : impl_dbPlace.l0 l0 a1 0 = r := Option.some.inj h
  have hcon := impl_dbPlace.index A0 c0 l0 a1 w.heap.size (w.alloc (.cells #[.string a1] 9)) (Kd.C_below hr0 ((Below.refl _ w).alloc (Nat.le_refl _) _)) (by simp) (by simp)
  generalize impl_dbPlace.l0 l0 a1 0 = r at hcon ⊢
  have HCON := Aside0.mk hcon
  clear hcon hr0 hc0 h
  go_enter Tryz.func151, Tryz.ntmps151
  go_wp2_with (go_at_call 163; refine HCON.out.mono ?_; rintro e w' ⟨rfl, hb⟩)
  go_ret
  exact ⟨rfl, below_step ((Below.refl _ w).alloc (Nat.le_refl _) _) hb⟩

/-! ### slices_Clone_byte_byte: function 98 -/
set_option maxHeartbeats 8000000 in
set_option maxRecDepth 100000 in
theorem slices_Clone_byte_byte.calls_some (ad0 : Addr) (c0 : Nat) (l0 : List Int) (r : List Int) (w : World) (hr0 : Kd.C (Kd.int .u8) w (some ad0) l0.length l0) (hc0 : l0.length ≤ c0) (h : slices_Clone_byte_byte.f l0 = some r) :
    Calls Tryz.prog 98 #[.slice (some ad0) l0.length c0] w fun e w' => ∃ v0_ : Value, e = .returned (v0_) ∧ Kd.R (Kd.int .u8) 5 w' w.heap.size (fun _ => True) v0_ r ∧ Below w.heap.size w w' := by
  have HR0 := Aside0.mk hr0
  have HC0 := Aside0.mk hc0
  clear hr0 hc0
  have HB := Aside0.mk (Below.refl w.heap.size w)
  have H : ((some (([] : List Int) : List Int)).bind fun y361 => (if y361.length + l0.length < 140737488355328 then (some (y361 ++ l0)) else (none))) = some r := h
  clear h
  obtain ⟨y361, hy361⟩ : ∃ y_ : List Int, y_ = (([] : List Int)) := ⟨_, rfl⟩
  replace H : (if y361.length + l0.length < 140737488355328 then (some (y361 ++ l0)) else (none)) = some r := by first | (rw [hy361]; with_reducible exact H) | (have H2_ := (Option.bind_some _ _).symm.trans H; rw [hy361]; with_reducible exact H2_) | (have H2_ := (Option.bind_some _ _).symm.trans H; with_reducible exact H2_) | with_reducible exact H | (rw [hy361]; exact H) | exact H
  have Ny361 := Aside0.mk hy361
  clear hy361
  by_cases c2 : y361.length + l0.length < 140737488355328
  · rw [if_pos c2] at H
    have LMc2 := Aside0.mk c2
    clear c2
    obtain ⟨y364, hy364⟩ : ∃ y_ : List Int, y_ = (y361 ++ l0) := ⟨_, rfl⟩
    replace H : (some y364) = some r := by first | (rw [hy364]; with_reducible exact H) | (have H2_ := (Option.bind_some _ _).symm.trans H; rw [hy364]; with_reducible exact H2_) | (have H2_ := (Option.bind_some _ _).symm.trans H; with_reducible exact H2_) | with_reducible exact H | (rw [hy364]; exact H) | exact H
    have Ny364 := Aside0.mk hy364
    clear hy364
    obtain rfl := Option.some.inj H
    have hnil : ∀ (W : World), (binOp .eql 22 (.slice (some ad0) l0.length c0) (.slice none 0 0)).run Tryz.prog W = .ok (.bool false) W := fun W => run_eql_slice_nil W 22 5 (some ad0) l0.length c0 Tryz.underlying22
    go_enter Tryz.func98, Tryz.ntmps98
    go_wp2_with (first | ((with_reducible refine gate_dst (N := 5) rfl ?_); refine Kd.R_lit (Kd.int .u8) _ 5 ?hg (N := 5) ?hd (xs := ([] : List Int)) (inner := []) (ok := fun _ => True) (okp := fun _ => True) ?hr ?hp (fun _ hk => hk) trivial (Below.refl _ _) (Nat.le_refl _) (by simp) ?_; (case hd => rfl); (case hg => rfl); (case hr => first | (go_simp; done) | (go_simp; rfl)); (case hp => exact (Reps.none _ _)); intro v362 w3 ho4 hb hg_ hnew_; clear hg_ hnew_; (first | rw [← Ny361.out] at ho4 | (simp only [Int.reduceToNat] at ho4; rw [← Ny361.out] at ho4)); have n0_ := Aside0.mk (Kd.R_lower ho4 (below_size (by repeat (first | (with_reducible first | exact HB.out | apply below_alloc | apply pw_below_drewN | apply below_drew1) | exact HB.out)))); have n1_ := Aside0.mk (below_step (by repeat (first | (with_reducible first | exact HB.out | apply below_alloc | apply pw_below_drewN | apply below_drew1) | exact HB.out)) hb); clear HB; have HO363 := n0_; have HB := n1_; clear n0_ n1_; clear hb ho4) | ((with_reducible refine gate_builtin (b := .append) (xs := #[.tmp 5, .tmp 6]) rfl ?_); at_builtin; refine Kd.R_append_rows (Kd.int .u8) (w0 := w) w.heap.size rfl (.tmp 5) (.tmp 6) 22 5 (.int .u8 0) 1 rfl Tryz.underlying22 info5 rfl (by decide) (by omega) v362 y361 l0 _ _ _ (fun _ => True) (fun _ => False) rfl rfl ?aO ?aR (fun _ _ h => h) (fun _ h => h.elim) ?aF ?aB ?aS ?aL ?_; (case aR => repeat (first | exact (Kd.C_below HR0.out HB.out) | (with_reducible refine Kd.C_alloc ?_ _) | (with_reducible refine Kd.C_drewN ?_ _) | (with_reducible refine Kd.C_drew ?_))); (case aB => exact (by repeat (first | (with_reducible first | exact HB.out | apply below_alloc | apply pw_below_drewN | apply below_drew1) | exact HB.out))); (case aF => exact (fun _ _ => trivial)); (case aO => exact (by (with_reducible repeat (first | apply Kd.R_alloc | apply Kd.R_drewN | apply Kd.R_drew)); exact HO363.out)); (case aS => exact (below_size (by repeat (first | (with_reducible first | exact HB.out | apply below_alloc | apply pw_below_drewN | apply below_drew1) | exact HB.out)))); (case aL => have := LMc2.out; omega); intro v365 w5 ho hb hg hat; rw [← Ny364.out] at ho; have n0_ := Aside0.mk (hb); have n1_ := Aside0.mk (ho); clear HB; clear HO363; have HB := n0_; have HO366 := n1_; clear n0_ n1_; clear ho hb hg hat))
    go_ret
    exact ⟨_, by first | rfl | (simp [errW_none, errW_some] <;> rfl) | (simp [*, errW_none, errW_some] <;> rfl), by (with_reducible repeat (first | apply Kd.R_alloc | apply Kd.R_drewN | apply Kd.R_drew)); exact HO366.out, by repeat (first | (with_reducible first | exact HB.out | apply below_alloc | apply pw_below_drewN | apply below_drew1) | exact HB.out)⟩
  · rw [if_neg c2] at H
    exact absurd H (by simp)

set_option maxHeartbeats 1000000 in
theorem slices_Clone_byte_byte.calls_none (c0 : Nat) (w : World) :
    Calls Tryz.prog 98 #[.slice none 0 c0] w fun e w' => e = .returned (.slice none 0 0) ∧ Below w.heap.size w w' := by
  have hnil : ∀ (W : World), (binOp .eql 22 (.slice none 0 c0) (.slice none 0 0)).run Tryz.prog W = .ok (.bool true) W := fun W => run_eql_slice_nil W 22 5 none 0 c0 Tryz.underlying22
  go_enter Tryz.func98, Tryz.ntmps98
  go_wp2
  go_ret
  exact ⟨rfl, by repeat (first | exact Below.refl _ _ | apply below_drew1 | apply pw_below_drewN)⟩
theorem slices_Clone_byte_byte.calls (A0 : Option Addr) (c0 : Nat) (l0 : List Int) (r : List Int) (w : World) (hr0 : Kd.C (Kd.int .u8) w A0 l0.length l0) (hc0 : l0.length ≤ c0) (h : slices_Clone_byte_byte.f l0 = some r) :
    Calls Tryz.prog 98 #[.slice A0 l0.length c0] w fun e w' => ∃ v0_ : Value, e = .returned (v0_) ∧ Kd.R (Kd.int .u8) 5 w' w.heap.size (fun _ => True) v0_ r ∧ Below w.heap.size w w' := by
  cases A0 with
  | some ad0 => exact slices_Clone_byte_byte.calls_some ad0 c0 l0 r w hr0 hc0 h
  | none =>
    have hl : l0 = [] := by
      rcases Nat.eq_zero_or_pos l0.length with h0 | h0
      · exact List.eq_nil_of_length_eq_zero h0
      · obtain ⟨ad, he, _⟩ := hr0.2.2 h0
        cases he
    subst hl
    have hr : r = [] := by
      simp [slices_Clone_byte_byte.f] at h
      exact h
    subst hr
    exact (slices_Clone_byte_byte.calls_none c0 w).mono fun e w' ⟨he, hb⟩ => ⟨_, he, Kd.R_nil _ _ _ _ _, hb⟩

/-! ### strconv_Itoa_152: function 152 -/
theorem strconv_Itoa_152.calls (a0 : Int) (r : ByteArray) (w : World) (hgw : GW w) (h : strconv_Itoa_152.f a0 = some r) :
    Calls Tryz.prog 152 #[.int .i64 a0] w fun e w' => e = .returned (.string r) ∧ Below w.heap.size w w' := by
  unfold strconv_Itoa_152.f at h
  split at h
  · rename_i hr
    obtain rfl := Option.some.inj h
    refine (Tryz.strconv_Itoa a0 hr.1 hr.2 w hgw.tab).mono ?_
    rintro e w' ⟨he, k, os, rfl⟩
    exact ⟨he, Lib.below_grow _ _ (Nat.le_refl _) _ _⟩
  · cases h

/-! ### strings_Cut: function 131 -/
theorem strings_Cut.calls (a0 : ByteArray) (a1 : ByteArray) (r1 : ByteArray) (r2 : ByteArray) (r3 : Bool) (w : World) (hgw : GW w) (h : strings_Cut.f a0 a1 = some (r1, r2, r3)) :
    Calls Tryz.prog 131 #[.string a0, .string a1] w fun e w' => e = .returned (.tuple #[.string r1, .string r2, .bool r3]) ∧ Below w.heap.size w w' := by
  unfold strings_Cut.f at h
  split at h
  · rename_i hr
    simp only [Option.some.injEq, Prod.mk.injEq] at h
    obtain ⟨rfl, rfl, rfl⟩ := h
    obtain ⟨m_, g_, hn_, hm_, hl_⟩ := hgw.most
    obtain rfl : g_ = 0 := Option.some.inj (hn_.symm.trans (show Tryz.prog.globalNamed "internal/bytealg.MaxLen" = some 0 by kernel_rfl))
    refine (Tryz.strings_Cut a0 a1 m_ w hr hm_).mono ?_
    rintro e w' ⟨he, k_, rfl⟩
    exact ⟨he, pw_below_drewN (Below.refl _ w) _⟩
  · cases h

/-! ### strings_Join: function 144 -/
theorem strings_Join.calls (A0 : Option Addr) (c0 : Nat) (l0 : List ByteArray) (a1 : ByteArray) (r : ByteArray) (w : World) (hgw : GW w) (hsp : ∀ ad, A0 = some ad → ad.spot = none) (hr0 : Kd.C Kd.string w A0 l0.length l0) (hc0 : l0.length ≤ c0) (h : strings_Join.f l0 a1 = some r) :
    Calls Tryz.prog 144 #[.slice A0 l0.length c0, .string a1] w fun e w' => e = .returned (.string r) ∧ Below w.heap.size w w' := by
  unfold strings_Join.f at h
  split at h
  · rename_i hr
    obtain rfl := Option.some.inj h
    by_cases h0 : l0 = []
    · subst h0
      exact (Tryz.strings_Join_none A0 c0 a1 w).mono fun e w' ⟨he, hw⟩ => ⟨he, hw ▸ Below.refl _ _⟩
    · obtain ⟨ad, hA, hc⟩ := Kd.at_string hr0 0 (Int.le_refl _) (by have := List.length_pos_iff.2 h0; omega)
      have hs := hsp ad hA
      subst hA
      obtain ⟨bk, o, sp⟩ := ad
      obtain rfl : sp = none := hs
      have hcells : ∀ (j : Nat) x, l0[j]? = some x → w.cell? ⟨bk, o + j, none⟩ = some (.string x) := by
        intro j x hx
        obtain ⟨hj, hx'⟩ := List.getElem?_eq_some_iff.1 hx
        obtain ⟨ad', he', hc'⟩ := Kd.at_string hr0 (j : Int) (by omega) (by omega)
        injection he' with he'
        subst he'
        have e2 : rdOf ByteArray.empty l0 (j : Int) = x := by
          unfold rdOf
          rw [Int.toNat_natCast, List.getD_eq_getElem?_getD, hx]
          rfl
        rw [Int.toNat_natCast, e2, Addr.add_lit] at hc'
        exact hc'
      exact (Tryz.strings_Join bk o c0 l0 a1 w hcells (by have := World.block_lt_of_cell? w _ hc; exact this) hr.1 hc0 hr.2).mono fun e w' h => h
  · cases h

/-! ### strings_Split: function 130 -/
theorem strings_Split.calls (a0 : ByteArray) (a1 : ByteArray) (r : List ByteArray) (w : World) (hgw : GW w) (h : strings_Split.f a0 a1 = some r) :
    Calls Tryz.prog 130 #[.string a0, .string a1] w fun e w' => ∃ v0_ : Value, e = .returned (v0_) ∧ Kd.R Kd.string 9 w' w.heap.size (fun _ => True) v0_ r ∧ Below w.heap.size w w' := by
  unfold strings_Split.f at h
  split at h
  · rename_i hr
    obtain rfl := Option.some.inj h
    obtain ⟨m_, g_, hn_, hm_, hl_⟩ := hgw.most
    obtain rfl : g_ = 0 := Option.some.inj (hn_.symm.trans (show Tryz.prog.globalNamed "internal/bytealg.MaxLen" = some 0 by kernel_rfl))
    have hlen := Lib.splitB_all a1 hr.2 0 _ a0 rfl
    have hle := Lib.countB_le a1 hr.2 a0.size a0 (Nat.le_refl _)
    have hmx : maxLen = 9223372036854775807 := by decide
    refine (Tryz.strings_Split a0 a1 m_ w hr.1 hm_ hr.2).mono ?_
    rintro e w' ⟨rfl, rfl⟩
    rw [← hlen]
    exact ⟨_, rfl, Kd.R_of_own (own_new w 9 _ _ _ _ (by simp [encs]) (Nat.le_refl _) (by omega) (by simp) (by simp [encs]; exact List.take_of_length_le (by simp))) (fun _ _ => trivial), (Below.refl _ w).alloc (Nat.le_refl _) _⟩
  · cases h

/-! ### strings_SplitN: function 132 -/
theorem strings_SplitN.calls (a0 : ByteArray) (a1 : ByteArray) (a2 : Int) (r : List ByteArray) (w : World) (hgw : GW w) (h : strings_SplitN.f a0 a1 a2 = some r) :
    Calls Tryz.prog 132 #[.string a0, .string a1, .int .i64 a2] w fun e w' => ∃ v0_ : Value, e = .returned (v0_) ∧ Kd.R Kd.string 9 w' w.heap.size (fun _ => True) v0_ r ∧ Below w.heap.size w w' := by
  unfold strings_SplitN.f at h
  split at h
  · rename_i hr
    obtain rfl := Option.some.inj h
    obtain ⟨k_, rfl⟩ := Int.eq_ofNat_of_zero_le (show 0 ≤ a2 by omega)
    rw [Int.toNat_natCast] at *
    obtain ⟨m_, g_, hn_, hm_, hl_⟩ := hgw.most
    obtain rfl : g_ = 0 := Option.some.inj (hn_.symm.trans (show Tryz.prog.globalNamed "internal/bytealg.MaxLen" = some 0 by kernel_rfl))
    have hlen := Lib.splitB_length_le a1 0 (min k_ (a0.size + 1) - 1) a0
    have hmx : maxLen = 9223372036854775807 := by decide
    refine (Tryz.strings_SplitN a0 a1 k_ m_ w hr.1 hm_ hr.2.1 (by omega) (by omega)).mono ?_
    rintro e w' ⟨rfl, rfl⟩
    exact ⟨_, rfl, Kd.R_of_own (own_new w 9 _ _ _ _ (by simp [encs]) (by omega) (by omega) (Lib.cellsOf_size (by omega)) (by simp [Lib.cellsOf, encs])) (fun _ _ => trivial), (Below.refl _ w).alloc (Nat.le_refl _) _⟩
  · cases h

end Go.Proofs.YthkepmicdpgbbaaGreatDoor.P

/- What the library's functions come to. -/
namespace Go.Proofs.YthkepmicdpgbbaaGreatDoor.E
open Go Go.RowKit Go.Proofs.YthkepmicdpgbbaaGreatDoorW.PrintWords Go.Proofs.YthkepmicdpgbbaaGreatDoor.P
set_option linter.unusedVariables false
set_option maxRecDepth 100000
theorem impl_dbPlace_ev {l0 : List S138} {a1 : ByteArray} {r : Int} (H : impl_dbPlace.f l0 a1 = some r) : Spec Tryz.prog 151 [.v (.row (List.map (fun (p : S138) => ([.s p.f0, .i .i64 p.f1, .i .i64 p.f2, .i .i64 p.f3, .i .i64 p.f4] : List CV)) l0)), .v (.s a1)] [] (.v (.i .i64 r)) [] := by
  refine spec_val (callFunc_of Tryz.func151 (by rfl) (by rfl)) fun G w vals hgw hr => ?_
  simp only [RepsL, Reps] at hr
  obtain ⟨v, vs, h1, h2, u, us, rfl, h3, rfl⟩ := hr
  simp only [RepC] at h3
  subst h3
  obtain ⟨A0, c0, rfl, hc, hC, hs⟩ := kdC_of k138 _ (fun _ => rfl) (fun x I w cs h => by
    simp only [RepP, RepC] at h
    obtain ⟨_, _, rfl, rfl, _, _, rfl, rfl, _, _, rfl, rfl, _, _, rfl, rfl, _, _, rfl, rfl, _⟩ := h
    exact ⟨[_], _, rfl, rfl, [_], _, rfl, rfl, [_], _, rfl, rfl, [_], _, rfl, rfl, rfl⟩) h2
  obtain rfl : vals = #[.slice A0 l0.length c0, .string a1] := by rw [← Array.toList_inj, h1]
  refine (impl_dbPlace.calls A0 c0 l0 a1 r w hC hc H).mono fun e w' hq => ?_
  exact ⟨_, hq.1, hq.2, fun G => by simp only [Reps, RepC]⟩
theorem slices_Clone_byte_byte_ev {l0 : List Int} {r : List Int} (H : slices_Clone_byte_byte.f l0 = some r) : Spec Tryz.prog 98 [.v (.row (List.map (fun (x : Int) => ([.i .u8 x] : List CV)) l0))] [] (.own 0 (List.map (fun (x : Int) => ([.i .u8 x] : List CV)) r).length) [.arr 1 5 false (List.map (fun (x : Int) => ([.i .u8 x] : List CV)) r)] := by
  refine spec_row (by decide) (callFunc_of Tryz.func98 (by rfl) (by rfl)) fun G w vals hgw hr => ?_
  simp only [RepsL, Reps] at hr
  obtain ⟨v, vs, h1, h2, h3⟩ := hr
  obtain ⟨A0, c0, rfl, hc, hC, _⟩ := kdC_of (Kd.int .u8) _ (fun _ => rfl) (fun x I w cs h => by simp only [RepP, RepC] at h; obtain ⟨v, vs', rfl, rfl, _⟩ := h; rfl) h2
  obtain rfl : vals = #[.slice A0 l0.length c0] := by rw [← Array.toList_inj, h1, h3]
  refine (slices_Clone_byte_byte.calls A0 c0 l0 r w hC hc H).mono fun e w' hq => ?_
  obtain ⟨v0, he, hR, hb⟩ := hq
  exact ⟨v0, he, hb, row_of_kd (f := fun x => [.i .u8 x]) (enc := Value.int .u8) (h1 := fun _ => rfl) (fun _ _ _ _ => by simp only [RepP, RepC]; exact ⟨_, _, rfl, rfl, trivial⟩) (fun _ => rfl) hR⟩
theorem strconv_Itoa_152_ev {a0 : Int} {r : ByteArray} (H : strconv_Itoa_152.f a0 = some r) : Spec Tryz.prog 152 [.v (.i .i64 a0)] [] (.v (.s r)) [] := by
  refine spec_val (callFunc_of Tryz.func152 (by rfl) (by rfl)) fun G w vals hgw hr => ?_
  simp only [RepsL, Reps, RepC] at hr
  obtain ⟨v, vs, h1, rfl, rfl⟩ := hr
  obtain rfl : vals = #[.int .i64 a0] := by rw [← Array.toList_inj, h1]
  refine (strconv_Itoa_152.calls a0 r w hgw H).mono fun e w' hq => ?_
  exact ⟨_, hq.1, hq.2, fun G => by simp only [Reps, RepC]⟩
theorem strings_Cut_ev {a0 a1 : ByteArray} {r : ByteArray × ByteArray × Bool} (H : strings_Cut.f a0 a1 = some r) : Spec Tryz.prog 131 [.v (.s a0), .v (.s a1)] [] (.tup [.v (.s r.1), .v (.s r.2.1), .v (.b r.2.2)]) [] := by
  obtain ⟨r1, r2, r3⟩ := r
  refine spec_val (callFunc_of Tryz.func131 (by rfl) (by rfl)) fun G w vals hgw hr => ?_
  simp only [RepsL, Reps, RepC] at hr
  obtain ⟨v, vs, h1, rfl, u, us, rfl, rfl, rfl⟩ := hr
  obtain rfl : vals = #[.string a0, .string a1] := by rw [← Array.toList_inj, h1]
  refine (strings_Cut.calls a0 a1 r1 r2 r3 w hgw H).mono fun e w' hq => ?_
  exact ⟨_, hq.1, hq.2, fun G => by simp only [Reps, RepC, RepsL]; exact ⟨_, rfl, _, _, rfl, rfl, _, _, rfl, rfl, _, _, rfl, rfl, rfl⟩⟩
theorem strings_Join_ev {l0 : List ByteArray} {a1 r : ByteArray} (H : strings_Join.f l0 a1 = some r) : Spec Tryz.prog 144 [.v (.row (List.map (fun (x : ByteArray) => ([.s x] : List CV)) l0)), .v (.s a1)] [] (.v (.s r)) [] := by
  refine spec_val (callFunc_of Tryz.func144 (by rfl) (by rfl)) fun G w vals hgw hr => ?_
  simp only [RepsL, Reps] at hr
  obtain ⟨v, vs, h1, h2, u, us, rfl, h3, rfl⟩ := hr
  simp only [RepC] at h3
  subst h3
  obtain ⟨A0, c0, rfl, hc, hC, hs⟩ := kdC_of Kd.string _ (fun _ => rfl) (fun x I w cs h => by simp only [RepP, RepC] at h; obtain ⟨v, vs', rfl, rfl, _⟩ := h; rfl) h2
  obtain rfl : vals = #[.slice A0 l0.length c0, .string a1] := by rw [← Array.toList_inj, h1]
  by_cases hl : l0 = []
  · subst hl
    have hr : r = ⟨#[]⟩ := by
      unfold strings_Join.f at H
      split at H
      · rw [← Option.some.inj H]
        rfl
      · cases H
    subst hr
    refine (Tryz.strings_Join_none A0 c0 a1 w).mono fun e w' hq => ?_
    exact ⟨_, hq.1, hq.2 ▸ Below.refl _ _, fun G => by simp only [Reps, RepC]⟩
  · refine (strings_Join.calls A0 c0 l0 a1 r w hgw (hs hl) hC hc H).mono fun e w' hq => ?_
    exact ⟨_, hq.1, hq.2, fun G => by simp only [Reps, RepC]⟩
theorem strings_Split_ev {a0 a1 : ByteArray} {r : List ByteArray} (H : strings_Split.f a0 a1 = some r) : Spec Tryz.prog 130 [.v (.s a0), .v (.s a1)] [] (.own 0 (List.map (fun (x : ByteArray) => ([.s x] : List CV)) r).length) [.arr 1 9 false (List.map (fun (x : ByteArray) => ([.s x] : List CV)) r)] := by
  refine spec_row (by decide) (callFunc_of Tryz.func130 (by rfl) (by rfl)) fun G w vals hgw hr => ?_
  simp only [RepsL, Reps, RepC] at hr
  obtain ⟨v, vs, h1, rfl, u, us, rfl, rfl, rfl⟩ := hr
  obtain rfl : vals = #[.string a0, .string a1] := by rw [← Array.toList_inj, h1]
  refine (strings_Split.calls a0 a1 r w hgw H).mono fun e w' hq => ?_
  obtain ⟨v0, he, hR, hb⟩ := hq
  exact ⟨v0, he, hb, row_of_kd (f := fun x => [.s x]) (enc := Value.string) (h1 := fun _ => rfl) (fun _ _ _ _ => by simp only [RepP, RepC]; exact ⟨_, _, rfl, rfl, trivial⟩) (fun _ => rfl) hR⟩
theorem strings_SplitN_ev {a0 a1 : ByteArray} {a2 : Int} {r : List ByteArray} (H : strings_SplitN.f a0 a1 a2 = some r) : Spec Tryz.prog 132 [.v (.s a0), .v (.s a1), .v (.i .i64 a2)] [] (.own 0 (List.map (fun (x : ByteArray) => ([.s x] : List CV)) r).length) [.arr 1 9 false (List.map (fun (x : ByteArray) => ([.s x] : List CV)) r)] := by
  refine spec_row (by decide) (callFunc_of Tryz.func132 (by rfl) (by rfl)) fun G w vals hgw hr => ?_
  simp only [RepsL, Reps, RepC] at hr
  obtain ⟨v, vs, h1, rfl, u, us, rfl, rfl, u2, us2, rfl, rfl, rfl⟩ := hr
  obtain rfl : vals = #[.string a0, .string a1, .int .i64 a2] := by rw [← Array.toList_inj, h1]
  refine (strings_SplitN.calls a0 a1 a2 r w hgw H).mono fun e w' hq => ?_
  obtain ⟨v0, he, hR, hb⟩ := hq
  exact ⟨v0, he, hb, row_of_kd (f := fun x => [.s x]) (enc := Value.string) (h1 := fun _ => rfl) (fun _ _ _ _ => by simp only [RepP, RepC]; exact ⟨_, _, rfl, rfl, trivial⟩) (fun _ => rfl) hR⟩
end Go.Proofs.YthkepmicdpgbbaaGreatDoor.E

/- What the cells of an element hold, by its type. -/
namespace Go.Proofs.YthkepmicdpgbbaaGreatDoor.E
open Go Go.RowKit Go.Proofs.YthkepmicdpgbbaaGreatDoorW.PrintWords Go.Proofs.YthkepmicdpgbbaaGreatDoor.P
abbrev e3 (x : Int) : List CV := [.i .i64 x]
abbrev e5 (x : Int) : List CV := [.i .u8 x]
abbrev e9 (x : ByteArray) : List CV := [.s x]
abbrev e138 (p : S138) : List CV := [.s p.f0, .i .i64 p.f1, .i .i64 p.f2, .i .i64 p.f3, .i .i64 p.f4]
end Go.Proofs.YthkepmicdpgbbaaGreatDoor.E

/- What the functions' codes come to. -/
namespace Go.Proofs.YthkepmicdpgbbaaGreatDoor.E
open Go Go.RowKit Go.Proofs.YthkepmicdpgbbaaGreatDoorW.PrintWords Go.Proofs.YthkepmicdpgbbaaGreatDoor.P
set_option linter.unusedVariables false
set_option linter.unusedSimpArgs false
set_option maxHeartbeats 0
set_option maxRecDepth 100000
theorem laws_big_ev {l0 : List Int} {r : Bool} (H : laws_big.f l0 = some r) : Spec Tryz.prog 9 [.v (.row (List.map e5 l0))] [] (.v (.b r)) [] := by
  simp only [laws_big.f, Option.bind_some, List.nil_append, if_true, if_false, Bool.false_eq_true, nilB, nilE] at H
  refine fn_okF (E := env) Tryz.func9 (by rfl) rfl (n := 5) (by rfl) ?_
  repeat' ((conv => whnf); first
           | ((with_reducible have hp := peel_ H); clear H; obtain ⟨_, H⟩ := hp)
           | ((with_reducible have hp := peeln_ H); clear H; obtain ⟨_, H⟩ := hp)
           | (with_reducible replace H := itet_ H)
           | (with_reducible replace H := itef_ H)
           | ((with_reducible refine sideid_ ?_); refine side_ ?_)
           | ((with_reducible refine seqid_ ?_); refine sgo_ ?_)
           | ((with_reducible refine brid_ ?_); first
             | (with_reducible refine brct_ ?_)
             | (with_reducible refine brcf_ ?_)
             | (with_reducible refine brt_ ?_)
             | (with_reducible refine brf_ ?_)
             | (refine br_ H (by with_reducible first | rfl | exact bi_ _ _ | exact bd_ _ | exact bs_ _ _) (fun _ H => ?_) (fun _ H => ?_))
             | (refine brn_ H (by with_reducible first | rfl | exact bni_ _ _ | exact bin_ _ _ | exact bn_ _ | exact bs0_ _ _ | exact bnn_ _) (fun _ H => ?_) (fun _ H => ?_))
             | (refine brt_ ?_)
             | (refine brf_ ?_)
             | (refine br_ H (by exact Eq.refl _) (fun _ H => ?_) (fun _ H => ?_))
             | (refine brn_ H (by exact Eq.refl _) (fun _ H => ?_) (fun _ H => ?_)))
           | ((with_reducible refine br2id_ ?_); first
             | (refine br2t_ ?_)
             | (refine br2f_ ?_))
           | ((with_reducible refine normid_ ?_); first
             | (refine norm_nilapp ?_)
             | (refine norm_appnil ?_)
             | (refine norm_app ?_)
             | (refine norm_t ?_)
             | (refine norm_d ?_)
             | (refine norm_td ?_)
             | (refine norm_set (e := 5) (f := e5) _ rfl ?_)
             | (refine norm_rep (e := 5) (f := e5) _ rfl ?_))
           | ((with_reducible refine elemid_ ?_); refine elem_ (f := e5) 0 (rd _ _) rfl ?_ (by first | assumption | decide | omega) (by first | assumption | omega))
           | ((with_reducible refine lenid_ ?_); refine lenm_ ?_)
           | ((with_reducible refine strid_ ?_); first
             | (refine stre_ ?_)
             | (refine stre0_ ?_))
           | ((with_reducible refine finid_ ?_); refine finK_ [] ?_; (conv => whnf); replace H := Option.some.inj H; subst H; (conv => whnf); refine ⟨rfl, ?_⟩; first | rfl | (repeat' (first | rfl | refine own_eq ?_ | refine tup_eq ?_ | refine agg_eq ?_ | refine cons_eq ?_ ?_ | refine vi_eq ?_ | simp only [List.length_map, List.length_set, wm_]))))
end Go.Proofs.YthkepmicdpgbbaaGreatDoor.E

/- What the functions' codes come to. -/
namespace Go.Proofs.YthkepmicdpgbbaaGreatDoor.E
open Go Go.RowKit Go.Proofs.YthkepmicdpgbbaaGreatDoorW.PrintWords Go.Proofs.YthkepmicdpgbbaaGreatDoor.P
set_option linter.unusedVariables false
set_option linter.unusedSimpArgs false
set_option maxHeartbeats 0
set_option maxRecDepth 100000
theorem spec_l1New_ev {kf : Nat} {l0 : List Int} {r : List Int × Int × Int} (H : spec_l1New.f kf l0 = some r) : Spec Tryz.prog 41 [.v (.row (List.map e5 l0))] [] (.ptr 0 0) [.box 115 [.v (.row (List.map e5 r.1)), .v (.i .i64 r.2.1), .v (.i .i64 r.2.2)]] := by
  simp only [spec_l1New.f, Option.bind_some, List.nil_append, if_true, if_false, Bool.false_eq_true, nilB, nilE] at H
  refine fn_okF (E := env) Tryz.func41 (by rfl) rfl (n := 31) (by rfl) ?_
  repeat' ((conv => whnf); first
           | ((with_reducible have hp := peel_ H); clear H; obtain ⟨_, H⟩ := hp)
           | ((with_reducible have hp := peeln_ H); clear H; obtain ⟨_, H⟩ := hp)
           | (with_reducible replace H := itet_ H)
           | (with_reducible replace H := itef_ H)
           | ((with_reducible refine sideid_ ?_); refine side_ ?_)
           | ((with_reducible refine seqid_ ?_); refine sgo_ ?_)
           | ((with_reducible refine brid_ ?_); first
             | (with_reducible refine brct_ ?_)
             | (with_reducible refine brcf_ ?_)
             | (with_reducible refine brt_ ?_)
             | (with_reducible refine brf_ ?_)
             | (refine br_ H (by with_reducible first | rfl | exact bi_ _ _ | exact bd_ _ | exact bs_ _ _) (fun _ H => ?_) (fun _ H => ?_))
             | (refine brn_ H (by with_reducible first | rfl | exact bni_ _ _ | exact bin_ _ _ | exact bn_ _ | exact bs0_ _ _ | exact bnn_ _) (fun _ H => ?_) (fun _ H => ?_))
             | (refine brt_ ?_)
             | (refine brf_ ?_)
             | (refine br_ H (by exact Eq.refl _) (fun _ H => ?_) (fun _ H => ?_))
             | (refine brn_ H (by exact Eq.refl _) (fun _ H => ?_) (fun _ H => ?_)))
           | ((with_reducible refine br2id_ ?_); first
             | (refine br2t_ ?_)
             | (refine br2f_ ?_))
           | ((with_reducible refine normid_ ?_); first
             | (refine norm_nilapp ?_)
             | (refine norm_appnil ?_)
             | (refine norm_app ?_)
             | (refine norm_t ?_)
             | (refine norm_d ?_)
             | (refine norm_td ?_)
             | (refine norm_set (e := 5) (f := e5) _ rfl ?_)
             | (refine norm_rep (e := 5) (f := e5) _ rfl ?_))
           | ((with_reducible refine elemid_ ?_); refine elem_ (f := e5) 0 (rd _ _) rfl ?_ (by first | assumption | decide | omega) (by first | assumption | omega))
           | ((with_reducible refine lenid_ ?_); refine lenm_ ?_)
           | ((with_reducible refine strid_ ?_); first
             | (refine stre_ ?_)
             | (refine stre0_ ?_))
           | ((with_reducible refine loopid_ ?_); refine loopK_ (fun n s h => ∃ x0 x3 x4, spec_l1New.l0 n x0 x3 x4 = some r ∧ s = spr 32 0 [(0, .v (.row (List.map e5 x0))), (3, .v (.i .i64 x3)), (4, .v (.i .i64 x4))] ∧ h = []) [] [] [] (bsp 32 0 [0, 3, 4]) _ (by (conv => whnf); refine ⟨_, _, _, H, rfl, rfl⟩) ?_; rintro n s h hn ⟨x0, x3, x4, H, rfl, rfl⟩; have hk := suc_ (g := fun k => spec_l1New.l0 k _ _ _) H (by simp only [spec_l1New.l0]); obtain ⟨kf, hk⟩ := hk; subst hk; simp only [spec_l1New.l0, Option.bind_some, List.nil_append, if_true, if_false, Bool.false_eq_true, nilB, nilE] at H)
           | ((with_reducible refine nextid_ ?_); refine nextK_ (P := fun m => spec_l1New.l0 m _ _ _ = some _) H (bsp 32 0 [0, 3, 4]) ?_ ?_ ?_; (conv => whnf); refine ⟨_, _, _, H, ?_, rfl⟩; all_goals first | omega | rfl | (repeat' (first | rfl | refine own_eq ?_ | refine cons_eq ?_ ?_ | refine vi_eq ?_ | simp only [List.length_map, List.length_set, wm_])))
           | ((with_reducible refine finid_ ?_); refine finK_ [] ?_; (conv => whnf); replace H := Option.some.inj H; subst H; (conv => whnf); refine ⟨rfl, ?_⟩; first | rfl | (repeat' (first | rfl | refine own_eq ?_ | refine tup_eq ?_ | refine agg_eq ?_ | refine cons_eq ?_ ?_ | refine vi_eq ?_ | simp only [List.length_map, List.length_set, wm_]))))
end Go.Proofs.YthkepmicdpgbbaaGreatDoor.E

/- What the functions' codes come to. -/
namespace Go.Proofs.YthkepmicdpgbbaaGreatDoor.E
open Go Go.RowKit Go.Proofs.YthkepmicdpgbbaaGreatDoorW.PrintWords Go.Proofs.YthkepmicdpgbbaaGreatDoor.P
set_option linter.unusedVariables false
set_option linter.unusedSimpArgs false
set_option maxHeartbeats 0
set_option maxRecDepth 100000
theorem spec_l1Byte_ev {s0_0 : List Int} {s0_1 : Int} {s0_2 : Int} {r : Int × Int × Int} (H : spec_l1Byte.f s0_0 s0_1 s0_2 = some r) : Spec Tryz.prog 102 [.ptr 0 0] [.box 115 [.v (.row (List.map e5 s0_0)), .v (.i .i64 s0_1), .v (.i .i64 s0_2)]] (.v (.i .i64 r.1)) [.box 115 [.v (.row (List.map e5 s0_0)), .v (.i .i64 r.2.1), .v (.i .i64 r.2.2)]] := by
  simp only [spec_l1Byte.f, Option.bind_some, List.nil_append, if_true, if_false, Bool.false_eq_true, nilB, nilE] at H
  refine fn_okF (E := env) Tryz.func102 (by rfl) rfl (n := 57) (by rfl) ?_
  repeat' ((conv => whnf); first
           | ((with_reducible have hp := peel_ H); clear H; obtain ⟨_, H⟩ := hp)
           | ((with_reducible have hp := peeln_ H); clear H; obtain ⟨_, H⟩ := hp)
           | (with_reducible replace H := itet_ H)
           | (with_reducible replace H := itef_ H)
           | ((with_reducible refine sideid_ ?_); refine side_ ?_)
           | ((with_reducible refine seqid_ ?_); refine sgo_ ?_)
           | ((with_reducible refine brid_ ?_); first
             | (with_reducible refine brct_ ?_)
             | (with_reducible refine brcf_ ?_)
             | (with_reducible refine brt_ ?_)
             | (with_reducible refine brf_ ?_)
             | (refine br_ H (by with_reducible first | rfl | exact bi_ _ _ | exact bd_ _ | exact bs_ _ _) (fun _ H => ?_) (fun _ H => ?_))
             | (refine brn_ H (by with_reducible first | rfl | exact bni_ _ _ | exact bin_ _ _ | exact bn_ _ | exact bs0_ _ _ | exact bnn_ _) (fun _ H => ?_) (fun _ H => ?_))
             | (refine brt_ ?_)
             | (refine brf_ ?_)
             | (refine br_ H (by exact Eq.refl _) (fun _ H => ?_) (fun _ H => ?_))
             | (refine brn_ H (by exact Eq.refl _) (fun _ H => ?_) (fun _ H => ?_)))
           | ((with_reducible refine br2id_ ?_); first
             | (refine br2t_ ?_)
             | (refine br2f_ ?_))
           | ((with_reducible refine normid_ ?_); first
             | (refine norm_nilapp ?_)
             | (refine norm_appnil ?_)
             | (refine norm_app ?_)
             | (refine norm_t ?_)
             | (refine norm_d ?_)
             | (refine norm_td ?_)
             | (refine norm_set (e := 5) (f := e5) _ rfl ?_)
             | (refine norm_rep (e := 5) (f := e5) _ rfl ?_))
           | ((with_reducible refine elemid_ ?_); refine elem_ (f := e5) 0 (rd _ _) rfl ?_ (by first | assumption | decide | omega) (by first | assumption | omega))
           | ((with_reducible refine lenid_ ?_); refine lenm_ ?_)
           | ((with_reducible refine strid_ ?_); first
             | (refine stre_ ?_)
             | (refine stre0_ ?_))
           | ((with_reducible refine finid_ ?_); refine finK_ [] ?_; (conv => whnf); replace H := Option.some.inj H; subst H; (conv => whnf); refine ⟨rfl, ?_⟩; first | rfl | (repeat' (first | rfl | refine own_eq ?_ | refine tup_eq ?_ | refine agg_eq ?_ | refine cons_eq ?_ ?_ | refine vi_eq ?_ | simp only [List.length_map, List.length_set, wm_]))))
end Go.Proofs.YthkepmicdpgbbaaGreatDoor.E

/- What the functions' codes come to. -/
namespace Go.Proofs.YthkepmicdpgbbaaGreatDoor.E
open Go Go.RowKit Go.Proofs.YthkepmicdpgbbaaGreatDoorW.PrintWords Go.Proofs.YthkepmicdpgbbaaGreatDoor.P
set_option linter.unusedVariables false
set_option linter.unusedSimpArgs false
set_option maxHeartbeats 0
set_option maxRecDepth 100000
theorem spec_l1Below_ev {s0_0 : List Int} {s0_1 : Int} {s0_2 : Int} {a1 : Int} {r : Int × Int × Int} (H : spec_l1Below.f s0_0 s0_1 s0_2 a1 = some r) : Spec Tryz.prog 49 [.ptr 0 0, .v (.i .i64 a1)] [.box 115 [.v (.row (List.map e5 s0_0)), .v (.i .i64 s0_1), .v (.i .i64 s0_2)]] (.v (.i .i64 r.1)) [.box 115 [.v (.row (List.map e5 s0_0)), .v (.i .i64 r.2.1), .v (.i .i64 r.2.2)]] := by
  simp only [spec_l1Below.f, Option.bind_some, List.nil_append, if_true, if_false, Bool.false_eq_true, nilB, nilE] at H
  refine fn_okF (E := env) Tryz.func49 (by rfl) rfl (n := 29) (by rfl) ?_
  repeat' ((conv => whnf); first
           | ((with_reducible have hp := peel_ H); clear H; obtain ⟨_, H⟩ := hp)
           | ((with_reducible have hp := peeln_ H); clear H; obtain ⟨_, H⟩ := hp)
           | (with_reducible replace H := itet_ H)
           | (with_reducible replace H := itef_ H)
           | ((with_reducible refine sideid_ ?_); refine side_ ?_)
           | ((with_reducible refine seqid_ ?_); refine sgo_ ?_)
           | ((with_reducible refine brid_ ?_); first
             | (with_reducible refine brct_ ?_)
             | (with_reducible refine brcf_ ?_)
             | (with_reducible refine brt_ ?_)
             | (with_reducible refine brf_ ?_)
             | (refine br_ H (by with_reducible first | rfl | exact bi_ _ _ | exact bd_ _ | exact bs_ _ _) (fun _ H => ?_) (fun _ H => ?_))
             | (refine brn_ H (by with_reducible first | rfl | exact bni_ _ _ | exact bin_ _ _ | exact bn_ _ | exact bs0_ _ _ | exact bnn_ _) (fun _ H => ?_) (fun _ H => ?_))
             | (refine brt_ ?_)
             | (refine brf_ ?_)
             | (refine br_ H (by exact Eq.refl _) (fun _ H => ?_) (fun _ H => ?_))
             | (refine brn_ H (by exact Eq.refl _) (fun _ H => ?_) (fun _ H => ?_)))
           | ((with_reducible refine br2id_ ?_); first
             | (refine br2t_ ?_)
             | (refine br2f_ ?_))
           | ((with_reducible refine normid_ ?_); first
             | (refine norm_nilapp ?_)
             | (refine norm_appnil ?_)
             | (refine norm_app ?_)
             | (refine norm_t ?_)
             | (refine norm_d ?_)
             | (refine norm_td ?_))
           | ((with_reducible refine lenid_ ?_); refine lenm_ ?_)
           | ((with_reducible refine strid_ ?_); first
             | (refine stre_ ?_)
             | (refine stre0_ ?_))
           | ((with_reducible refine callid_ ?_); have hp := bnd_ H; clear H; obtain ⟨_, ht, H⟩ := hp; refine call_ (spec_l1Byte_ev ht) rfl rfl ?_)
           | ((with_reducible refine finid_ ?_); refine finK_ [] ?_; (conv => whnf); replace H := Option.some.inj H; subst H; (conv => whnf); refine ⟨rfl, ?_⟩; first | rfl | (repeat' (first | rfl | refine own_eq ?_ | refine tup_eq ?_ | refine agg_eq ?_ | refine cons_eq ?_ ?_ | refine vi_eq ?_ | simp only [List.length_map, List.length_set, wm_]))))
end Go.Proofs.YthkepmicdpgbbaaGreatDoor.E

/- What the functions' codes come to. -/
namespace Go.Proofs.YthkepmicdpgbbaaGreatDoor.E
open Go Go.RowKit Go.Proofs.YthkepmicdpgbbaaGreatDoorW.PrintWords Go.Proofs.YthkepmicdpgbbaaGreatDoor.P
set_option linter.unusedVariables false
set_option linter.unusedSimpArgs false
set_option maxHeartbeats 0
set_option maxRecDepth 100000
theorem spec_l1Int_ev {s0_0 : List Int} {s0_1 : Int} {s0_2 : Int} {l1 : List Int} {r : Int × Int × Int} (H : spec_l1Int.f s0_0 s0_1 s0_2 l1 = some r) : Spec Tryz.prog 43 [.ptr 0 0, .v (.row (List.map e3 l1))] [.box 115 [.v (.row (List.map e5 s0_0)), .v (.i .i64 s0_1), .v (.i .i64 s0_2)]] (.v (.i .i64 r.1)) [.box 115 [.v (.row (List.map e5 s0_0)), .v (.i .i64 r.2.1), .v (.i .i64 r.2.2)]] := by
  simp only [spec_l1Int.f, Option.bind_some, List.nil_append, if_true, if_false, Bool.false_eq_true, nilB, nilE] at H
  refine fn_okF (E := env) Tryz.func43 (by rfl) rfl (n := 10) (by rfl) ?_
  repeat' ((conv => whnf); first
           | ((with_reducible have hp := peel_ H); clear H; obtain ⟨_, H⟩ := hp)
           | ((with_reducible have hp := peeln_ H); clear H; obtain ⟨_, H⟩ := hp)
           | (with_reducible replace H := itet_ H)
           | (with_reducible replace H := itef_ H)
           | ((with_reducible refine sideid_ ?_); refine side_ ?_)
           | ((with_reducible refine seqid_ ?_); refine sgo_ ?_)
           | ((with_reducible refine brid_ ?_); first
             | (with_reducible refine brct_ ?_)
             | (with_reducible refine brcf_ ?_)
             | (with_reducible refine brt_ ?_)
             | (with_reducible refine brf_ ?_)
             | (refine br_ H (by with_reducible first | rfl | exact bi_ _ _ | exact bd_ _ | exact bs_ _ _) (fun _ H => ?_) (fun _ H => ?_))
             | (refine brn_ H (by with_reducible first | rfl | exact bni_ _ _ | exact bin_ _ _ | exact bn_ _ | exact bs0_ _ _ | exact bnn_ _) (fun _ H => ?_) (fun _ H => ?_))
             | (refine brt_ ?_)
             | (refine brf_ ?_)
             | (refine br_ H (by exact Eq.refl _) (fun _ H => ?_) (fun _ H => ?_))
             | (refine brn_ H (by exact Eq.refl _) (fun _ H => ?_) (fun _ H => ?_)))
           | ((with_reducible refine br2id_ ?_); first
             | (refine br2t_ ?_)
             | (refine br2f_ ?_))
           | ((with_reducible refine normid_ ?_); first
             | (refine norm_nilapp ?_)
             | (refine norm_appnil ?_)
             | (refine norm_app ?_)
             | (refine norm_t ?_)
             | (refine norm_d ?_)
             | (refine norm_td ?_)
             | (refine norm_set (e := 3) (f := e3) _ rfl ?_)
             | (refine norm_rep (e := 3) (f := e3) _ rfl ?_))
           | ((with_reducible refine elemid_ ?_); refine elem_ (f := e3) 0 (rd _ _) rfl ?_ (by first | assumption | decide | omega) (by first | assumption | omega))
           | ((with_reducible refine lenid_ ?_); refine lenm_ ?_)
           | ((with_reducible refine strid_ ?_); first
             | (refine stre_ ?_)
             | (refine stre0_ ?_))
           | ((with_reducible refine callid_ ?_); have hp := bnd_ H; clear H; obtain ⟨_, ht, H⟩ := hp; refine call_ (spec_l1Below_ev ht) rfl rfl ?_)
           | ((with_reducible refine finid_ ?_); refine finK_ [] ?_; (conv => whnf); replace H := Option.some.inj H; subst H; (conv => whnf); refine ⟨rfl, ?_⟩; first | rfl | (repeat' (first | rfl | refine own_eq ?_ | refine tup_eq ?_ | refine agg_eq ?_ | refine cons_eq ?_ ?_ | refine vi_eq ?_ | simp only [List.length_map, List.length_set, wm_]))))
end Go.Proofs.YthkepmicdpgbbaaGreatDoor.E

/- What the functions' codes come to. -/
namespace Go.Proofs.YthkepmicdpgbbaaGreatDoor.E
open Go Go.RowKit Go.Proofs.YthkepmicdpgbbaaGreatDoorW.PrintWords Go.Proofs.YthkepmicdpgbbaaGreatDoor.P
set_option linter.unusedVariables false
set_option linter.unusedSimpArgs false
set_option maxHeartbeats 0
set_option maxRecDepth 100000
theorem spec_l1In_ev {a0 : Int} {a1 : Int} {a2 : Int} {r : Bool} (H : spec_l1In.f a0 a1 a2 = some r) : Spec Tryz.prog 63 [.v (.i .i64 a0), .v (.i .i64 a1), .v (.i .i64 a2)] [] (.v (.b r)) [] := by
  simp only [spec_l1In.f, Option.bind_some, List.nil_append, if_true, if_false, Bool.false_eq_true, nilB, nilE] at H
  refine fn_okF (E := env) Tryz.func63 (by rfl) rfl (n := 12) (by rfl) ?_
  repeat' ((conv => whnf); first
           | ((with_reducible have hp := peel_ H); clear H; obtain ⟨_, H⟩ := hp)
           | ((with_reducible have hp := peeln_ H); clear H; obtain ⟨_, H⟩ := hp)
           | (with_reducible replace H := itet_ H)
           | (with_reducible replace H := itef_ H)
           | ((with_reducible refine sideid_ ?_); refine side_ ?_)
           | ((with_reducible refine seqid_ ?_); refine sgo_ ?_)
           | ((with_reducible refine brid_ ?_); first
             | (with_reducible refine brct_ ?_)
             | (with_reducible refine brcf_ ?_)
             | (with_reducible refine brt_ ?_)
             | (with_reducible refine brf_ ?_)
             | (refine br_ H (by with_reducible first | rfl | exact bi_ _ _ | exact bd_ _ | exact bs_ _ _) (fun _ H => ?_) (fun _ H => ?_))
             | (refine brn_ H (by with_reducible first | rfl | exact bni_ _ _ | exact bin_ _ _ | exact bn_ _ | exact bs0_ _ _ | exact bnn_ _) (fun _ H => ?_) (fun _ H => ?_))
             | (refine brt_ ?_)
             | (refine brf_ ?_)
             | (refine br_ H (by exact Eq.refl _) (fun _ H => ?_) (fun _ H => ?_))
             | (refine brn_ H (by exact Eq.refl _) (fun _ H => ?_) (fun _ H => ?_)))
           | ((with_reducible refine br2id_ ?_); first
             | (refine br2t_ ?_)
             | (refine br2f_ ?_))
           | ((with_reducible refine normid_ ?_); first
             | (refine norm_nilapp ?_)
             | (refine norm_appnil ?_)
             | (refine norm_app ?_)
             | (refine norm_t ?_)
             | (refine norm_d ?_)
             | (refine norm_td ?_))
           | ((with_reducible refine lenid_ ?_); refine lenm_ ?_)
           | ((with_reducible refine strid_ ?_); first
             | (refine stre_ ?_)
             | (refine stre0_ ?_))
           | ((with_reducible refine finid_ ?_); refine finK_ [] ?_; (conv => whnf); replace H := Option.some.inj H; subst H; (conv => whnf); refine ⟨rfl, ?_⟩; first | rfl | (repeat' (first | rfl | refine own_eq ?_ | refine tup_eq ?_ | refine agg_eq ?_ | refine cons_eq ?_ ?_ | refine vi_eq ?_ | simp only [List.length_map, List.length_set, wm_]))))
end Go.Proofs.YthkepmicdpgbbaaGreatDoor.E

/- What the functions' codes come to. -/
namespace Go.Proofs.YthkepmicdpgbbaaGreatDoor.E
open Go Go.RowKit Go.Proofs.YthkepmicdpgbbaaGreatDoorW.PrintWords Go.Proofs.YthkepmicdpgbbaaGreatDoor.P
set_option linter.unusedVariables false
set_option linter.unusedSimpArgs false
set_option maxHeartbeats 0
set_option maxRecDepth 100000
theorem spec_l1Name_ev {kf : Nat} {a0 : ByteArray} {r : Bool} (H : spec_l1Name.f kf a0 = some r) : Spec Tryz.prog 145 [.v (.s a0)] [] (.v (.b r)) [] := by
  simp only [spec_l1Name.f, Option.bind_some, List.nil_append, if_true, if_false, Bool.false_eq_true, nilB, nilE] at H
  refine fn_okF (E := env) Tryz.func145 (by rfl) rfl (n := 22) (by rfl) ?_
  repeat' ((conv => whnf); first
           | ((with_reducible have hp := peel_ H); clear H; obtain ⟨_, H⟩ := hp)
           | ((with_reducible have hp := peeln_ H); clear H; obtain ⟨_, H⟩ := hp)
           | (with_reducible replace H := itet_ H)
           | (with_reducible replace H := itef_ H)
           | ((with_reducible refine sideid_ ?_); refine side_ ?_)
           | ((with_reducible refine seqid_ ?_); refine sgo_ ?_)
           | ((with_reducible refine brid_ ?_); first
             | (with_reducible refine brct_ ?_)
             | (with_reducible refine brcf_ ?_)
             | (with_reducible refine brt_ ?_)
             | (with_reducible refine brf_ ?_)
             | (refine br_ H (by with_reducible first | rfl | exact bi_ _ _ | exact bd_ _ | exact bs_ _ _) (fun _ H => ?_) (fun _ H => ?_))
             | (refine brn_ H (by with_reducible first | rfl | exact bni_ _ _ | exact bin_ _ _ | exact bn_ _ | exact bs0_ _ _ | exact bnn_ _) (fun _ H => ?_) (fun _ H => ?_))
             | (refine brt_ ?_)
             | (refine brf_ ?_)
             | (refine br_ H (by exact Eq.refl _) (fun _ H => ?_) (fun _ H => ?_))
             | (refine brn_ H (by exact Eq.refl _) (fun _ H => ?_) (fun _ H => ?_)))
           | ((with_reducible refine br2id_ ?_); first
             | (refine br2t_ ?_)
             | (refine br2f_ ?_))
           | ((with_reducible refine normid_ ?_); first
             | (refine norm_nilapp ?_)
             | (refine norm_appnil ?_)
             | (refine norm_app ?_)
             | (refine norm_t ?_)
             | (refine norm_d ?_)
             | (refine norm_td ?_))
           | ((with_reducible refine lenid_ ?_); refine lenm_ ?_)
           | ((with_reducible refine strid_ ?_); first
             | (refine stre_ ?_)
             | (refine stre0_ ?_))
           | ((with_reducible refine callid_ ?_); have hp := bnd_ H; clear H; obtain ⟨_, ht, H⟩ := hp; refine call_ (spec_l1In_ev ht) rfl rfl ?_)
           | ((with_reducible refine loopid_ ?_); refine loopK_ (fun n s h => ∃ x0 x3, spec_l1Name.l0 n x0 x3 = some r ∧ s = spr 23 0 [(0, .v (.s x0)), (3, .v (.i .i64 x3))] ∧ h = []) [] [] [] (bsp 23 0 [0, 3]) _ (by (conv => whnf); refine ⟨_, _, H, rfl, rfl⟩) ?_; rintro n s h hn ⟨x0, x3, H, rfl, rfl⟩; have hk := suc_ (g := fun k => spec_l1Name.l0 k _ _) H (by simp only [spec_l1Name.l0]); obtain ⟨kf, hk⟩ := hk; subst hk; simp only [spec_l1Name.l0, Option.bind_some, List.nil_append, if_true, if_false, Bool.false_eq_true, nilB, nilE] at H)
           | ((with_reducible refine nextid_ ?_); refine nextK_ (P := fun m => spec_l1Name.l0 m _ _ = some _) H (bsp 23 0 [0, 3]) ?_ ?_ ?_; (conv => whnf); refine ⟨_, _, H, ?_, rfl⟩; all_goals first | omega | rfl | (repeat' (first | rfl | refine own_eq ?_ | refine cons_eq ?_ ?_ | refine vi_eq ?_ | simp only [List.length_map, List.length_set, wm_])))
           | ((with_reducible refine finid_ ?_); refine finK_ [] ?_; (conv => whnf); replace H := Option.some.inj H; subst H; (conv => whnf); refine ⟨rfl, ?_⟩; first | rfl | (repeat' (first | rfl | refine own_eq ?_ | refine tup_eq ?_ | refine agg_eq ?_ | refine cons_eq ?_ ?_ | refine vi_eq ?_ | simp only [List.length_map, List.length_set, wm_]))))
end Go.Proofs.YthkepmicdpgbbaaGreatDoor.E

/- What the functions' codes come to. -/
namespace Go.Proofs.YthkepmicdpgbbaaGreatDoor.E
open Go Go.RowKit Go.Proofs.YthkepmicdpgbbaaGreatDoorW.PrintWords Go.Proofs.YthkepmicdpgbbaaGreatDoor.P
set_option linter.unusedVariables false
set_option linter.unusedSimpArgs false
set_option maxHeartbeats 0
set_option maxRecDepth 100000
theorem spec_l3Db_ev {kf : Nat} {a0_0 : ByteArray} {a0_1 : Int} {a0_2 : Int} {a0_3 : Int} {a0_4 : Int} {r : Bool} (H : spec_l3Db.f kf a0_0 a0_1 a0_2 a0_3 a0_4 = some r) : Spec Tryz.prog 139 [.agg [.v (.s a0_0), .v (.i .i64 a0_1), .v (.i .i64 a0_2), .v (.i .i64 a0_3), .v (.i .i64 a0_4)]] [] (.v (.b r)) [] := by
  simp only [spec_l3Db.f, Option.bind_some, List.nil_append, if_true, if_false, Bool.false_eq_true, nilB, nilE] at H
  refine fn_okF (E := env) Tryz.func139 (by rfl) rfl (n := 25) (by rfl) ?_
  repeat' ((conv => whnf); first
           | ((with_reducible have hp := peel_ H); clear H; obtain ⟨_, H⟩ := hp)
           | ((with_reducible have hp := peeln_ H); clear H; obtain ⟨_, H⟩ := hp)
           | (with_reducible replace H := itet_ H)
           | (with_reducible replace H := itef_ H)
           | ((with_reducible refine sideid_ ?_); refine side_ ?_)
           | ((with_reducible refine seqid_ ?_); refine sgo_ ?_)
           | ((with_reducible refine brid_ ?_); first
             | (with_reducible refine brct_ ?_)
             | (with_reducible refine brcf_ ?_)
             | (with_reducible refine brt_ ?_)
             | (with_reducible refine brf_ ?_)
             | (refine br_ H (by with_reducible first | rfl | exact bi_ _ _ | exact bd_ _ | exact bs_ _ _) (fun _ H => ?_) (fun _ H => ?_))
             | (refine brn_ H (by with_reducible first | rfl | exact bni_ _ _ | exact bin_ _ _ | exact bn_ _ | exact bs0_ _ _ | exact bnn_ _) (fun _ H => ?_) (fun _ H => ?_))
             | (refine brt_ ?_)
             | (refine brf_ ?_)
             | (refine br_ H (by exact Eq.refl _) (fun _ H => ?_) (fun _ H => ?_))
             | (refine brn_ H (by exact Eq.refl _) (fun _ H => ?_) (fun _ H => ?_)))
           | ((with_reducible refine br2id_ ?_); first
             | (refine br2t_ ?_)
             | (refine br2f_ ?_))
           | ((with_reducible refine normid_ ?_); first
             | (refine norm_nilapp ?_)
             | (refine norm_appnil ?_)
             | (refine norm_app ?_)
             | (refine norm_t ?_)
             | (refine norm_d ?_)
             | (refine norm_td ?_))
           | ((with_reducible refine lenid_ ?_); refine lenm_ ?_)
           | ((with_reducible refine strid_ ?_); first
             | (refine stre_ ?_)
             | (refine stre0_ ?_))
           | ((with_reducible refine callid_ ?_); have hp := bnd_ H; clear H; obtain ⟨_, ht, H⟩ := hp; first
             | (refine call_ (spec_l1In_ev ht) rfl rfl ?_)
             | (refine call_ (spec_l1Name_ev ht) rfl rfl ?_))
           | ((with_reducible refine finid_ ?_); refine finK_ [] ?_; (conv => whnf); replace H := Option.some.inj H; subst H; (conv => whnf); refine ⟨rfl, ?_⟩; first | rfl | (repeat' (first | rfl | refine own_eq ?_ | refine tup_eq ?_ | refine agg_eq ?_ | refine cons_eq ?_ ?_ | refine vi_eq ?_ | simp only [List.length_map, List.length_set, wm_]))))
end Go.Proofs.YthkepmicdpgbbaaGreatDoor.E

/- What the functions' codes come to. -/
namespace Go.Proofs.YthkepmicdpgbbaaGreatDoor.E
open Go Go.RowKit Go.Proofs.YthkepmicdpgbbaaGreatDoorW.PrintWords Go.Proofs.YthkepmicdpgbbaaGreatDoor.P
set_option linter.unusedVariables false
set_option linter.unusedSimpArgs false
set_option maxHeartbeats 0
set_option maxRecDepth 100000
theorem spec_ConfOk_ev {kf : Nat} {l0 : List (S138)} {r : Bool} (H : spec_ConfOk.f kf l0 = some r) : Spec Tryz.prog 126 [.v (.row (List.map e138 l0))] [] (.v (.b r)) [] := by
  simp only [spec_ConfOk.f, Option.bind_some, List.nil_append, if_true, if_false, Bool.false_eq_true, nilB, nilE] at H
  refine fn_okF (E := env) Tryz.func126 (by rfl) rfl (n := 35) (by rfl) ?_
  repeat' ((conv => whnf); first
           | ((with_reducible have hp := peel_ H); clear H; obtain ⟨_, H⟩ := hp)
           | ((with_reducible have hp := peeln_ H); clear H; obtain ⟨_, H⟩ := hp)
           | (with_reducible replace H := itet_ H)
           | (with_reducible replace H := itef_ H)
           | ((with_reducible refine sideid_ ?_); refine side_ ?_)
           | ((with_reducible refine seqid_ ?_); refine sgo_ ?_)
           | ((with_reducible refine brid_ ?_); first
             | (with_reducible refine brct_ ?_)
             | (with_reducible refine brcf_ ?_)
             | (with_reducible refine brt_ ?_)
             | (with_reducible refine brf_ ?_)
             | (refine br_ H (by with_reducible first | rfl | exact bi_ _ _ | exact bd_ _ | exact bs_ _ _) (fun _ H => ?_) (fun _ H => ?_))
             | (refine brn_ H (by with_reducible first | rfl | exact bni_ _ _ | exact bin_ _ _ | exact bn_ _ | exact bs0_ _ _ | exact bnn_ _) (fun _ H => ?_) (fun _ H => ?_))
             | (refine brt_ ?_)
             | (refine brf_ ?_)
             | (refine br_ H (by exact Eq.refl _) (fun _ H => ?_) (fun _ H => ?_))
             | (refine brn_ H (by exact Eq.refl _) (fun _ H => ?_) (fun _ H => ?_)))
           | ((with_reducible refine br2id_ ?_); first
             | (refine br2t_ ?_)
             | (refine br2f_ ?_))
           | ((with_reducible refine normid_ ?_); first
             | (refine norm_nilapp ?_)
             | (refine norm_appnil ?_)
             | (refine norm_app ?_)
             | (refine norm_t ?_)
             | (refine norm_d ?_)
             | (refine norm_td ?_)
             | (refine norm_set (e := 138) (f := e138) ⟨_, _, _, _, _⟩ rfl ?_)
             | (refine norm_rep (e := 138) (f := e138) ⟨_, _, _, _, _⟩ rfl ?_))
           | ((with_reducible refine elemid_ ?_); refine elem_ (f := e138) z138 (rd_T138 _ _) rfl ?_ (by first | assumption | decide | omega) (by first | assumption | omega))
           | ((with_reducible refine lenid_ ?_); refine lenm_ ?_)
           | ((with_reducible refine strid_ ?_); first
             | (refine stre_ ?_)
             | (refine stre0_ ?_))
           | ((with_reducible refine callid_ ?_); have hp := bnd_ H; clear H; obtain ⟨_, ht, H⟩ := hp; first
             | (refine call_ (spec_l1In_ev ht) rfl rfl ?_)
             | (refine call_ (spec_l3Db_ev ht) rfl rfl ?_))
           | ((with_reducible refine loopid_ ?_); first
             | (refine loopK_ (fun n s h => ∃ x0 x3, spec_ConfOk.l0 n x0 x3 = some r ∧ s = spr 36 0 [(0, .v (.row (List.map e138 x0))), (3, .v (.i .i64 x3))] ∧ h = []) [] [] [] (bsp 36 0 [0, 3]) _ (by (conv => whnf); refine ⟨_, _, H, rfl, rfl⟩) ?_; rintro n s h hn ⟨x0, x3, H, rfl, rfl⟩; have hk := suc_ (g := fun k => spec_ConfOk.l0 k _ _) H (by simp only [spec_ConfOk.l0]); obtain ⟨kf, hk⟩ := hk; subst hk; simp only [spec_ConfOk.l0, Option.bind_some, List.nil_append, if_true, if_false, Bool.false_eq_true, nilB, nilE] at H)
             | (refine loopK_ (fun n s h => ∃ x0 x3 x4, spec_ConfOk.l1 n x0 x3 x4 = some r ∧ s = spr 36 0 [(0, .v (.row (List.map e138 x0))), (3, .v (.i .i64 x3)), (4, .v (.i .i64 x4))] ∧ h = []) [] [] [] (bsp 36 0 [0, 3, 4]) _ (by (conv => whnf); refine ⟨_, _, _, H, rfl, rfl⟩) ?_; rintro n s h hn ⟨x0, x3, x4, H, rfl, rfl⟩; have hk := suc_ (g := fun k => spec_ConfOk.l1 k _ _ _) H (by simp only [spec_ConfOk.l1]); obtain ⟨kf, hk⟩ := hk; subst hk; simp only [spec_ConfOk.l1, Option.bind_some, List.nil_append, if_true, if_false, Bool.false_eq_true, nilB, nilE] at H))
           | ((with_reducible refine nextid_ ?_); first
             | (refine nextK_ (P := fun m => spec_ConfOk.l0 m _ _ = some _) H (bsp 36 0 [0, 3]) ?_ ?_ ?_; (conv => whnf); refine ⟨_, _, H, ?_, rfl⟩; all_goals first | omega | rfl | (repeat' (first | rfl | refine own_eq ?_ | refine cons_eq ?_ ?_ | refine vi_eq ?_ | simp only [List.length_map, List.length_set, wm_])))
             | (refine nextK_ (P := fun m => spec_ConfOk.l1 m _ _ _ = some _) H (bsp 36 0 [0, 3, 4]) ?_ ?_ ?_; (conv => whnf); refine ⟨_, _, _, H, ?_, rfl⟩; all_goals first | omega | rfl | (repeat' (first | rfl | refine own_eq ?_ | refine cons_eq ?_ ?_ | refine vi_eq ?_ | simp only [List.length_map, List.length_set, wm_]))))
           | ((with_reducible refine finid_ ?_); refine finK_ [] ?_; (conv => whnf); replace H := Option.some.inj H; subst H; (conv => whnf); refine ⟨rfl, ?_⟩; first | rfl | (repeat' (first | rfl | refine own_eq ?_ | refine tup_eq ?_ | refine agg_eq ?_ | refine cons_eq ?_ ?_ | refine vi_eq ?_ | simp only [List.length_map, List.length_set, wm_]))))
end Go.Proofs.YthkepmicdpgbbaaGreatDoor.E

/- What the functions' codes come to. -/
namespace Go.Proofs.YthkepmicdpgbbaaGreatDoor.E
open Go Go.RowKit Go.Proofs.YthkepmicdpgbbaaGreatDoorW.PrintWords Go.Proofs.YthkepmicdpgbbaaGreatDoor.P
set_option linter.unusedVariables false
set_option linter.unusedSimpArgs false
set_option maxHeartbeats 0
set_option maxRecDepth 100000
theorem spec_NumText_ev {kf : Nat} {a0 : Int} {r : ByteArray} (H : spec_NumText.f kf a0 = some r) : Spec Tryz.prog 127 [.v (.i .i64 a0)] [] (.v (.s r)) [] := by
  simp only [spec_NumText.f, Option.bind_some, List.nil_append, if_true, if_false, Bool.false_eq_true, nilB, nilE] at H
  refine fn_okF (E := env) Tryz.func127 (by rfl) rfl (n := 30) (by rfl) ?_
  repeat' ((conv => whnf); first
           | ((with_reducible have hp := peel_ H); clear H; obtain ⟨_, H⟩ := hp)
           | ((with_reducible have hp := peeln_ H); clear H; obtain ⟨_, H⟩ := hp)
           | (with_reducible replace H := itet_ H)
           | (with_reducible replace H := itef_ H)
           | ((with_reducible refine sideid_ ?_); refine side_ ?_)
           | ((with_reducible refine seqid_ ?_); refine sgo_ ?_)
           | ((with_reducible refine brid_ ?_); first
             | (with_reducible refine brct_ ?_)
             | (with_reducible refine brcf_ ?_)
             | (with_reducible refine brt_ ?_)
             | (with_reducible refine brf_ ?_)
             | (refine br_ H (by with_reducible first | rfl | exact bi_ _ _ | exact bd_ _ | exact bs_ _ _) (fun _ H => ?_) (fun _ H => ?_))
             | (refine brn_ H (by with_reducible first | rfl | exact bni_ _ _ | exact bin_ _ _ | exact bn_ _ | exact bs0_ _ _ | exact bnn_ _) (fun _ H => ?_) (fun _ H => ?_))
             | (refine brt_ ?_)
             | (refine brf_ ?_)
             | (refine br_ H (by exact Eq.refl _) (fun _ H => ?_) (fun _ H => ?_))
             | (refine brn_ H (by exact Eq.refl _) (fun _ H => ?_) (fun _ H => ?_)))
           | ((with_reducible refine br2id_ ?_); first
             | (refine br2t_ ?_)
             | (refine br2f_ ?_))
           | ((with_reducible refine normid_ ?_); first
             | (refine norm_nilapp ?_)
             | (refine norm_appnil ?_)
             | (refine norm_app ?_)
             | (refine norm_t ?_)
             | (refine norm_d ?_)
             | (refine norm_td ?_)
             | (refine norm_set (e := 5) (f := e5) _ rfl ?_)
             | (refine norm_rep (e := 5) (f := e5) _ rfl ?_)
             | (refine norm_lit (e := 5) (n := 1) (f := e5) [_] rfl ?_))
           | ((with_reducible refine elemid_ ?_); refine elem_ (f := e5) 0 (rd _ _) rfl ?_ (by first | assumption | decide | omega) (by first | assumption | omega))
           | ((with_reducible refine lenid_ ?_); refine lenm_ ?_)
           | ((with_reducible refine strid_ ?_); first
             | (refine stre_ ?_)
             | (refine stre0_ ?_))
           | ((with_reducible refine loopid_ ?_); refine loopK_ (fun n s h => ∃ x0 x3 x4, spec_NumText.l0 n x0 x3 x4 = some r ∧ s = spr 31 0 [(0, .v (.i .i64 x0)), (3, .v (.s x3)), (4, .v (.i .i64 x4))] ∧ h = []) [] [] [] (bsp 31 0 [0, 3, 4]) _ (by (conv => whnf); refine ⟨_, _, _, H, rfl, rfl⟩) ?_; rintro n s h hn ⟨x0, x3, x4, H, rfl, rfl⟩; have hk := suc_ (g := fun k => spec_NumText.l0 k _ _ _) H (by simp only [spec_NumText.l0]); obtain ⟨kf, hk⟩ := hk; subst hk; simp only [spec_NumText.l0, Option.bind_some, List.nil_append, if_true, if_false, Bool.false_eq_true, nilB, nilE] at H)
           | ((with_reducible refine nextid_ ?_); refine nextK_ (P := fun m => spec_NumText.l0 m _ _ _ = some _) H (bsp 31 0 [0, 3, 4]) ?_ ?_ ?_; (conv => whnf); refine ⟨_, _, _, H, ?_, rfl⟩; all_goals first | omega | rfl | (repeat' (first | rfl | refine own_eq ?_ | refine cons_eq ?_ ?_ | refine vi_eq ?_ | simp only [List.length_map, List.length_set, wm_])))
           | ((with_reducible refine finid_ ?_); refine finK_ [] ?_; (conv => whnf); replace H := Option.some.inj H; subst H; (conv => whnf); refine ⟨rfl, ?_⟩; first | rfl | (repeat' (first | rfl | refine own_eq ?_ | refine tup_eq ?_ | refine agg_eq ?_ | refine cons_eq ?_ ?_ | refine vi_eq ?_ | simp only [List.length_map, List.length_set, wm_]))))
end Go.Proofs.YthkepmicdpgbbaaGreatDoor.E

/- What the functions' codes come to. -/
namespace Go.Proofs.YthkepmicdpgbbaaGreatDoor.E
open Go Go.RowKit Go.Proofs.YthkepmicdpgbbaaGreatDoorW.PrintWords Go.Proofs.YthkepmicdpgbbaaGreatDoor.P
set_option linter.unusedVariables false
set_option linter.unusedSimpArgs false
set_option maxHeartbeats 0
set_option maxRecDepth 100000
theorem spec_ConfText_ev {kf : Nat} {l0 : List (S138)} {r : ByteArray} (H : spec_ConfText.f kf l0 = some r) : Spec Tryz.prog 103 [.v (.row (List.map e138 l0))] [] (.v (.s r)) [] := by
  simp only [spec_ConfText.f, Option.bind_some, List.nil_append, if_true, if_false, Bool.false_eq_true, nilB, nilE] at H
  refine fn_okF (E := env) Tryz.func103 (by rfl) rfl (n := 58) (by rfl) ?_
  repeat' ((conv => whnf); first
           | ((with_reducible have hp := peel_ H); clear H; obtain ⟨_, H⟩ := hp)
           | ((with_reducible have hp := peeln_ H); clear H; obtain ⟨_, H⟩ := hp)
           | (with_reducible replace H := itet_ H)
           | (with_reducible replace H := itef_ H)
           | (have hk := suc_ (g := fun k => spec_ConfText.j2 k _ _ _) H (by simp only [spec_ConfText.j2]); obtain ⟨kf, hk⟩ := hk; subst hk; simp only [spec_ConfText.j2, Option.bind_some, List.nil_append, if_true, if_false, Bool.false_eq_true, nilB, nilE] at H)
           | ((with_reducible refine sideid_ ?_); refine side_ ?_)
           | ((with_reducible refine seqid_ ?_); first
             | ((with_reducible refine scg_ 3 ?_); refine scut_ 3 (fun s h => ∃ x0 x3 x4 x12, spec_ConfText.j1 kf x0 x3 x4 x12 = some r ∧ s = spr 59 0 [(0, .v (.row (List.map e138 x0))), (3, .v (.s x3)), (4, .v (.i .i64 x4)), (12, .v (.b x12))] ∧ h = []) ?_ ?_)
             | (refine sgo_ ?_))
           | ((with_reducible refine brid_ ?_); first
             | (with_reducible refine brct_ ?_)
             | (with_reducible refine brcf_ ?_)
             | (with_reducible refine brt_ ?_)
             | (with_reducible refine brf_ ?_)
             | (refine br_ H (by with_reducible first | rfl | exact bi_ _ _ | exact bd_ _ | exact bs_ _ _) (fun _ H => ?_) (fun _ H => ?_))
             | (refine brn_ H (by with_reducible first | rfl | exact bni_ _ _ | exact bin_ _ _ | exact bn_ _ | exact bs0_ _ _ | exact bnn_ _) (fun _ H => ?_) (fun _ H => ?_))
             | (refine brt_ ?_)
             | (refine brf_ ?_)
             | (refine br_ H (by exact Eq.refl _) (fun _ H => ?_) (fun _ H => ?_))
             | (refine brn_ H (by exact Eq.refl _) (fun _ H => ?_) (fun _ H => ?_)))
           | ((with_reducible refine br2id_ ?_); first
             | (refine br2t_ ?_)
             | (refine br2f_ ?_))
           | ((with_reducible refine normid_ ?_); first
             | (refine norm_nilapp ?_)
             | (refine norm_appnil ?_)
             | (refine norm_app ?_)
             | (refine norm_t ?_)
             | (refine norm_d ?_)
             | (refine norm_td ?_)
             | (refine norm_set (e := 138) (f := e138) ⟨_, _, _, _, _⟩ rfl ?_)
             | (refine norm_rep (e := 138) (f := e138) ⟨_, _, _, _, _⟩ rfl ?_))
           | ((with_reducible refine elemid_ ?_); refine elem_ (f := e138) z138 (rd_T138 _ _) rfl ?_ (by first | assumption | decide | omega) (by first | assumption | omega))
           | ((with_reducible refine lenid_ ?_); refine lenm_ ?_)
           | ((with_reducible refine strid_ ?_); first
             | (refine stre_ ?_)
             | (refine stre0_ ?_))
           | ((with_reducible refine callid_ ?_); have hp := bnd_ H; clear H; obtain ⟨_, ht, H⟩ := hp; first
             | (refine call_ (spec_ConfOk_ev ht) rfl rfl ?_)
             | (refine call_ (spec_NumText_ev ht) rfl rfl ?_))
           | ((with_reducible refine loopid_ ?_); refine loopK_ (fun n s h => ∃ x0 x3 x4, spec_ConfText.l0 n x0 x3 x4 = some r ∧ s = spr 59 0 [(0, .v (.row (List.map e138 x0))), (3, .v (.s x3)), (4, .v (.i .i64 x4))] ∧ h = []) [] [] [] (bsp 59 0 [0, 3, 4]) _ (by (conv => whnf); refine ⟨_, _, _, H, rfl, rfl⟩) ?_; rintro n s h hn ⟨x0, x3, x4, H, rfl, rfl⟩; have hk := suc_ (g := fun k => spec_ConfText.l0 k _ _ _) H (by simp only [spec_ConfText.l0]); obtain ⟨kf, hk⟩ := hk; subst hk; simp only [spec_ConfText.l0, Option.bind_some, List.nil_append, if_true, if_false, Bool.false_eq_true, nilB, nilE] at H)
           | ((with_reducible refine nextid_ ?_); refine nextK_ (P := fun m => spec_ConfText.l0 m _ _ _ = some _) H (bsp 59 0 [0, 3, 4]) ?_ ?_ ?_; (conv => whnf); refine ⟨_, _, _, H, ?_, rfl⟩; all_goals first | omega | rfl | (repeat' (first | rfl | refine own_eq ?_ | refine cons_eq ?_ ?_ | refine vi_eq ?_ | simp only [List.length_map, List.length_set, wm_])))
           | ((with_reducible refine exid_ ?_); have hk := idH_ (F := fun k => spec_ConfText.j1 k _ _ _ _) H; refine weakK_ (ex := []) (us := []) (bs := []) (ms := (bsp 59 0 [0, 3, 4, 12])) ?_; (conv => whnf); refine ⟨_, _, _, _, hk, rfl, rfl⟩)
           | ((with_reducible refine allid_ ?_); intro s h hj; clear H; obtain ⟨x0, x3, x4, x12, H, rfl, rfl⟩ := hj; have hk := suc_ (g := fun k => spec_ConfText.j1 k _ _ _ _) H (by simp only [spec_ConfText.j1]); obtain ⟨kf, hk⟩ := hk; subst hk; simp only [spec_ConfText.j1, Option.bind_some, List.nil_append, if_true, if_false, Bool.false_eq_true, nilB, nilE] at H)
           | ((with_reducible refine finid_ ?_); refine finK_ [] ?_; (conv => whnf); replace H := Option.some.inj H; subst H; (conv => whnf); refine ⟨rfl, ?_⟩; first | rfl | (repeat' (first | rfl | refine own_eq ?_ | refine tup_eq ?_ | refine agg_eq ?_ | refine cons_eq ?_ ?_ | refine vi_eq ?_ | simp only [List.length_map, List.length_set, wm_]))))
end Go.Proofs.YthkepmicdpgbbaaGreatDoor.E

/- What the functions' codes come to. -/
namespace Go.Proofs.YthkepmicdpgbbaaGreatDoor.E
open Go Go.RowKit Go.Proofs.YthkepmicdpgbbaaGreatDoorW.PrintWords Go.Proofs.YthkepmicdpgbbaaGreatDoor.P
set_option linter.unusedVariables false
set_option linter.unusedSimpArgs false
set_option maxHeartbeats 0
set_option maxRecDepth 100000
theorem spec_l1Str_ev {s0_0 : List Int} {s0_1 : Int} {s0_2 : Int} {l1 : List ByteArray} {r : ByteArray × Int × Int} (H : spec_l1Str.f s0_0 s0_1 s0_2 l1 = some r) : Spec Tryz.prog 125 [.ptr 0 0, .v (.row (List.map e9 l1))] [.box 115 [.v (.row (List.map e5 s0_0)), .v (.i .i64 s0_1), .v (.i .i64 s0_2)]] (.v (.s r.1)) [.box 115 [.v (.row (List.map e5 s0_0)), .v (.i .i64 r.2.1), .v (.i .i64 r.2.2)]] := by
  simp only [spec_l1Str.f, Option.bind_some, List.nil_append, if_true, if_false, Bool.false_eq_true, nilB, nilE] at H
  refine fn_okF (E := env) Tryz.func125 (by rfl) rfl (n := 10) (by rfl) ?_
  repeat' ((conv => whnf); first
           | ((with_reducible have hp := peel_ H); clear H; obtain ⟨_, H⟩ := hp)
           | ((with_reducible have hp := peeln_ H); clear H; obtain ⟨_, H⟩ := hp)
           | (with_reducible replace H := itet_ H)
           | (with_reducible replace H := itef_ H)
           | ((with_reducible refine sideid_ ?_); refine side_ ?_)
           | ((with_reducible refine seqid_ ?_); refine sgo_ ?_)
           | ((with_reducible refine brid_ ?_); first
             | (with_reducible refine brct_ ?_)
             | (with_reducible refine brcf_ ?_)
             | (with_reducible refine brt_ ?_)
             | (with_reducible refine brf_ ?_)
             | (refine br_ H (by with_reducible first | rfl | exact bi_ _ _ | exact bd_ _ | exact bs_ _ _) (fun _ H => ?_) (fun _ H => ?_))
             | (refine brn_ H (by with_reducible first | rfl | exact bni_ _ _ | exact bin_ _ _ | exact bn_ _ | exact bs0_ _ _ | exact bnn_ _) (fun _ H => ?_) (fun _ H => ?_))
             | (refine brt_ ?_)
             | (refine brf_ ?_)
             | (refine br_ H (by exact Eq.refl _) (fun _ H => ?_) (fun _ H => ?_))
             | (refine brn_ H (by exact Eq.refl _) (fun _ H => ?_) (fun _ H => ?_)))
           | ((with_reducible refine br2id_ ?_); first
             | (refine br2t_ ?_)
             | (refine br2f_ ?_))
           | ((with_reducible refine normid_ ?_); first
             | (refine norm_nilapp ?_)
             | (refine norm_appnil ?_)
             | (refine norm_app ?_)
             | (refine norm_t ?_)
             | (refine norm_d ?_)
             | (refine norm_td ?_)
             | (refine norm_set (e := 9) (f := e9) _ rfl ?_)
             | (refine norm_rep (e := 9) (f := e9) _ rfl ?_))
           | ((with_reducible refine elemid_ ?_); refine elem_ (f := e9) ByteArray.empty (rdOf ByteArray.empty _ _) rfl ?_ (by first | assumption | decide | omega) (by first | assumption | omega))
           | ((with_reducible refine lenid_ ?_); refine lenm_ ?_)
           | ((with_reducible refine strid_ ?_); first
             | (refine stre_ ?_)
             | (refine stre0_ ?_))
           | ((with_reducible refine callid_ ?_); have hp := bnd_ H; clear H; obtain ⟨_, ht, H⟩ := hp; refine call_ (spec_l1Below_ev ht) rfl rfl ?_)
           | ((with_reducible refine finid_ ?_); refine finK_ [] ?_; (conv => whnf); replace H := Option.some.inj H; subst H; (conv => whnf); refine ⟨rfl, ?_⟩; first | rfl | (repeat' (first | rfl | refine own_eq ?_ | refine tup_eq ?_ | refine agg_eq ?_ | refine cons_eq ?_ ?_ | refine vi_eq ?_ | simp only [List.length_map, List.length_set, wm_]))))
end Go.Proofs.YthkepmicdpgbbaaGreatDoor.E

/- What the functions' codes come to. -/
namespace Go.Proofs.YthkepmicdpgbbaaGreatDoor.E
open Go Go.RowKit Go.Proofs.YthkepmicdpgbbaaGreatDoorW.PrintWords Go.Proofs.YthkepmicdpgbbaaGreatDoor.P
set_option linter.unusedVariables false
set_option linter.unusedSimpArgs false
set_option maxHeartbeats 0
set_option maxRecDepth 100000
theorem spec_l3One_ev {s0_0 : List Int} {s0_1 : Int} {s0_2 : Int} {r : ByteArray × Int × Int × Int × Int × Int × Int} (H : spec_l3One.f s0_0 s0_1 s0_2 = some r) : Spec Tryz.prog 128 [.ptr 0 0] [.box 115 [.v (.row (List.map e5 s0_0)), .v (.i .i64 s0_1), .v (.i .i64 s0_2)]] (.agg [.v (.s r.1), .v (.i .i64 r.2.1), .v (.i .i64 r.2.2.1), .v (.i .i64 r.2.2.2.1), .v (.i .i64 r.2.2.2.2.1)]) [.box 115 [.v (.row (List.map e5 s0_0)), .v (.i .i64 r.2.2.2.2.2.1), .v (.i .i64 r.2.2.2.2.2.2)]] := by
  simp only [spec_l3One.f, Option.bind_some, List.nil_append, if_true, if_false, Bool.false_eq_true, nilB, nilE] at H
  refine fn_okF (E := env) Tryz.func128 (by rfl) rfl (n := 17) (by rfl) ?_
  repeat' ((conv => whnf); first
           | ((with_reducible have hp := peel_ H); clear H; obtain ⟨_, H⟩ := hp)
           | ((with_reducible have hp := peeln_ H); clear H; obtain ⟨_, H⟩ := hp)
           | (with_reducible replace H := itet_ H)
           | (with_reducible replace H := itef_ H)
           | ((with_reducible refine sideid_ ?_); refine side_ ?_)
           | ((with_reducible refine seqid_ ?_); refine sgo_ ?_)
           | ((with_reducible refine brid_ ?_); first
             | (with_reducible refine brct_ ?_)
             | (with_reducible refine brcf_ ?_)
             | (with_reducible refine brt_ ?_)
             | (with_reducible refine brf_ ?_)
             | (refine br_ H (by with_reducible first | rfl | exact bi_ _ _ | exact bd_ _ | exact bs_ _ _) (fun _ H => ?_) (fun _ H => ?_))
             | (refine brn_ H (by with_reducible first | rfl | exact bni_ _ _ | exact bin_ _ _ | exact bn_ _ | exact bs0_ _ _ | exact bnn_ _) (fun _ H => ?_) (fun _ H => ?_))
             | (refine brt_ ?_)
             | (refine brf_ ?_)
             | (refine br_ H (by exact Eq.refl _) (fun _ H => ?_) (fun _ H => ?_))
             | (refine brn_ H (by exact Eq.refl _) (fun _ H => ?_) (fun _ H => ?_)))
           | ((with_reducible refine br2id_ ?_); first
             | (refine br2t_ ?_)
             | (refine br2f_ ?_))
           | ((with_reducible refine normid_ ?_); first
             | (refine norm_nilapp ?_)
             | (refine norm_appnil ?_)
             | (refine norm_app ?_)
             | (refine norm_t ?_)
             | (refine norm_d ?_)
             | (refine norm_td ?_)
             | (refine norm_set (e := 3) (f := e3) _ rfl ?_)
             | (refine norm_rep (e := 3) (f := e3) _ rfl ?_)
             | (refine norm_lit (e := 3) (n := 3) (f := e3) [_, _, _] rfl ?_)
             | (refine norm_lit (e := 3) (n := 4) (f := e3) [_, _, _, _] rfl ?_)
             | (refine norm_set (e := 9) (f := e9) _ rfl ?_)
             | (refine norm_rep (e := 9) (f := e9) _ rfl ?_)
             | (refine norm_lit (e := 9) (n := 4) (f := e9) [_, _, _, _] rfl ?_))
           | ((with_reducible refine elemid_ ?_); first
             | (refine elem_ (f := e3) 0 (rd _ _) rfl ?_ (by first | assumption | decide | omega) (by first | assumption | omega))
             | (refine elem_ (f := e9) ByteArray.empty (rdOf ByteArray.empty _ _) rfl ?_ (by first | assumption | decide | omega) (by first | assumption | omega)))
           | ((with_reducible refine lenid_ ?_); refine lenm_ ?_)
           | ((with_reducible refine strid_ ?_); first
             | (refine stre_ ?_)
             | (refine stre0_ ?_))
           | ((with_reducible refine callid_ ?_); have hp := bnd_ H; clear H; obtain ⟨_, ht, H⟩ := hp; first
             | (refine call_ (spec_l1Int_ev ht) rfl rfl ?_)
             | (refine call_ (spec_l1Below_ev ht) rfl rfl ?_)
             | (refine call_ (spec_l1Str_ev ht) rfl rfl ?_))
           | ((with_reducible refine finid_ ?_); refine finK_ [] ?_; (conv => whnf); replace H := Option.some.inj H; subst H; (conv => whnf); refine ⟨rfl, ?_⟩; first | rfl | (repeat' (first | rfl | refine own_eq ?_ | refine tup_eq ?_ | refine agg_eq ?_ | refine cons_eq ?_ ?_ | refine vi_eq ?_ | simp only [List.length_map, List.length_set, wm_]))))
end Go.Proofs.YthkepmicdpgbbaaGreatDoor.E

/- What the functions' codes come to. -/
namespace Go.Proofs.YthkepmicdpgbbaaGreatDoor.E
open Go Go.RowKit Go.Proofs.YthkepmicdpgbbaaGreatDoorW.PrintWords Go.Proofs.YthkepmicdpgbbaaGreatDoor.P
set_option linter.unusedVariables false
set_option linter.unusedSimpArgs false
set_option maxHeartbeats 0
set_option maxRecDepth 100000
theorem spec_DbAt_ev {kf : Nat} {l0 : List (S138)} {a1 : ByteArray} {r : ByteArray × Int × Int × Int × Int × Bool} (H : spec_DbAt.f kf l0 a1 = some r) : Spec Tryz.prog 129 [.v (.row (List.map e138 l0)), .v (.s a1)] [] (.tup [.agg [.v (.s r.1), .v (.i .i64 r.2.1), .v (.i .i64 r.2.2.1), .v (.i .i64 r.2.2.2.1), .v (.i .i64 r.2.2.2.2.1)], .v (.b r.2.2.2.2.2)]) [] := by
  simp only [spec_DbAt.f, Option.bind_some, List.nil_append, if_true, if_false, Bool.false_eq_true, nilB, nilE] at H
  refine fn_okF (E := env) Tryz.func129 (by rfl) rfl (n := 23) (by rfl) ?_
  repeat' ((conv => whnf); first
           | ((with_reducible have hp := peel_ H); clear H; obtain ⟨_, H⟩ := hp)
           | ((with_reducible have hp := peeln_ H); clear H; obtain ⟨_, H⟩ := hp)
           | (with_reducible replace H := itet_ H)
           | (with_reducible replace H := itef_ H)
           | ((with_reducible refine sideid_ ?_); refine side_ ?_)
           | ((with_reducible refine seqid_ ?_); refine sgo_ ?_)
           | ((with_reducible refine brid_ ?_); first
             | (with_reducible refine brct_ ?_)
             | (with_reducible refine brcf_ ?_)
             | (with_reducible refine brt_ ?_)
             | (with_reducible refine brf_ ?_)
             | (refine br_ H (by with_reducible first | rfl | exact bi_ _ _ | exact bd_ _ | exact bs_ _ _) (fun _ H => ?_) (fun _ H => ?_))
             | (refine brn_ H (by with_reducible first | rfl | exact bni_ _ _ | exact bin_ _ _ | exact bn_ _ | exact bs0_ _ _ | exact bnn_ _) (fun _ H => ?_) (fun _ H => ?_))
             | (refine brt_ ?_)
             | (refine brf_ ?_)
             | (refine br_ H (by exact Eq.refl _) (fun _ H => ?_) (fun _ H => ?_))
             | (refine brn_ H (by exact Eq.refl _) (fun _ H => ?_) (fun _ H => ?_)))
           | ((with_reducible refine br2id_ ?_); first
             | (refine br2t_ ?_)
             | (refine br2f_ ?_))
           | ((with_reducible refine normid_ ?_); first
             | (refine norm_nilapp ?_)
             | (refine norm_appnil ?_)
             | (refine norm_app ?_)
             | (refine norm_t ?_)
             | (refine norm_d ?_)
             | (refine norm_td ?_)
             | (refine norm_set (e := 138) (f := e138) ⟨_, _, _, _, _⟩ rfl ?_)
             | (refine norm_rep (e := 138) (f := e138) ⟨_, _, _, _, _⟩ rfl ?_))
           | ((with_reducible refine elemid_ ?_); refine elem_ (f := e138) z138 (rd_T138 _ _) rfl ?_ (by first | assumption | decide | omega) (by first | assumption | omega))
           | ((with_reducible refine lenid_ ?_); refine lenm_ ?_)
           | ((with_reducible refine strid_ ?_); first
             | (refine stre_ ?_)
             | (refine stre0_ ?_))
           | ((with_reducible refine loopid_ ?_); refine loopK_ (fun n s h => ∃ x0 x1 x6, spec_DbAt.l0 n x0 x1 x6 = some r ∧ s = spr 25 0 [(0, .v (.row (List.map e138 x0))), (1, .v (.s x1)), (4, .ptr 0 0), (6, .v (.i .i64 x6))] ∧ h = [.box 138 [.v (.s (⟨#[]⟩ : ByteArray)), .v (.i .i64 0), .v (.i .i64 0), .v (.i .i64 0), .v (.i .i64 0)]]) [] [] [] (bsp 25 0 [0, 1, 4, 6]) _ (by (conv => whnf); refine ⟨_, _, _, H, rfl, rfl⟩) ?_; rintro n s h hn ⟨x0, x1, x6, H, rfl, rfl⟩; have hk := suc_ (g := fun k => spec_DbAt.l0 k _ _ _) H (by simp only [spec_DbAt.l0]); obtain ⟨kf, hk⟩ := hk; subst hk; simp only [spec_DbAt.l0, Option.bind_some, List.nil_append, if_true, if_false, Bool.false_eq_true, nilB, nilE] at H)
           | ((with_reducible refine nextid_ ?_); refine nextK_ (P := fun m => spec_DbAt.l0 m _ _ _ = some _) H (bsp 25 0 [0, 1, 4, 6]) ?_ ?_ ?_; (conv => whnf); refine ⟨_, _, _, H, ?_, rfl⟩; all_goals first | omega | rfl | (repeat' (first | rfl | refine own_eq ?_ | refine cons_eq ?_ ?_ | refine vi_eq ?_ | simp only [List.length_map, List.length_set, wm_])))
           | ((with_reducible refine finid_ ?_); refine finK_ [] ?_; (conv => whnf); replace H := Option.some.inj H; subst H; (conv => whnf); refine ⟨rfl, ?_⟩; first | rfl | (repeat' (first | rfl | refine own_eq ?_ | refine tup_eq ?_ | refine agg_eq ?_ | refine cons_eq ?_ ?_ | refine vi_eq ?_ | simp only [List.length_map, List.length_set, wm_]))))
end Go.Proofs.YthkepmicdpgbbaaGreatDoor.E

/- What the functions' codes come to. -/
namespace Go.Proofs.YthkepmicdpgbbaaGreatDoor.E
open Go Go.RowKit Go.Proofs.YthkepmicdpgbbaaGreatDoorW.PrintWords Go.Proofs.YthkepmicdpgbbaaGreatDoor.P
set_option linter.unusedVariables false
set_option linter.unusedSimpArgs false
set_option maxHeartbeats 0
set_option maxRecDepth 100000
theorem spec_l3Draw_ev {kf : Nat} {s0_0 : List Int} {s0_1 : Int} {s0_2 : Int} {r : (List (S138)) × Int × Int} (H : spec_l3Draw.f kf s0_0 s0_1 s0_2 = some r) : Spec Tryz.prog 104 [.ptr 0 0] [.box 115 [.v (.row (List.map e5 s0_0)), .v (.i .i64 s0_1), .v (.i .i64 s0_2)]] (.own 1 (List.map e138 r.1).length) [.box 115 [.v (.row (List.map e5 s0_0)), .v (.i .i64 r.2.1), .v (.i .i64 r.2.2)], .arr 5 138 false (List.map e138 r.1)] := by
  simp only [spec_l3Draw.f, Option.bind_some, List.nil_append, if_true, if_false, Bool.false_eq_true, nilB, nilE] at H
  refine fn_okF (E := env) Tryz.func104 (by rfl) rfl (n := 31) (by rfl) ?_
  repeat' ((conv => whnf); first
           | ((with_reducible have hp := peel_ H); clear H; obtain ⟨_, H⟩ := hp)
           | ((with_reducible have hp := peeln_ H); clear H; obtain ⟨_, H⟩ := hp)
           | (with_reducible replace H := itet_ H)
           | (with_reducible replace H := itef_ H)
           | ((with_reducible refine sideid_ ?_); refine side_ ?_)
           | ((with_reducible refine seqid_ ?_); refine sgo_ ?_)
           | ((with_reducible refine brid_ ?_); first
             | (with_reducible refine brct_ ?_)
             | (with_reducible refine brcf_ ?_)
             | (with_reducible refine brt_ ?_)
             | (with_reducible refine brf_ ?_)
             | (refine br_ H (by with_reducible first | rfl | exact bi_ _ _ | exact bd_ _ | exact bs_ _ _) (fun _ H => ?_) (fun _ H => ?_))
             | (refine brn_ H (by with_reducible first | rfl | exact bni_ _ _ | exact bin_ _ _ | exact bn_ _ | exact bs0_ _ _ | exact bnn_ _) (fun _ H => ?_) (fun _ H => ?_))
             | (refine brt_ ?_)
             | (refine brf_ ?_)
             | (refine br_ H (by exact Eq.refl _) (fun _ H => ?_) (fun _ H => ?_))
             | (refine brn_ H (by exact Eq.refl _) (fun _ H => ?_) (fun _ H => ?_)))
           | ((with_reducible refine br2id_ ?_); first
             | (refine br2t_ ?_)
             | (refine br2f_ ?_))
           | ((with_reducible refine normid_ ?_); first
             | (refine norm_nilapp ?_)
             | (refine norm_appnil ?_)
             | (refine norm_app ?_)
             | (refine norm_t ?_)
             | (refine norm_d ?_)
             | (refine norm_td ?_)
             | (refine norm_set (e := 138) (f := e138) ⟨_, _, _, _, _⟩ rfl ?_)
             | (refine norm_rep (e := 138) (f := e138) ⟨_, _, _, _, _⟩ rfl ?_)
             | (refine norm_lit (e := 138) (n := 0) (f := e138) [] rfl ?_)
             | (refine norm_lit (e := 138) (n := 1) (f := e138) [⟨_, _, _, _, _⟩] rfl ?_))
           | ((with_reducible refine elemid_ ?_); refine elem_ (f := e138) z138 (rd_T138 _ _) rfl ?_ (by first | assumption | decide | omega) (by first | assumption | omega))
           | ((with_reducible refine lenid_ ?_); refine lenm_ ?_)
           | ((with_reducible refine strid_ ?_); first
             | (refine stre_ ?_)
             | (refine stre0_ ?_))
           | ((with_reducible refine callid_ ?_); have hp := bnd_ H; clear H; obtain ⟨_, ht, H⟩ := hp; first
             | (refine call_ (spec_l1Below_ev ht) rfl rfl ?_)
             | (refine call_ (spec_l3One_ev ht) rfl rfl ?_)
             | (refine call_ (spec_DbAt_ev ht) rfl rfl ?_))
           | ((with_reducible refine loopid_ ?_); refine loopK_ (fun n s h => ∃ x3 x4 x1001 x1002, spec_l3Draw.l0 n x3 x4 s0_0 x1001 x1002 = some r ∧ s = spr 32 0 [(0, .ptr 0 0), (3, .own 1 (List.map e138 x3).length), (4, .v (.i .i64 x4))] ∧ h = [.box 115 [.v (.row (List.map e5 s0_0)), .v (.i .i64 x1001), .v (.i .i64 x1002)], .arr 5 138 false (List.map e138 x3)]) [] [] [] (bsp 32 0 [0, 3, 4]) _ (by (conv => whnf); refine ⟨_, _, _, _, H, rfl, rfl⟩) ?_; rintro n s h hn ⟨x3, x4, x1001, x1002, H, rfl, rfl⟩; have hk := suc_ (g := fun k => spec_l3Draw.l0 k _ _ _ _ _) H (by simp only [spec_l3Draw.l0]); obtain ⟨kf, hk⟩ := hk; subst hk; simp only [spec_l3Draw.l0, Option.bind_some, List.nil_append, if_true, if_false, Bool.false_eq_true, nilB, nilE] at H)
           | ((with_reducible refine nextid_ ?_); refine nextK_ (P := fun m => spec_l3Draw.l0 m _ _ _ _ _ = some _) H (bsp 32 0 [0, 3, 4]) ?_ ?_ ?_; (conv => whnf); refine ⟨_, _, _, _, H, ?_, rfl⟩; all_goals first | omega | rfl | (repeat' (first | rfl | refine own_eq ?_ | refine cons_eq ?_ ?_ | refine vi_eq ?_ | simp only [List.length_map, List.length_set, wm_])))
           | ((with_reducible refine finid_ ?_); refine finK_ [] ?_; (conv => whnf); replace H := Option.some.inj H; subst H; (conv => whnf); refine ⟨rfl, ?_⟩; first | rfl | (repeat' (first | rfl | refine own_eq ?_ | refine tup_eq ?_ | refine agg_eq ?_ | refine cons_eq ?_ ?_ | refine vi_eq ?_ | simp only [List.length_map, List.length_set, wm_]))))
end Go.Proofs.YthkepmicdpgbbaaGreatDoor.E

/- What the functions' codes come to. -/
namespace Go.Proofs.YthkepmicdpgbbaaGreatDoor.E
open Go Go.RowKit Go.Proofs.YthkepmicdpgbbaaGreatDoorW.PrintWords Go.Proofs.YthkepmicdpgbbaaGreatDoor.P
set_option linter.unusedVariables false
set_option linter.unusedSimpArgs false
set_option maxHeartbeats 0
set_option maxRecDepth 100000
theorem spec_l4Draw_ev {kf : Nat} {s0_0 : List Int} {s0_1 : Int} {s0_2 : Int} {r : Int × Int × Int × ByteArray × Int × Int} (H : spec_l4Draw.f kf s0_0 s0_1 s0_2 = some r) : Spec Tryz.prog 50 [.ptr 0 0] [.box 115 [.v (.row (List.map e5 s0_0)), .v (.i .i64 s0_1), .v (.i .i64 s0_2)]] (.agg [.v (.i .i64 r.1), .v (.i .i64 r.2.1), .v (.i .i64 r.2.2.1), .v (.s r.2.2.2.1)]) [.box 115 [.v (.row (List.map e5 s0_0)), .v (.i .i64 r.2.2.2.2.1), .v (.i .i64 r.2.2.2.2.2)]] := by
  simp only [spec_l4Draw.f, Option.bind_some, List.nil_append, if_true, if_false, Bool.false_eq_true, nilB, nilE] at H
  refine fn_okF (E := env) Tryz.func50 (by rfl) rfl (n := 24) (by rfl) ?_
  repeat' ((conv => whnf); first
           | ((with_reducible have hp := peel_ H); clear H; obtain ⟨_, H⟩ := hp)
           | ((with_reducible have hp := peeln_ H); clear H; obtain ⟨_, H⟩ := hp)
           | (with_reducible replace H := itet_ H)
           | (with_reducible replace H := itef_ H)
           | ((with_reducible refine sideid_ ?_); refine side_ ?_)
           | ((with_reducible refine seqid_ ?_); refine sgo_ ?_)
           | ((with_reducible refine brid_ ?_); first
             | (with_reducible refine brct_ ?_)
             | (with_reducible refine brcf_ ?_)
             | (with_reducible refine brt_ ?_)
             | (with_reducible refine brf_ ?_)
             | (refine br_ H (by with_reducible first | rfl | exact bi_ _ _ | exact bd_ _ | exact bs_ _ _) (fun _ H => ?_) (fun _ H => ?_))
             | (refine brn_ H (by with_reducible first | rfl | exact bni_ _ _ | exact bin_ _ _ | exact bn_ _ | exact bs0_ _ _ | exact bnn_ _) (fun _ H => ?_) (fun _ H => ?_))
             | (refine brt_ ?_)
             | (refine brf_ ?_)
             | (refine br_ H (by exact Eq.refl _) (fun _ H => ?_) (fun _ H => ?_))
             | (refine brn_ H (by exact Eq.refl _) (fun _ H => ?_) (fun _ H => ?_)))
           | ((with_reducible refine br2id_ ?_); first
             | (refine br2t_ ?_)
             | (refine br2f_ ?_))
           | ((with_reducible refine normid_ ?_); first
             | (refine norm_nilapp ?_)
             | (refine norm_appnil ?_)
             | (refine norm_app ?_)
             | (refine norm_t ?_)
             | (refine norm_d ?_)
             | (refine norm_td ?_)
             | (refine norm_set (e := 138) (f := e138) ⟨_, _, _, _, _⟩ rfl ?_)
             | (refine norm_rep (e := 138) (f := e138) ⟨_, _, _, _, _⟩ rfl ?_))
           | ((with_reducible refine elemid_ ?_); refine elem_ (f := e138) z138 (rd_T138 _ _) rfl ?_ (by first | assumption | decide | omega) (by first | assumption | omega))
           | ((with_reducible refine lenid_ ?_); refine lenm_ ?_)
           | ((with_reducible refine strid_ ?_); first
             | (refine stre_ ?_)
             | (refine stre0_ ?_))
           | ((with_reducible refine callid_ ?_); have hp := bnd_ H; clear H; obtain ⟨_, ht, H⟩ := hp; first
             | (refine call_ (spec_l1Below_ev ht) rfl rfl ?_)
             | (refine call_ (spec_ConfText_ev ht) rfl rfl ?_)
             | (refine call_ (spec_l3Draw_ev ht) rfl rfl ?_))
           | ((with_reducible refine finid_ ?_); refine finK_ [] ?_; (conv => whnf); replace H := Option.some.inj H; subst H; (conv => whnf); refine ⟨rfl, ?_⟩; first | rfl | (repeat' (first | rfl | refine own_eq ?_ | refine tup_eq ?_ | refine agg_eq ?_ | refine cons_eq ?_ ?_ | refine vi_eq ?_ | simp only [List.length_map, List.length_set, wm_]))))
end Go.Proofs.YthkepmicdpgbbaaGreatDoor.E

/- What the functions' codes come to. -/
namespace Go.Proofs.YthkepmicdpgbbaaGreatDoor.E
open Go Go.RowKit Go.Proofs.YthkepmicdpgbbaaGreatDoorW.PrintWords Go.Proofs.YthkepmicdpgbbaaGreatDoor.P
set_option linter.unusedVariables false
set_option linter.unusedSimpArgs false
set_option maxHeartbeats 0
set_option maxRecDepth 100000
theorem spec_l1Once_ev {s0_0 : List Int} {s0_1 : Int} {s0_2 : Int} {a1 : Int} {r : Bool × Int × Int} (H : spec_l1Once.f s0_0 s0_1 s0_2 a1 = some r) : Spec Tryz.prog 51 [.ptr 0 0, .v (.i .i64 a1)] [.box 115 [.v (.row (List.map e5 s0_0)), .v (.i .i64 s0_1), .v (.i .i64 s0_2)]] (.v (.b r.1)) [.box 115 [.v (.row (List.map e5 s0_0)), .v (.i .i64 r.2.1), .v (.i .i64 r.2.2)]] := by
  simp only [spec_l1Once.f, Option.bind_some, List.nil_append, if_true, if_false, Bool.false_eq_true, nilB, nilE] at H
  refine fn_okF (E := env) Tryz.func51 (by rfl) rfl (n := 7) (by rfl) ?_
  repeat' ((conv => whnf); first
           | ((with_reducible have hp := peel_ H); clear H; obtain ⟨_, H⟩ := hp)
           | ((with_reducible have hp := peeln_ H); clear H; obtain ⟨_, H⟩ := hp)
           | (with_reducible replace H := itet_ H)
           | (with_reducible replace H := itef_ H)
           | ((with_reducible refine sideid_ ?_); refine side_ ?_)
           | ((with_reducible refine seqid_ ?_); refine sgo_ ?_)
           | ((with_reducible refine brid_ ?_); first
             | (with_reducible refine brct_ ?_)
             | (with_reducible refine brcf_ ?_)
             | (with_reducible refine brt_ ?_)
             | (with_reducible refine brf_ ?_)
             | (refine br_ H (by with_reducible first | rfl | exact bi_ _ _ | exact bd_ _ | exact bs_ _ _) (fun _ H => ?_) (fun _ H => ?_))
             | (refine brn_ H (by with_reducible first | rfl | exact bni_ _ _ | exact bin_ _ _ | exact bn_ _ | exact bs0_ _ _ | exact bnn_ _) (fun _ H => ?_) (fun _ H => ?_))
             | (refine brt_ ?_)
             | (refine brf_ ?_)
             | (refine br_ H (by exact Eq.refl _) (fun _ H => ?_) (fun _ H => ?_))
             | (refine brn_ H (by exact Eq.refl _) (fun _ H => ?_) (fun _ H => ?_)))
           | ((with_reducible refine br2id_ ?_); first
             | (refine br2t_ ?_)
             | (refine br2f_ ?_))
           | ((with_reducible refine normid_ ?_); first
             | (refine norm_nilapp ?_)
             | (refine norm_appnil ?_)
             | (refine norm_app ?_)
             | (refine norm_t ?_)
             | (refine norm_d ?_)
             | (refine norm_td ?_))
           | ((with_reducible refine lenid_ ?_); refine lenm_ ?_)
           | ((with_reducible refine strid_ ?_); first
             | (refine stre_ ?_)
             | (refine stre0_ ?_))
           | ((with_reducible refine callid_ ?_); have hp := bnd_ H; clear H; obtain ⟨_, ht, H⟩ := hp; refine call_ (spec_l1Below_ev ht) rfl rfl ?_)
           | ((with_reducible refine finid_ ?_); refine finK_ [] ?_; (conv => whnf); replace H := Option.some.inj H; subst H; (conv => whnf); refine ⟨rfl, ?_⟩; first | rfl | (repeat' (first | rfl | refine own_eq ?_ | refine tup_eq ?_ | refine agg_eq ?_ | refine cons_eq ?_ ?_ | refine vi_eq ?_ | simp only [List.length_map, List.length_set, wm_]))))
end Go.Proofs.YthkepmicdpgbbaaGreatDoor.E

/- What the functions' codes come to. -/
namespace Go.Proofs.YthkepmicdpgbbaaGreatDoor.E
open Go Go.RowKit Go.Proofs.YthkepmicdpgbbaaGreatDoorW.PrintWords Go.Proofs.YthkepmicdpgbbaaGreatDoor.P
set_option linter.unusedVariables false
set_option linter.unusedSimpArgs false
set_option maxHeartbeats 0
set_option maxRecDepth 100000
theorem spec_l3Text_ev {kf : Nat} {s0_0 : List Int} {s0_1 : Int} {s0_2 : Int} {r : ByteArray × Int × Int} (H : spec_l3Text.f kf s0_0 s0_1 s0_2 = some r) : Spec Tryz.prog 97 [.ptr 0 0] [.box 115 [.v (.row (List.map e5 s0_0)), .v (.i .i64 s0_1), .v (.i .i64 s0_2)]] (.v (.s r.1)) [.box 115 [.v (.row (List.map e5 s0_0)), .v (.i .i64 r.2.1), .v (.i .i64 r.2.2)]] := by
  simp only [spec_l3Text.f, Option.bind_some, List.nil_append, if_true, if_false, Bool.false_eq_true, nilB, nilE] at H
  refine fn_okF (E := env) Tryz.func97 (by rfl) rfl (n := 10) (by rfl) ?_
  repeat' ((conv => whnf); first
           | ((with_reducible have hp := peel_ H); clear H; obtain ⟨_, H⟩ := hp)
           | ((with_reducible have hp := peeln_ H); clear H; obtain ⟨_, H⟩ := hp)
           | (with_reducible replace H := itet_ H)
           | (with_reducible replace H := itef_ H)
           | ((with_reducible refine sideid_ ?_); refine side_ ?_)
           | ((with_reducible refine seqid_ ?_); refine sgo_ ?_)
           | ((with_reducible refine brid_ ?_); first
             | (with_reducible refine brct_ ?_)
             | (with_reducible refine brcf_ ?_)
             | (with_reducible refine brt_ ?_)
             | (with_reducible refine brf_ ?_)
             | (refine br_ H (by with_reducible first | rfl | exact bi_ _ _ | exact bd_ _ | exact bs_ _ _) (fun _ H => ?_) (fun _ H => ?_))
             | (refine brn_ H (by with_reducible first | rfl | exact bni_ _ _ | exact bin_ _ _ | exact bn_ _ | exact bs0_ _ _ | exact bnn_ _) (fun _ H => ?_) (fun _ H => ?_))
             | (refine brt_ ?_)
             | (refine brf_ ?_)
             | (refine br_ H (by exact Eq.refl _) (fun _ H => ?_) (fun _ H => ?_))
             | (refine brn_ H (by exact Eq.refl _) (fun _ H => ?_) (fun _ H => ?_)))
           | ((with_reducible refine br2id_ ?_); first
             | (refine br2t_ ?_)
             | (refine br2f_ ?_))
           | ((with_reducible refine normid_ ?_); first
             | (refine norm_nilapp ?_)
             | (refine norm_appnil ?_)
             | (refine norm_app ?_)
             | (refine norm_t ?_)
             | (refine norm_d ?_)
             | (refine norm_td ?_)
             | (refine norm_set (e := 9) (f := e9) _ rfl ?_)
             | (refine norm_rep (e := 9) (f := e9) _ rfl ?_)
             | (refine norm_lit (e := 9) (n := 18) (f := e9) [_, _, _, _, _, _, _, _, _, _, _, _, _, _, _, _, _, _] rfl ?_)
             | (refine norm_set (e := 138) (f := e138) ⟨_, _, _, _, _⟩ rfl ?_)
             | (refine norm_rep (e := 138) (f := e138) ⟨_, _, _, _, _⟩ rfl ?_))
           | ((with_reducible refine elemid_ ?_); first
             | (refine elem_ (f := e9) ByteArray.empty (rdOf ByteArray.empty _ _) rfl ?_ (by first | assumption | decide | omega) (by first | assumption | omega))
             | (refine elem_ (f := e138) z138 (rd_T138 _ _) rfl ?_ (by first | assumption | decide | omega) (by first | assumption | omega)))
           | ((with_reducible refine lenid_ ?_); refine lenm_ ?_)
           | ((with_reducible refine strid_ ?_); first
             | (refine stre_ ?_)
             | (refine stre0_ ?_))
           | ((with_reducible refine callid_ ?_); have hp := bnd_ H; clear H; obtain ⟨_, ht, H⟩ := hp; first
             | (refine call_ (spec_l1Once_ev ht) rfl rfl ?_)
             | (refine call_ (spec_ConfText_ev ht) rfl rfl ?_)
             | (refine call_ (spec_l3Draw_ev ht) rfl rfl ?_)
             | (refine call_ (spec_l1Str_ev ht) rfl rfl ?_))
           | ((with_reducible refine finid_ ?_); refine finK_ [] ?_; (conv => whnf); replace H := Option.some.inj H; subst H; (conv => whnf); refine ⟨rfl, ?_⟩; first | rfl | (repeat' (first | rfl | refine own_eq ?_ | refine tup_eq ?_ | refine agg_eq ?_ | refine cons_eq ?_ ?_ | refine vi_eq ?_ | simp only [List.length_map, List.length_set, wm_]))))
end Go.Proofs.YthkepmicdpgbbaaGreatDoor.E

/- What the functions' codes come to. -/
namespace Go.Proofs.YthkepmicdpgbbaaGreatDoor.E
open Go Go.RowKit Go.Proofs.YthkepmicdpgbbaaGreatDoorW.PrintWords Go.Proofs.YthkepmicdpgbbaaGreatDoor.P
set_option linter.unusedVariables false
set_option linter.unusedSimpArgs false
set_option maxHeartbeats 0
set_option maxRecDepth 100000
theorem spec_l4Any_ev {kf : Nat} {s0_0 : List Int} {s0_1 : Int} {s0_2 : Int} {r : Int × Int × Int × ByteArray × Int × Int} (H : spec_l4Any.f kf s0_0 s0_1 s0_2 = some r) : Spec Tryz.prog 42 [.ptr 0 0] [.box 115 [.v (.row (List.map e5 s0_0)), .v (.i .i64 s0_1), .v (.i .i64 s0_2)]] (.agg [.v (.i .i64 r.1), .v (.i .i64 r.2.1), .v (.i .i64 r.2.2.1), .v (.s r.2.2.2.1)]) [.box 115 [.v (.row (List.map e5 s0_0)), .v (.i .i64 r.2.2.2.2.1), .v (.i .i64 r.2.2.2.2.2)]] := by
  simp only [spec_l4Any.f, Option.bind_some, List.nil_append, if_true, if_false, Bool.false_eq_true, nilB, nilE] at H
  refine fn_okF (E := env) Tryz.func42 (by rfl) rfl (n := 31) (by rfl) ?_
  repeat' ((conv => whnf); first
           | ((with_reducible have hp := peel_ H); clear H; obtain ⟨_, H⟩ := hp)
           | ((with_reducible have hp := peeln_ H); clear H; obtain ⟨_, H⟩ := hp)
           | (with_reducible replace H := itet_ H)
           | (with_reducible replace H := itef_ H)
           | ((with_reducible refine sideid_ ?_); refine side_ ?_)
           | ((with_reducible refine seqid_ ?_); refine sgo_ ?_)
           | ((with_reducible refine brid_ ?_); first
             | (with_reducible refine brct_ ?_)
             | (with_reducible refine brcf_ ?_)
             | (with_reducible refine brt_ ?_)
             | (with_reducible refine brf_ ?_)
             | (refine br_ H (by with_reducible first | rfl | exact bi_ _ _ | exact bd_ _ | exact bs_ _ _) (fun _ H => ?_) (fun _ H => ?_))
             | (refine brn_ H (by with_reducible first | rfl | exact bni_ _ _ | exact bin_ _ _ | exact bn_ _ | exact bs0_ _ _ | exact bnn_ _) (fun _ H => ?_) (fun _ H => ?_))
             | (refine brt_ ?_)
             | (refine brf_ ?_)
             | (refine br_ H (by exact Eq.refl _) (fun _ H => ?_) (fun _ H => ?_))
             | (refine brn_ H (by exact Eq.refl _) (fun _ H => ?_) (fun _ H => ?_)))
           | ((with_reducible refine br2id_ ?_); first
             | (refine br2t_ ?_)
             | (refine br2f_ ?_))
           | ((with_reducible refine normid_ ?_); first
             | (refine norm_nilapp ?_)
             | (refine norm_appnil ?_)
             | (refine norm_app ?_)
             | (refine norm_t ?_)
             | (refine norm_d ?_)
             | (refine norm_td ?_)
             | (refine norm_set (e := 3) (f := e3) _ rfl ?_)
             | (refine norm_rep (e := 3) (f := e3) _ rfl ?_)
             | (refine norm_lit (e := 3) (n := 3) (f := e3) [_, _, _] rfl ?_)
             | (refine norm_lit (e := 3) (n := 4) (f := e3) [_, _, _, _] rfl ?_))
           | ((with_reducible refine elemid_ ?_); refine elem_ (f := e3) 0 (rd _ _) rfl ?_ (by first | assumption | decide | omega) (by first | assumption | omega))
           | ((with_reducible refine lenid_ ?_); refine lenm_ ?_)
           | ((with_reducible refine strid_ ?_); first
             | (refine stre_ ?_)
             | (refine stre0_ ?_))
           | ((with_reducible refine callid_ ?_); have hp := bnd_ H; clear H; obtain ⟨_, ht, H⟩ := hp; first
             | (refine call_ (spec_l1Int_ev ht) rfl rfl ?_)
             | (refine call_ (spec_l1Below_ev ht) rfl rfl ?_)
             | (refine call_ (spec_l4Draw_ev ht) rfl rfl ?_)
             | (refine call_ (spec_l3Text_ev ht) rfl rfl ?_))
           | ((with_reducible refine finid_ ?_); refine finK_ [] ?_; (conv => whnf); replace H := Option.some.inj H; subst H; (conv => whnf); refine ⟨rfl, ?_⟩; first | rfl | (repeat' (first | rfl | refine own_eq ?_ | refine tup_eq ?_ | refine agg_eq ?_ | refine cons_eq ?_ ?_ | refine vi_eq ?_ | simp only [List.length_map, List.length_set, wm_]))))
end Go.Proofs.YthkepmicdpgbbaaGreatDoor.E

/- What the functions' codes come to. -/
namespace Go.Proofs.YthkepmicdpgbbaaGreatDoor.E
open Go Go.RowKit Go.Proofs.YthkepmicdpgbbaaGreatDoorW.PrintWords Go.Proofs.YthkepmicdpgbbaaGreatDoor.P
set_option linter.unusedVariables false
set_option linter.unusedSimpArgs false
set_option maxHeartbeats 0
set_option maxRecDepth 100000
theorem spec_DrawPutRec_ev {kf : Nat} {l0 : List Int} {r : Int × Int × Int × Int × Int × ByteArray} (H : spec_DrawPutRec.f kf l0 = some r) : Spec Tryz.prog 10 [.v (.row (List.map e5 l0))] [] (.tup [.v (.i .i64 r.1), .v (.i .i64 r.2.1), .agg [.v (.i .i64 r.2.2.1), .v (.i .i64 r.2.2.2.1), .v (.i .i64 r.2.2.2.2.1), .v (.s r.2.2.2.2.2)]]) [] := by
  simp only [spec_DrawPutRec.f, Option.bind_some, List.nil_append, if_true, if_false, Bool.false_eq_true, nilB, nilE] at H
  refine fn_okF (E := env) Tryz.func10 (by rfl) rfl (n := 17) (by rfl) ?_
  repeat' ((conv => whnf); first
           | ((with_reducible have hp := peel_ H); clear H; obtain ⟨_, H⟩ := hp)
           | ((with_reducible have hp := peeln_ H); clear H; obtain ⟨_, H⟩ := hp)
           | (with_reducible replace H := itet_ H)
           | (with_reducible replace H := itef_ H)
           | ((with_reducible refine sideid_ ?_); refine side_ ?_)
           | ((with_reducible refine seqid_ ?_); refine sgo_ ?_)
           | ((with_reducible refine brid_ ?_); first
             | (with_reducible refine brct_ ?_)
             | (with_reducible refine brcf_ ?_)
             | (with_reducible refine brt_ ?_)
             | (with_reducible refine brf_ ?_)
             | (refine br_ H (by with_reducible first | rfl | exact bi_ _ _ | exact bd_ _ | exact bs_ _ _) (fun _ H => ?_) (fun _ H => ?_))
             | (refine brn_ H (by with_reducible first | rfl | exact bni_ _ _ | exact bin_ _ _ | exact bn_ _ | exact bs0_ _ _ | exact bnn_ _) (fun _ H => ?_) (fun _ H => ?_))
             | (refine brt_ ?_)
             | (refine brf_ ?_)
             | (refine br_ H (by exact Eq.refl _) (fun _ H => ?_) (fun _ H => ?_))
             | (refine brn_ H (by exact Eq.refl _) (fun _ H => ?_) (fun _ H => ?_)))
           | ((with_reducible refine br2id_ ?_); first
             | (refine br2t_ ?_)
             | (refine br2f_ ?_))
           | ((with_reducible refine normid_ ?_); first
             | (refine norm_nilapp ?_)
             | (refine norm_appnil ?_)
             | (refine norm_app ?_)
             | (refine norm_t ?_)
             | (refine norm_d ?_)
             | (refine norm_td ?_)
             | (refine norm_set (e := 3) (f := e3) _ rfl ?_)
             | (refine norm_rep (e := 3) (f := e3) _ rfl ?_)
             | (refine norm_lit (e := 3) (n := 6) (f := e3) [_, _, _, _, _, _] rfl ?_)
             | (refine norm_set (e := 5) (f := e5) _ rfl ?_)
             | (refine norm_rep (e := 5) (f := e5) _ rfl ?_))
           | ((with_reducible refine elemid_ ?_); first
             | (refine elem_ (f := e3) 0 (rd _ _) rfl ?_ (by first | assumption | decide | omega) (by first | assumption | omega))
             | (refine elem_ (f := e5) 0 (rd _ _) rfl ?_ (by first | assumption | decide | omega) (by first | assumption | omega)))
           | ((with_reducible refine lenid_ ?_); refine lenm_ ?_)
           | ((with_reducible refine strid_ ?_); first
             | (refine stre_ ?_)
             | (refine stre0_ ?_))
           | ((with_reducible refine callid_ ?_); have hp := bnd_ H; clear H; obtain ⟨_, ht, H⟩ := hp; first
             | (refine call_ (spec_l1New_ev ht) rfl rfl ?_)
             | (refine call_ (spec_l4Any_ev ht) rfl rfl ?_)
             | (refine call_ (spec_l1Int_ev ht) rfl rfl ?_))
           | ((with_reducible refine finid_ ?_); refine finK_ [] ?_; (conv => whnf); replace H := Option.some.inj H; subst H; (conv => whnf); refine ⟨rfl, ?_⟩; first | rfl | (repeat' (first | rfl | refine own_eq ?_ | refine tup_eq ?_ | refine agg_eq ?_ | refine cons_eq ?_ ?_ | refine vi_eq ?_ | simp only [List.length_map, List.length_set, wm_]))))
end Go.Proofs.YthkepmicdpgbbaaGreatDoor.E

/- What the functions' codes come to. -/
namespace Go.Proofs.YthkepmicdpgbbaaGreatDoor.E
open Go Go.RowKit Go.Proofs.YthkepmicdpgbbaaGreatDoorW.PrintWords Go.Proofs.YthkepmicdpgbbaaGreatDoor.P
set_option linter.unusedVariables false
set_option linter.unusedSimpArgs false
set_option maxHeartbeats 0
set_option maxRecDepth 100000
theorem impl_isIn_ev {a0 : Int} {a1 : Int} {a2 : Int} {r : Bool} (H : impl_isIn.f a0 a1 a2 = some r) : Spec Tryz.prog 61 [.v (.i .i64 a0), .v (.i .i64 a1), .v (.i .i64 a2)] [] (.v (.b r)) [] := by
  simp only [impl_isIn.f, Option.bind_some, List.nil_append, if_true, if_false, Bool.false_eq_true, nilB, nilE] at H
  refine fn_okF (E := env) Tryz.func61 (by rfl) rfl (n := 12) (by rfl) ?_
  repeat' ((conv => whnf); first
           | ((with_reducible have hp := peel_ H); clear H; obtain ⟨_, H⟩ := hp)
           | ((with_reducible have hp := peeln_ H); clear H; obtain ⟨_, H⟩ := hp)
           | (with_reducible replace H := itet_ H)
           | (with_reducible replace H := itef_ H)
           | ((with_reducible refine sideid_ ?_); refine side_ ?_)
           | ((with_reducible refine seqid_ ?_); refine sgo_ ?_)
           | ((with_reducible refine brid_ ?_); first
             | (with_reducible refine brct_ ?_)
             | (with_reducible refine brcf_ ?_)
             | (with_reducible refine brt_ ?_)
             | (with_reducible refine brf_ ?_)
             | (refine br_ H (by with_reducible first | rfl | exact bi_ _ _ | exact bd_ _ | exact bs_ _ _) (fun _ H => ?_) (fun _ H => ?_))
             | (refine brn_ H (by with_reducible first | rfl | exact bni_ _ _ | exact bin_ _ _ | exact bn_ _ | exact bs0_ _ _ | exact bnn_ _) (fun _ H => ?_) (fun _ H => ?_))
             | (refine brt_ ?_)
             | (refine brf_ ?_)
             | (refine br_ H (by exact Eq.refl _) (fun _ H => ?_) (fun _ H => ?_))
             | (refine brn_ H (by exact Eq.refl _) (fun _ H => ?_) (fun _ H => ?_)))
           | ((with_reducible refine br2id_ ?_); first
             | (refine br2t_ ?_)
             | (refine br2f_ ?_))
           | ((with_reducible refine normid_ ?_); first
             | (refine norm_nilapp ?_)
             | (refine norm_appnil ?_)
             | (refine norm_app ?_)
             | (refine norm_t ?_)
             | (refine norm_d ?_)
             | (refine norm_td ?_))
           | ((with_reducible refine lenid_ ?_); refine lenm_ ?_)
           | ((with_reducible refine strid_ ?_); first
             | (refine stre_ ?_)
             | (refine stre0_ ?_))
           | ((with_reducible refine finid_ ?_); refine finK_ [] ?_; (conv => whnf); replace H := Option.some.inj H; subst H; (conv => whnf); refine ⟨rfl, ?_⟩; first | rfl | (repeat' (first | rfl | refine own_eq ?_ | refine tup_eq ?_ | refine agg_eq ?_ | refine cons_eq ?_ ?_ | refine vi_eq ?_ | simp only [List.length_map, List.length_set, wm_]))))
end Go.Proofs.YthkepmicdpgbbaaGreatDoor.E

/- What the functions' codes come to. -/
namespace Go.Proofs.YthkepmicdpgbbaaGreatDoor.E
open Go Go.RowKit Go.Proofs.YthkepmicdpgbbaaGreatDoorW.PrintWords Go.Proofs.YthkepmicdpgbbaaGreatDoor.P
set_option linter.unusedVariables false
set_option linter.unusedSimpArgs false
set_option maxHeartbeats 0
set_option maxRecDepth 100000
theorem impl_ParseNum_ev {kf : Nat} {a0 : ByteArray} {a1 : Int} {r : Int × Bool} (H : impl_ParseNum.f kf a0 a1 = some r) : Spec Tryz.prog 133 [.v (.s a0), .v (.i .i64 a1)] [] (.tup [.v (.i .i64 r.1), .v (.b r.2)]) [] := by
  simp only [impl_ParseNum.f, Option.bind_some, List.nil_append, if_true, if_false, Bool.false_eq_true, nilB, nilE] at H
  refine fn_okF (E := env) Tryz.func133 (by rfl) rfl (n := 52) (by rfl) ?_
  repeat' ((conv => whnf); first
           | ((with_reducible have hp := peel_ H); clear H; obtain ⟨_, H⟩ := hp)
           | ((with_reducible have hp := peeln_ H); clear H; obtain ⟨_, H⟩ := hp)
           | (with_reducible replace H := itet_ H)
           | (with_reducible replace H := itef_ H)
           | ((with_reducible refine sideid_ ?_); refine side_ ?_)
           | ((with_reducible refine seqid_ ?_); first
             | ((with_reducible refine scg_ 1 ?_); refine scut_ 1 (fun s h => ∃ x0 x1 x25, impl_ParseNum.j0 kf x0 x1 x25 = some r ∧ s = spr 54 0 [(0, .v (.s x0)), (1, .v (.i .i64 x1)), (25, .v (.b x25))] ∧ h = []) ?_ ?_)
             | (refine sgo_ ?_))
           | ((with_reducible refine brid_ ?_); first
             | (with_reducible refine brct_ ?_)
             | (with_reducible refine brcf_ ?_)
             | (with_reducible refine brt_ ?_)
             | (with_reducible refine brf_ ?_)
             | (refine br_ H (by with_reducible first | rfl | exact bi_ _ _ | exact bd_ _ | exact bs_ _ _) (fun _ H => ?_) (fun _ H => ?_))
             | (refine brn_ H (by with_reducible first | rfl | exact bni_ _ _ | exact bin_ _ _ | exact bn_ _ | exact bs0_ _ _ | exact bnn_ _) (fun _ H => ?_) (fun _ H => ?_))
             | (refine brt_ ?_)
             | (refine brf_ ?_)
             | (refine br_ H (by exact Eq.refl _) (fun _ H => ?_) (fun _ H => ?_))
             | (refine brn_ H (by exact Eq.refl _) (fun _ H => ?_) (fun _ H => ?_)))
           | ((with_reducible refine br2id_ ?_); first
             | (refine br2t_ ?_)
             | (refine br2f_ ?_))
           | ((with_reducible refine normid_ ?_); first
             | (refine norm_nilapp ?_)
             | (refine norm_appnil ?_)
             | (refine norm_app ?_)
             | (refine norm_t ?_)
             | (refine norm_d ?_)
             | (refine norm_td ?_))
           | ((with_reducible refine lenid_ ?_); refine lenm_ ?_)
           | ((with_reducible refine strid_ ?_); first
             | (refine stre_ ?_)
             | (refine stre0_ ?_))
           | ((with_reducible refine callid_ ?_); have hp := bnd_ H; clear H; obtain ⟨_, ht, H⟩ := hp; refine call_ (impl_isIn_ev ht) rfl rfl ?_)
           | ((with_reducible refine loopid_ ?_); refine loopK_ (fun n s h => ∃ x0 x1 x6 x27 x28, impl_ParseNum.l0 n x0 x1 x6 x27 x28 = some r ∧ s = spr 54 0 [(0, .v (.s x0)), (1, .v (.i .i64 x1)), (6, .v (.i .i64 x6)), (27, .v (.i .i64 x27)), (28, .v (.i .i64 x28))] ∧ h = []) [] [] [] (bsp 54 0 [0, 1, 6, 27, 28]) _ (by (conv => whnf); refine ⟨_, _, _, _, _, H, rfl, rfl⟩) ?_; rintro n s h hn ⟨x0, x1, x6, x27, x28, H, rfl, rfl⟩; have hk := suc_ (g := fun k => impl_ParseNum.l0 k _ _ _ _ _) H (by simp only [impl_ParseNum.l0]); obtain ⟨kf, hk⟩ := hk; subst hk; simp only [impl_ParseNum.l0, Option.bind_some, List.nil_append, if_true, if_false, Bool.false_eq_true, nilB, nilE] at H)
           | ((with_reducible refine nextid_ ?_); refine nextK_ (P := fun m => impl_ParseNum.l0 m _ _ _ _ _ = some _) H (bsp 54 0 [0, 1, 6, 27, 28]) ?_ ?_ ?_; (conv => whnf); refine ⟨_, _, _, _, _, H, ?_, rfl⟩; all_goals first | omega | rfl | (repeat' (first | rfl | refine own_eq ?_ | refine cons_eq ?_ ?_ | refine vi_eq ?_ | simp only [List.length_map, List.length_set, wm_])))
           | ((with_reducible refine exid_ ?_); have hk := idH_ (F := fun k => impl_ParseNum.j0 k _ _ _) H; refine weakK_ (ex := []) (us := []) (bs := []) (ms := (bsp 54 0 [0, 1, 25])) ?_; (conv => whnf); refine ⟨_, _, _, hk, rfl, rfl⟩)
           | ((with_reducible refine allid_ ?_); intro s h hj; clear H; obtain ⟨x0, x1, x25, H, rfl, rfl⟩ := hj; have hk := suc_ (g := fun k => impl_ParseNum.j0 k _ _ _) H (by simp only [impl_ParseNum.j0]); obtain ⟨kf, hk⟩ := hk; subst hk; simp only [impl_ParseNum.j0, Option.bind_some, List.nil_append, if_true, if_false, Bool.false_eq_true, nilB, nilE] at H)
           | ((with_reducible refine finid_ ?_); refine finK_ [] ?_; (conv => whnf); replace H := Option.some.inj H; subst H; (conv => whnf); refine ⟨rfl, ?_⟩; first | rfl | (repeat' (first | rfl | refine own_eq ?_ | refine tup_eq ?_ | refine agg_eq ?_ | refine cons_eq ?_ ?_ | refine vi_eq ?_ | simp only [List.length_map, List.length_set, wm_]))))
end Go.Proofs.YthkepmicdpgbbaaGreatDoor.E

/- What the functions' codes come to. -/
namespace Go.Proofs.YthkepmicdpgbbaaGreatDoor.E
open Go Go.RowKit Go.Proofs.YthkepmicdpgbbaaGreatDoorW.PrintWords Go.Proofs.YthkepmicdpgbbaaGreatDoor.P
set_option linter.unusedVariables false
set_option linter.unusedSimpArgs false
set_option maxHeartbeats 0
set_option maxRecDepth 100000
theorem impl_nameOk_ev {kf : Nat} {a0 : ByteArray} {r : Bool} (H : impl_nameOk.f kf a0 = some r) : Spec Tryz.prog 150 [.v (.s a0)] [] (.v (.b r)) [] := by
  simp only [impl_nameOk.f, Option.bind_some, List.nil_append, if_true, if_false, Bool.false_eq_true, nilB, nilE] at H
  refine fn_okF (E := env) Tryz.func150 (by rfl) rfl (n := 22) (by rfl) ?_
  repeat' ((conv => whnf); first
           | ((with_reducible have hp := peel_ H); clear H; obtain ⟨_, H⟩ := hp)
           | ((with_reducible have hp := peeln_ H); clear H; obtain ⟨_, H⟩ := hp)
           | (with_reducible replace H := itet_ H)
           | (with_reducible replace H := itef_ H)
           | ((with_reducible refine sideid_ ?_); refine side_ ?_)
           | ((with_reducible refine seqid_ ?_); refine sgo_ ?_)
           | ((with_reducible refine brid_ ?_); first
             | (with_reducible refine brct_ ?_)
             | (with_reducible refine brcf_ ?_)
             | (with_reducible refine brt_ ?_)
             | (with_reducible refine brf_ ?_)
             | (refine br_ H (by with_reducible first | rfl | exact bi_ _ _ | exact bd_ _ | exact bs_ _ _) (fun _ H => ?_) (fun _ H => ?_))
             | (refine brn_ H (by with_reducible first | rfl | exact bni_ _ _ | exact bin_ _ _ | exact bn_ _ | exact bs0_ _ _ | exact bnn_ _) (fun _ H => ?_) (fun _ H => ?_))
             | (refine brt_ ?_)
             | (refine brf_ ?_)
             | (refine br_ H (by exact Eq.refl _) (fun _ H => ?_) (fun _ H => ?_))
             | (refine brn_ H (by exact Eq.refl _) (fun _ H => ?_) (fun _ H => ?_)))
           | ((with_reducible refine br2id_ ?_); first
             | (refine br2t_ ?_)
             | (refine br2f_ ?_))
           | ((with_reducible refine normid_ ?_); first
             | (refine norm_nilapp ?_)
             | (refine norm_appnil ?_)
             | (refine norm_app ?_)
             | (refine norm_t ?_)
             | (refine norm_d ?_)
             | (refine norm_td ?_))
           | ((with_reducible refine lenid_ ?_); refine lenm_ ?_)
           | ((with_reducible refine strid_ ?_); first
             | (refine stre_ ?_)
             | (refine stre0_ ?_))
           | ((with_reducible refine callid_ ?_); have hp := bnd_ H; clear H; obtain ⟨_, ht, H⟩ := hp; refine call_ (impl_isIn_ev ht) rfl rfl ?_)
           | ((with_reducible refine loopid_ ?_); refine loopK_ (fun n s h => ∃ x0 x5 x6, impl_nameOk.l0 n x0 x5 x6 = some r ∧ s = spr 23 0 [(0, .v (.s x0)), (5, .v (.i .i64 x5)), (6, .v (.i .i64 x6))] ∧ h = []) [] [] [] (bsp 23 0 [0, 5, 6]) _ (by (conv => whnf); refine ⟨_, _, _, H, rfl, rfl⟩) ?_; rintro n s h hn ⟨x0, x5, x6, H, rfl, rfl⟩; have hk := suc_ (g := fun k => impl_nameOk.l0 k _ _ _) H (by simp only [impl_nameOk.l0]); obtain ⟨kf, hk⟩ := hk; subst hk; simp only [impl_nameOk.l0, Option.bind_some, List.nil_append, if_true, if_false, Bool.false_eq_true, nilB, nilE] at H)
           | ((with_reducible refine nextid_ ?_); refine nextK_ (P := fun m => impl_nameOk.l0 m _ _ _ = some _) H (bsp 23 0 [0, 5, 6]) ?_ ?_ ?_; (conv => whnf); refine ⟨_, _, _, H, ?_, rfl⟩; all_goals first | omega | rfl | (repeat' (first | rfl | refine own_eq ?_ | refine cons_eq ?_ ?_ | refine vi_eq ?_ | simp only [List.length_map, List.length_set, wm_])))
           | ((with_reducible refine finid_ ?_); refine finK_ [] ?_; (conv => whnf); replace H := Option.some.inj H; subst H; (conv => whnf); refine ⟨rfl, ?_⟩; first | rfl | (repeat' (first | rfl | refine own_eq ?_ | refine tup_eq ?_ | refine agg_eq ?_ | refine cons_eq ?_ ?_ | refine vi_eq ?_ | simp only [List.length_map, List.length_set, wm_]))))
end Go.Proofs.YthkepmicdpgbbaaGreatDoor.E

/- What the functions' codes come to. -/
namespace Go.Proofs.YthkepmicdpgbbaaGreatDoor.E
open Go Go.RowKit Go.Proofs.YthkepmicdpgbbaaGreatDoorW.PrintWords Go.Proofs.YthkepmicdpgbbaaGreatDoor.P
set_option linter.unusedVariables false
set_option linter.unusedSimpArgs false
set_option maxHeartbeats 0
set_option maxRecDepth 100000
theorem impl_ConfOk_ev {kf : Nat} {l0 : List (S138)} {r : Bool} (H : impl_ConfOk.f kf l0 = some r) : Spec Tryz.prog 142 [.v (.row (List.map e138 l0))] [] (.v (.b r)) [] := by
  simp only [impl_ConfOk.f, Option.bind_some, List.nil_append, if_true, if_false, Bool.false_eq_true, nilB, nilE] at H
  refine fn_okF (E := env) Tryz.func142 (by rfl) rfl (n := 51) (by rfl) ?_
  repeat' ((conv => whnf); first
           | ((with_reducible have hp := peel_ H); clear H; obtain ⟨_, H⟩ := hp)
           | ((with_reducible have hp := peeln_ H); clear H; obtain ⟨_, H⟩ := hp)
           | (with_reducible replace H := itet_ H)
           | (with_reducible replace H := itef_ H)
           | ((with_reducible refine sideid_ ?_); refine side_ ?_)
           | ((with_reducible refine seqid_ ?_); refine sgo_ ?_)
           | ((with_reducible refine brid_ ?_); first
             | (with_reducible refine brct_ ?_)
             | (with_reducible refine brcf_ ?_)
             | (with_reducible refine brt_ ?_)
             | (with_reducible refine brf_ ?_)
             | (refine br_ H (by with_reducible first | rfl | exact bi_ _ _ | exact bd_ _ | exact bs_ _ _) (fun _ H => ?_) (fun _ H => ?_))
             | (refine brn_ H (by with_reducible first | rfl | exact bni_ _ _ | exact bin_ _ _ | exact bn_ _ | exact bs0_ _ _ | exact bnn_ _) (fun _ H => ?_) (fun _ H => ?_))
             | (refine brt_ ?_)
             | (refine brf_ ?_)
             | (refine br_ H (by exact Eq.refl _) (fun _ H => ?_) (fun _ H => ?_))
             | (refine brn_ H (by exact Eq.refl _) (fun _ H => ?_) (fun _ H => ?_)))
           | ((with_reducible refine br2id_ ?_); first
             | (refine br2t_ ?_)
             | (refine br2f_ ?_))
           | ((with_reducible refine normid_ ?_); first
             | (refine norm_nilapp ?_)
             | (refine norm_appnil ?_)
             | (refine norm_app ?_)
             | (refine norm_t ?_)
             | (refine norm_d ?_)
             | (refine norm_td ?_)
             | (refine norm_set (e := 138) (f := e138) ⟨_, _, _, _, _⟩ rfl ?_)
             | (refine norm_rep (e := 138) (f := e138) ⟨_, _, _, _, _⟩ rfl ?_))
           | ((with_reducible refine elemid_ ?_); refine elem_ (f := e138) z138 (rd_T138 _ _) rfl ?_ (by first | assumption | decide | omega) (by first | assumption | omega))
           | ((with_reducible refine lenid_ ?_); refine lenm_ ?_)
           | ((with_reducible refine strid_ ?_); first
             | (refine stre_ ?_)
             | (refine stre0_ ?_))
           | ((with_reducible refine callid_ ?_); have hp := bnd_ H; clear H; obtain ⟨_, ht, H⟩ := hp; first
             | (refine call_ (impl_isIn_ev ht) rfl rfl ?_)
             | (refine call_ (impl_nameOk_ev ht) rfl rfl ?_)
             | (refine call_ (impl_dbPlace_ev ht) rfl rfl ?_))
           | ((with_reducible refine loopid_ ?_); refine loopK_ (fun n s h => ∃ x0 x5 x6 x7, impl_ConfOk.l0 n x0 x5 x6 x7 = some r ∧ s = spr 52 0 [(0, .v (.row (List.map e138 x0))), (5, .v (.row (List.map e138 x5))), (6, .v (.i .i64 x6)), (7, .v (.i .i64 x7))] ∧ h = []) [] [] [] (bsp 52 0 [0, 5, 6, 7]) _ (by (conv => whnf); refine ⟨_, _, _, _, H, rfl, rfl⟩) ?_; rintro n s h hn ⟨x0, x5, x6, x7, H, rfl, rfl⟩; have hk := suc_ (g := fun k => impl_ConfOk.l0 k _ _ _ _) H (by simp only [impl_ConfOk.l0]); obtain ⟨kf, hk⟩ := hk; subst hk; simp only [impl_ConfOk.l0, Option.bind_some, List.nil_append, if_true, if_false, Bool.false_eq_true, nilB, nilE] at H)
           | ((with_reducible refine nextid_ ?_); refine nextK_ (P := fun m => impl_ConfOk.l0 m _ _ _ _ = some _) H (bsp 52 0 [0, 5, 6, 7]) ?_ ?_ ?_; (conv => whnf); refine ⟨_, _, _, _, H, ?_, rfl⟩; all_goals first | omega | rfl | (repeat' (first | rfl | refine own_eq ?_ | refine cons_eq ?_ ?_ | refine vi_eq ?_ | simp only [List.length_map, List.length_set, wm_])))
           | ((with_reducible refine finid_ ?_); refine finK_ [] ?_; (conv => whnf); replace H := Option.some.inj H; subst H; (conv => whnf); refine ⟨rfl, ?_⟩; first | rfl | (repeat' (first | rfl | refine own_eq ?_ | refine tup_eq ?_ | refine agg_eq ?_ | refine cons_eq ?_ ?_ | refine vi_eq ?_ | simp only [List.length_map, List.length_set, wm_]))))
end Go.Proofs.YthkepmicdpgbbaaGreatDoor.E

/- What the functions' codes come to. -/
namespace Go.Proofs.YthkepmicdpgbbaaGreatDoor.E
open Go Go.RowKit Go.Proofs.YthkepmicdpgbbaaGreatDoorW.PrintWords Go.Proofs.YthkepmicdpgbbaaGreatDoor.P
set_option linter.unusedVariables false
set_option linter.unusedSimpArgs false
set_option maxHeartbeats 0
set_option maxRecDepth 100000
theorem impl_NumText_ev {a0 : Int} {r : ByteArray} (H : impl_NumText.f a0 = some r) : Spec Tryz.prog 143 [.v (.i .i64 a0)] [] (.v (.s r)) [] := by
  simp only [impl_NumText.f, Option.bind_some, List.nil_append, if_true, if_false, Bool.false_eq_true, nilB, nilE] at H
  refine fn_okF (E := env) Tryz.func143 (by rfl) rfl (n := 4) (by rfl) ?_
  repeat' ((conv => whnf); first
           | ((with_reducible have hp := peel_ H); clear H; obtain ⟨_, H⟩ := hp)
           | ((with_reducible have hp := peeln_ H); clear H; obtain ⟨_, H⟩ := hp)
           | (with_reducible replace H := itet_ H)
           | (with_reducible replace H := itef_ H)
           | ((with_reducible refine sideid_ ?_); refine side_ ?_)
           | ((with_reducible refine seqid_ ?_); refine sgo_ ?_)
           | ((with_reducible refine brid_ ?_); first
             | (with_reducible refine brct_ ?_)
             | (with_reducible refine brcf_ ?_)
             | (with_reducible refine brt_ ?_)
             | (with_reducible refine brf_ ?_)
             | (refine br_ H (by with_reducible first | rfl | exact bi_ _ _ | exact bd_ _ | exact bs_ _ _) (fun _ H => ?_) (fun _ H => ?_))
             | (refine brn_ H (by with_reducible first | rfl | exact bni_ _ _ | exact bin_ _ _ | exact bn_ _ | exact bs0_ _ _ | exact bnn_ _) (fun _ H => ?_) (fun _ H => ?_))
             | (refine brt_ ?_)
             | (refine brf_ ?_)
             | (refine br_ H (by exact Eq.refl _) (fun _ H => ?_) (fun _ H => ?_))
             | (refine brn_ H (by exact Eq.refl _) (fun _ H => ?_) (fun _ H => ?_)))
           | ((with_reducible refine br2id_ ?_); first
             | (refine br2t_ ?_)
             | (refine br2f_ ?_))
           | ((with_reducible refine normid_ ?_); first
             | (refine norm_nilapp ?_)
             | (refine norm_appnil ?_)
             | (refine norm_app ?_)
             | (refine norm_t ?_)
             | (refine norm_d ?_)
             | (refine norm_td ?_))
           | ((with_reducible refine lenid_ ?_); refine lenm_ ?_)
           | ((with_reducible refine strid_ ?_); first
             | (refine stre_ ?_)
             | (refine stre0_ ?_))
           | ((with_reducible refine callid_ ?_); have hp := bnd_ H; clear H; obtain ⟨_, ht, H⟩ := hp; refine call_ (strconv_Itoa_152_ev ht) rfl rfl ?_)
           | ((with_reducible refine finid_ ?_); refine finK_ [] ?_; (conv => whnf); replace H := Option.some.inj H; subst H; (conv => whnf); refine ⟨rfl, ?_⟩; first | rfl | (repeat' (first | rfl | refine own_eq ?_ | refine tup_eq ?_ | refine agg_eq ?_ | refine cons_eq ?_ ?_ | refine vi_eq ?_ | simp only [List.length_map, List.length_set, wm_]))))
end Go.Proofs.YthkepmicdpgbbaaGreatDoor.E

/- What the functions' codes come to. -/
namespace Go.Proofs.YthkepmicdpgbbaaGreatDoor.E
open Go Go.RowKit Go.Proofs.YthkepmicdpgbbaaGreatDoorW.PrintWords Go.Proofs.YthkepmicdpgbbaaGreatDoor.P
set_option linter.unusedVariables false
set_option linter.unusedSimpArgs false
set_option maxHeartbeats 0
set_option maxRecDepth 100000
theorem impl_ConfText_ev {kf : Nat} {l0 : List (S138)} {r : ByteArray} (H : impl_ConfText.f kf l0 = some r) : Spec Tryz.prog 134 [.v (.row (List.map e138 l0))] [] (.v (.s r)) [] := by
  simp only [impl_ConfText.f, Option.bind_some, List.nil_append, if_true, if_false, Bool.false_eq_true, nilB, nilE] at H
  refine fn_okF (E := env) Tryz.func134 (by rfl) rfl (n := 43) (by rfl) ?_
  repeat' ((conv => whnf); first
           | ((with_reducible have hp := peel_ H); clear H; obtain ⟨_, H⟩ := hp)
           | ((with_reducible have hp := peeln_ H); clear H; obtain ⟨_, H⟩ := hp)
           | (with_reducible replace H := itet_ H)
           | (with_reducible replace H := itef_ H)
           | ((with_reducible refine sideid_ ?_); refine side_ ?_)
           | ((with_reducible refine seqid_ ?_); refine sgo_ ?_)
           | ((with_reducible refine brid_ ?_); first
             | (with_reducible refine brct_ ?_)
             | (with_reducible refine brcf_ ?_)
             | (with_reducible refine brt_ ?_)
             | (with_reducible refine brf_ ?_)
             | (refine br_ H (by with_reducible first | rfl | exact bi_ _ _ | exact bd_ _ | exact bs_ _ _) (fun _ H => ?_) (fun _ H => ?_))
             | (refine brn_ H (by with_reducible first | rfl | exact bni_ _ _ | exact bin_ _ _ | exact bn_ _ | exact bs0_ _ _ | exact bnn_ _) (fun _ H => ?_) (fun _ H => ?_))
             | (refine brt_ ?_)
             | (refine brf_ ?_)
             | (refine br_ H (by exact Eq.refl _) (fun _ H => ?_) (fun _ H => ?_))
             | (refine brn_ H (by exact Eq.refl _) (fun _ H => ?_) (fun _ H => ?_)))
           | ((with_reducible refine br2id_ ?_); first
             | (refine br2t_ ?_)
             | (refine br2f_ ?_))
           | ((with_reducible refine normid_ ?_); first
             | (refine norm_nilapp ?_)
             | (refine norm_appnil ?_)
             | (refine norm_app ?_)
             | (refine norm_t ?_)
             | (refine norm_d ?_)
             | (refine norm_td ?_)
             | (refine norm_set (e := 9) (f := e9) _ rfl ?_)
             | (refine norm_rep (e := 9) (f := e9) _ rfl ?_)
             | (refine norm_lit (e := 9) (n := 0) (f := e9) [] rfl ?_)
             | (refine norm_lit (e := 9) (n := 1) (f := e9) [_] rfl ?_)
             | (refine norm_set (e := 138) (f := e138) ⟨_, _, _, _, _⟩ rfl ?_)
             | (refine norm_rep (e := 138) (f := e138) ⟨_, _, _, _, _⟩ rfl ?_))
           | ((with_reducible refine elemid_ ?_); first
             | (refine elem_ (f := e9) ByteArray.empty (rdOf ByteArray.empty _ _) rfl ?_ (by first | assumption | decide | omega) (by first | assumption | omega))
             | (refine elem_ (f := e138) z138 (rd_T138 _ _) rfl ?_ (by first | assumption | decide | omega) (by first | assumption | omega)))
           | ((with_reducible refine lenid_ ?_); refine lenm_ ?_)
           | ((with_reducible refine strid_ ?_); first
             | (refine stre_ ?_)
             | (refine stre0_ ?_))
           | ((with_reducible refine callid_ ?_); have hp := bnd_ H; clear H; obtain ⟨_, ht, H⟩ := hp; first
             | (refine call_ (impl_ConfOk_ev ht) rfl rfl ?_)
             | (refine call_ (impl_NumText_ev ht) rfl rfl ?_)
             | (refine call_ (strings_Join_ev ht) rfl rfl ?_))
           | ((with_reducible refine loopid_ ?_); refine loopK_ (fun n s h => ∃ x3 x10 x11 x12, impl_ConfText.l0 n x3 x10 x11 x12 = some r ∧ s = spr 44 0 [(3, .own 0 (List.map e9 x3).length), (10, .v (.row (List.map e138 x10))), (11, .v (.i .i64 x11)), (12, .v (.i .i64 x12))] ∧ h = [.arr 1 9 false (List.map e9 x3)]) [] [] [] (bsp 44 0 [3, 10, 11, 12]) _ (by (conv => whnf); refine ⟨_, _, _, _, H, rfl, rfl⟩) ?_; rintro n s h hn ⟨x3, x10, x11, x12, H, rfl, rfl⟩; have hk := suc_ (g := fun k => impl_ConfText.l0 k _ _ _ _) H (by simp only [impl_ConfText.l0]); obtain ⟨kf, hk⟩ := hk; subst hk; simp only [impl_ConfText.l0, Option.bind_some, List.nil_append, if_true, if_false, Bool.false_eq_true, nilB, nilE] at H)
           | ((with_reducible refine nextid_ ?_); refine nextK_ (P := fun m => impl_ConfText.l0 m _ _ _ _ = some _) H (bsp 44 0 [3, 10, 11, 12]) ?_ ?_ ?_; (conv => whnf); refine ⟨_, _, _, _, H, ?_, rfl⟩; all_goals first | omega | rfl | (repeat' (first | rfl | refine own_eq ?_ | refine cons_eq ?_ ?_ | refine vi_eq ?_ | simp only [List.length_map, List.length_set, wm_])))
           | ((with_reducible refine finid_ ?_); refine finK_ [] ?_; (conv => whnf); replace H := Option.some.inj H; subst H; (conv => whnf); refine ⟨rfl, ?_⟩; first | rfl | (repeat' (first | rfl | refine own_eq ?_ | refine tup_eq ?_ | refine agg_eq ?_ | refine cons_eq ?_ ?_ | refine vi_eq ?_ | simp only [List.length_map, List.length_set, wm_]))))
end Go.Proofs.YthkepmicdpgbbaaGreatDoor.E

/- What the functions' codes come to. -/
namespace Go.Proofs.YthkepmicdpgbbaaGreatDoor.E
open Go Go.RowKit Go.Proofs.YthkepmicdpgbbaaGreatDoorW.PrintWords Go.Proofs.YthkepmicdpgbbaaGreatDoor.P
set_option linter.unusedVariables false
set_option linter.unusedSimpArgs false
set_option maxHeartbeats 0
set_option maxRecDepth 100000
theorem impl_ParseConf_ev {kf : Nat} {a0 : ByteArray} {r : (List (S138)) × Bool} (H : impl_ParseConf.f kf a0 = some r) : Spec Tryz.prog 106 [.v (.s a0)] [] (.tup [.own 0 (List.map e138 r.1).length, .v (.b r.2)]) [.arr 5 138 false (List.map e138 r.1)] := by
  simp only [impl_ParseConf.f, Option.bind_some, List.nil_append, if_true, if_false, Bool.false_eq_true, nilB, nilE] at H
  refine fn_okF (E := env) Tryz.func106 (by rfl) rfl (n := 67) (by rfl) ?_
  repeat' ((conv => whnf); first
           | ((with_reducible have hp := peel_ H); clear H; obtain ⟨_, H⟩ := hp)
           | ((with_reducible have hp := peeln_ H); clear H; obtain ⟨_, H⟩ := hp)
           | (with_reducible replace H := itet_ H)
           | (with_reducible replace H := itef_ H)
           | ((with_reducible refine sideid_ ?_); refine side_ ?_)
           | ((with_reducible refine seqid_ ?_); refine sgo_ ?_)
           | ((with_reducible refine brid_ ?_); first
             | (with_reducible refine brct_ ?_)
             | (with_reducible refine brcf_ ?_)
             | (with_reducible refine brt_ ?_)
             | (with_reducible refine brf_ ?_)
             | (refine br_ H (by with_reducible first | rfl | exact bi_ _ _ | exact bd_ _ | exact bs_ _ _) (fun _ H => ?_) (fun _ H => ?_))
             | (refine brn_ H (by with_reducible first | rfl | exact bni_ _ _ | exact bin_ _ _ | exact bn_ _ | exact bs0_ _ _ | exact bnn_ _) (fun _ H => ?_) (fun _ H => ?_))
             | (refine brt_ ?_)
             | (refine brf_ ?_)
             | (refine br_ H (by exact Eq.refl _) (fun _ H => ?_) (fun _ H => ?_))
             | (refine brn_ H (by exact Eq.refl _) (fun _ H => ?_) (fun _ H => ?_)))
           | ((with_reducible refine br2id_ ?_); first
             | (refine br2t_ ?_)
             | (refine br2f_ ?_))
           | ((with_reducible refine idxid_ ?_); first
             | (refine idxc_ H 0 (by rfl) (by decide) (fun H => ?_) (fun H => ?_))
             | (refine idxc_ H 1 (by rfl) (by decide) (fun H => ?_) (fun H => ?_))
             | (refine idxc_ H 2 (by rfl) (by decide) (fun H => ?_) (fun H => ?_))
             | (refine idxc_ H 3 (by rfl) (by decide) (fun H => ?_) (fun H => ?_))
             | (refine idxc_ H 4 (by rfl) (by decide) (fun H => ?_) (fun H => ?_))
             | (refine idxa_ 0 (by omega) (by decide) ?_)
             | (refine idxa_ 1 (by omega) (by decide) ?_)
             | (refine idxa_ 2 (by omega) (by decide) ?_)
             | (refine idxa_ 3 (by omega) (by decide) ?_)
             | (refine idxa_ 4 (by omega) (by decide) ?_)
             | (cases H))
           | ((with_reducible refine normid_ ?_); first
             | (refine norm_nilapp ?_)
             | (refine norm_appnil ?_)
             | (refine norm_app ?_)
             | (refine norm_t ?_)
             | (refine norm_d ?_)
             | (refine norm_td ?_)
             | (refine norm_set (e := 9) (f := e9) _ rfl ?_)
             | (refine norm_rep (e := 9) (f := e9) _ rfl ?_)
             | (refine norm_set (e := 138) (f := e138) ⟨_, _, _, _, _⟩ rfl ?_)
             | (refine norm_rep (e := 138) (f := e138) ⟨_, _, _, _, _⟩ rfl ?_)
             | (refine norm_lit (e := 138) (n := 0) (f := e138) [] rfl ?_)
             | (refine norm_lit (e := 138) (n := 1) (f := e138) [⟨_, _, _, _, _⟩] rfl ?_))
           | ((with_reducible refine elemid_ ?_); first
             | (refine elem_ (f := e9) ByteArray.empty (rdOf ByteArray.empty _ _) rfl ?_ (by first | assumption | decide | omega) (by first | assumption | omega))
             | (refine elem_ (f := e138) z138 (rd_T138 _ _) rfl ?_ (by first | assumption | decide | omega) (by first | assumption | omega)))
           | ((with_reducible refine lenid_ ?_); refine lenm_ ?_)
           | ((with_reducible refine strid_ ?_); first
             | (refine stre_ ?_)
             | (refine stre0_ ?_))
           | ((with_reducible refine callid_ ?_); have hp := bnd_ H; clear H; obtain ⟨_, ht, H⟩ := hp; first
             | (refine call_ (strings_Split_ev ht) rfl rfl ?_)
             | (refine call_ (strings_Cut_ev ht) rfl rfl ?_)
             | (refine call_ (strings_SplitN_ev ht) rfl rfl ?_)
             | (refine call_ (impl_ParseNum_ev ht) rfl rfl ?_)
             | (refine call_ (impl_ConfText_ev ht) rfl rfl ?_))
           | ((with_reducible refine loopid_ ?_); first
             | (refine loopK_ (fun n s h => ∃ x0 x4 x15 x16 x17, impl_ParseConf.l0 n x0 x4 x15 x16 x17 = some r ∧ s = spr 68 0 [(0, .v (.s x0)), (4, .own 0 (List.map e138 x4).length), (15, .own 1 (List.map e9 x15).length), (16, .v (.i .i64 x16)), (17, .v (.i .i64 x17))] ∧ h = [.arr 5 138 false (List.map e138 x4), .arr 1 9 false (List.map e9 x15)]) [] [] [] (bsp 68 0 [0, 4, 15, 16, 17]) _ (by (conv => whnf); refine ⟨_, _, _, _, _, H, rfl, rfl⟩) ?_; rintro n s h hn ⟨x0, x4, x15, x16, x17, H, rfl, rfl⟩; have hk := suc_ (g := fun k => impl_ParseConf.l0 k _ _ _ _ _) H (by simp only [impl_ParseConf.l0]); obtain ⟨kf, hk⟩ := hk; subst hk; simp only [impl_ParseConf.l0, Option.bind_some, List.nil_append, if_true, if_false, Bool.false_eq_true, nilB, nilE] at H)
             | (refine loopK_ (fun n s h => ∃ x0 x4 x7 x15 x16 x17 x29 x30 x31 x343000 x343001 x343002 x343003, impl_ParseConf.l1 n x0 x4 x7 x15 x16 x17 x29 x30 x31 x343000 x343001 x343002 x343003 = some r ∧ s = spr 68 0 [(0, .v (.s x0)), (4, .own 0 (List.map e138 x4).length), (7, .v (.s x7)), (10, .ptr 1 0), (15, .own 2 (List.map e9 x15).length), (16, .v (.i .i64 x16)), (17, .v (.i .i64 x17)), (29, .own 3 (List.map e9 x29).length), (30, .v (.i .i64 x30)), (31, .v (.i .i64 x31))] ∧ h = [.arr 5 138 false (List.map e138 x4), .box 146 [.v (.i .i64 x343000), .v (.i .i64 x343001), .v (.i .i64 x343002), .v (.i .i64 x343003)], .arr 1 9 false (List.map e9 x15), .arr 1 9 false (List.map e9 x29)]) [] [] [] (bsp 68 0 [0, 4, 7, 10, 15, 16, 17, 29, 30, 31]) _ (by (conv => whnf); refine ⟨_, _, _, _, _, _, _, _, _, _, _, _, _, H, rfl, rfl⟩) ?_; rintro n s h hn ⟨x0, x4, x7, x15, x16, x17, x29, x30, x31, x343000, x343001, x343002, x343003, H, rfl, rfl⟩; have hk := suc_ (g := fun k => impl_ParseConf.l1 k _ _ _ _ _ _ _ _ _ _ _ _ _) H (by simp only [impl_ParseConf.l1]); obtain ⟨kf, hk⟩ := hk; subst hk; simp only [impl_ParseConf.l1, Option.bind_some, List.nil_append, if_true, if_false, Bool.false_eq_true, nilB, nilE] at H))
           | ((with_reducible refine nextid_ ?_); first
             | (refine nextK_ (P := fun m => impl_ParseConf.l0 m _ _ _ _ _ = some _) H (bsp 68 0 [0, 4, 15, 16, 17]) ?_ ?_ ?_; (conv => whnf); refine ⟨_, _, _, _, _, H, ?_, rfl⟩; all_goals first | omega | rfl | (repeat' (first | rfl | refine own_eq ?_ | refine cons_eq ?_ ?_ | refine vi_eq ?_ | simp only [List.length_map, List.length_set, wm_])))
             | (refine nextK_ (P := fun m => impl_ParseConf.l1 m _ _ _ _ _ _ _ _ _ _ _ _ _ = some _) H (bsp 68 0 [0, 4, 7, 10, 15, 16, 17, 29, 30, 31]) ?_ ?_ ?_; (conv => whnf); refine ⟨_, _, _, _, _, _, _, _, _, _, _, _, _, H, ?_, rfl⟩; all_goals first | omega | rfl | (repeat' (first | rfl | refine own_eq ?_ | refine cons_eq ?_ ?_ | refine vi_eq ?_ | simp only [List.length_map, List.length_set, wm_]))))
           | ((with_reducible refine finid_ ?_); refine finK_ [] ?_; (conv => whnf); replace H := Option.some.inj H; subst H; (conv => whnf); refine ⟨rfl, ?_⟩; first | rfl | (repeat' (first | rfl | refine own_eq ?_ | refine tup_eq ?_ | refine agg_eq ?_ | refine cons_eq ?_ ?_ | refine vi_eq ?_ | simp only [List.length_map, List.length_set, wm_]))))
end Go.Proofs.YthkepmicdpgbbaaGreatDoor.E

/- What the functions' codes come to. -/
namespace Go.Proofs.YthkepmicdpgbbaaGreatDoor.E
open Go Go.RowKit Go.Proofs.YthkepmicdpgbbaaGreatDoorW.PrintWords Go.Proofs.YthkepmicdpgbbaaGreatDoor.P
set_option linter.unusedVariables false
set_option linter.unusedSimpArgs false
set_option maxHeartbeats 0
set_option maxRecDepth 100000
theorem impl_confOk_ev {kf : Nat} {a0 : ByteArray} {r : Bool} (H : impl_confOk.f kf a0 = some r) : Spec Tryz.prog 62 [.v (.s a0)] [] (.v (.b r)) [] := by
  simp only [impl_confOk.f, Option.bind_some, List.nil_append, if_true, if_false, Bool.false_eq_true, nilB, nilE] at H
  refine fn_okF (E := env) Tryz.func62 (by rfl) rfl (n := 10) (by rfl) ?_
  repeat' ((conv => whnf); first
           | ((with_reducible have hp := peel_ H); clear H; obtain ⟨_, H⟩ := hp)
           | ((with_reducible have hp := peeln_ H); clear H; obtain ⟨_, H⟩ := hp)
           | (with_reducible replace H := itet_ H)
           | (with_reducible replace H := itef_ H)
           | ((with_reducible refine sideid_ ?_); refine side_ ?_)
           | ((with_reducible refine seqid_ ?_); refine sgo_ ?_)
           | ((with_reducible refine brid_ ?_); first
             | (with_reducible refine brct_ ?_)
             | (with_reducible refine brcf_ ?_)
             | (with_reducible refine brt_ ?_)
             | (with_reducible refine brf_ ?_)
             | (refine br_ H (by with_reducible first | rfl | exact bi_ _ _ | exact bd_ _ | exact bs_ _ _) (fun _ H => ?_) (fun _ H => ?_))
             | (refine brn_ H (by with_reducible first | rfl | exact bni_ _ _ | exact bin_ _ _ | exact bn_ _ | exact bs0_ _ _ | exact bnn_ _) (fun _ H => ?_) (fun _ H => ?_))
             | (refine brt_ ?_)
             | (refine brf_ ?_)
             | (refine br_ H (by exact Eq.refl _) (fun _ H => ?_) (fun _ H => ?_))
             | (refine brn_ H (by exact Eq.refl _) (fun _ H => ?_) (fun _ H => ?_)))
           | ((with_reducible refine br2id_ ?_); first
             | (refine br2t_ ?_)
             | (refine br2f_ ?_))
           | ((with_reducible refine normid_ ?_); first
             | (refine norm_nilapp ?_)
             | (refine norm_appnil ?_)
             | (refine norm_app ?_)
             | (refine norm_t ?_)
             | (refine norm_d ?_)
             | (refine norm_td ?_))
           | ((with_reducible refine lenid_ ?_); refine lenm_ ?_)
           | ((with_reducible refine strid_ ?_); first
             | (refine stre_ ?_)
             | (refine stre0_ ?_))
           | ((with_reducible refine callid_ ?_); have hp := bnd_ H; clear H; obtain ⟨_, ht, H⟩ := hp; refine call_ (impl_ParseConf_ev ht) rfl rfl ?_)
           | ((with_reducible refine finid_ ?_); refine finK_ [] ?_; (conv => whnf); replace H := Option.some.inj H; subst H; (conv => whnf); refine ⟨rfl, ?_⟩; first | rfl | (repeat' (first | rfl | refine own_eq ?_ | refine tup_eq ?_ | refine agg_eq ?_ | refine cons_eq ?_ ?_ | refine vi_eq ?_ | simp only [List.length_map, List.length_set, wm_]))))
end Go.Proofs.YthkepmicdpgbbaaGreatDoor.E

/- What the functions' codes come to. -/
namespace Go.Proofs.YthkepmicdpgbbaaGreatDoor.E
open Go Go.RowKit Go.Proofs.YthkepmicdpgbbaaGreatDoorW.PrintWords Go.Proofs.YthkepmicdpgbbaaGreatDoor.P
set_option linter.unusedVariables false
set_option linter.unusedSimpArgs false
set_option maxHeartbeats 0
set_option maxRecDepth 100000
theorem impl_RecOk_ev {kf : Nat} {a0_0 : Int} {a0_1 : Int} {a0_2 : Int} {a0_3 : ByteArray} {r : Bool} (H : impl_RecOk.f kf a0_0 a0_1 a0_2 a0_3 = some r) : Spec Tryz.prog 15 [.agg [.v (.i .i64 a0_0), .v (.i .i64 a0_1), .v (.i .i64 a0_2), .v (.s a0_3)]] [] (.v (.b r)) [] := by
  simp only [impl_RecOk.f, Option.bind_some, List.nil_append, if_true, if_false, Bool.false_eq_true, nilB, nilE] at H
  refine fn_okF (E := env) Tryz.func15 (by rfl) rfl (n := 38) (by rfl) ?_
  repeat' ((conv => whnf); first
           | ((with_reducible have hp := peel_ H); clear H; obtain ⟨_, H⟩ := hp)
           | ((with_reducible have hp := peeln_ H); clear H; obtain ⟨_, H⟩ := hp)
           | (with_reducible replace H := itet_ H)
           | (with_reducible replace H := itef_ H)
           | ((with_reducible refine sideid_ ?_); refine side_ ?_)
           | ((with_reducible refine seqid_ ?_); refine sgo_ ?_)
           | ((with_reducible refine brid_ ?_); first
             | (with_reducible refine brct_ ?_)
             | (with_reducible refine brcf_ ?_)
             | (with_reducible refine brt_ ?_)
             | (with_reducible refine brf_ ?_)
             | (refine br_ H (by with_reducible first | rfl | exact bi_ _ _ | exact bd_ _ | exact bs_ _ _) (fun _ H => ?_) (fun _ H => ?_))
             | (refine brn_ H (by with_reducible first | rfl | exact bni_ _ _ | exact bin_ _ _ | exact bn_ _ | exact bs0_ _ _ | exact bnn_ _) (fun _ H => ?_) (fun _ H => ?_))
             | (refine brt_ ?_)
             | (refine brf_ ?_)
             | (refine br_ H (by exact Eq.refl _) (fun _ H => ?_) (fun _ H => ?_))
             | (refine brn_ H (by exact Eq.refl _) (fun _ H => ?_) (fun _ H => ?_)))
           | ((with_reducible refine br2id_ ?_); first
             | (refine br2t_ ?_)
             | (refine br2f_ ?_))
           | ((with_reducible refine normid_ ?_); first
             | (refine norm_nilapp ?_)
             | (refine norm_appnil ?_)
             | (refine norm_app ?_)
             | (refine norm_t ?_)
             | (refine norm_d ?_)
             | (refine norm_td ?_))
           | ((with_reducible refine lenid_ ?_); refine lenm_ ?_)
           | ((with_reducible refine strid_ ?_); first
             | (refine stre_ ?_)
             | (refine stre0_ ?_))
           | ((with_reducible refine callid_ ?_); have hp := bnd_ H; clear H; obtain ⟨_, ht, H⟩ := hp; first
             | (refine call_ (impl_isIn_ev ht) rfl rfl ?_)
             | (refine call_ (impl_confOk_ev ht) rfl rfl ?_))
           | ((with_reducible refine finid_ ?_); refine finK_ [] ?_; (conv => whnf); replace H := Option.some.inj H; subst H; (conv => whnf); refine ⟨rfl, ?_⟩; first | rfl | (repeat' (first | rfl | refine own_eq ?_ | refine tup_eq ?_ | refine agg_eq ?_ | refine cons_eq ?_ ?_ | refine vi_eq ?_ | simp only [List.length_map, List.length_set, wm_]))))
end Go.Proofs.YthkepmicdpgbbaaGreatDoor.E

/- What the functions' codes come to. -/
namespace Go.Proofs.YthkepmicdpgbbaaGreatDoor.E
open Go Go.RowKit Go.Proofs.YthkepmicdpgbbaaGreatDoorW.PrintWords Go.Proofs.YthkepmicdpgbbaaGreatDoor.P
set_option linter.unusedVariables false
set_option linter.unusedSimpArgs false
set_option maxHeartbeats 0
set_option maxRecDepth 100000
theorem impl_wordOk_ev {a0 : Int} {r : Bool} (H : impl_wordOk.f a0 = some r) : Spec Tryz.prog 44 [.v (.i .i64 a0)] [] (.v (.b r)) [] := by
  simp only [impl_wordOk.f, Option.bind_some, List.nil_append, if_true, if_false, Bool.false_eq_true, nilB, nilE] at H
  refine fn_okF (E := env) Tryz.func44 (by rfl) rfl (n := 4) (by rfl) ?_
  repeat' ((conv => whnf); first
           | ((with_reducible have hp := peel_ H); clear H; obtain ⟨_, H⟩ := hp)
           | ((with_reducible have hp := peeln_ H); clear H; obtain ⟨_, H⟩ := hp)
           | (with_reducible replace H := itet_ H)
           | (with_reducible replace H := itef_ H)
           | ((with_reducible refine sideid_ ?_); refine side_ ?_)
           | ((with_reducible refine seqid_ ?_); refine sgo_ ?_)
           | ((with_reducible refine brid_ ?_); first
             | (with_reducible refine brct_ ?_)
             | (with_reducible refine brcf_ ?_)
             | (with_reducible refine brt_ ?_)
             | (with_reducible refine brf_ ?_)
             | (refine br_ H (by with_reducible first | rfl | exact bi_ _ _ | exact bd_ _ | exact bs_ _ _) (fun _ H => ?_) (fun _ H => ?_))
             | (refine brn_ H (by with_reducible first | rfl | exact bni_ _ _ | exact bin_ _ _ | exact bn_ _ | exact bs0_ _ _ | exact bnn_ _) (fun _ H => ?_) (fun _ H => ?_))
             | (refine brt_ ?_)
             | (refine brf_ ?_)
             | (refine br_ H (by exact Eq.refl _) (fun _ H => ?_) (fun _ H => ?_))
             | (refine brn_ H (by exact Eq.refl _) (fun _ H => ?_) (fun _ H => ?_)))
           | ((with_reducible refine br2id_ ?_); first
             | (refine br2t_ ?_)
             | (refine br2f_ ?_))
           | ((with_reducible refine normid_ ?_); first
             | (refine norm_nilapp ?_)
             | (refine norm_appnil ?_)
             | (refine norm_app ?_)
             | (refine norm_t ?_)
             | (refine norm_d ?_)
             | (refine norm_td ?_))
           | ((with_reducible refine lenid_ ?_); refine lenm_ ?_)
           | ((with_reducible refine strid_ ?_); first
             | (refine stre_ ?_)
             | (refine stre0_ ?_))
           | ((with_reducible refine callid_ ?_); have hp := bnd_ H; clear H; obtain ⟨_, ht, H⟩ := hp; refine call_ (impl_isIn_ev ht) rfl rfl ?_)
           | ((with_reducible refine finid_ ?_); refine finK_ [] ?_; (conv => whnf); replace H := Option.some.inj H; subst H; (conv => whnf); refine ⟨rfl, ?_⟩; first | rfl | (repeat' (first | rfl | refine own_eq ?_ | refine tup_eq ?_ | refine agg_eq ?_ | refine cons_eq ?_ ?_ | refine vi_eq ?_ | simp only [List.length_map, List.length_set, wm_]))))
end Go.Proofs.YthkepmicdpgbbaaGreatDoor.E

/- What the functions' codes come to. -/
namespace Go.Proofs.YthkepmicdpgbbaaGreatDoor.E
open Go Go.RowKit Go.Proofs.YthkepmicdpgbbaaGreatDoorW.PrintWords Go.Proofs.YthkepmicdpgbbaaGreatDoor.P
set_option linter.unusedVariables false
set_option linter.unusedSimpArgs false
set_option maxHeartbeats 0
set_option maxRecDepth 100000
theorem impl_PutWord_ev {l0 : List Int} {a1 : Int} {r : List Int} (H : impl_PutWord.f l0 a1 = some r) : Spec Tryz.prog 45 [.v (.row (List.map e5 l0)), .v (.i .i64 a1)] [] (.own 0 (List.map e5 r).length) [.arr 1 5 false (List.map e5 r)] := by
  simp only [impl_PutWord.f, Option.bind_some, List.nil_append, if_true, if_false, Bool.false_eq_true, nilB, nilE] at H
  refine fn_okF (E := env) Tryz.func45 (by rfl) rfl (n := 12) (by rfl) ?_
  repeat' ((conv => whnf); first
           | ((with_reducible have hp := peel_ H); clear H; obtain ⟨_, H⟩ := hp)
           | ((with_reducible have hp := peeln_ H); clear H; obtain ⟨_, H⟩ := hp)
           | (with_reducible replace H := itet_ H)
           | (with_reducible replace H := itef_ H)
           | ((with_reducible refine sideid_ ?_); refine side_ ?_)
           | ((with_reducible refine seqid_ ?_); refine sgo_ ?_)
           | ((with_reducible refine brid_ ?_); first
             | (with_reducible refine brct_ ?_)
             | (with_reducible refine brcf_ ?_)
             | (with_reducible refine brt_ ?_)
             | (with_reducible refine brf_ ?_)
             | (refine br_ H (by with_reducible first | rfl | exact bi_ _ _ | exact bd_ _ | exact bs_ _ _) (fun _ H => ?_) (fun _ H => ?_))
             | (refine brn_ H (by with_reducible first | rfl | exact bni_ _ _ | exact bin_ _ _ | exact bn_ _ | exact bs0_ _ _ | exact bnn_ _) (fun _ H => ?_) (fun _ H => ?_))
             | (refine brt_ ?_)
             | (refine brf_ ?_)
             | (refine br_ H (by exact Eq.refl _) (fun _ H => ?_) (fun _ H => ?_))
             | (refine brn_ H (by exact Eq.refl _) (fun _ H => ?_) (fun _ H => ?_)))
           | ((with_reducible refine br2id_ ?_); first
             | (refine br2t_ ?_)
             | (refine br2f_ ?_))
           | ((with_reducible refine normid_ ?_); first
             | (refine norm_nilapp ?_)
             | (refine norm_appnil ?_)
             | (refine norm_app ?_)
             | (refine norm_t ?_)
             | (refine norm_d ?_)
             | (refine norm_td ?_)
             | (refine norm_set (e := 5) (f := e5) _ rfl ?_)
             | (refine norm_rep (e := 5) (f := e5) _ rfl ?_)
             | (refine norm_lit (e := 5) (n := 2) (f := e5) [_, _] rfl ?_))
           | ((with_reducible refine elemid_ ?_); refine elem_ (f := e5) 0 (rd _ _) rfl ?_ (by first | assumption | decide | omega) (by first | assumption | omega))
           | ((with_reducible refine lenid_ ?_); refine lenm_ ?_)
           | ((with_reducible refine strid_ ?_); first
             | (refine stre_ ?_)
             | (refine stre0_ ?_))
           | ((with_reducible refine callid_ ?_); have hp := bnd_ H; clear H; obtain ⟨_, ht, H⟩ := hp; refine call_ (slices_Clone_byte_byte_ev ht) rfl rfl ?_)
           | ((with_reducible refine finid_ ?_); refine finK_ [] ?_; (conv => whnf); replace H := Option.some.inj H; subst H; (conv => whnf); refine ⟨rfl, ?_⟩; first | rfl | (repeat' (first | rfl | refine own_eq ?_ | refine tup_eq ?_ | refine agg_eq ?_ | refine cons_eq ?_ ?_ | refine vi_eq ?_ | simp only [List.length_map, List.length_set, wm_]))))
end Go.Proofs.YthkepmicdpgbbaaGreatDoor.E

/- What the functions' codes come to. -/
namespace Go.Proofs.YthkepmicdpgbbaaGreatDoor.E
open Go Go.RowKit Go.Proofs.YthkepmicdpgbbaaGreatDoorW.PrintWords Go.Proofs.YthkepmicdpgbbaaGreatDoor.P
set_option linter.unusedVariables false
set_option linter.unusedSimpArgs false
set_option maxHeartbeats 0
set_option maxRecDepth 100000
theorem impl_TextOk_ev {kf : Nat} {a0 : ByteArray} {r : Bool} (H : impl_TextOk.f kf a0 = some r) : Spec Tryz.prog 99 [.v (.s a0)] [] (.v (.b r)) [] := by
  simp only [impl_TextOk.f, Option.bind_some, List.nil_append, if_true, if_false, Bool.false_eq_true, nilB, nilE] at H
  refine fn_okF (E := env) Tryz.func99 (by rfl) rfl (n := 22) (by rfl) ?_
  repeat' ((conv => whnf); first
           | ((with_reducible have hp := peel_ H); clear H; obtain ⟨_, H⟩ := hp)
           | ((with_reducible have hp := peeln_ H); clear H; obtain ⟨_, H⟩ := hp)
           | (with_reducible replace H := itet_ H)
           | (with_reducible replace H := itef_ H)
           | ((with_reducible refine sideid_ ?_); refine side_ ?_)
           | ((with_reducible refine seqid_ ?_); refine sgo_ ?_)
           | ((with_reducible refine brid_ ?_); first
             | (with_reducible refine brct_ ?_)
             | (with_reducible refine brcf_ ?_)
             | (with_reducible refine brt_ ?_)
             | (with_reducible refine brf_ ?_)
             | (refine br_ H (by with_reducible first | rfl | exact bi_ _ _ | exact bd_ _ | exact bs_ _ _) (fun _ H => ?_) (fun _ H => ?_))
             | (refine brn_ H (by with_reducible first | rfl | exact bni_ _ _ | exact bin_ _ _ | exact bn_ _ | exact bs0_ _ _ | exact bnn_ _) (fun _ H => ?_) (fun _ H => ?_))
             | (refine brt_ ?_)
             | (refine brf_ ?_)
             | (refine br_ H (by exact Eq.refl _) (fun _ H => ?_) (fun _ H => ?_))
             | (refine brn_ H (by exact Eq.refl _) (fun _ H => ?_) (fun _ H => ?_)))
           | ((with_reducible refine br2id_ ?_); first
             | (refine br2t_ ?_)
             | (refine br2f_ ?_))
           | ((with_reducible refine normid_ ?_); first
             | (refine norm_nilapp ?_)
             | (refine norm_appnil ?_)
             | (refine norm_app ?_)
             | (refine norm_t ?_)
             | (refine norm_d ?_)
             | (refine norm_td ?_))
           | ((with_reducible refine lenid_ ?_); refine lenm_ ?_)
           | ((with_reducible refine strid_ ?_); first
             | (refine stre_ ?_)
             | (refine stre0_ ?_))
           | ((with_reducible refine loopid_ ?_); refine loopK_ (fun n s h => ∃ x0 x5 x6, impl_TextOk.l0 n x0 x5 x6 = some r ∧ s = spr 23 0 [(0, .v (.s x0)), (5, .v (.i .i64 x5)), (6, .v (.i .i64 x6))] ∧ h = []) [] [] [] (bsp 23 0 [0, 5, 6]) _ (by (conv => whnf); refine ⟨_, _, _, H, rfl, rfl⟩) ?_; rintro n s h hn ⟨x0, x5, x6, H, rfl, rfl⟩; have hk := suc_ (g := fun k => impl_TextOk.l0 k _ _ _) H (by simp only [impl_TextOk.l0]); obtain ⟨kf, hk⟩ := hk; subst hk; simp only [impl_TextOk.l0, Option.bind_some, List.nil_append, if_true, if_false, Bool.false_eq_true, nilB, nilE] at H)
           | ((with_reducible refine nextid_ ?_); refine nextK_ (P := fun m => impl_TextOk.l0 m _ _ _ = some _) H (bsp 23 0 [0, 5, 6]) ?_ ?_ ?_; (conv => whnf); refine ⟨_, _, _, H, ?_, rfl⟩; all_goals first | omega | rfl | (repeat' (first | rfl | refine own_eq ?_ | refine cons_eq ?_ ?_ | refine vi_eq ?_ | simp only [List.length_map, List.length_set, wm_])))
           | ((with_reducible refine finid_ ?_); refine finK_ [] ?_; (conv => whnf); replace H := Option.some.inj H; subst H; (conv => whnf); refine ⟨rfl, ?_⟩; first | rfl | (repeat' (first | rfl | refine own_eq ?_ | refine tup_eq ?_ | refine agg_eq ?_ | refine cons_eq ?_ ?_ | refine vi_eq ?_ | simp only [List.length_map, List.length_set, wm_]))))
end Go.Proofs.YthkepmicdpgbbaaGreatDoor.E

/- What the functions' codes come to. -/
namespace Go.Proofs.YthkepmicdpgbbaaGreatDoor.E
open Go Go.RowKit Go.Proofs.YthkepmicdpgbbaaGreatDoorW.PrintWords Go.Proofs.YthkepmicdpgbbaaGreatDoor.P
set_option linter.unusedVariables false
set_option linter.unusedSimpArgs false
set_option maxHeartbeats 0
set_option maxRecDepth 100000
theorem impl_PutText_ev {kf : Nat} {l0 : List Int} {a1 : ByteArray} {r : List Int} (H : impl_PutText.f kf l0 a1 = some r) : Spec Tryz.prog 46 [.v (.row (List.map e5 l0)), .v (.s a1)] [] (.own 0 (List.map e5 r).length) [.arr 1 5 false (List.map e5 r)] := by
  simp only [impl_PutText.f, Option.bind_some, List.nil_append, if_true, if_false, Bool.false_eq_true, nilB, nilE] at H
  refine fn_okF (E := env) Tryz.func46 (by rfl) rfl (n := 18) (by rfl) ?_
  repeat' ((conv => whnf); first
           | ((with_reducible have hp := peel_ H); clear H; obtain ⟨_, H⟩ := hp)
           | ((with_reducible have hp := peeln_ H); clear H; obtain ⟨_, H⟩ := hp)
           | (with_reducible replace H := itet_ H)
           | (with_reducible replace H := itef_ H)
           | ((with_reducible refine sideid_ ?_); refine side_ ?_)
           | ((with_reducible refine seqid_ ?_); refine sgo_ ?_)
           | ((with_reducible refine brid_ ?_); first
             | (with_reducible refine brct_ ?_)
             | (with_reducible refine brcf_ ?_)
             | (with_reducible refine brt_ ?_)
             | (with_reducible refine brf_ ?_)
             | (refine br_ H (by with_reducible first | rfl | exact bi_ _ _ | exact bd_ _ | exact bs_ _ _) (fun _ H => ?_) (fun _ H => ?_))
             | (refine brn_ H (by with_reducible first | rfl | exact bni_ _ _ | exact bin_ _ _ | exact bn_ _ | exact bs0_ _ _ | exact bnn_ _) (fun _ H => ?_) (fun _ H => ?_))
             | (refine brt_ ?_)
             | (refine brf_ ?_)
             | (refine br_ H (by exact Eq.refl _) (fun _ H => ?_) (fun _ H => ?_))
             | (refine brn_ H (by exact Eq.refl _) (fun _ H => ?_) (fun _ H => ?_)))
           | ((with_reducible refine br2id_ ?_); first
             | (refine br2t_ ?_)
             | (refine br2f_ ?_))
           | ((with_reducible refine normid_ ?_); first
             | (refine norm_nilapp ?_)
             | (refine norm_appnil ?_)
             | (refine norm_app ?_)
             | (refine norm_t ?_)
             | (refine norm_d ?_)
             | (refine norm_td ?_)
             | (refine norm_set (e := 5) (f := e5) _ rfl ?_)
             | (refine norm_rep (e := 5) (f := e5) _ rfl ?_)
             | (refine norm_lit (e := 5) (n := 1) (f := e5) [_] rfl ?_))
           | ((with_reducible refine elemid_ ?_); refine elem_ (f := e5) 0 (rd _ _) rfl ?_ (by first | assumption | decide | omega) (by first | assumption | omega))
           | ((with_reducible refine lenid_ ?_); refine lenm_ ?_)
           | ((with_reducible refine strid_ ?_); first
             | (refine stre_ ?_)
             | (refine stre0_ ?_))
           | ((with_reducible refine callid_ ?_); have hp := bnd_ H; clear H; obtain ⟨_, ht, H⟩ := hp; first
             | (refine call_ (slices_Clone_byte_byte_ev ht) rfl rfl ?_)
             | (refine call_ (impl_TextOk_ev ht) rfl rfl ?_))
           | ((with_reducible refine finid_ ?_); refine finK_ [] ?_; (conv => whnf); replace H := Option.some.inj H; subst H; (conv => whnf); refine ⟨rfl, ?_⟩; first | rfl | (repeat' (first | rfl | refine own_eq ?_ | refine tup_eq ?_ | refine agg_eq ?_ | refine cons_eq ?_ ?_ | refine vi_eq ?_ | simp only [List.length_map, List.length_set, wm_]))))
end Go.Proofs.YthkepmicdpgbbaaGreatDoor.E

/- What the functions' codes come to. -/
namespace Go.Proofs.YthkepmicdpgbbaaGreatDoor.E
open Go Go.RowKit Go.Proofs.YthkepmicdpgbbaaGreatDoorW.PrintWords Go.Proofs.YthkepmicdpgbbaaGreatDoor.P
set_option linter.unusedVariables false
set_option linter.unusedSimpArgs false
set_option maxHeartbeats 0
set_option maxRecDepth 100000
theorem impl_Sum_ev {kf : Nat} {l0 : List Int} {r : Int} (H : impl_Sum.f kf l0 = some r) : Spec Tryz.prog 47 [.v (.row (List.map e5 l0))] [] (.v (.i .i64 r)) [] := by
  simp only [impl_Sum.f, Option.bind_some, List.nil_append, if_true, if_false, Bool.false_eq_true, nilB, nilE] at H
  refine fn_okF (E := env) Tryz.func47 (by rfl) rfl (n := 28) (by rfl) ?_
  repeat' ((conv => whnf); first
           | ((with_reducible have hp := peel_ H); clear H; obtain ⟨_, H⟩ := hp)
           | ((with_reducible have hp := peeln_ H); clear H; obtain ⟨_, H⟩ := hp)
           | (with_reducible replace H := itet_ H)
           | (with_reducible replace H := itef_ H)
           | ((with_reducible refine sideid_ ?_); refine side_ ?_)
           | ((with_reducible refine seqid_ ?_); refine sgo_ ?_)
           | ((with_reducible refine brid_ ?_); first
             | (with_reducible refine brct_ ?_)
             | (with_reducible refine brcf_ ?_)
             | (with_reducible refine brt_ ?_)
             | (with_reducible refine brf_ ?_)
             | (refine br_ H (by with_reducible first | rfl | exact bi_ _ _ | exact bd_ _ | exact bs_ _ _) (fun _ H => ?_) (fun _ H => ?_))
             | (refine brn_ H (by with_reducible first | rfl | exact bni_ _ _ | exact bin_ _ _ | exact bn_ _ | exact bs0_ _ _ | exact bnn_ _) (fun _ H => ?_) (fun _ H => ?_))
             | (refine brt_ ?_)
             | (refine brf_ ?_)
             | (refine br_ H (by exact Eq.refl _) (fun _ H => ?_) (fun _ H => ?_))
             | (refine brn_ H (by exact Eq.refl _) (fun _ H => ?_) (fun _ H => ?_)))
           | ((with_reducible refine br2id_ ?_); first
             | (refine br2t_ ?_)
             | (refine br2f_ ?_))
           | ((with_reducible refine normid_ ?_); first
             | (refine norm_nilapp ?_)
             | (refine norm_appnil ?_)
             | (refine norm_app ?_)
             | (refine norm_t ?_)
             | (refine norm_d ?_)
             | (refine norm_td ?_)
             | (refine norm_set (e := 5) (f := e5) _ rfl ?_)
             | (refine norm_rep (e := 5) (f := e5) _ rfl ?_))
           | ((with_reducible refine elemid_ ?_); refine elem_ (f := e5) 0 (rd _ _) rfl ?_ (by first | assumption | decide | omega) (by first | assumption | omega))
           | ((with_reducible refine lenid_ ?_); refine lenm_ ?_)
           | ((with_reducible refine strid_ ?_); first
             | (refine stre_ ?_)
             | (refine stre0_ ?_))
           | ((with_reducible refine loopid_ ?_); first
             | (refine loopK_ (fun n s h => ∃ x3 x6 x7 x8, impl_Sum.l0 n x3 x6 x7 x8 = some r ∧ s = spr 29 0 [(3, .v (.i .i64 x3)), (6, .v (.row (List.map e5 x6))), (7, .v (.i .i64 x7)), (8, .v (.i .i64 x8))] ∧ h = []) [] [] [] (bsp 29 0 [3, 6, 7, 8]) _ (by (conv => whnf); refine ⟨_, _, _, _, H, rfl, rfl⟩) ?_; rintro n s h hn ⟨x3, x6, x7, x8, H, rfl, rfl⟩; have hk := suc_ (g := fun k => impl_Sum.l0 k _ _ _ _) H (by simp only [impl_Sum.l0]); obtain ⟨kf, hk⟩ := hk; subst hk; simp only [impl_Sum.l0, Option.bind_some, List.nil_append, if_true, if_false, Bool.false_eq_true, nilB, nilE] at H)
             | (refine loopK_ (fun n s h => ∃ x3 x6 x7 x8 x17, impl_Sum.l1 n x3 x6 x7 x8 x17 = some r ∧ s = spr 29 0 [(3, .v (.i .i64 x3)), (6, .v (.row (List.map e5 x6))), (7, .v (.i .i64 x7)), (8, .v (.i .i64 x8)), (17, .v (.i .i64 x17))] ∧ h = []) [] [] [] (bsp 29 0 [3, 6, 7, 8, 17]) _ (by (conv => whnf); refine ⟨_, _, _, _, _, H, rfl, rfl⟩) ?_; rintro n s h hn ⟨x3, x6, x7, x8, x17, H, rfl, rfl⟩; have hk := suc_ (g := fun k => impl_Sum.l1 k _ _ _ _ _) H (by simp only [impl_Sum.l1]); obtain ⟨kf, hk⟩ := hk; subst hk; simp only [impl_Sum.l1, Option.bind_some, List.nil_append, if_true, if_false, Bool.false_eq_true, nilB, nilE] at H))
           | ((with_reducible refine nextid_ ?_); first
             | (refine nextK_ (P := fun m => impl_Sum.l0 m _ _ _ _ = some _) H (bsp 29 0 [3, 6, 7, 8]) ?_ ?_ ?_; (conv => whnf); refine ⟨_, _, _, _, H, ?_, rfl⟩; all_goals first | omega | rfl | (repeat' (first | rfl | refine own_eq ?_ | refine cons_eq ?_ ?_ | refine vi_eq ?_ | simp only [List.length_map, List.length_set, wm_])))
             | (refine nextK_ (P := fun m => impl_Sum.l1 m _ _ _ _ _ = some _) H (bsp 29 0 [3, 6, 7, 8, 17]) ?_ ?_ ?_; (conv => whnf); refine ⟨_, _, _, _, _, H, ?_, rfl⟩; all_goals first | omega | rfl | (repeat' (first | rfl | refine own_eq ?_ | refine cons_eq ?_ ?_ | refine vi_eq ?_ | simp only [List.length_map, List.length_set, wm_]))))
           | ((with_reducible refine finid_ ?_); refine finK_ [] ?_; (conv => whnf); replace H := Option.some.inj H; subst H; (conv => whnf); refine ⟨rfl, ?_⟩; first | rfl | (repeat' (first | rfl | refine own_eq ?_ | refine tup_eq ?_ | refine agg_eq ?_ | refine cons_eq ?_ ?_ | refine vi_eq ?_ | simp only [List.length_map, List.length_set, wm_]))))
end Go.Proofs.YthkepmicdpgbbaaGreatDoor.E

/- What the functions' codes come to. -/
namespace Go.Proofs.YthkepmicdpgbbaaGreatDoor.E
open Go Go.RowKit Go.Proofs.YthkepmicdpgbbaaGreatDoorW.PrintWords Go.Proofs.YthkepmicdpgbbaaGreatDoor.P
set_option linter.unusedVariables false
set_option linter.unusedSimpArgs false
set_option maxHeartbeats 0
set_option maxRecDepth 100000
theorem impl_PutRec_ev {kf : Nat} {a0 : Int} {a1 : Int} {a2_0 : Int} {a2_1 : Int} {a2_2 : Int} {a2_3 : ByteArray} {r : List Int} (H : impl_PutRec.f kf a0 a1 a2_0 a2_1 a2_2 a2_3 = some r) : Spec Tryz.prog 11 [.v (.i .i64 a0), .v (.i .i64 a1), .agg [.v (.i .i64 a2_0), .v (.i .i64 a2_1), .v (.i .i64 a2_2), .v (.s a2_3)]] [] (.own 0 (List.map e5 r).length) [.arr 1 5 false (List.map e5 r)] := by
  simp only [impl_PutRec.f, Option.bind_some, List.nil_append, if_true, if_false, Bool.false_eq_true, nilB, nilE] at H
  refine fn_okF (E := env) Tryz.func11 (by rfl) rfl (n := 44) (by rfl) ?_
  repeat' ((conv => whnf); first
           | ((with_reducible have hp := peel_ H); clear H; obtain ⟨_, H⟩ := hp)
           | ((with_reducible have hp := peeln_ H); clear H; obtain ⟨_, H⟩ := hp)
           | (with_reducible replace H := itet_ H)
           | (with_reducible replace H := itef_ H)
           | ((with_reducible refine sideid_ ?_); refine side_ ?_)
           | ((with_reducible refine seqid_ ?_); first
             | ((with_reducible refine scg_ 1 ?_); refine scut_ 1 (fun s h => ∃ x0 x1 x20 x388000 x388001 x388002 x388003, impl_PutRec.j0 kf x0 x1 x20 x388000 x388001 x388002 x388003 = some r ∧ s = spr 47 0 [(0, .v (.i .i64 x0)), (1, .v (.i .i64 x1)), (5, .ptr 0 0), (20, .v (.b x20))] ∧ h = [.box 25 [.v (.i .i64 x388000), .v (.i .i64 x388001), .v (.i .i64 x388002), .v (.s x388003)]]) ?_ ?_)
             | (refine sgo_ ?_))
           | ((with_reducible refine brid_ ?_); first
             | (with_reducible refine brct_ ?_)
             | (with_reducible refine brcf_ ?_)
             | (with_reducible refine brt_ ?_)
             | (with_reducible refine brf_ ?_)
             | (refine br_ H (by with_reducible first | rfl | exact bi_ _ _ | exact bd_ _ | exact bs_ _ _) (fun _ H => ?_) (fun _ H => ?_))
             | (refine brn_ H (by with_reducible first | rfl | exact bni_ _ _ | exact bin_ _ _ | exact bn_ _ | exact bs0_ _ _ | exact bnn_ _) (fun _ H => ?_) (fun _ H => ?_))
             | (refine brt_ ?_)
             | (refine brf_ ?_)
             | (refine br_ H (by exact Eq.refl _) (fun _ H => ?_) (fun _ H => ?_))
             | (refine brn_ H (by exact Eq.refl _) (fun _ H => ?_) (fun _ H => ?_)))
           | ((with_reducible refine br2id_ ?_); first
             | (refine br2t_ ?_)
             | (refine br2f_ ?_))
           | ((with_reducible refine normid_ ?_); first
             | (refine norm_nilapp ?_)
             | (refine norm_appnil ?_)
             | (refine norm_app ?_)
             | (refine norm_t ?_)
             | (refine norm_d ?_)
             | (refine norm_td ?_)
             | (refine norm_set (e := 5) (f := e5) _ rfl ?_)
             | (refine norm_rep (e := 5) (f := e5) _ rfl ?_)
             | (refine norm_lit (e := 5) (n := 0) (f := e5) [] rfl ?_)
             | (refine norm_lit (e := 5) (n := 1) (f := e5) [_] rfl ?_))
           | ((with_reducible refine elemid_ ?_); refine elem_ (f := e5) 0 (rd _ _) rfl ?_ (by first | assumption | decide | omega) (by first | assumption | omega))
           | ((with_reducible refine lenid_ ?_); refine lenm_ ?_)
           | ((with_reducible refine strid_ ?_); first
             | (refine stre_ ?_)
             | (refine stre0_ ?_))
           | ((with_reducible refine callid_ ?_); have hp := bnd_ H; clear H; obtain ⟨_, ht, H⟩ := hp; first
             | (refine call_ (impl_RecOk_ev ht) rfl rfl ?_)
             | (refine call_ (impl_wordOk_ev ht) rfl rfl ?_)
             | (refine call_ (impl_PutWord_ev ht) rfl rfl ?_)
             | (refine call_ (impl_PutText_ev ht) rfl rfl ?_)
             | (refine call_ (impl_Sum_ev ht) rfl rfl ?_))
           | ((with_reducible refine exid_ ?_); have hk := idH_ (F := fun k => impl_PutRec.j0 k _ _ _ _ _ _ _) H; refine weakK_ (ex := []) (us := []) (bs := []) (ms := (bsp 47 0 [0, 1, 5, 20])) ?_; (conv => whnf); refine ⟨_, _, _, _, _, _, _, hk, rfl, rfl⟩)
           | ((with_reducible refine allid_ ?_); intro s h hj; clear H; obtain ⟨x0, x1, x20, x388000, x388001, x388002, x388003, H, rfl, rfl⟩ := hj; have hk := suc_ (g := fun k => impl_PutRec.j0 k _ _ _ _ _ _ _) H (by simp only [impl_PutRec.j0]); obtain ⟨kf, hk⟩ := hk; subst hk; simp only [impl_PutRec.j0, Option.bind_some, List.nil_append, if_true, if_false, Bool.false_eq_true, nilB, nilE] at H)
           | ((with_reducible refine finid_ ?_); refine finK_ [] ?_; (conv => whnf); replace H := Option.some.inj H; subst H; (conv => whnf); refine ⟨rfl, ?_⟩; first | rfl | (repeat' (first | rfl | refine own_eq ?_ | refine tup_eq ?_ | refine agg_eq ?_ | refine cons_eq ?_ ?_ | refine vi_eq ?_ | simp only [List.length_map, List.length_set, wm_]))))
end Go.Proofs.YthkepmicdpgbbaaGreatDoor.E

/- What the functions' codes come to. -/
namespace Go.Proofs.YthkepmicdpgbbaaGreatDoor.E
open Go Go.RowKit Go.Proofs.YthkepmicdpgbbaaGreatDoorW.PrintWords Go.Proofs.YthkepmicdpgbbaaGreatDoor.P
set_option linter.unusedVariables false
set_option linter.unusedSimpArgs false
set_option maxHeartbeats 0
set_option maxRecDepth 100000
theorem spec_l3Split_ev {kf : Nat} {a0 : ByteArray} {a1 : Int} {r : List ByteArray} (H : spec_l3Split.f kf a0 a1 = some r) : Spec Tryz.prog 135 [.v (.s a0), .v (.i .u8 a1)] [] (.own 0 (List.map e9 r).length) [.arr 1 9 false (List.map e9 r)] := by
  simp only [spec_l3Split.f, Option.bind_some, List.nil_append, if_true, if_false, Bool.false_eq_true, nilB, nilE] at H
  refine fn_okF (E := env) Tryz.func135 (by rfl) rfl (n := 34) (by rfl) ?_
  repeat' ((conv => whnf); first
           | ((with_reducible have hp := peel_ H); clear H; obtain ⟨_, H⟩ := hp)
           | ((with_reducible have hp := peeln_ H); clear H; obtain ⟨_, H⟩ := hp)
           | (with_reducible replace H := itet_ H)
           | (with_reducible replace H := itef_ H)
           | ((with_reducible refine sideid_ ?_); refine side_ ?_)
           | ((with_reducible refine seqid_ ?_); refine sgo_ ?_)
           | ((with_reducible refine brid_ ?_); first
             | (with_reducible refine brct_ ?_)
             | (with_reducible refine brcf_ ?_)
             | (with_reducible refine brt_ ?_)
             | (with_reducible refine brf_ ?_)
             | (refine br_ H (by with_reducible first | rfl | exact bi_ _ _ | exact bd_ _ | exact bs_ _ _) (fun _ H => ?_) (fun _ H => ?_))
             | (refine brn_ H (by with_reducible first | rfl | exact bni_ _ _ | exact bin_ _ _ | exact bn_ _ | exact bs0_ _ _ | exact bnn_ _) (fun _ H => ?_) (fun _ H => ?_))
             | (refine brt_ ?_)
             | (refine brf_ ?_)
             | (refine br_ H (by exact Eq.refl _) (fun _ H => ?_) (fun _ H => ?_))
             | (refine brn_ H (by exact Eq.refl _) (fun _ H => ?_) (fun _ H => ?_)))
           | ((with_reducible refine br2id_ ?_); first
             | (refine br2t_ ?_)
             | (refine br2f_ ?_))
           | ((with_reducible refine normid_ ?_); first
             | (refine norm_nilapp ?_)
             | (refine norm_appnil ?_)
             | (refine norm_app ?_)
             | (refine norm_t ?_)
             | (refine norm_d ?_)
             | (refine norm_td ?_)
             | (refine norm_set (e := 9) (f := e9) _ rfl ?_)
             | (refine norm_rep (e := 9) (f := e9) _ rfl ?_)
             | (refine norm_lit (e := 9) (n := 0) (f := e9) [] rfl ?_)
             | (refine norm_lit (e := 9) (n := 1) (f := e9) [_] rfl ?_))
           | ((with_reducible refine elemid_ ?_); refine elem_ (f := e9) ByteArray.empty (rdOf ByteArray.empty _ _) rfl ?_ (by first | assumption | decide | omega) (by first | assumption | omega))
           | ((with_reducible refine lenid_ ?_); refine lenm_ ?_)
           | ((with_reducible refine strid_ ?_); first
             | (refine stre_ ?_)
             | (refine stre0_ ?_))
           | ((with_reducible refine loopid_ ?_); refine loopK_ (fun n s h => ∃ x0 x1 x5 x6 x7, spec_l3Split.l0 n x0 x1 x5 x6 x7 = some r ∧ s = spr 36 0 [(0, .v (.s x0)), (1, .v (.i .u8 x1)), (5, .own 0 (List.map e9 x5).length), (6, .v (.i .i64 x6)), (7, .v (.i .i64 x7))] ∧ h = [.arr 1 9 false (List.map e9 x5)]) [] [] [] (bsp 36 0 [0, 1, 5, 6, 7]) _ (by (conv => whnf); refine ⟨_, _, _, _, _, H, rfl, rfl⟩) ?_; rintro n s h hn ⟨x0, x1, x5, x6, x7, H, rfl, rfl⟩; have hk := suc_ (g := fun k => spec_l3Split.l0 k _ _ _ _ _) H (by simp only [spec_l3Split.l0]); obtain ⟨kf, hk⟩ := hk; subst hk; simp only [spec_l3Split.l0, Option.bind_some, List.nil_append, if_true, if_false, Bool.false_eq_true, nilB, nilE] at H)
           | ((with_reducible refine nextid_ ?_); refine nextK_ (P := fun m => spec_l3Split.l0 m _ _ _ _ _ = some _) H (bsp 36 0 [0, 1, 5, 6, 7]) ?_ ?_ ?_; (conv => whnf); refine ⟨_, _, _, _, _, H, ?_, rfl⟩; all_goals first | omega | rfl | (repeat' (first | rfl | refine own_eq ?_ | refine cons_eq ?_ ?_ | refine vi_eq ?_ | simp only [List.length_map, List.length_set, wm_])))
           | ((with_reducible refine finid_ ?_); refine finK_ [] ?_; (conv => whnf); replace H := Option.some.inj H; subst H; (conv => whnf); refine ⟨rfl, ?_⟩; first | rfl | (repeat' (first | rfl | refine own_eq ?_ | refine tup_eq ?_ | refine agg_eq ?_ | refine cons_eq ?_ ?_ | refine vi_eq ?_ | simp only [List.length_map, List.length_set, wm_]))))
end Go.Proofs.YthkepmicdpgbbaaGreatDoor.E

/- What the functions' codes come to. -/
namespace Go.Proofs.YthkepmicdpgbbaaGreatDoor.E
open Go Go.RowKit Go.Proofs.YthkepmicdpgbbaaGreatDoorW.PrintWords Go.Proofs.YthkepmicdpgbbaaGreatDoor.P
set_option linter.unusedVariables false
set_option linter.unusedSimpArgs false
set_option maxHeartbeats 0
set_option maxRecDepth 100000
theorem spec_ParseNum_ev {kf : Nat} {a0 : ByteArray} {a1 : Int} {r : Int × Bool} (H : spec_ParseNum.f kf a0 a1 = some r) : Spec Tryz.prog 136 [.v (.s a0), .v (.i .i64 a1)] [] (.tup [.v (.i .i64 r.1), .v (.b r.2)]) [] := by
  simp only [spec_ParseNum.f, Option.bind_some, List.nil_append, if_true, if_false, Bool.false_eq_true, nilB, nilE] at H
  refine fn_okF (E := env) Tryz.func136 (by rfl) rfl (n := 52) (by rfl) ?_
  repeat' ((conv => whnf); first
           | ((with_reducible have hp := peel_ H); clear H; obtain ⟨_, H⟩ := hp)
           | ((with_reducible have hp := peeln_ H); clear H; obtain ⟨_, H⟩ := hp)
           | (with_reducible replace H := itet_ H)
           | (with_reducible replace H := itef_ H)
           | ((with_reducible refine sideid_ ?_); refine side_ ?_)
           | ((with_reducible refine seqid_ ?_); first
             | ((with_reducible refine scg_ 1 ?_); refine scut_ 1 (fun s h => ∃ x0 x1 x29, spec_ParseNum.j0 kf x0 x1 x29 = some r ∧ s = spr 54 0 [(0, .v (.s x0)), (1, .v (.i .i64 x1)), (29, .v (.b x29))] ∧ h = []) ?_ ?_)
             | (refine sgo_ ?_))
           | ((with_reducible refine brid_ ?_); first
             | (with_reducible refine brct_ ?_)
             | (with_reducible refine brcf_ ?_)
             | (with_reducible refine brt_ ?_)
             | (with_reducible refine brf_ ?_)
             | (refine br_ H (by with_reducible first | rfl | exact bi_ _ _ | exact bd_ _ | exact bs_ _ _) (fun _ H => ?_) (fun _ H => ?_))
             | (refine brn_ H (by with_reducible first | rfl | exact bni_ _ _ | exact bin_ _ _ | exact bn_ _ | exact bs0_ _ _ | exact bnn_ _) (fun _ H => ?_) (fun _ H => ?_))
             | (refine brt_ ?_)
             | (refine brf_ ?_)
             | (refine br_ H (by exact Eq.refl _) (fun _ H => ?_) (fun _ H => ?_))
             | (refine brn_ H (by exact Eq.refl _) (fun _ H => ?_) (fun _ H => ?_)))
           | ((with_reducible refine br2id_ ?_); first
             | (refine br2t_ ?_)
             | (refine br2f_ ?_))
           | ((with_reducible refine normid_ ?_); first
             | (refine norm_nilapp ?_)
             | (refine norm_appnil ?_)
             | (refine norm_app ?_)
             | (refine norm_t ?_)
             | (refine norm_d ?_)
             | (refine norm_td ?_))
           | ((with_reducible refine lenid_ ?_); refine lenm_ ?_)
           | ((with_reducible refine strid_ ?_); first
             | (refine stre_ ?_)
             | (refine stre0_ ?_))
           | ((with_reducible refine callid_ ?_); have hp := bnd_ H; clear H; obtain ⟨_, ht, H⟩ := hp; refine call_ (spec_l1In_ev ht) rfl rfl ?_)
           | ((with_reducible refine loopid_ ?_); refine loopK_ (fun n s h => ∃ x0 x1 x6 x7, spec_ParseNum.l0 n x0 x1 x6 x7 = some r ∧ s = spr 54 0 [(0, .v (.s x0)), (1, .v (.i .i64 x1)), (6, .v (.i .i64 x6)), (7, .v (.i .i64 x7))] ∧ h = []) [] [] [] (bsp 54 0 [0, 1, 6, 7]) _ (by (conv => whnf); refine ⟨_, _, _, _, H, rfl, rfl⟩) ?_; rintro n s h hn ⟨x0, x1, x6, x7, H, rfl, rfl⟩; have hk := suc_ (g := fun k => spec_ParseNum.l0 k _ _ _ _) H (by simp only [spec_ParseNum.l0]); obtain ⟨kf, hk⟩ := hk; subst hk; simp only [spec_ParseNum.l0, Option.bind_some, List.nil_append, if_true, if_false, Bool.false_eq_true, nilB, nilE] at H)
           | ((with_reducible refine nextid_ ?_); refine nextK_ (P := fun m => spec_ParseNum.l0 m _ _ _ _ = some _) H (bsp 54 0 [0, 1, 6, 7]) ?_ ?_ ?_; (conv => whnf); refine ⟨_, _, _, _, H, ?_, rfl⟩; all_goals first | omega | rfl | (repeat' (first | rfl | refine own_eq ?_ | refine cons_eq ?_ ?_ | refine vi_eq ?_ | simp only [List.length_map, List.length_set, wm_])))
           | ((with_reducible refine exid_ ?_); have hk := idH_ (F := fun k => spec_ParseNum.j0 k _ _ _) H; refine weakK_ (ex := []) (us := []) (bs := []) (ms := (bsp 54 0 [0, 1, 29])) ?_; (conv => whnf); refine ⟨_, _, _, hk, rfl, rfl⟩)
           | ((with_reducible refine allid_ ?_); intro s h hj; clear H; obtain ⟨x0, x1, x29, H, rfl, rfl⟩ := hj; have hk := suc_ (g := fun k => spec_ParseNum.j0 k _ _ _) H (by simp only [spec_ParseNum.j0]); obtain ⟨kf, hk⟩ := hk; subst hk; simp only [spec_ParseNum.j0, Option.bind_some, List.nil_append, if_true, if_false, Bool.false_eq_true, nilB, nilE] at H)
           | ((with_reducible refine finid_ ?_); refine finK_ [] ?_; (conv => whnf); replace H := Option.some.inj H; subst H; (conv => whnf); refine ⟨rfl, ?_⟩; first | rfl | (repeat' (first | rfl | refine own_eq ?_ | refine tup_eq ?_ | refine agg_eq ?_ | refine cons_eq ?_ ?_ | refine vi_eq ?_ | simp only [List.length_map, List.length_set, wm_]))))
end Go.Proofs.YthkepmicdpgbbaaGreatDoor.E

/- What the functions' codes come to. -/
namespace Go.Proofs.YthkepmicdpgbbaaGreatDoor.E
open Go Go.RowKit Go.Proofs.YthkepmicdpgbbaaGreatDoorW.PrintWords Go.Proofs.YthkepmicdpgbbaaGreatDoor.P
set_option linter.unusedVariables false
set_option linter.unusedSimpArgs false
set_option maxHeartbeats 0
set_option maxRecDepth 100000
theorem spec_ParseConf_ev {kf : Nat} {a0 : ByteArray} {r : (List (S138)) × Bool} (H : spec_ParseConf.f kf a0 = some r) : Spec Tryz.prog 107 [.v (.s a0)] [] (.tup [.own 0 (List.map e138 r.1).length, .v (.b r.2)]) [.arr 5 138 false (List.map e138 r.1)] := by
  simp only [spec_ParseConf.f, Option.bind_some, List.nil_append, if_true, if_false, Bool.false_eq_true, nilB, nilE] at H
  refine fn_okF (E := env) Tryz.func107 (by rfl) rfl (n := 86) (by rfl) ?_
  repeat' ((conv => whnf); first
           | ((with_reducible have hp := peel_ H); clear H; obtain ⟨_, H⟩ := hp)
           | ((with_reducible have hp := peeln_ H); clear H; obtain ⟨_, H⟩ := hp)
           | (with_reducible replace H := itet_ H)
           | (with_reducible replace H := itef_ H)
           | ((with_reducible refine sideid_ ?_); refine side_ ?_)
           | ((with_reducible refine seqid_ ?_); refine sgo_ ?_)
           | ((with_reducible refine brid_ ?_); first
             | (with_reducible refine brct_ ?_)
             | (with_reducible refine brcf_ ?_)
             | (with_reducible refine brt_ ?_)
             | (with_reducible refine brf_ ?_)
             | (refine br_ H (by with_reducible first | rfl | exact bi_ _ _ | exact bd_ _ | exact bs_ _ _) (fun _ H => ?_) (fun _ H => ?_))
             | (refine brn_ H (by with_reducible first | rfl | exact bni_ _ _ | exact bin_ _ _ | exact bn_ _ | exact bs0_ _ _ | exact bnn_ _) (fun _ H => ?_) (fun _ H => ?_))
             | (refine brt_ ?_)
             | (refine brf_ ?_)
             | (refine br_ H (by exact Eq.refl _) (fun _ H => ?_) (fun _ H => ?_))
             | (refine brn_ H (by exact Eq.refl _) (fun _ H => ?_) (fun _ H => ?_)))
           | ((with_reducible refine br2id_ ?_); first
             | (refine br2t_ ?_)
             | (refine br2f_ ?_))
           | ((with_reducible refine normid_ ?_); first
             | (refine norm_nilapp ?_)
             | (refine norm_appnil ?_)
             | (refine norm_app ?_)
             | (refine norm_t ?_)
             | (refine norm_d ?_)
             | (refine norm_td ?_)
             | (refine norm_set (e := 3) (f := e3) _ rfl ?_)
             | (refine norm_rep (e := 3) (f := e3) _ rfl ?_)
             | (refine norm_lit (e := 3) (n := 4) (f := e3) [_, _, _, _] rfl ?_)
             | (refine norm_set (e := 9) (f := e9) _ rfl ?_)
             | (refine norm_rep (e := 9) (f := e9) _ rfl ?_)
             | (refine norm_set (e := 138) (f := e138) ⟨_, _, _, _, _⟩ rfl ?_)
             | (refine norm_rep (e := 138) (f := e138) ⟨_, _, _, _, _⟩ rfl ?_)
             | (refine norm_lit (e := 138) (n := 0) (f := e138) [] rfl ?_)
             | (refine norm_lit (e := 138) (n := 1) (f := e138) [⟨_, _, _, _, _⟩] rfl ?_))
           | ((with_reducible refine elemid_ ?_); first
             | (refine elem_ (f := e3) 0 (rd _ _) rfl ?_ (by first | assumption | decide | omega) (by first | assumption | omega))
             | (refine elem_ (f := e9) ByteArray.empty (rdOf ByteArray.empty _ _) rfl ?_ (by first | assumption | decide | omega) (by first | assumption | omega))
             | (refine elem_ (f := e138) z138 (rd_T138 _ _) rfl ?_ (by first | assumption | decide | omega) (by first | assumption | omega)))
           | ((with_reducible refine lenid_ ?_); refine lenm_ ?_)
           | ((with_reducible refine strid_ ?_); first
             | (refine stre_ ?_)
             | (refine stre0_ ?_))
           | ((with_reducible refine callid_ ?_); have hp := bnd_ H; clear H; obtain ⟨_, ht, H⟩ := hp; first
             | (refine call_ (spec_ConfOk_ev ht) rfl rfl ?_)
             | (refine call_ (spec_l3Split_ev ht) rfl rfl ?_)
             | (refine call_ (spec_ParseNum_ev ht) rfl rfl ?_))
           | ((with_reducible refine loopid_ ?_); first
             | (refine loopK_ (fun n s h => ∃ x4 x5 x6, spec_ParseConf.l0 n x4 x5 x6 = some r ∧ s = spr 87 0 [(4, .own 0 (List.map e9 x4).length), (5, .own 1 (List.map e138 x5).length), (6, .v (.i .i64 x6))] ∧ h = [.arr 1 9 false (List.map e9 x4), .arr 5 138 false (List.map e138 x5)]) [] [] [] (bsp 87 0 [4, 5, 6]) _ (by (conv => whnf); refine ⟨_, _, _, H, rfl, rfl⟩) ?_; rintro n s h hn ⟨x4, x5, x6, H, rfl, rfl⟩; have hk := suc_ (g := fun k => spec_ParseConf.l0 k _ _ _) H (by simp only [spec_ParseConf.l0]); obtain ⟨kf, hk⟩ := hk; subst hk; simp only [spec_ParseConf.l0, Option.bind_some, List.nil_append, if_true, if_false, Bool.false_eq_true, nilB, nilE] at H)
             | (refine loopK_ (fun n s h => ∃ x4 x5 x6 x7 x8 x9 x10, spec_ParseConf.l1 n x4 x5 x6 x7 x8 x9 x10 = some r ∧ s = spr 87 0 [(4, .own 0 (List.map e9 x4).length), (5, .own 1 (List.map e138 x5).length), (6, .v (.i .i64 x6)), (7, .own 2 (List.map e9 x7).length), (8, .own 3 (List.map e9 x8).length), (9, .own 4 (List.map e3 x9).length), (10, .v (.i .i64 x10))] ∧ h = [.arr 1 9 false (List.map e9 x4), .arr 5 138 false (List.map e138 x5), .arr 1 9 false (List.map e9 x7), .arr 1 9 false (List.map e9 x8), .arr 1 3 false (List.map e3 x9)]) [] [] [] (bsp 87 0 [4, 5, 6, 7, 8, 9, 10]) _ (by (conv => whnf); refine ⟨_, _, _, _, _, _, _, H, rfl, rfl⟩) ?_; rintro n s h hn ⟨x4, x5, x6, x7, x8, x9, x10, H, rfl, rfl⟩; have hk := suc_ (g := fun k => spec_ParseConf.l1 k _ _ _ _ _ _ _) H (by simp only [spec_ParseConf.l1]); obtain ⟨kf, hk⟩ := hk; subst hk; simp only [spec_ParseConf.l1, Option.bind_some, List.nil_append, if_true, if_false, Bool.false_eq_true, nilB, nilE] at H))
           | ((with_reducible refine nextid_ ?_); first
             | (refine nextK_ (P := fun m => spec_ParseConf.l0 m _ _ _ = some _) H (bsp 87 0 [4, 5, 6]) ?_ ?_ ?_; (conv => whnf); refine ⟨_, _, _, H, ?_, rfl⟩; all_goals first | omega | rfl | (repeat' (first | rfl | refine own_eq ?_ | refine cons_eq ?_ ?_ | refine vi_eq ?_ | simp only [List.length_map, List.length_set, wm_])))
             | (refine nextK_ (P := fun m => spec_ParseConf.l1 m _ _ _ _ _ _ _ = some _) H (bsp 87 0 [4, 5, 6, 7, 8, 9, 10]) ?_ ?_ ?_; (conv => whnf); refine ⟨_, _, _, _, _, _, _, H, ?_, rfl⟩; all_goals first | omega | rfl | (repeat' (first | rfl | refine own_eq ?_ | refine cons_eq ?_ ?_ | refine vi_eq ?_ | simp only [List.length_map, List.length_set, wm_]))))
           | ((with_reducible refine finid_ ?_); refine finK_ [] ?_; (conv => whnf); replace H := Option.some.inj H; subst H; (conv => whnf); refine ⟨rfl, ?_⟩; first | rfl | (repeat' (first | rfl | refine own_eq ?_ | refine tup_eq ?_ | refine agg_eq ?_ | refine cons_eq ?_ ?_ | refine vi_eq ?_ | simp only [List.length_map, List.length_set, wm_]))))
end Go.Proofs.YthkepmicdpgbbaaGreatDoor.E

/- What the functions' codes come to. -/
namespace Go.Proofs.YthkepmicdpgbbaaGreatDoor.E
open Go Go.RowKit Go.Proofs.YthkepmicdpgbbaaGreatDoorW.PrintWords Go.Proofs.YthkepmicdpgbbaaGreatDoor.P
set_option linter.unusedVariables false
set_option linter.unusedSimpArgs false
set_option maxHeartbeats 0
set_option maxRecDepth 100000
theorem spec_l4Text_ev {kf : Nat} {a0 : ByteArray} {r : Bool} (H : spec_l4Text.f kf a0 = some r) : Spec Tryz.prog 64 [.v (.s a0)] [] (.v (.b r)) [] := by
  simp only [spec_l4Text.f, Option.bind_some, List.nil_append, if_true, if_false, Bool.false_eq_true, nilB, nilE] at H
  refine fn_okF (E := env) Tryz.func64 (by rfl) rfl (n := 10) (by rfl) ?_
  repeat' ((conv => whnf); first
           | ((with_reducible have hp := peel_ H); clear H; obtain ⟨_, H⟩ := hp)
           | ((with_reducible have hp := peeln_ H); clear H; obtain ⟨_, H⟩ := hp)
           | (with_reducible replace H := itet_ H)
           | (with_reducible replace H := itef_ H)
           | ((with_reducible refine sideid_ ?_); refine side_ ?_)
           | ((with_reducible refine seqid_ ?_); refine sgo_ ?_)
           | ((with_reducible refine brid_ ?_); first
             | (with_reducible refine brct_ ?_)
             | (with_reducible refine brcf_ ?_)
             | (with_reducible refine brt_ ?_)
             | (with_reducible refine brf_ ?_)
             | (refine br_ H (by with_reducible first | rfl | exact bi_ _ _ | exact bd_ _ | exact bs_ _ _) (fun _ H => ?_) (fun _ H => ?_))
             | (refine brn_ H (by with_reducible first | rfl | exact bni_ _ _ | exact bin_ _ _ | exact bn_ _ | exact bs0_ _ _ | exact bnn_ _) (fun _ H => ?_) (fun _ H => ?_))
             | (refine brt_ ?_)
             | (refine brf_ ?_)
             | (refine br_ H (by exact Eq.refl _) (fun _ H => ?_) (fun _ H => ?_))
             | (refine brn_ H (by exact Eq.refl _) (fun _ H => ?_) (fun _ H => ?_)))
           | ((with_reducible refine br2id_ ?_); first
             | (refine br2t_ ?_)
             | (refine br2f_ ?_))
           | ((with_reducible refine normid_ ?_); first
             | (refine norm_nilapp ?_)
             | (refine norm_appnil ?_)
             | (refine norm_app ?_)
             | (refine norm_t ?_)
             | (refine norm_d ?_)
             | (refine norm_td ?_))
           | ((with_reducible refine lenid_ ?_); refine lenm_ ?_)
           | ((with_reducible refine strid_ ?_); first
             | (refine stre_ ?_)
             | (refine stre0_ ?_))
           | ((with_reducible refine callid_ ?_); have hp := bnd_ H; clear H; obtain ⟨_, ht, H⟩ := hp; refine call_ (spec_ParseConf_ev ht) rfl rfl ?_)
           | ((with_reducible refine finid_ ?_); refine finK_ [] ?_; (conv => whnf); replace H := Option.some.inj H; subst H; (conv => whnf); refine ⟨rfl, ?_⟩; first | rfl | (repeat' (first | rfl | refine own_eq ?_ | refine tup_eq ?_ | refine agg_eq ?_ | refine cons_eq ?_ ?_ | refine vi_eq ?_ | simp only [List.length_map, List.length_set, wm_]))))
end Go.Proofs.YthkepmicdpgbbaaGreatDoor.E

/- What the functions' codes come to. -/
namespace Go.Proofs.YthkepmicdpgbbaaGreatDoor.E
open Go Go.RowKit Go.Proofs.YthkepmicdpgbbaaGreatDoorW.PrintWords Go.Proofs.YthkepmicdpgbbaaGreatDoor.P
set_option linter.unusedVariables false
set_option linter.unusedSimpArgs false
set_option maxHeartbeats 0
set_option maxRecDepth 100000
theorem spec_RecOk_ev {kf : Nat} {a0_0 : Int} {a0_1 : Int} {a0_2 : Int} {a0_3 : ByteArray} {r : Bool} (H : spec_RecOk.f kf a0_0 a0_1 a0_2 a0_3 = some r) : Spec Tryz.prog 16 [.agg [.v (.i .i64 a0_0), .v (.i .i64 a0_1), .v (.i .i64 a0_2), .v (.s a0_3)]] [] (.v (.b r)) [] := by
  simp only [spec_RecOk.f, Option.bind_some, List.nil_append, if_true, if_false, Bool.false_eq_true, nilB, nilE] at H
  refine fn_okF (E := env) Tryz.func16 (by rfl) rfl (n := 41) (by rfl) ?_
  repeat' ((conv => whnf); first
           | ((with_reducible have hp := peel_ H); clear H; obtain ⟨_, H⟩ := hp)
           | ((with_reducible have hp := peeln_ H); clear H; obtain ⟨_, H⟩ := hp)
           | (with_reducible replace H := itet_ H)
           | (with_reducible replace H := itef_ H)
           | ((with_reducible refine sideid_ ?_); refine side_ ?_)
           | ((with_reducible refine seqid_ ?_); refine sgo_ ?_)
           | ((with_reducible refine brid_ ?_); first
             | (with_reducible refine brct_ ?_)
             | (with_reducible refine brcf_ ?_)
             | (with_reducible refine brt_ ?_)
             | (with_reducible refine brf_ ?_)
             | (refine br_ H (by with_reducible first | rfl | exact bi_ _ _ | exact bd_ _ | exact bs_ _ _) (fun _ H => ?_) (fun _ H => ?_))
             | (refine brn_ H (by with_reducible first | rfl | exact bni_ _ _ | exact bin_ _ _ | exact bn_ _ | exact bs0_ _ _ | exact bnn_ _) (fun _ H => ?_) (fun _ H => ?_))
             | (refine brt_ ?_)
             | (refine brf_ ?_)
             | (refine br_ H (by exact Eq.refl _) (fun _ H => ?_) (fun _ H => ?_))
             | (refine brn_ H (by exact Eq.refl _) (fun _ H => ?_) (fun _ H => ?_)))
           | ((with_reducible refine br2id_ ?_); first
             | (refine br2t_ ?_)
             | (refine br2f_ ?_))
           | ((with_reducible refine normid_ ?_); first
             | (refine norm_nilapp ?_)
             | (refine norm_appnil ?_)
             | (refine norm_app ?_)
             | (refine norm_t ?_)
             | (refine norm_d ?_)
             | (refine norm_td ?_))
           | ((with_reducible refine lenid_ ?_); refine lenm_ ?_)
           | ((with_reducible refine strid_ ?_); first
             | (refine stre_ ?_)
             | (refine stre0_ ?_))
           | ((with_reducible refine callid_ ?_); have hp := bnd_ H; clear H; obtain ⟨_, ht, H⟩ := hp; first
             | (refine call_ (spec_l1In_ev ht) rfl rfl ?_)
             | (refine call_ (spec_l4Text_ev ht) rfl rfl ?_))
           | ((with_reducible refine finid_ ?_); refine finK_ [] ?_; (conv => whnf); replace H := Option.some.inj H; subst H; (conv => whnf); refine ⟨rfl, ?_⟩; first | rfl | (repeat' (first | rfl | refine own_eq ?_ | refine tup_eq ?_ | refine agg_eq ?_ | refine cons_eq ?_ ?_ | refine vi_eq ?_ | simp only [List.length_map, List.length_set, wm_]))))
end Go.Proofs.YthkepmicdpgbbaaGreatDoor.E

/- What the functions' codes come to. -/
namespace Go.Proofs.YthkepmicdpgbbaaGreatDoor.E
open Go Go.RowKit Go.Proofs.YthkepmicdpgbbaaGreatDoorW.PrintWords Go.Proofs.YthkepmicdpgbbaaGreatDoor.P
set_option linter.unusedVariables false
set_option linter.unusedSimpArgs false
set_option maxHeartbeats 0
set_option maxRecDepth 100000
theorem spec_PutWord_ev {l0 : List Int} {a1 : Int} {r : List Int} (H : spec_PutWord.f l0 a1 = some r) : Spec Tryz.prog 52 [.v (.row (List.map e5 l0)), .v (.i .i64 a1)] [] (.own 0 (List.map e5 r).length) [.arr 1 5 false (List.map e5 r)] := by
  simp only [spec_PutWord.f, Option.bind_some, List.nil_append, if_true, if_false, Bool.false_eq_true, nilB, nilE] at H
  refine fn_okF (E := env) Tryz.func52 (by rfl) rfl (n := 15) (by rfl) ?_
  repeat' ((conv => whnf); first
           | ((with_reducible have hp := peel_ H); clear H; obtain ⟨_, H⟩ := hp)
           | ((with_reducible have hp := peeln_ H); clear H; obtain ⟨_, H⟩ := hp)
           | (with_reducible replace H := itet_ H)
           | (with_reducible replace H := itef_ H)
           | ((with_reducible refine sideid_ ?_); refine side_ ?_)
           | ((with_reducible refine seqid_ ?_); refine sgo_ ?_)
           | ((with_reducible refine brid_ ?_); first
             | (with_reducible refine brct_ ?_)
             | (with_reducible refine brcf_ ?_)
             | (with_reducible refine brt_ ?_)
             | (with_reducible refine brf_ ?_)
             | (refine br_ H (by with_reducible first | rfl | exact bi_ _ _ | exact bd_ _ | exact bs_ _ _) (fun _ H => ?_) (fun _ H => ?_))
             | (refine brn_ H (by with_reducible first | rfl | exact bni_ _ _ | exact bin_ _ _ | exact bn_ _ | exact bs0_ _ _ | exact bnn_ _) (fun _ H => ?_) (fun _ H => ?_))
             | (refine brt_ ?_)
             | (refine brf_ ?_)
             | (refine br_ H (by exact Eq.refl _) (fun _ H => ?_) (fun _ H => ?_))
             | (refine brn_ H (by exact Eq.refl _) (fun _ H => ?_) (fun _ H => ?_)))
           | ((with_reducible refine br2id_ ?_); first
             | (refine br2t_ ?_)
             | (refine br2f_ ?_))
           | ((with_reducible refine normid_ ?_); first
             | (refine norm_nilapp ?_)
             | (refine norm_appnil ?_)
             | (refine norm_app ?_)
             | (refine norm_t ?_)
             | (refine norm_d ?_)
             | (refine norm_td ?_)
             | (refine norm_set (e := 5) (f := e5) _ rfl ?_)
             | (refine norm_rep (e := 5) (f := e5) _ rfl ?_)
             | (refine norm_lit (e := 5) (n := 0) (f := e5) [] rfl ?_)
             | (refine norm_lit (e := 5) (n := 2) (f := e5) [_, _] rfl ?_))
           | ((with_reducible refine elemid_ ?_); refine elem_ (f := e5) 0 (rd _ _) rfl ?_ (by first | assumption | decide | omega) (by first | assumption | omega))
           | ((with_reducible refine lenid_ ?_); refine lenm_ ?_)
           | ((with_reducible refine strid_ ?_); first
             | (refine stre_ ?_)
             | (refine stre0_ ?_))
           | ((with_reducible refine finid_ ?_); refine finK_ [] ?_; (conv => whnf); replace H := Option.some.inj H; subst H; (conv => whnf); refine ⟨rfl, ?_⟩; first | rfl | (repeat' (first | rfl | refine own_eq ?_ | refine tup_eq ?_ | refine agg_eq ?_ | refine cons_eq ?_ ?_ | refine vi_eq ?_ | simp only [List.length_map, List.length_set, wm_]))))
end Go.Proofs.YthkepmicdpgbbaaGreatDoor.E

/- What the functions' codes come to. -/
namespace Go.Proofs.YthkepmicdpgbbaaGreatDoor.E
open Go Go.RowKit Go.Proofs.YthkepmicdpgbbaaGreatDoorW.PrintWords Go.Proofs.YthkepmicdpgbbaaGreatDoor.P
set_option linter.unusedVariables false
set_option linter.unusedSimpArgs false
set_option maxHeartbeats 0
set_option maxRecDepth 100000
theorem spec_Sum_ev {kf : Nat} {l0 : List Int} {r : Int} (H : spec_Sum.f kf l0 = some r) : Spec Tryz.prog 53 [.v (.row (List.map e5 l0))] [] (.v (.i .i64 r)) [] := by
  simp only [spec_Sum.f, Option.bind_some, List.nil_append, if_true, if_false, Bool.false_eq_true, nilB, nilE] at H
  refine fn_okF (E := env) Tryz.func53 (by rfl) rfl (n := 31) (by rfl) ?_
  repeat' ((conv => whnf); first
           | ((with_reducible have hp := peel_ H); clear H; obtain ⟨_, H⟩ := hp)
           | ((with_reducible have hp := peeln_ H); clear H; obtain ⟨_, H⟩ := hp)
           | (with_reducible replace H := itet_ H)
           | (with_reducible replace H := itef_ H)
           | ((with_reducible refine sideid_ ?_); refine side_ ?_)
           | ((with_reducible refine seqid_ ?_); refine sgo_ ?_)
           | ((with_reducible refine brid_ ?_); first
             | (with_reducible refine brct_ ?_)
             | (with_reducible refine brcf_ ?_)
             | (with_reducible refine brt_ ?_)
             | (with_reducible refine brf_ ?_)
             | (refine br_ H (by with_reducible first | rfl | exact bi_ _ _ | exact bd_ _ | exact bs_ _ _) (fun _ H => ?_) (fun _ H => ?_))
             | (refine brn_ H (by with_reducible first | rfl | exact bni_ _ _ | exact bin_ _ _ | exact bn_ _ | exact bs0_ _ _ | exact bnn_ _) (fun _ H => ?_) (fun _ H => ?_))
             | (refine brt_ ?_)
             | (refine brf_ ?_)
             | (refine br_ H (by exact Eq.refl _) (fun _ H => ?_) (fun _ H => ?_))
             | (refine brn_ H (by exact Eq.refl _) (fun _ H => ?_) (fun _ H => ?_)))
           | ((with_reducible refine br2id_ ?_); first
             | (refine br2t_ ?_)
             | (refine br2f_ ?_))
           | ((with_reducible refine normid_ ?_); first
             | (refine norm_nilapp ?_)
             | (refine norm_appnil ?_)
             | (refine norm_app ?_)
             | (refine norm_t ?_)
             | (refine norm_d ?_)
             | (refine norm_td ?_)
             | (refine norm_set (e := 5) (f := e5) _ rfl ?_)
             | (refine norm_rep (e := 5) (f := e5) _ rfl ?_))
           | ((with_reducible refine elemid_ ?_); refine elem_ (f := e5) 0 (rd _ _) rfl ?_ (by first | assumption | decide | omega) (by first | assumption | omega))
           | ((with_reducible refine lenid_ ?_); refine lenm_ ?_)
           | ((with_reducible refine strid_ ?_); first
             | (refine stre_ ?_)
             | (refine stre0_ ?_))
           | ((with_reducible refine loopid_ ?_); first
             | (refine loopK_ (fun n s h => ∃ x0 x3 x4, spec_Sum.l0 n x0 x3 x4 = some r ∧ s = spr 32 0 [(0, .v (.row (List.map e5 x0))), (3, .v (.i .i64 x3)), (4, .v (.i .i64 x4))] ∧ h = []) [] [] [] (bsp 32 0 [0, 3, 4]) _ (by (conv => whnf); refine ⟨_, _, _, H, rfl, rfl⟩) ?_; rintro n s h hn ⟨x0, x3, x4, H, rfl, rfl⟩; have hk := suc_ (g := fun k => spec_Sum.l0 k _ _ _) H (by simp only [spec_Sum.l0]); obtain ⟨kf, hk⟩ := hk; subst hk; simp only [spec_Sum.l0, Option.bind_some, List.nil_append, if_true, if_false, Bool.false_eq_true, nilB, nilE] at H)
             | (refine loopK_ (fun n s h => ∃ x0 x3 x4 x5, spec_Sum.l1 n x0 x3 x4 x5 = some r ∧ s = spr 32 0 [(0, .v (.row (List.map e5 x0))), (3, .v (.i .i64 x3)), (4, .v (.i .i64 x4)), (5, .v (.i .i64 x5))] ∧ h = []) [] [] [] (bsp 32 0 [0, 3, 4, 5]) _ (by (conv => whnf); refine ⟨_, _, _, _, H, rfl, rfl⟩) ?_; rintro n s h hn ⟨x0, x3, x4, x5, H, rfl, rfl⟩; have hk := suc_ (g := fun k => spec_Sum.l1 k _ _ _ _) H (by simp only [spec_Sum.l1]); obtain ⟨kf, hk⟩ := hk; subst hk; simp only [spec_Sum.l1, Option.bind_some, List.nil_append, if_true, if_false, Bool.false_eq_true, nilB, nilE] at H))
           | ((with_reducible refine nextid_ ?_); first
             | (refine nextK_ (P := fun m => spec_Sum.l0 m _ _ _ = some _) H (bsp 32 0 [0, 3, 4]) ?_ ?_ ?_; (conv => whnf); refine ⟨_, _, _, H, ?_, rfl⟩; all_goals first | omega | rfl | (repeat' (first | rfl | refine own_eq ?_ | refine cons_eq ?_ ?_ | refine vi_eq ?_ | simp only [List.length_map, List.length_set, wm_])))
             | (refine nextK_ (P := fun m => spec_Sum.l1 m _ _ _ _ = some _) H (bsp 32 0 [0, 3, 4, 5]) ?_ ?_ ?_; (conv => whnf); refine ⟨_, _, _, _, H, ?_, rfl⟩; all_goals first | omega | rfl | (repeat' (first | rfl | refine own_eq ?_ | refine cons_eq ?_ ?_ | refine vi_eq ?_ | simp only [List.length_map, List.length_set, wm_]))))
           | ((with_reducible refine finid_ ?_); refine finK_ [] ?_; (conv => whnf); replace H := Option.some.inj H; subst H; (conv => whnf); refine ⟨rfl, ?_⟩; first | rfl | (repeat' (first | rfl | refine own_eq ?_ | refine tup_eq ?_ | refine agg_eq ?_ | refine cons_eq ?_ ?_ | refine vi_eq ?_ | simp only [List.length_map, List.length_set, wm_]))))
end Go.Proofs.YthkepmicdpgbbaaGreatDoor.E

/- What the functions' codes come to. -/
namespace Go.Proofs.YthkepmicdpgbbaaGreatDoor.E
open Go Go.RowKit Go.Proofs.YthkepmicdpgbbaaGreatDoorW.PrintWords Go.Proofs.YthkepmicdpgbbaaGreatDoor.P
set_option linter.unusedVariables false
set_option linter.unusedSimpArgs false
set_option maxHeartbeats 0
set_option maxRecDepth 100000
theorem spec_l4Word_ev {a0 : Int} {r : Bool} (H : spec_l4Word.f a0 = some r) : Spec Tryz.prog 100 [.v (.i .i64 a0)] [] (.v (.b r)) [] := by
  simp only [spec_l4Word.f, Option.bind_some, List.nil_append, if_true, if_false, Bool.false_eq_true, nilB, nilE] at H
  refine fn_okF (E := env) Tryz.func100 (by rfl) rfl (n := 4) (by rfl) ?_
  repeat' ((conv => whnf); first
           | ((with_reducible have hp := peel_ H); clear H; obtain ⟨_, H⟩ := hp)
           | ((with_reducible have hp := peeln_ H); clear H; obtain ⟨_, H⟩ := hp)
           | (with_reducible replace H := itet_ H)
           | (with_reducible replace H := itef_ H)
           | ((with_reducible refine sideid_ ?_); refine side_ ?_)
           | ((with_reducible refine seqid_ ?_); refine sgo_ ?_)
           | ((with_reducible refine brid_ ?_); first
             | (with_reducible refine brct_ ?_)
             | (with_reducible refine brcf_ ?_)
             | (with_reducible refine brt_ ?_)
             | (with_reducible refine brf_ ?_)
             | (refine br_ H (by with_reducible first | rfl | exact bi_ _ _ | exact bd_ _ | exact bs_ _ _) (fun _ H => ?_) (fun _ H => ?_))
             | (refine brn_ H (by with_reducible first | rfl | exact bni_ _ _ | exact bin_ _ _ | exact bn_ _ | exact bs0_ _ _ | exact bnn_ _) (fun _ H => ?_) (fun _ H => ?_))
             | (refine brt_ ?_)
             | (refine brf_ ?_)
             | (refine br_ H (by exact Eq.refl _) (fun _ H => ?_) (fun _ H => ?_))
             | (refine brn_ H (by exact Eq.refl _) (fun _ H => ?_) (fun _ H => ?_)))
           | ((with_reducible refine br2id_ ?_); first
             | (refine br2t_ ?_)
             | (refine br2f_ ?_))
           | ((with_reducible refine normid_ ?_); first
             | (refine norm_nilapp ?_)
             | (refine norm_appnil ?_)
             | (refine norm_app ?_)
             | (refine norm_t ?_)
             | (refine norm_d ?_)
             | (refine norm_td ?_))
           | ((with_reducible refine lenid_ ?_); refine lenm_ ?_)
           | ((with_reducible refine strid_ ?_); first
             | (refine stre_ ?_)
             | (refine stre0_ ?_))
           | ((with_reducible refine callid_ ?_); have hp := bnd_ H; clear H; obtain ⟨_, ht, H⟩ := hp; refine call_ (spec_l1In_ev ht) rfl rfl ?_)
           | ((with_reducible refine finid_ ?_); refine finK_ [] ?_; (conv => whnf); replace H := Option.some.inj H; subst H; (conv => whnf); refine ⟨rfl, ?_⟩; first | rfl | (repeat' (first | rfl | refine own_eq ?_ | refine tup_eq ?_ | refine agg_eq ?_ | refine cons_eq ?_ ?_ | refine vi_eq ?_ | simp only [List.length_map, List.length_set, wm_]))))
end Go.Proofs.YthkepmicdpgbbaaGreatDoor.E

/- What the functions' codes come to. -/
namespace Go.Proofs.YthkepmicdpgbbaaGreatDoor.E
open Go Go.RowKit Go.Proofs.YthkepmicdpgbbaaGreatDoorW.PrintWords Go.Proofs.YthkepmicdpgbbaaGreatDoor.P
set_option linter.unusedVariables false
set_option linter.unusedSimpArgs false
set_option maxHeartbeats 0
set_option maxRecDepth 100000
theorem spec_TextOk_ev {kf : Nat} {a0 : ByteArray} {r : Bool} (H : spec_TextOk.f kf a0 = some r) : Spec Tryz.prog 105 [.v (.s a0)] [] (.v (.b r)) [] := by
  simp only [spec_TextOk.f, Option.bind_some, List.nil_append, if_true, if_false, Bool.false_eq_true, nilB, nilE] at H
  refine fn_okF (E := env) Tryz.func105 (by rfl) rfl (n := 26) (by rfl) ?_
  repeat' ((conv => whnf); first
           | ((with_reducible have hp := peel_ H); clear H; obtain ⟨_, H⟩ := hp)
           | ((with_reducible have hp := peeln_ H); clear H; obtain ⟨_, H⟩ := hp)
           | (with_reducible replace H := itet_ H)
           | (with_reducible replace H := itef_ H)
           | ((with_reducible refine sideid_ ?_); refine side_ ?_)
           | ((with_reducible refine seqid_ ?_); first
             | ((with_reducible refine scg_ 2 ?_); refine scut_ 2 (fun s h => ∃ x0 x3 x11, spec_TextOk.j1 kf x0 x3 x11 = some r ∧ s = spr 27 0 [(0, .v (.s x0)), (3, .v (.i .i64 x3)), (11, .v (.b x11))] ∧ h = []) ?_ ?_)
             | (refine sgo_ ?_))
           | ((with_reducible refine brid_ ?_); first
             | (with_reducible refine brct_ ?_)
             | (with_reducible refine brcf_ ?_)
             | (with_reducible refine brt_ ?_)
             | (with_reducible refine brf_ ?_)
             | (refine br_ H (by with_reducible first | rfl | exact bi_ _ _ | exact bd_ _ | exact bs_ _ _) (fun _ H => ?_) (fun _ H => ?_))
             | (refine brn_ H (by with_reducible first | rfl | exact bni_ _ _ | exact bin_ _ _ | exact bn_ _ | exact bs0_ _ _ | exact bnn_ _) (fun _ H => ?_) (fun _ H => ?_))
             | (refine brt_ ?_)
             | (refine brf_ ?_)
             | (refine br_ H (by exact Eq.refl _) (fun _ H => ?_) (fun _ H => ?_))
             | (refine brn_ H (by exact Eq.refl _) (fun _ H => ?_) (fun _ H => ?_)))
           | ((with_reducible refine br2id_ ?_); first
             | (refine br2t_ ?_)
             | (refine br2f_ ?_))
           | ((with_reducible refine normid_ ?_); first
             | (refine norm_nilapp ?_)
             | (refine norm_appnil ?_)
             | (refine norm_app ?_)
             | (refine norm_t ?_)
             | (refine norm_d ?_)
             | (refine norm_td ?_))
           | ((with_reducible refine lenid_ ?_); refine lenm_ ?_)
           | ((with_reducible refine strid_ ?_); first
             | (refine stre_ ?_)
             | (refine stre0_ ?_))
           | ((with_reducible refine loopid_ ?_); refine loopK_ (fun n s h => ∃ x0 x3, spec_TextOk.l0 n x0 x3 = some r ∧ s = spr 27 0 [(0, .v (.s x0)), (3, .v (.i .i64 x3))] ∧ h = []) [] [] [] (bsp 27 0 [0, 3]) _ (by (conv => whnf); refine ⟨_, _, H, rfl, rfl⟩) ?_; rintro n s h hn ⟨x0, x3, H, rfl, rfl⟩; have hk := suc_ (g := fun k => spec_TextOk.l0 k _ _) H (by simp only [spec_TextOk.l0]); obtain ⟨kf, hk⟩ := hk; subst hk; simp only [spec_TextOk.l0, Option.bind_some, List.nil_append, if_true, if_false, Bool.false_eq_true, nilB, nilE] at H)
           | ((with_reducible refine nextid_ ?_); refine nextK_ (P := fun m => spec_TextOk.l0 m _ _ = some _) H (bsp 27 0 [0, 3]) ?_ ?_ ?_; (conv => whnf); refine ⟨_, _, H, ?_, rfl⟩; all_goals first | omega | rfl | (repeat' (first | rfl | refine own_eq ?_ | refine cons_eq ?_ ?_ | refine vi_eq ?_ | simp only [List.length_map, List.length_set, wm_])))
           | ((with_reducible refine exid_ ?_); have hk := idH_ (F := fun k => spec_TextOk.j1 k _ _ _) H; refine weakK_ (ex := []) (us := []) (bs := []) (ms := (bsp 27 0 [0, 3, 11])) ?_; (conv => whnf); refine ⟨_, _, _, hk, rfl, rfl⟩)
           | ((with_reducible refine allid_ ?_); intro s h hj; clear H; obtain ⟨x0, x3, x11, H, rfl, rfl⟩ := hj; have hk := suc_ (g := fun k => spec_TextOk.j1 k _ _ _) H (by simp only [spec_TextOk.j1]); obtain ⟨kf, hk⟩ := hk; subst hk; simp only [spec_TextOk.j1, Option.bind_some, List.nil_append, if_true, if_false, Bool.false_eq_true, nilB, nilE] at H)
           | ((with_reducible refine finid_ ?_); refine finK_ [] ?_; (conv => whnf); replace H := Option.some.inj H; subst H; (conv => whnf); refine ⟨rfl, ?_⟩; first | rfl | (repeat' (first | rfl | refine own_eq ?_ | refine tup_eq ?_ | refine agg_eq ?_ | refine cons_eq ?_ ?_ | refine vi_eq ?_ | simp only [List.length_map, List.length_set, wm_]))))
end Go.Proofs.YthkepmicdpgbbaaGreatDoor.E

/- What the functions' codes come to. -/
namespace Go.Proofs.YthkepmicdpgbbaaGreatDoor.E
open Go Go.RowKit Go.Proofs.YthkepmicdpgbbaaGreatDoorW.PrintWords Go.Proofs.YthkepmicdpgbbaaGreatDoor.P
set_option linter.unusedVariables false
set_option linter.unusedSimpArgs false
set_option maxHeartbeats 0
set_option maxRecDepth 100000
theorem spec_PutText_ev {kf : Nat} {l0 : List Int} {a1 : ByteArray} {r : List Int} (H : spec_PutText.f kf l0 a1 = some r) : Spec Tryz.prog 101 [.v (.row (List.map e5 l0)), .v (.s a1)] [] (.own 0 (List.map e5 r).length) [.arr 1 5 false (List.map e5 r)] := by
  simp only [spec_PutText.f, Option.bind_some, List.nil_append, if_true, if_false, Bool.false_eq_true, nilB, nilE] at H
  refine fn_okF (E := env) Tryz.func101 (by rfl) rfl (n := 19) (by rfl) ?_
  repeat' ((conv => whnf); first
           | ((with_reducible have hp := peel_ H); clear H; obtain ⟨_, H⟩ := hp)
           | ((with_reducible have hp := peeln_ H); clear H; obtain ⟨_, H⟩ := hp)
           | (with_reducible replace H := itet_ H)
           | (with_reducible replace H := itef_ H)
           | ((with_reducible refine sideid_ ?_); refine side_ ?_)
           | ((with_reducible refine seqid_ ?_); refine sgo_ ?_)
           | ((with_reducible refine brid_ ?_); first
             | (with_reducible refine brct_ ?_)
             | (with_reducible refine brcf_ ?_)
             | (with_reducible refine brt_ ?_)
             | (with_reducible refine brf_ ?_)
             | (refine br_ H (by with_reducible first | rfl | exact bi_ _ _ | exact bd_ _ | exact bs_ _ _) (fun _ H => ?_) (fun _ H => ?_))
             | (refine brn_ H (by with_reducible first | rfl | exact bni_ _ _ | exact bin_ _ _ | exact bn_ _ | exact bs0_ _ _ | exact bnn_ _) (fun _ H => ?_) (fun _ H => ?_))
             | (refine brt_ ?_)
             | (refine brf_ ?_)
             | (refine br_ H (by exact Eq.refl _) (fun _ H => ?_) (fun _ H => ?_))
             | (refine brn_ H (by exact Eq.refl _) (fun _ H => ?_) (fun _ H => ?_)))
           | ((with_reducible refine br2id_ ?_); first
             | (refine br2t_ ?_)
             | (refine br2f_ ?_))
           | ((with_reducible refine normid_ ?_); first
             | (refine norm_nilapp ?_)
             | (refine norm_appnil ?_)
             | (refine norm_app ?_)
             | (refine norm_t ?_)
             | (refine norm_d ?_)
             | (refine norm_td ?_)
             | (refine norm_set (e := 5) (f := e5) _ rfl ?_)
             | (refine norm_rep (e := 5) (f := e5) _ rfl ?_)
             | (refine norm_lit (e := 5) (n := 0) (f := e5) [] rfl ?_)
             | (refine norm_lit (e := 5) (n := 1) (f := e5) [_] rfl ?_))
           | ((with_reducible refine elemid_ ?_); refine elem_ (f := e5) 0 (rd _ _) rfl ?_ (by first | assumption | decide | omega) (by first | assumption | omega))
           | ((with_reducible refine lenid_ ?_); refine lenm_ ?_)
           | ((with_reducible refine strid_ ?_); first
             | (refine stre_ ?_)
             | (refine stre0_ ?_))
           | ((with_reducible refine callid_ ?_); have hp := bnd_ H; clear H; obtain ⟨_, ht, H⟩ := hp; refine call_ (spec_TextOk_ev ht) rfl rfl ?_)
           | ((with_reducible refine finid_ ?_); refine finK_ [] ?_; (conv => whnf); replace H := Option.some.inj H; subst H; (conv => whnf); refine ⟨rfl, ?_⟩; first | rfl | (repeat' (first | rfl | refine own_eq ?_ | refine tup_eq ?_ | refine agg_eq ?_ | refine cons_eq ?_ ?_ | refine vi_eq ?_ | simp only [List.length_map, List.length_set, wm_]))))
end Go.Proofs.YthkepmicdpgbbaaGreatDoor.E

/- What the functions' codes come to. -/
namespace Go.Proofs.YthkepmicdpgbbaaGreatDoor.E
open Go Go.RowKit Go.Proofs.YthkepmicdpgbbaaGreatDoorW.PrintWords Go.Proofs.YthkepmicdpgbbaaGreatDoor.P
set_option linter.unusedVariables false
set_option linter.unusedSimpArgs false
set_option maxHeartbeats 0
set_option maxRecDepth 100000
theorem spec_PutRec_ev {kf : Nat} {a0 : Int} {a1 : Int} {a2_0 : Int} {a2_1 : Int} {a2_2 : Int} {a2_3 : ByteArray} {r : List Int} (H : spec_PutRec.f kf a0 a1 a2_0 a2_1 a2_2 a2_3 = some r) : Spec Tryz.prog 48 [.v (.i .i64 a0), .v (.i .i64 a1), .agg [.v (.i .i64 a2_0), .v (.i .i64 a2_1), .v (.i .i64 a2_2), .v (.s a2_3)]] [] (.own 0 (List.map e5 r).length) [.arr 1 5 false (List.map e5 r)] := by
  simp only [spec_PutRec.f, Option.bind_some, List.nil_append, if_true, if_false, Bool.false_eq_true, nilB, nilE] at H
  refine fn_okF (E := env) Tryz.func48 (by rfl) rfl (n := 45) (by rfl) ?_
  repeat' ((conv => whnf); first
           | ((with_reducible have hp := peel_ H); clear H; obtain ⟨_, H⟩ := hp)
           | ((with_reducible have hp := peeln_ H); clear H; obtain ⟨_, H⟩ := hp)
           | (with_reducible replace H := itet_ H)
           | (with_reducible replace H := itef_ H)
           | ((with_reducible refine sideid_ ?_); refine side_ ?_)
           | ((with_reducible refine seqid_ ?_); first
             | ((with_reducible refine scg_ 1 ?_); refine scut_ 1 (fun s h => ∃ x0 x1 x20 x513000 x513001 x513002 x513003, spec_PutRec.j0 kf x0 x1 x20 x513000 x513001 x513002 x513003 = some r ∧ s = spr 48 0 [(0, .v (.i .i64 x0)), (1, .v (.i .i64 x1)), (5, .ptr 0 0), (20, .v (.b x20))] ∧ h = [.box 25 [.v (.i .i64 x513000), .v (.i .i64 x513001), .v (.i .i64 x513002), .v (.s x513003)]]) ?_ ?_)
             | (refine sgo_ ?_))
           | ((with_reducible refine brid_ ?_); first
             | (with_reducible refine brct_ ?_)
             | (with_reducible refine brcf_ ?_)
             | (with_reducible refine brt_ ?_)
             | (with_reducible refine brf_ ?_)
             | (refine br_ H (by with_reducible first | rfl | exact bi_ _ _ | exact bd_ _ | exact bs_ _ _) (fun _ H => ?_) (fun _ H => ?_))
             | (refine brn_ H (by with_reducible first | rfl | exact bni_ _ _ | exact bin_ _ _ | exact bn_ _ | exact bs0_ _ _ | exact bnn_ _) (fun _ H => ?_) (fun _ H => ?_))
             | (refine brt_ ?_)
             | (refine brf_ ?_)
             | (refine br_ H (by exact Eq.refl _) (fun _ H => ?_) (fun _ H => ?_))
             | (refine brn_ H (by exact Eq.refl _) (fun _ H => ?_) (fun _ H => ?_)))
           | ((with_reducible refine br2id_ ?_); first
             | (refine br2t_ ?_)
             | (refine br2f_ ?_))
           | ((with_reducible refine normid_ ?_); first
             | (refine norm_nilapp ?_)
             | (refine norm_appnil ?_)
             | (refine norm_app ?_)
             | (refine norm_t ?_)
             | (refine norm_d ?_)
             | (refine norm_td ?_)
             | (refine norm_set (e := 5) (f := e5) _ rfl ?_)
             | (refine norm_rep (e := 5) (f := e5) _ rfl ?_)
             | (refine norm_lit (e := 5) (n := 0) (f := e5) [] rfl ?_)
             | (refine norm_lit (e := 5) (n := 1) (f := e5) [_] rfl ?_))
           | ((with_reducible refine elemid_ ?_); refine elem_ (f := e5) 0 (rd _ _) rfl ?_ (by first | assumption | decide | omega) (by first | assumption | omega))
           | ((with_reducible refine lenid_ ?_); refine lenm_ ?_)
           | ((with_reducible refine strid_ ?_); first
             | (refine stre_ ?_)
             | (refine stre0_ ?_))
           | ((with_reducible refine callid_ ?_); have hp := bnd_ H; clear H; obtain ⟨_, ht, H⟩ := hp; first
             | (refine call_ (spec_RecOk_ev ht) rfl rfl ?_)
             | (refine call_ (spec_PutWord_ev ht) rfl rfl ?_)
             | (refine call_ (spec_Sum_ev ht) rfl rfl ?_)
             | (refine call_ (spec_l4Word_ev ht) rfl rfl ?_)
             | (refine call_ (spec_PutText_ev ht) rfl rfl ?_))
           | ((with_reducible refine exid_ ?_); have hk := idH_ (F := fun k => spec_PutRec.j0 k _ _ _ _ _ _ _) H; refine weakK_ (ex := []) (us := []) (bs := []) (ms := (bsp 48 0 [0, 1, 5, 20])) ?_; (conv => whnf); refine ⟨_, _, _, _, _, _, _, hk, rfl, rfl⟩)
           | ((with_reducible refine allid_ ?_); intro s h hj; clear H; obtain ⟨x0, x1, x20, x513000, x513001, x513002, x513003, H, rfl, rfl⟩ := hj; have hk := suc_ (g := fun k => spec_PutRec.j0 k _ _ _ _ _ _ _) H (by simp only [spec_PutRec.j0]); obtain ⟨kf, hk⟩ := hk; subst hk; simp only [spec_PutRec.j0, Option.bind_some, List.nil_append, if_true, if_false, Bool.false_eq_true, nilB, nilE] at H)
           | ((with_reducible refine finid_ ?_); refine finK_ [] ?_; (conv => whnf); replace H := Option.some.inj H; subst H; (conv => whnf); refine ⟨rfl, ?_⟩; first | rfl | (repeat' (first | rfl | refine own_eq ?_ | refine tup_eq ?_ | refine agg_eq ?_ | refine cons_eq ?_ ?_ | refine vi_eq ?_ | simp only [List.length_map, List.length_set, wm_]))))
end Go.Proofs.YthkepmicdpgbbaaGreatDoor.E

/- What the functions' codes come to. -/
namespace Go.Proofs.YthkepmicdpgbbaaGreatDoor.E
open Go Go.RowKit Go.Proofs.YthkepmicdpgbbaaGreatDoorW.PrintWords Go.Proofs.YthkepmicdpgbbaaGreatDoor.P
set_option linter.unusedVariables false
set_option linter.unusedSimpArgs false
set_option maxHeartbeats 0
set_option maxRecDepth 100000
theorem spec_l1Bend_ev {s0_0 : List Int} {s0_1 : Int} {s0_2 : Int} {l1 : List Int} {r : List Int × Int × Int} (H : spec_l1Bend.f s0_0 s0_1 s0_2 l1 = some r) : Spec Tryz.prog 54 [.ptr 0 0, .v (.row (List.map e5 l1))] [.box 115 [.v (.row (List.map e5 s0_0)), .v (.i .i64 s0_1), .v (.i .i64 s0_2)]] (.v (.row (List.map e5 r.1))) [.box 115 [.v (.row (List.map e5 s0_0)), .v (.i .i64 r.2.1), .v (.i .i64 r.2.2)]] := by
  simp only [spec_l1Bend.f, Option.bind_some, List.nil_append, if_true, if_false, Bool.false_eq_true, nilB, nilE] at H
  refine fn_okF (E := env) Tryz.func54 (by rfl) rfl (n := 51) (by rfl) ?_
  repeat' ((conv => whnf); first
           | ((with_reducible have hp := peel_ H); clear H; obtain ⟨_, H⟩ := hp)
           | ((with_reducible have hp := peeln_ H); clear H; obtain ⟨_, H⟩ := hp)
           | (with_reducible replace H := itet_ H)
           | (with_reducible replace H := itef_ H)
           | ((with_reducible refine sideid_ ?_); refine side_ ?_)
           | ((with_reducible refine seqid_ ?_); refine sgo_ ?_)
           | ((with_reducible refine brid_ ?_); first
             | (with_reducible refine brct_ ?_)
             | (with_reducible refine brcf_ ?_)
             | (with_reducible refine brt_ ?_)
             | (with_reducible refine brf_ ?_)
             | (refine br_ H (by with_reducible first | rfl | exact bi_ _ _ | exact bd_ _ | exact bs_ _ _) (fun _ H => ?_) (fun _ H => ?_))
             | (refine brn_ H (by with_reducible first | rfl | exact bni_ _ _ | exact bin_ _ _ | exact bn_ _ | exact bs0_ _ _ | exact bnn_ _) (fun _ H => ?_) (fun _ H => ?_))
             | (refine brt_ ?_)
             | (refine brf_ ?_)
             | (refine br_ H (by exact Eq.refl _) (fun _ H => ?_) (fun _ H => ?_))
             | (refine brn_ H (by exact Eq.refl _) (fun _ H => ?_) (fun _ H => ?_)))
           | ((with_reducible refine br2id_ ?_); first
             | (refine br2t_ ?_)
             | (refine br2f_ ?_))
           | ((with_reducible refine normid_ ?_); first
             | (refine norm_nilapp ?_)
             | (refine norm_appnil ?_)
             | (refine norm_app ?_)
             | (refine norm_t ?_)
             | (refine norm_d ?_)
             | (refine norm_td ?_)
             | (refine norm_set (e := 5) (f := e5) _ rfl ?_)
             | (refine norm_rep (e := 5) (f := e5) _ rfl ?_)
             | (refine norm_lit (e := 5) (n := 0) (f := e5) [] rfl ?_)
             | (refine norm_lit (e := 5) (n := 1) (f := e5) [_] rfl ?_))
           | ((with_reducible refine elemid_ ?_); refine elem_ (f := e5) 0 (rd _ _) rfl ?_ (by first | assumption | decide | omega) (by first | assumption | omega))
           | ((with_reducible refine lenid_ ?_); refine lenm_ ?_)
           | ((with_reducible refine strid_ ?_); first
             | (refine stre_ ?_)
             | (refine stre0_ ?_))
           | ((with_reducible refine callid_ ?_); have hp := bnd_ H; clear H; obtain ⟨_, ht, H⟩ := hp; first
             | (refine call_ (spec_l1Below_ev ht) rfl rfl ?_)
             | (refine call_ (spec_l1Byte_ev ht) rfl rfl ?_))
           | ((with_reducible refine finid_ ?_); first
             | (refine finK_ [] ?_; (conv => whnf); replace H := Option.some.inj H; subst H; (conv => whnf); refine ⟨rfl, ?_⟩; first | rfl | (repeat' (first | rfl | refine own_eq ?_ | refine tup_eq ?_ | refine agg_eq ?_ | refine cons_eq ?_ ?_ | refine vi_eq ?_ | simp only [List.length_map, List.length_set, wm_])))
             | (refine finD_ [] ?_; (conv => whnf); refine side_ ?_; replace H := Option.some.inj H; subst H; (conv => whnf); refine ⟨rfl, ?_⟩; first | rfl | (repeat' (first | rfl | refine own_eq ?_ | refine tup_eq ?_ | refine agg_eq ?_ | refine cons_eq ?_ ?_ | refine vi_eq ?_ | simp only [List.length_map, List.length_set, wm_])))))
end Go.Proofs.YthkepmicdpgbbaaGreatDoor.E

/- What the functions' codes come to. -/
namespace Go.Proofs.YthkepmicdpgbbaaGreatDoor.E
open Go Go.RowKit Go.Proofs.YthkepmicdpgbbaaGreatDoorW.PrintWords Go.Proofs.YthkepmicdpgbbaaGreatDoor.P
set_option linter.unusedVariables false
set_option linter.unusedSimpArgs false
set_option maxHeartbeats 0
set_option maxRecDepth 100000
theorem spec_DrawGetRec_ev {kf : Nat} {l0 : List Int} {r : List Int} (H : spec_DrawGetRec.f kf l0 = some r) : Spec Tryz.prog 12 [.v (.row (List.map e5 l0))] [] (.v (.row (List.map e5 r))) [] := by
  simp only [spec_DrawGetRec.f, Option.bind_some, List.nil_append, if_true, if_false, Bool.false_eq_true, nilB, nilE] at H
  refine fn_okF (E := env) Tryz.func12 (by rfl) rfl (n := 43) (by rfl) ?_
  repeat' ((conv => whnf); first
           | ((with_reducible have hp := peel_ H); clear H; obtain ⟨_, H⟩ := hp)
           | ((with_reducible have hp := peeln_ H); clear H; obtain ⟨_, H⟩ := hp)
           | (with_reducible replace H := itet_ H)
           | (with_reducible replace H := itef_ H)
           | ((with_reducible refine sideid_ ?_); refine side_ ?_)
           | ((with_reducible refine seqid_ ?_); first
             | ((with_reducible refine scg_ 3 ?_); refine scut_ 3 (fun s h => ∃ x4 x21 x583000 x583001 x583002, spec_DrawGetRec.j0 kf x4 x21 x583000 x583001 x583002 = some r ∧ s = spr 44 0 [(3, .ptr 0 0), (4, .own 1 (List.map e5 x4).length), (21, .v (.b x21))] ∧ h = [.box 115 [.v (.row (List.map e5 x583000)), .v (.i .i64 x583001), .v (.i .i64 x583002)], .arr 1 5 false (List.map e5 x4)]) ?_ ?_)
             | (refine sgo_ ?_))
           | ((with_reducible refine brid_ ?_); first
             | (with_reducible refine brct_ ?_)
             | (with_reducible refine brcf_ ?_)
             | (with_reducible refine brt_ ?_)
             | (with_reducible refine brf_ ?_)
             | (refine br_ H (by with_reducible first | rfl | exact bi_ _ _ | exact bd_ _ | exact bs_ _ _) (fun _ H => ?_) (fun _ H => ?_))
             | (refine brn_ H (by with_reducible first | rfl | exact bni_ _ _ | exact bin_ _ _ | exact bn_ _ | exact bs0_ _ _ | exact bnn_ _) (fun _ H => ?_) (fun _ H => ?_))
             | (refine brt_ ?_)
             | (refine brf_ ?_)
             | (refine br_ H (by exact Eq.refl _) (fun _ H => ?_) (fun _ H => ?_))
             | (refine brn_ H (by exact Eq.refl _) (fun _ H => ?_) (fun _ H => ?_)))
           | ((with_reducible refine br2id_ ?_); first
             | (refine br2t_ ?_)
             | (refine br2f_ ?_))
           | ((with_reducible refine normid_ ?_); first
             | (refine norm_nilapp ?_)
             | (refine norm_appnil ?_)
             | (refine norm_app ?_)
             | (refine norm_t ?_)
             | (refine norm_d ?_)
             | (refine norm_td ?_)
             | (refine norm_set (e := 5) (f := e5) _ rfl ?_)
             | (refine norm_rep (e := 5) (f := e5) _ rfl ?_)
             | (refine norm_lit (e := 5) (n := 0) (f := e5) [] rfl ?_))
           | ((with_reducible refine elemid_ ?_); refine elem_ (f := e5) 0 (rd _ _) rfl ?_ (by first | assumption | decide | omega) (by first | assumption | omega))
           | ((with_reducible refine lenid_ ?_); refine lenm_ ?_)
           | ((with_reducible refine strid_ ?_); first
             | (refine stre_ ?_)
             | (refine stre0_ ?_))
           | ((with_reducible refine callid_ ?_); have hp := bnd_ H; clear H; obtain ⟨_, ht, H⟩ := hp; first
             | (refine call_ (spec_l1New_ev ht) rfl rfl ?_)
             | (refine call_ (spec_PutRec_ev ht) rfl rfl ?_)
             | (refine call_ (spec_l1Below_ev ht) rfl rfl ?_)
             | (refine call_ (spec_l4Draw_ev ht) rfl rfl ?_)
             | (refine call_ (spec_l1Once_ev ht) rfl rfl ?_)
             | (refine call_ (spec_PutWord_ev ht) rfl rfl ?_)
             | (refine call_ (spec_Sum_ev ht) rfl rfl ?_)
             | (refine call_ (spec_l1Bend_ev ht) rfl rfl ?_))
           | ((with_reducible refine exid_ ?_); have hk := idH_ (F := fun k => spec_DrawGetRec.j0 k _ _ _ _ _) H; refine weakK_ (ex := []) (us := []) (bs := []) (ms := (bsp 44 0 [3, 4, 21])) ?_; (conv => whnf); refine ⟨_, _, _, _, _, hk, rfl, rfl⟩)
           | ((with_reducible refine allid_ ?_); intro s h hj; clear H; obtain ⟨x4, x21, x583000, x583001, x583002, H, rfl, rfl⟩ := hj; have hk := suc_ (g := fun k => spec_DrawGetRec.j0 k _ _ _ _ _) H (by simp only [spec_DrawGetRec.j0]); obtain ⟨kf, hk⟩ := hk; subst hk; simp only [spec_DrawGetRec.j0, Option.bind_some, List.nil_append, if_true, if_false, Bool.false_eq_true, nilB, nilE] at H)
           | ((with_reducible refine finid_ ?_); first
             | (refine finK_ [] ?_; (conv => whnf); replace H := Option.some.inj H; subst H; (conv => whnf); refine ⟨rfl, ?_⟩; first | rfl | (repeat' (first | rfl | refine own_eq ?_ | refine tup_eq ?_ | refine agg_eq ?_ | refine cons_eq ?_ ?_ | refine vi_eq ?_ | simp only [List.length_map, List.length_set, wm_])))
             | (refine finD_ [] ?_; (conv => whnf); refine side_ ?_; replace H := Option.some.inj H; subst H; (conv => whnf); refine ⟨rfl, ?_⟩; first | rfl | (repeat' (first | rfl | refine own_eq ?_ | refine tup_eq ?_ | refine agg_eq ?_ | refine cons_eq ?_ ?_ | refine vi_eq ?_ | simp only [List.length_map, List.length_set, wm_])))))
end Go.Proofs.YthkepmicdpgbbaaGreatDoor.E

/- What the functions' codes come to. -/
namespace Go.Proofs.YthkepmicdpgbbaaGreatDoor.E
open Go Go.RowKit Go.Proofs.YthkepmicdpgbbaaGreatDoorW.PrintWords Go.Proofs.YthkepmicdpgbbaaGreatDoor.P
set_option linter.unusedVariables false
set_option linter.unusedSimpArgs false
set_option maxHeartbeats 0
set_option maxRecDepth 100000
theorem impl_GetWord_ev {l0 : List Int} {a1 : Int} {r : Int × Int × Bool} (H : impl_GetWord.f l0 a1 = some r) : Spec Tryz.prog 55 [.v (.row (List.map e5 l0)), .v (.i .i64 a1)] [] (.tup [.v (.i .i64 r.1), .v (.i .i64 r.2.1), .v (.b r.2.2)]) [] := by
  simp only [impl_GetWord.f, Option.bind_some, List.nil_append, if_true, if_false, Bool.false_eq_true, nilB, nilE] at H
  refine fn_okF (E := env) Tryz.func55 (by rfl) rfl (n := 26) (by rfl) ?_
  repeat' ((conv => whnf); first
           | ((with_reducible have hp := peel_ H); clear H; obtain ⟨_, H⟩ := hp)
           | ((with_reducible have hp := peeln_ H); clear H; obtain ⟨_, H⟩ := hp)
           | (with_reducible replace H := itet_ H)
           | (with_reducible replace H := itef_ H)
           | ((with_reducible refine sideid_ ?_); refine side_ ?_)
           | ((with_reducible refine seqid_ ?_); refine sgo_ ?_)
           | ((with_reducible refine brid_ ?_); first
             | (with_reducible refine brct_ ?_)
             | (with_reducible refine brcf_ ?_)
             | (with_reducible refine brt_ ?_)
             | (with_reducible refine brf_ ?_)
             | (refine br_ H (by with_reducible first | rfl | exact bi_ _ _ | exact bd_ _ | exact bs_ _ _) (fun _ H => ?_) (fun _ H => ?_))
             | (refine brn_ H (by with_reducible first | rfl | exact bni_ _ _ | exact bin_ _ _ | exact bn_ _ | exact bs0_ _ _ | exact bnn_ _) (fun _ H => ?_) (fun _ H => ?_))
             | (refine brt_ ?_)
             | (refine brf_ ?_)
             | (refine br_ H (by exact Eq.refl _) (fun _ H => ?_) (fun _ H => ?_))
             | (refine brn_ H (by exact Eq.refl _) (fun _ H => ?_) (fun _ H => ?_)))
           | ((with_reducible refine br2id_ ?_); first
             | (refine br2t_ ?_)
             | (refine br2f_ ?_))
           | ((with_reducible refine normid_ ?_); first
             | (refine norm_nilapp ?_)
             | (refine norm_appnil ?_)
             | (refine norm_app ?_)
             | (refine norm_t ?_)
             | (refine norm_d ?_)
             | (refine norm_td ?_)
             | (refine norm_set (e := 5) (f := e5) _ rfl ?_)
             | (refine norm_rep (e := 5) (f := e5) _ rfl ?_))
           | ((with_reducible refine elemid_ ?_); refine elem_ (f := e5) 0 (rd _ _) rfl ?_ (by first | assumption | decide | omega) (by first | assumption | omega))
           | ((with_reducible refine lenid_ ?_); refine lenm_ ?_)
           | ((with_reducible refine strid_ ?_); first
             | (refine stre_ ?_)
             | (refine stre0_ ?_))
           | ((with_reducible refine callid_ ?_); have hp := bnd_ H; clear H; obtain ⟨_, ht, H⟩ := hp; refine call_ (impl_isIn_ev ht) rfl rfl ?_)
           | ((with_reducible refine finid_ ?_); refine finK_ [] ?_; (conv => whnf); replace H := Option.some.inj H; subst H; (conv => whnf); refine ⟨rfl, ?_⟩; first | rfl | (repeat' (first | rfl | refine own_eq ?_ | refine tup_eq ?_ | refine agg_eq ?_ | refine cons_eq ?_ ?_ | refine vi_eq ?_ | simp only [List.length_map, List.length_set, wm_]))))
end Go.Proofs.YthkepmicdpgbbaaGreatDoor.E

/- What the functions' codes come to. -/
namespace Go.Proofs.YthkepmicdpgbbaaGreatDoor.E
open Go Go.RowKit Go.Proofs.YthkepmicdpgbbaaGreatDoorW.PrintWords Go.Proofs.YthkepmicdpgbbaaGreatDoor.P
set_option linter.unusedVariables false
set_option linter.unusedSimpArgs false
set_option maxHeartbeats 0
set_option maxRecDepth 100000
theorem impl_GetText_ev {kf : Nat} {l0 : List Int} {a1 : Int} {r : ByteArray × Int × Bool} (H : impl_GetText.f kf l0 a1 = some r) : Spec Tryz.prog 56 [.v (.row (List.map e5 l0)), .v (.i .i64 a1)] [] (.tup [.v (.s r.1), .v (.i .i64 r.2.1), .v (.b r.2.2)]) [] := by
  simp only [impl_GetText.f, Option.bind_some, List.nil_append, if_true, if_false, Bool.false_eq_true, nilB, nilE] at H
  refine fn_okF (E := env) Tryz.func56 (by rfl) rfl (n := 45) (by rfl) ?_
  repeat' ((conv => whnf); first
           | ((with_reducible have hp := peel_ H); clear H; obtain ⟨_, H⟩ := hp)
           | ((with_reducible have hp := peeln_ H); clear H; obtain ⟨_, H⟩ := hp)
           | (with_reducible replace H := itet_ H)
           | (with_reducible replace H := itef_ H)
           | ((with_reducible refine sideid_ ?_); refine side_ ?_)
           | ((with_reducible refine seqid_ ?_); first
             | ((with_reducible refine scg_ 1 ?_); refine scut_ 1 (fun s h => ∃ x0 x1 x27, impl_GetText.j0 kf x0 x1 x27 = some r ∧ s = spr 47 0 [(0, .v (.row (List.map e5 x0))), (1, .v (.i .i64 x1)), (27, .v (.b x27))] ∧ h = []) ?_ ?_)
             | (refine sgo_ ?_))
           | ((with_reducible refine brid_ ?_); first
             | (with_reducible refine brct_ ?_)
             | (with_reducible refine brcf_ ?_)
             | (with_reducible refine brt_ ?_)
             | (with_reducible refine brf_ ?_)
             | (refine br_ H (by with_reducible first | rfl | exact bi_ _ _ | exact bd_ _ | exact bs_ _ _) (fun _ H => ?_) (fun _ H => ?_))
             | (refine brn_ H (by with_reducible first | rfl | exact bni_ _ _ | exact bin_ _ _ | exact bn_ _ | exact bs0_ _ _ | exact bnn_ _) (fun _ H => ?_) (fun _ H => ?_))
             | (refine brt_ ?_)
             | (refine brf_ ?_)
             | (refine br_ H (by exact Eq.refl _) (fun _ H => ?_) (fun _ H => ?_))
             | (refine brn_ H (by exact Eq.refl _) (fun _ H => ?_) (fun _ H => ?_)))
           | ((with_reducible refine br2id_ ?_); first
             | (refine br2t_ ?_)
             | (refine br2f_ ?_))
           | ((with_reducible refine normid_ ?_); first
             | (refine norm_nilapp ?_)
             | (refine norm_appnil ?_)
             | (refine norm_app ?_)
             | (refine norm_t ?_)
             | (refine norm_d ?_)
             | (refine norm_td ?_)
             | (refine norm_set (e := 5) (f := e5) _ rfl ?_)
             | (refine norm_rep (e := 5) (f := e5) _ rfl ?_))
           | ((with_reducible refine elemid_ ?_); refine elem_ (f := e5) 0 (rd _ _) rfl ?_ (by first | assumption | decide | omega) (by first | assumption | omega))
           | ((with_reducible refine lenid_ ?_); refine lenm_ ?_)
           | ((with_reducible refine strid_ ?_); first
             | (refine stre_ ?_)
             | (refine stre0_ ?_))
           | ((with_reducible refine callid_ ?_); have hp := bnd_ H; clear H; obtain ⟨_, ht, H⟩ := hp; first
             | (refine call_ (impl_isIn_ev ht) rfl rfl ?_)
             | (refine call_ (impl_TextOk_ev ht) rfl rfl ?_))
           | ((with_reducible refine exid_ ?_); have hk := idH_ (F := fun k => impl_GetText.j0 k _ _ _) H; refine weakK_ (ex := []) (us := []) (bs := []) (ms := (bsp 47 0 [0, 1, 27])) ?_; (conv => whnf); refine ⟨_, _, _, hk, rfl, rfl⟩)
           | ((with_reducible refine allid_ ?_); intro s h hj; clear H; obtain ⟨x0, x1, x27, H, rfl, rfl⟩ := hj; have hk := suc_ (g := fun k => impl_GetText.j0 k _ _ _) H (by simp only [impl_GetText.j0]); obtain ⟨kf, hk⟩ := hk; subst hk; simp only [impl_GetText.j0, Option.bind_some, List.nil_append, if_true, if_false, Bool.false_eq_true, nilB, nilE] at H)
           | ((with_reducible refine finid_ ?_); refine finK_ [] ?_; (conv => whnf); replace H := Option.some.inj H; subst H; (conv => whnf); refine ⟨rfl, ?_⟩; first | rfl | (repeat' (first | rfl | refine own_eq ?_ | refine tup_eq ?_ | refine agg_eq ?_ | refine cons_eq ?_ ?_ | refine vi_eq ?_ | simp only [List.length_map, List.length_set, wm_]))))
end Go.Proofs.YthkepmicdpgbbaaGreatDoor.E

/- What the functions' codes come to. -/
namespace Go.Proofs.YthkepmicdpgbbaaGreatDoor.E
open Go Go.RowKit Go.Proofs.YthkepmicdpgbbaaGreatDoorW.PrintWords Go.Proofs.YthkepmicdpgbbaaGreatDoor.P
set_option linter.unusedVariables false
set_option linter.unusedSimpArgs false
set_option maxHeartbeats 0
set_option maxRecDepth 100000
theorem bytes_Equal_ev {l0 : List Int} {l1 : List Int} {r : Bool} (H : bytes_Equal.f l0 l1 = some r) : Spec Tryz.prog 57 [.v (.row (List.map e5 l0)), .v (.row (List.map e5 l1))] [] (.v (.b r)) [] := by
  simp only [bytes_Equal.f, Option.bind_some, List.nil_append, if_true, if_false, Bool.false_eq_true, nilB, nilE] at H
  refine fn_okF (E := env) Tryz.func57 (by rfl) rfl (n := 8) (by rfl) ?_
  repeat' ((conv => whnf); first
           | ((with_reducible have hp := peel_ H); clear H; obtain ⟨_, H⟩ := hp)
           | ((with_reducible have hp := peeln_ H); clear H; obtain ⟨_, H⟩ := hp)
           | (with_reducible replace H := itet_ H)
           | (with_reducible replace H := itef_ H)
           | ((with_reducible refine sideid_ ?_); refine side_ ?_)
           | ((with_reducible refine seqid_ ?_); refine sgo_ ?_)
           | ((with_reducible refine brid_ ?_); first
             | (with_reducible refine brct_ ?_)
             | (with_reducible refine brcf_ ?_)
             | (with_reducible refine brt_ ?_)
             | (with_reducible refine brf_ ?_)
             | (refine br_ H (by with_reducible first | rfl | exact bi_ _ _ | exact bd_ _ | exact bs_ _ _) (fun _ H => ?_) (fun _ H => ?_))
             | (refine brn_ H (by with_reducible first | rfl | exact bni_ _ _ | exact bin_ _ _ | exact bn_ _ | exact bs0_ _ _ | exact bnn_ _) (fun _ H => ?_) (fun _ H => ?_))
             | (refine brt_ ?_)
             | (refine brf_ ?_)
             | (refine br_ H (by exact Eq.refl _) (fun _ H => ?_) (fun _ H => ?_))
             | (refine brn_ H (by exact Eq.refl _) (fun _ H => ?_) (fun _ H => ?_)))
           | ((with_reducible refine br2id_ ?_); first
             | (refine br2t_ ?_)
             | (refine br2f_ ?_))
           | ((with_reducible refine normid_ ?_); first
             | (refine norm_nilapp ?_)
             | (refine norm_appnil ?_)
             | (refine norm_app ?_)
             | (refine norm_t ?_)
             | (refine norm_d ?_)
             | (refine norm_td ?_)
             | (refine norm_set (e := 5) (f := e5) _ rfl ?_)
             | (refine norm_rep (e := 5) (f := e5) _ rfl ?_))
           | ((with_reducible refine elemid_ ?_); refine elem_ (f := e5) 0 (rd _ _) rfl ?_ (by first | assumption | decide | omega) (by first | assumption | omega))
           | ((with_reducible refine lenid_ ?_); refine lenm_ ?_)
           | ((with_reducible refine strid_ ?_); first
             | (refine stre_ ?_)
             | (refine stre0_ ?_))
           | ((with_reducible refine finid_ ?_); refine finK_ [] ?_; (conv => whnf); replace H := Option.some.inj H; subst H; (conv => whnf); refine ⟨rfl, ?_⟩; first | rfl | (repeat' (first | rfl | refine own_eq ?_ | refine tup_eq ?_ | refine agg_eq ?_ | refine cons_eq ?_ ?_ | refine vi_eq ?_ | simp only [List.length_map, List.length_set, wm_]))))
end Go.Proofs.YthkepmicdpgbbaaGreatDoor.E

/- What the functions' codes come to. -/
namespace Go.Proofs.YthkepmicdpgbbaaGreatDoor.E
open Go Go.RowKit Go.Proofs.YthkepmicdpgbbaaGreatDoorW.PrintWords Go.Proofs.YthkepmicdpgbbaaGreatDoor.P
set_option linter.unusedVariables false
set_option linter.unusedSimpArgs false
set_option maxHeartbeats 0
set_option maxRecDepth 100000
theorem impl_GetRec_ev {kf : Nat} {l0 : List Int} {r : Int × Int × Int × Int × Int × ByteArray × Bool} (H : impl_GetRec.f kf l0 = some r) : Spec Tryz.prog 13 [.v (.row (List.map e5 l0))] [] (.tup [.v (.i .i64 r.1), .v (.i .i64 r.2.1), .agg [.v (.i .i64 r.2.2.1), .v (.i .i64 r.2.2.2.1), .v (.i .i64 r.2.2.2.2.1), .v (.s r.2.2.2.2.2.1)], .v (.b r.2.2.2.2.2.2)]) [] := by
  simp only [impl_GetRec.f, Option.bind_some, List.nil_append, if_true, if_false, Bool.false_eq_true, nilB, nilE] at H
  refine fn_okF (E := env) Tryz.func13 (by rfl) rfl (n := 68) (by rfl) ?_
  repeat' ((conv => whnf); first
           | ((with_reducible have hp := peel_ H); clear H; obtain ⟨_, H⟩ := hp)
           | ((with_reducible have hp := peeln_ H); clear H; obtain ⟨_, H⟩ := hp)
           | (with_reducible replace H := itet_ H)
           | (with_reducible replace H := itef_ H)
           | ((with_reducible refine sideid_ ?_); refine side_ ?_)
           | ((with_reducible refine seqid_ ?_); refine sgo_ ?_)
           | ((with_reducible refine brid_ ?_); first
             | (with_reducible refine brct_ ?_)
             | (with_reducible refine brcf_ ?_)
             | (with_reducible refine brt_ ?_)
             | (with_reducible refine brf_ ?_)
             | (refine br_ H (by with_reducible first | rfl | exact bi_ _ _ | exact bd_ _ | exact bs_ _ _) (fun _ H => ?_) (fun _ H => ?_))
             | (refine brn_ H (by with_reducible first | rfl | exact bni_ _ _ | exact bin_ _ _ | exact bn_ _ | exact bs0_ _ _ | exact bnn_ _) (fun _ H => ?_) (fun _ H => ?_))
             | (refine brt_ ?_)
             | (refine brf_ ?_)
             | (refine br_ H (by exact Eq.refl _) (fun _ H => ?_) (fun _ H => ?_))
             | (refine brn_ H (by exact Eq.refl _) (fun _ H => ?_) (fun _ H => ?_)))
           | ((with_reducible refine br2id_ ?_); first
             | (refine br2t_ ?_)
             | (refine br2f_ ?_))
           | ((with_reducible refine normid_ ?_); first
             | (refine norm_nilapp ?_)
             | (refine norm_appnil ?_)
             | (refine norm_app ?_)
             | (refine norm_t ?_)
             | (refine norm_d ?_)
             | (refine norm_td ?_)
             | (refine norm_set (e := 5) (f := e5) _ rfl ?_)
             | (refine norm_rep (e := 5) (f := e5) _ rfl ?_))
           | ((with_reducible refine elemid_ ?_); refine elem_ (f := e5) 0 (rd _ _) rfl ?_ (by first | assumption | decide | omega) (by first | assumption | omega))
           | ((with_reducible refine lenid_ ?_); refine lenm_ ?_)
           | ((with_reducible refine strid_ ?_); first
             | (refine stre_ ?_)
             | (refine stre0_ ?_))
           | ((with_reducible refine callid_ ?_); have hp := bnd_ H; clear H; obtain ⟨_, ht, H⟩ := hp; first
             | (refine call_ (impl_PutRec_ev ht) rfl rfl ?_)
             | (refine call_ (impl_GetWord_ev ht) rfl rfl ?_)
             | (refine call_ (impl_GetText_ev ht) rfl rfl ?_)
             | (refine call_ (bytes_Equal_ev ht) rfl rfl ?_))
           | ((with_reducible refine finid_ ?_); refine finK_ [] ?_; (conv => whnf); replace H := Option.some.inj H; subst H; (conv => whnf); refine ⟨rfl, ?_⟩; first | rfl | (repeat' (first | rfl | refine own_eq ?_ | refine tup_eq ?_ | refine agg_eq ?_ | refine cons_eq ?_ ?_ | refine vi_eq ?_ | simp only [List.length_map, List.length_set, wm_]))))
end Go.Proofs.YthkepmicdpgbbaaGreatDoor.E

/- What the functions' codes come to. -/
namespace Go.Proofs.YthkepmicdpgbbaaGreatDoor.E
open Go Go.RowKit Go.Proofs.YthkepmicdpgbbaaGreatDoorW.PrintWords Go.Proofs.YthkepmicdpgbbaaGreatDoor.P
set_option linter.unusedVariables false
set_option linter.unusedSimpArgs false
set_option maxHeartbeats 0
set_option maxRecDepth 100000
theorem spec_GetWord_ev {l0 : List Int} {a1 : Int} {r : Int × Int × Bool} (H : spec_GetWord.f l0 a1 = some r) : Spec Tryz.prog 58 [.v (.row (List.map e5 l0)), .v (.i .i64 a1)] [] (.tup [.v (.i .i64 r.1), .v (.i .i64 r.2.1), .v (.b r.2.2)]) [] := by
  simp only [spec_GetWord.f, Option.bind_some, List.nil_append, if_true, if_false, Bool.false_eq_true, nilB, nilE] at H
  refine fn_okF (E := env) Tryz.func58 (by rfl) rfl (n := 29) (by rfl) ?_
  repeat' ((conv => whnf); first
           | ((with_reducible have hp := peel_ H); clear H; obtain ⟨_, H⟩ := hp)
           | ((with_reducible have hp := peeln_ H); clear H; obtain ⟨_, H⟩ := hp)
           | (with_reducible replace H := itet_ H)
           | (with_reducible replace H := itef_ H)
           | ((with_reducible refine sideid_ ?_); refine side_ ?_)
           | ((with_reducible refine seqid_ ?_); refine sgo_ ?_)
           | ((with_reducible refine brid_ ?_); first
             | (with_reducible refine brct_ ?_)
             | (with_reducible refine brcf_ ?_)
             | (with_reducible refine brt_ ?_)
             | (with_reducible refine brf_ ?_)
             | (refine br_ H (by with_reducible first | rfl | exact bi_ _ _ | exact bd_ _ | exact bs_ _ _) (fun _ H => ?_) (fun _ H => ?_))
             | (refine brn_ H (by with_reducible first | rfl | exact bni_ _ _ | exact bin_ _ _ | exact bn_ _ | exact bs0_ _ _ | exact bnn_ _) (fun _ H => ?_) (fun _ H => ?_))
             | (refine brt_ ?_)
             | (refine brf_ ?_)
             | (refine br_ H (by exact Eq.refl _) (fun _ H => ?_) (fun _ H => ?_))
             | (refine brn_ H (by exact Eq.refl _) (fun _ H => ?_) (fun _ H => ?_)))
           | ((with_reducible refine br2id_ ?_); first
             | (refine br2t_ ?_)
             | (refine br2f_ ?_))
           | ((with_reducible refine normid_ ?_); first
             | (refine norm_nilapp ?_)
             | (refine norm_appnil ?_)
             | (refine norm_app ?_)
             | (refine norm_t ?_)
             | (refine norm_d ?_)
             | (refine norm_td ?_)
             | (refine norm_set (e := 5) (f := e5) _ rfl ?_)
             | (refine norm_rep (e := 5) (f := e5) _ rfl ?_))
           | ((with_reducible refine elemid_ ?_); refine elem_ (f := e5) 0 (rd _ _) rfl ?_ (by first | assumption | decide | omega) (by first | assumption | omega))
           | ((with_reducible refine lenid_ ?_); refine lenm_ ?_)
           | ((with_reducible refine strid_ ?_); first
             | (refine stre_ ?_)
             | (refine stre0_ ?_))
           | ((with_reducible refine finid_ ?_); refine finK_ [] ?_; (conv => whnf); replace H := Option.some.inj H; subst H; (conv => whnf); refine ⟨rfl, ?_⟩; first | rfl | (repeat' (first | rfl | refine own_eq ?_ | refine tup_eq ?_ | refine agg_eq ?_ | refine cons_eq ?_ ?_ | refine vi_eq ?_ | simp only [List.length_map, List.length_set, wm_]))))
end Go.Proofs.YthkepmicdpgbbaaGreatDoor.E

/- What the functions' codes come to. -/
namespace Go.Proofs.YthkepmicdpgbbaaGreatDoor.E
open Go Go.RowKit Go.Proofs.YthkepmicdpgbbaaGreatDoorW.PrintWords Go.Proofs.YthkepmicdpgbbaaGreatDoor.P
set_option linter.unusedVariables false
set_option linter.unusedSimpArgs false
set_option maxHeartbeats 0
set_option maxRecDepth 100000
theorem spec_GetText_ev {kf : Nat} {l0 : List Int} {a1 : Int} {r : ByteArray × Int × Bool} (H : spec_GetText.f kf l0 a1 = some r) : Spec Tryz.prog 59 [.v (.row (List.map e5 l0)), .v (.i .i64 a1)] [] (.tup [.v (.s r.1), .v (.i .i64 r.2.1), .v (.b r.2.2)]) [] := by
  simp only [spec_GetText.f, Option.bind_some, List.nil_append, if_true, if_false, Bool.false_eq_true, nilB, nilE] at H
  refine fn_okF (E := env) Tryz.func59 (by rfl) rfl (n := 52) (by rfl) ?_
  repeat' ((conv => whnf); first
           | ((with_reducible have hp := peel_ H); clear H; obtain ⟨_, H⟩ := hp)
           | ((with_reducible have hp := peeln_ H); clear H; obtain ⟨_, H⟩ := hp)
           | (with_reducible replace H := itet_ H)
           | (with_reducible replace H := itef_ H)
           | ((with_reducible refine sideid_ ?_); refine side_ ?_)
           | ((with_reducible refine seqid_ ?_); first
             | ((with_reducible refine scg_ 1 ?_); refine scut_ 1 (fun s h => ∃ x0 x1 x15, spec_GetText.j0 kf x0 x1 x15 = some r ∧ s = spr 54 0 [(0, .v (.row (List.map e5 x0))), (1, .v (.i .i64 x1)), (15, .v (.b x15))] ∧ h = []) ?_ ?_)
             | (refine sgo_ ?_))
           | ((with_reducible refine brid_ ?_); first
             | (with_reducible refine brct_ ?_)
             | (with_reducible refine brcf_ ?_)
             | (with_reducible refine brt_ ?_)
             | (with_reducible refine brf_ ?_)
             | (refine br_ H (by with_reducible first | rfl | exact bi_ _ _ | exact bd_ _ | exact bs_ _ _) (fun _ H => ?_) (fun _ H => ?_))
             | (refine brn_ H (by with_reducible first | rfl | exact bni_ _ _ | exact bin_ _ _ | exact bn_ _ | exact bs0_ _ _ | exact bnn_ _) (fun _ H => ?_) (fun _ H => ?_))
             | (refine brt_ ?_)
             | (refine brf_ ?_)
             | (refine br_ H (by exact Eq.refl _) (fun _ H => ?_) (fun _ H => ?_))
             | (refine brn_ H (by exact Eq.refl _) (fun _ H => ?_) (fun _ H => ?_)))
           | ((with_reducible refine br2id_ ?_); first
             | (refine br2t_ ?_)
             | (refine br2f_ ?_))
           | ((with_reducible refine normid_ ?_); first
             | (refine norm_nilapp ?_)
             | (refine norm_appnil ?_)
             | (refine norm_app ?_)
             | (refine norm_t ?_)
             | (refine norm_d ?_)
             | (refine norm_td ?_)
             | (refine norm_set (e := 5) (f := e5) _ rfl ?_)
             | (refine norm_rep (e := 5) (f := e5) _ rfl ?_))
           | ((with_reducible refine elemid_ ?_); refine elem_ (f := e5) 0 (rd _ _) rfl ?_ (by first | assumption | decide | omega) (by first | assumption | omega))
           | ((with_reducible refine lenid_ ?_); refine lenm_ ?_)
           | ((with_reducible refine strid_ ?_); first
             | (refine stre_ ?_)
             | (refine stre0_ ?_))
           | ((with_reducible refine callid_ ?_); have hp := bnd_ H; clear H; obtain ⟨_, ht, H⟩ := hp; refine call_ (spec_TextOk_ev ht) rfl rfl ?_)
           | ((with_reducible refine exid_ ?_); have hk := idH_ (F := fun k => spec_GetText.j0 k _ _ _) H; refine weakK_ (ex := []) (us := []) (bs := []) (ms := (bsp 54 0 [0, 1, 15])) ?_; (conv => whnf); refine ⟨_, _, _, hk, rfl, rfl⟩)
           | ((with_reducible refine allid_ ?_); intro s h hj; clear H; obtain ⟨x0, x1, x15, H, rfl, rfl⟩ := hj; have hk := suc_ (g := fun k => spec_GetText.j0 k _ _ _) H (by simp only [spec_GetText.j0]); obtain ⟨kf, hk⟩ := hk; subst hk; simp only [spec_GetText.j0, Option.bind_some, List.nil_append, if_true, if_false, Bool.false_eq_true, nilB, nilE] at H)
           | ((with_reducible refine finid_ ?_); refine finK_ [] ?_; (conv => whnf); replace H := Option.some.inj H; subst H; (conv => whnf); refine ⟨rfl, ?_⟩; first | rfl | (repeat' (first | rfl | refine own_eq ?_ | refine tup_eq ?_ | refine agg_eq ?_ | refine cons_eq ?_ ?_ | refine vi_eq ?_ | simp only [List.length_map, List.length_set, wm_]))))
end Go.Proofs.YthkepmicdpgbbaaGreatDoor.E

/- What the functions' codes come to. -/
namespace Go.Proofs.YthkepmicdpgbbaaGreatDoor.E
open Go Go.RowKit Go.Proofs.YthkepmicdpgbbaaGreatDoorW.PrintWords Go.Proofs.YthkepmicdpgbbaaGreatDoor.P
set_option linter.unusedVariables false
set_option linter.unusedSimpArgs false
set_option maxHeartbeats 0
set_option maxRecDepth 100000
theorem spec_l1Same_ev {l0 : List Int} {l1 : List Int} {r : Bool} (H : spec_l1Same.f l0 l1 = some r) : Spec Tryz.prog 60 [.v (.row (List.map e5 l0)), .v (.row (List.map e5 l1))] [] (.v (.b r)) [] := by
  simp only [spec_l1Same.f, Option.bind_some, List.nil_append, if_true, if_false, Bool.false_eq_true, nilB, nilE] at H
  refine fn_okF (E := env) Tryz.func60 (by rfl) rfl (n := 8) (by rfl) ?_
  repeat' ((conv => whnf); first
           | ((with_reducible have hp := peel_ H); clear H; obtain ⟨_, H⟩ := hp)
           | ((with_reducible have hp := peeln_ H); clear H; obtain ⟨_, H⟩ := hp)
           | (with_reducible replace H := itet_ H)
           | (with_reducible replace H := itef_ H)
           | ((with_reducible refine sideid_ ?_); refine side_ ?_)
           | ((with_reducible refine seqid_ ?_); refine sgo_ ?_)
           | ((with_reducible refine brid_ ?_); first
             | (with_reducible refine brct_ ?_)
             | (with_reducible refine brcf_ ?_)
             | (with_reducible refine brt_ ?_)
             | (with_reducible refine brf_ ?_)
             | (refine br_ H (by with_reducible first | rfl | exact bi_ _ _ | exact bd_ _ | exact bs_ _ _) (fun _ H => ?_) (fun _ H => ?_))
             | (refine brn_ H (by with_reducible first | rfl | exact bni_ _ _ | exact bin_ _ _ | exact bn_ _ | exact bs0_ _ _ | exact bnn_ _) (fun _ H => ?_) (fun _ H => ?_))
             | (refine brt_ ?_)
             | (refine brf_ ?_)
             | (refine br_ H (by exact Eq.refl _) (fun _ H => ?_) (fun _ H => ?_))
             | (refine brn_ H (by exact Eq.refl _) (fun _ H => ?_) (fun _ H => ?_)))
           | ((with_reducible refine br2id_ ?_); first
             | (refine br2t_ ?_)
             | (refine br2f_ ?_))
           | ((with_reducible refine normid_ ?_); first
             | (refine norm_nilapp ?_)
             | (refine norm_appnil ?_)
             | (refine norm_app ?_)
             | (refine norm_t ?_)
             | (refine norm_d ?_)
             | (refine norm_td ?_)
             | (refine norm_set (e := 5) (f := e5) _ rfl ?_)
             | (refine norm_rep (e := 5) (f := e5) _ rfl ?_))
           | ((with_reducible refine elemid_ ?_); refine elem_ (f := e5) 0 (rd _ _) rfl ?_ (by first | assumption | decide | omega) (by first | assumption | omega))
           | ((with_reducible refine lenid_ ?_); refine lenm_ ?_)
           | ((with_reducible refine strid_ ?_); first
             | (refine stre_ ?_)
             | (refine stre0_ ?_))
           | ((with_reducible refine finid_ ?_); refine finK_ [] ?_; (conv => whnf); replace H := Option.some.inj H; subst H; (conv => whnf); refine ⟨rfl, ?_⟩; first | rfl | (repeat' (first | rfl | refine own_eq ?_ | refine tup_eq ?_ | refine agg_eq ?_ | refine cons_eq ?_ ?_ | refine vi_eq ?_ | simp only [List.length_map, List.length_set, wm_]))))
end Go.Proofs.YthkepmicdpgbbaaGreatDoor.E

/- What the functions' codes come to. -/
namespace Go.Proofs.YthkepmicdpgbbaaGreatDoor.E
open Go Go.RowKit Go.Proofs.YthkepmicdpgbbaaGreatDoorW.PrintWords Go.Proofs.YthkepmicdpgbbaaGreatDoor.P
set_option linter.unusedVariables false
set_option linter.unusedSimpArgs false
set_option maxHeartbeats 0
set_option maxRecDepth 100000
theorem spec_GetRec_ev {kf : Nat} {l0 : List Int} {r : Int × Int × Int × Int × Int × ByteArray × Bool} (H : spec_GetRec.f kf l0 = some r) : Spec Tryz.prog 14 [.v (.row (List.map e5 l0))] [] (.tup [.v (.i .i64 r.1), .v (.i .i64 r.2.1), .agg [.v (.i .i64 r.2.2.1), .v (.i .i64 r.2.2.2.1), .v (.i .i64 r.2.2.2.2.1), .v (.s r.2.2.2.2.2.1)], .v (.b r.2.2.2.2.2.2)]) [] := by
  simp only [spec_GetRec.f, Option.bind_some, List.nil_append, if_true, if_false, Bool.false_eq_true, nilB, nilE] at H
  refine fn_okF (E := env) Tryz.func14 (by rfl) rfl (n := 77) (by rfl) ?_
  repeat' ((conv => whnf); first
           | ((with_reducible have hp := peel_ H); clear H; obtain ⟨_, H⟩ := hp)
           | ((with_reducible have hp := peeln_ H); clear H; obtain ⟨_, H⟩ := hp)
           | (with_reducible replace H := itet_ H)
           | (with_reducible replace H := itef_ H)
           | ((with_reducible refine sideid_ ?_); refine side_ ?_)
           | ((with_reducible refine seqid_ ?_); refine sgo_ ?_)
           | ((with_reducible refine brid_ ?_); first
             | (with_reducible refine brct_ ?_)
             | (with_reducible refine brcf_ ?_)
             | (with_reducible refine brt_ ?_)
             | (with_reducible refine brf_ ?_)
             | (refine br_ H (by with_reducible first | rfl | exact bi_ _ _ | exact bd_ _ | exact bs_ _ _) (fun _ H => ?_) (fun _ H => ?_))
             | (refine brn_ H (by with_reducible first | rfl | exact bni_ _ _ | exact bin_ _ _ | exact bn_ _ | exact bs0_ _ _ | exact bnn_ _) (fun _ H => ?_) (fun _ H => ?_))
             | (refine brt_ ?_)
             | (refine brf_ ?_)
             | (refine br_ H (by exact Eq.refl _) (fun _ H => ?_) (fun _ H => ?_))
             | (refine brn_ H (by exact Eq.refl _) (fun _ H => ?_) (fun _ H => ?_)))
           | ((with_reducible refine br2id_ ?_); first
             | (refine br2t_ ?_)
             | (refine br2f_ ?_))
           | ((with_reducible refine normid_ ?_); first
             | (refine norm_nilapp ?_)
             | (refine norm_appnil ?_)
             | (refine norm_app ?_)
             | (refine norm_t ?_)
             | (refine norm_d ?_)
             | (refine norm_td ?_)
             | (refine norm_set (e := 5) (f := e5) _ rfl ?_)
             | (refine norm_rep (e := 5) (f := e5) _ rfl ?_))
           | ((with_reducible refine elemid_ ?_); refine elem_ (f := e5) 0 (rd _ _) rfl ?_ (by first | assumption | decide | omega) (by first | assumption | omega))
           | ((with_reducible refine lenid_ ?_); refine lenm_ ?_)
           | ((with_reducible refine strid_ ?_); first
             | (refine stre_ ?_)
             | (refine stre0_ ?_))
           | ((with_reducible refine callid_ ?_); have hp := bnd_ H; clear H; obtain ⟨_, ht, H⟩ := hp; first
             | (refine call_ (spec_RecOk_ev ht) rfl rfl ?_)
             | (refine call_ (spec_PutRec_ev ht) rfl rfl ?_)
             | (refine call_ (spec_GetWord_ev ht) rfl rfl ?_)
             | (refine call_ (spec_GetText_ev ht) rfl rfl ?_)
             | (refine call_ (spec_l1Same_ev ht) rfl rfl ?_))
           | ((with_reducible refine finid_ ?_); refine finK_ [] ?_; (conv => whnf); replace H := Option.some.inj H; subst H; (conv => whnf); refine ⟨rfl, ?_⟩; first | rfl | (repeat' (first | rfl | refine own_eq ?_ | refine tup_eq ?_ | refine agg_eq ?_ | refine cons_eq ?_ ?_ | refine vi_eq ?_ | simp only [List.length_map, List.length_set, wm_]))))
end Go.Proofs.YthkepmicdpgbbaaGreatDoor.E

/- What the functions' codes come to. -/
namespace Go.Proofs.YthkepmicdpgbbaaGreatDoor.E
open Go Go.RowKit Go.Proofs.YthkepmicdpgbbaaGreatDoorW.PrintWords Go.Proofs.YthkepmicdpgbbaaGreatDoor.P
set_option linter.unusedVariables false
set_option linter.unusedSimpArgs false
set_option maxHeartbeats 0
set_option maxRecDepth 100000
theorem laws_same_ev {l0 : List Int} {l1 : List Int} {r : Bool} (H : laws_same.f l0 l1 = some r) : Spec Tryz.prog 17 [.v (.row (List.map e5 l0)), .v (.row (List.map e5 l1))] [] (.v (.b r)) [] := by
  simp only [laws_same.f, Option.bind_some, List.nil_append, if_true, if_false, Bool.false_eq_true, nilB, nilE] at H
  refine fn_okF (E := env) Tryz.func17 (by rfl) rfl (n := 8) (by rfl) ?_
  repeat' ((conv => whnf); first
           | ((with_reducible have hp := peel_ H); clear H; obtain ⟨_, H⟩ := hp)
           | ((with_reducible have hp := peeln_ H); clear H; obtain ⟨_, H⟩ := hp)
           | (with_reducible replace H := itet_ H)
           | (with_reducible replace H := itef_ H)
           | ((with_reducible refine sideid_ ?_); refine side_ ?_)
           | ((with_reducible refine seqid_ ?_); refine sgo_ ?_)
           | ((with_reducible refine brid_ ?_); first
             | (with_reducible refine brct_ ?_)
             | (with_reducible refine brcf_ ?_)
             | (with_reducible refine brt_ ?_)
             | (with_reducible refine brf_ ?_)
             | (refine br_ H (by with_reducible first | rfl | exact bi_ _ _ | exact bd_ _ | exact bs_ _ _) (fun _ H => ?_) (fun _ H => ?_))
             | (refine brn_ H (by with_reducible first | rfl | exact bni_ _ _ | exact bin_ _ _ | exact bn_ _ | exact bs0_ _ _ | exact bnn_ _) (fun _ H => ?_) (fun _ H => ?_))
             | (refine brt_ ?_)
             | (refine brf_ ?_)
             | (refine br_ H (by exact Eq.refl _) (fun _ H => ?_) (fun _ H => ?_))
             | (refine brn_ H (by exact Eq.refl _) (fun _ H => ?_) (fun _ H => ?_)))
           | ((with_reducible refine br2id_ ?_); first
             | (refine br2t_ ?_)
             | (refine br2f_ ?_))
           | ((with_reducible refine normid_ ?_); first
             | (refine norm_nilapp ?_)
             | (refine norm_appnil ?_)
             | (refine norm_app ?_)
             | (refine norm_t ?_)
             | (refine norm_d ?_)
             | (refine norm_td ?_)
             | (refine norm_set (e := 5) (f := e5) _ rfl ?_)
             | (refine norm_rep (e := 5) (f := e5) _ rfl ?_))
           | ((with_reducible refine elemid_ ?_); refine elem_ (f := e5) 0 (rd _ _) rfl ?_ (by first | assumption | decide | omega) (by first | assumption | omega))
           | ((with_reducible refine lenid_ ?_); refine lenm_ ?_)
           | ((with_reducible refine strid_ ?_); first
             | (refine stre_ ?_)
             | (refine stre0_ ?_))
           | ((with_reducible refine finid_ ?_); refine finK_ [] ?_; (conv => whnf); replace H := Option.some.inj H; subst H; (conv => whnf); refine ⟨rfl, ?_⟩; first | rfl | (repeat' (first | rfl | refine own_eq ?_ | refine tup_eq ?_ | refine agg_eq ?_ | refine cons_eq ?_ ?_ | refine vi_eq ?_ | simp only [List.length_map, List.length_set, wm_]))))
end Go.Proofs.YthkepmicdpgbbaaGreatDoor.E

/- What the functions' codes come to. -/
namespace Go.Proofs.YthkepmicdpgbbaaGreatDoor.E
open Go Go.RowKit Go.Proofs.YthkepmicdpgbbaaGreatDoorW.PrintWords Go.Proofs.YthkepmicdpgbbaaGreatDoor.P
set_option linter.unusedVariables false
set_option linter.unusedSimpArgs false
set_option maxHeartbeats 0
set_option maxRecDepth 100000
theorem laws_at_ev {l0 : List Int} {a1 : Int} {r : Int} (H : laws_at.f l0 a1 = some r) : Spec Tryz.prog 30 [.v (.row (List.map e5 l0)), .v (.i .i64 a1)] [] (.v (.i .i64 r)) [] := by
  simp only [laws_at.f, Option.bind_some, List.nil_append, if_true, if_false, Bool.false_eq_true, nilB, nilE] at H
  refine fn_okF (E := env) Tryz.func30 (by rfl) rfl (n := 19) (by rfl) ?_
  repeat' ((conv => whnf); first
           | ((with_reducible have hp := peel_ H); clear H; obtain ⟨_, H⟩ := hp)
           | ((with_reducible have hp := peeln_ H); clear H; obtain ⟨_, H⟩ := hp)
           | (with_reducible replace H := itet_ H)
           | (with_reducible replace H := itef_ H)
           | ((with_reducible refine sideid_ ?_); refine side_ ?_)
           | ((with_reducible refine seqid_ ?_); refine sgo_ ?_)
           | ((with_reducible refine brid_ ?_); first
             | (with_reducible refine brct_ ?_)
             | (with_reducible refine brcf_ ?_)
             | (with_reducible refine brt_ ?_)
             | (with_reducible refine brf_ ?_)
             | (refine br_ H (by with_reducible first | rfl | exact bi_ _ _ | exact bd_ _ | exact bs_ _ _) (fun _ H => ?_) (fun _ H => ?_))
             | (refine brn_ H (by with_reducible first | rfl | exact bni_ _ _ | exact bin_ _ _ | exact bn_ _ | exact bs0_ _ _ | exact bnn_ _) (fun _ H => ?_) (fun _ H => ?_))
             | (refine brt_ ?_)
             | (refine brf_ ?_)
             | (refine br_ H (by exact Eq.refl _) (fun _ H => ?_) (fun _ H => ?_))
             | (refine brn_ H (by exact Eq.refl _) (fun _ H => ?_) (fun _ H => ?_)))
           | ((with_reducible refine br2id_ ?_); first
             | (refine br2t_ ?_)
             | (refine br2f_ ?_))
           | ((with_reducible refine normid_ ?_); first
             | (refine norm_nilapp ?_)
             | (refine norm_appnil ?_)
             | (refine norm_app ?_)
             | (refine norm_t ?_)
             | (refine norm_d ?_)
             | (refine norm_td ?_)
             | (refine norm_set (e := 5) (f := e5) _ rfl ?_)
             | (refine norm_rep (e := 5) (f := e5) _ rfl ?_))
           | ((with_reducible refine elemid_ ?_); refine elem_ (f := e5) 0 (rd _ _) rfl ?_ (by first | assumption | decide | omega) (by first | assumption | omega))
           | ((with_reducible refine lenid_ ?_); refine lenm_ ?_)
           | ((with_reducible refine strid_ ?_); first
             | (refine stre_ ?_)
             | (refine stre0_ ?_))
           | ((with_reducible refine finid_ ?_); refine finK_ [] ?_; (conv => whnf); replace H := Option.some.inj H; subst H; (conv => whnf); refine ⟨rfl, ?_⟩; first | rfl | (repeat' (first | rfl | refine own_eq ?_ | refine tup_eq ?_ | refine agg_eq ?_ | refine cons_eq ?_ ?_ | refine vi_eq ?_ | simp only [List.length_map, List.length_set, wm_]))))
end Go.Proofs.YthkepmicdpgbbaaGreatDoor.E

/- What the functions' codes come to. -/
namespace Go.Proofs.YthkepmicdpgbbaaGreatDoor.E
open Go Go.RowKit Go.Proofs.YthkepmicdpgbbaaGreatDoorW.PrintWords Go.Proofs.YthkepmicdpgbbaaGreatDoor.P
set_option linter.unusedVariables false
set_option linter.unusedSimpArgs false
set_option maxHeartbeats 0
set_option maxRecDepth 100000
theorem laws_bent_ev {l0 : List Int} {l1 : List Int} {r : List Int} (H : laws_bent.f l0 l1 = some r) : Spec Tryz.prog 18 [.v (.row (List.map e5 l0)), .v (.row (List.map e5 l1))] [] (.own 0 (List.map e5 r).length) [.arr 1 5 false (List.map e5 r)] := by
  simp only [laws_bent.f, Option.bind_some, List.nil_append, if_true, if_false, Bool.false_eq_true, nilB, nilE] at H
  refine fn_okF (E := env) Tryz.func18 (by rfl) rfl (n := 34) (by rfl) ?_
  repeat' ((conv => whnf); first
           | ((with_reducible have hp := peel_ H); clear H; obtain ⟨_, H⟩ := hp)
           | ((with_reducible have hp := peeln_ H); clear H; obtain ⟨_, H⟩ := hp)
           | (with_reducible replace H := itet_ H)
           | (with_reducible replace H := itef_ H)
           | ((with_reducible refine sideid_ ?_); refine side_ ?_)
           | ((with_reducible refine seqid_ ?_); refine sgo_ ?_)
           | ((with_reducible refine brid_ ?_); first
             | (with_reducible refine brct_ ?_)
             | (with_reducible refine brcf_ ?_)
             | (with_reducible refine brt_ ?_)
             | (with_reducible refine brf_ ?_)
             | (refine br_ H (by with_reducible first | rfl | exact bi_ _ _ | exact bd_ _ | exact bs_ _ _) (fun _ H => ?_) (fun _ H => ?_))
             | (refine brn_ H (by with_reducible first | rfl | exact bni_ _ _ | exact bin_ _ _ | exact bn_ _ | exact bs0_ _ _ | exact bnn_ _) (fun _ H => ?_) (fun _ H => ?_))
             | (refine brt_ ?_)
             | (refine brf_ ?_)
             | (refine br_ H (by exact Eq.refl _) (fun _ H => ?_) (fun _ H => ?_))
             | (refine brn_ H (by exact Eq.refl _) (fun _ H => ?_) (fun _ H => ?_)))
           | ((with_reducible refine br2id_ ?_); first
             | (refine br2t_ ?_)
             | (refine br2f_ ?_))
           | ((with_reducible refine normid_ ?_); first
             | (refine norm_nilapp ?_)
             | (refine norm_appnil ?_)
             | (refine norm_app ?_)
             | (refine norm_t ?_)
             | (refine norm_d ?_)
             | (refine norm_td ?_)
             | (refine norm_set (e := 5) (f := e5) _ rfl ?_)
             | (refine norm_rep (e := 5) (f := e5) _ rfl ?_)
             | (refine norm_lit (e := 5) (n := 0) (f := e5) [] rfl ?_))
           | ((with_reducible refine elemid_ ?_); refine elem_ (f := e5) 0 (rd _ _) rfl ?_ (by first | assumption | decide | omega) (by first | assumption | omega))
           | ((with_reducible refine lenid_ ?_); refine lenm_ ?_)
           | ((with_reducible refine strid_ ?_); first
             | (refine stre_ ?_)
             | (refine stre0_ ?_))
           | ((with_reducible refine callid_ ?_); have hp := bnd_ H; clear H; obtain ⟨_, ht, H⟩ := hp; refine call_ (laws_at_ev ht) rfl rfl ?_)
           | ((with_reducible refine finid_ ?_); refine finK_ [] ?_; (conv => whnf); replace H := Option.some.inj H; subst H; (conv => whnf); refine ⟨rfl, ?_⟩; first | rfl | (repeat' (first | rfl | refine own_eq ?_ | refine tup_eq ?_ | refine agg_eq ?_ | refine cons_eq ?_ ?_ | refine vi_eq ?_ | simp only [List.length_map, List.length_set, wm_]))))
end Go.Proofs.YthkepmicdpgbbaaGreatDoor.E
