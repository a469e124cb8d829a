/- Texts of this seat's claims, put together: EvY, Enc -/
import Derived.Test.YthkepmicdpgbbaaDoorPkKB4
/- What the library's functions come to. -/
namespace Go.Proofs.YthkepmicdpgbbaaDoor.E
open Go Go.RowKit Go.Proofs.YthkepmicdpgbbaaDoorW.PrintWords Go.Proofs.YthkepmicdpgbbaaDoor.P
set_option linter.unusedVariables false
set_option maxRecDepth 100000
theorem impl_dbPlace_ev {l0 : List S55} {a1 : ByteArray} {r : Int} (H : impl_dbPlace.f l0 a1 = some r) : Spec Tryd.prog 71 [.v (.row (List.map (fun (p : S55) => ([.s p.f0, .i .i64 p.f1, .i .i64 p.f2, .i .i64 p.f3, .i .i64 p.f4] : List CV)) l0)), .v (.s a1)] [] (.v (.i .i64 r)) [] := by
  refine spec_val (callFunc_of Tryd.func71 (by rfl) (by rfl)) fun G w vals hgw hr => ?_
  simp only [RepsL, Reps] at hr
  obtain ⟨v, vs, h1, h2, u, us, rfl, h3, rfl⟩ := hr
  simp only [RepC] at h3
  subst h3
  obtain ⟨A0, c0, rfl, hc, hC, hs⟩ := kdC_of k55 _ (fun _ => rfl) (fun x I w cs h => by
    simp only [RepP, RepC] at h
    obtain ⟨_, _, rfl, rfl, _, _, rfl, rfl, _, _, rfl, rfl, _, _, rfl, rfl, _, _, rfl, rfl, _⟩ := h
    exact ⟨[_], _, rfl, rfl, [_], _, rfl, rfl, [_], _, rfl, rfl, [_], _, rfl, rfl, rfl⟩) h2
  obtain rfl : vals = #[.slice A0 l0.length c0, .string a1] := by rw [← Array.toList_inj, h1]
  refine (impl_dbPlace.calls A0 c0 l0 a1 r w hC hc H).mono fun e w' hq => ?_
  exact ⟨_, hq.1, hq.2, fun G => by simp only [Reps, RepC]⟩
theorem strconv_Itoa_97_ev {a0 : Int} {r : ByteArray} (H : strconv_Itoa_97.f a0 = some r) : Spec Tryd.prog 97 [.v (.i .i64 a0)] [] (.v (.s r)) [] := by
  refine spec_val (callFunc_of Tryd.func97 (by rfl) (by rfl)) fun G w vals hgw hr => ?_
  simp only [RepsL, Reps, RepC] at hr
  obtain ⟨v, vs, h1, rfl, rfl⟩ := hr
  obtain rfl : vals = #[.int .i64 a0] := by rw [← Array.toList_inj, h1]
  refine (strconv_Itoa_97.calls a0 r w hgw H).mono fun e w' hq => ?_
  exact ⟨_, hq.1, hq.2, fun G => by simp only [Reps, RepC]⟩
theorem strings_Cut_ev {a0 a1 : ByteArray} {r : ByteArray × ByteArray × Bool} (H : strings_Cut.f a0 a1 = some r) : Spec Tryd.prog 49 [.v (.s a0), .v (.s a1)] [] (.tup [.v (.s r.1), .v (.s r.2.1), .v (.b r.2.2)]) [] := by
  obtain ⟨r1, r2, r3⟩ := r
  refine spec_val (callFunc_of Tryd.func49 (by rfl) (by rfl)) fun G w vals hgw hr => ?_
  simp only [RepsL, Reps, RepC] at hr
  obtain ⟨v, vs, h1, rfl, u, us, rfl, rfl, rfl⟩ := hr
  obtain rfl : vals = #[.string a0, .string a1] := by rw [← Array.toList_inj, h1]
  refine (strings_Cut.calls a0 a1 r1 r2 r3 w hgw H).mono fun e w' hq => ?_
  exact ⟨_, hq.1, hq.2, fun G => by simp only [Reps, RepC, RepsL]; exact ⟨_, rfl, _, _, rfl, rfl, _, _, rfl, rfl, _, _, rfl, rfl, rfl⟩⟩
theorem strings_Join_ev {l0 : List ByteArray} {a1 r : ByteArray} (H : strings_Join.f l0 a1 = some r) : Spec Tryd.prog 66 [.v (.row (List.map (fun (x : ByteArray) => ([.s x] : List CV)) l0)), .v (.s a1)] [] (.v (.s r)) [] := by
  refine spec_val (callFunc_of Tryd.func66 (by rfl) (by rfl)) fun G w vals hgw hr => ?_
  simp only [RepsL, Reps] at hr
  obtain ⟨v, vs, h1, h2, u, us, rfl, h3, rfl⟩ := hr
  simp only [RepC] at h3
  subst h3
  obtain ⟨A0, c0, rfl, hc, hC, hs⟩ := kdC_of Kd.string _ (fun _ => rfl) (fun x I w cs h => by simp only [RepP, RepC] at h; obtain ⟨v, vs', rfl, rfl, _⟩ := h; rfl) h2
  obtain rfl : vals = #[.slice A0 l0.length c0, .string a1] := by rw [← Array.toList_inj, h1]
  by_cases hl : l0 = []
  · subst hl
    have hr : r = ⟨#[]⟩ := by
      unfold strings_Join.f at H
      split at H
      · rw [← Option.some.inj H]
        rfl
      · cases H
    subst hr
    refine (Tryd.strings_Join_none A0 c0 a1 w).mono fun e w' hq => ?_
    exact ⟨_, hq.1, hq.2 ▸ Below.refl _ _, fun G => by simp only [Reps, RepC]⟩
  · refine (strings_Join.calls A0 c0 l0 a1 r w hgw (hs hl) hC hc H).mono fun e w' hq => ?_
    exact ⟨_, hq.1, hq.2, fun G => by simp only [Reps, RepC]⟩
theorem strings_Split_ev {a0 a1 : ByteArray} {r : List ByteArray} (H : strings_Split.f a0 a1 = some r) : Spec Tryd.prog 48 [.v (.s a0), .v (.s a1)] [] (.own 0 (List.map (fun (x : ByteArray) => ([.s x] : List CV)) r).length) [.arr 1 9 false (List.map (fun (x : ByteArray) => ([.s x] : List CV)) r)] := by
  refine spec_row (by decide) (callFunc_of Tryd.func48 (by rfl) (by rfl)) fun G w vals hgw hr => ?_
  simp only [RepsL, Reps, RepC] at hr
  obtain ⟨v, vs, h1, rfl, u, us, rfl, rfl, rfl⟩ := hr
  obtain rfl : vals = #[.string a0, .string a1] := by rw [← Array.toList_inj, h1]
  refine (strings_Split.calls a0 a1 r w hgw H).mono fun e w' hq => ?_
  obtain ⟨v0, he, hR, hb⟩ := hq
  exact ⟨v0, he, hb, row_of_kd (f := fun x => [.s x]) (enc := Value.string) (h1 := fun _ => rfl) (fun _ _ _ _ => by simp only [RepP, RepC]; exact ⟨_, _, rfl, rfl, trivial⟩) (fun _ => rfl) hR⟩
theorem strings_SplitN_ev {a0 a1 : ByteArray} {a2 : Int} {r : List ByteArray} (H : strings_SplitN.f a0 a1 a2 = some r) : Spec Tryd.prog 50 [.v (.s a0), .v (.s a1), .v (.i .i64 a2)] [] (.own 0 (List.map (fun (x : ByteArray) => ([.s x] : List CV)) r).length) [.arr 1 9 false (List.map (fun (x : ByteArray) => ([.s x] : List CV)) r)] := by
  refine spec_row (by decide) (callFunc_of Tryd.func50 (by rfl) (by rfl)) fun G w vals hgw hr => ?_
  simp only [RepsL, Reps, RepC] at hr
  obtain ⟨v, vs, h1, rfl, u, us, rfl, rfl, u2, us2, rfl, rfl, rfl⟩ := hr
  obtain rfl : vals = #[.string a0, .string a1, .int .i64 a2] := by rw [← Array.toList_inj, h1]
  refine (strings_SplitN.calls a0 a1 a2 r w hgw H).mono fun e w' hq => ?_
  obtain ⟨v0, he, hR, hb⟩ := hq
  exact ⟨v0, he, hb, row_of_kd (f := fun x => [.s x]) (enc := Value.string) (h1 := fun _ => rfl) (fun _ _ _ _ => by simp only [RepP, RepC]; exact ⟨_, _, rfl, rfl, trivial⟩) (fun _ => rfl) hR⟩
end Go.Proofs.YthkepmicdpgbbaaDoor.E

/- What the cells of an element hold, by its type. -/
namespace Go.Proofs.YthkepmicdpgbbaaDoor.E
open Go Go.RowKit Go.Proofs.YthkepmicdpgbbaaDoorW.PrintWords Go.Proofs.YthkepmicdpgbbaaDoor.P
abbrev e3 (x : Int) : List CV := [.i .i64 x]
abbrev e5 (x : Int) : List CV := [.i .u8 x]
abbrev e9 (x : ByteArray) : List CV := [.s x]
abbrev e38 (p : S38) : List CV := [.i .i64 p.f0, .i .i64 p.f1, .i .i64 p.f2, .s p.f3]
abbrev e55 (p : S55) : List CV := [.s p.f0, .i .i64 p.f1, .i .i64 p.f2, .i .i64 p.f3, .i .i64 p.f4]
end Go.Proofs.YthkepmicdpgbbaaDoor.E
