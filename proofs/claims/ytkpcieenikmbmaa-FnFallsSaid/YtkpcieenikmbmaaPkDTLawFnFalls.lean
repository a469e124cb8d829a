/- Texts of this seat's claims, put together: CFnFalls, LawFnFalls -/
import Derived.Laws.StructEq
import Derived.Test.YtkpcieenikmbmaaRows
import Derived.WalkKit
import Derived.ProofKit
import Derived.OpenShut
import Derived.ShutString
import Derived.ChangeOld
import Derived.Below
import Derived.SizedLaws
import Derived.Test.YtkpcieenikmbmaaPkDB4
import Derived.Test.YtkpcieenikmbmaaPkDE1
import Derived.Test.YtkpcieenikmbmaaPkDE10
import Derived.Test.YtkpcieenikmbmaaPkDE11
import Derived.Test.YtkpcieenikmbmaaPkDE12
import Derived.Test.YtkpcieenikmbmaaPkDE13
import Derived.Test.YtkpcieenikmbmaaPkDE14
import Derived.Test.YtkpcieenikmbmaaPkDE15
import Derived.Test.YtkpcieenikmbmaaPkDE16
import Derived.Test.YtkpcieenikmbmaaPkDE18
import Derived.Test.YtkpcieenikmbmaaPkDE2
import Derived.Test.YtkpcieenikmbmaaPkDE21
import Derived.Test.YtkpcieenikmbmaaPkDE22
import Derived.Test.YtkpcieenikmbmaaPkDE23
import Derived.Test.YtkpcieenikmbmaaPkDE26
import Derived.Test.YtkpcieenikmbmaaPkDE27
import Derived.Test.YtkpcieenikmbmaaPkDE28
import Derived.Test.YtkpcieenikmbmaaPkDE29
import Derived.Test.YtkpcieenikmbmaaPkDE4
import Derived.Test.YtkpcieenikmbmaaPkDE5
import Derived.Test.YtkpcieenikmbmaaPkDE6
import Derived.Test.YtkpcieenikmbmaaPkDE7
import Derived.Test.YtkpcieenikmbmaaPkDE8
import Derived.Test.YtkpcieenikmbmaaPkDE9
import Derived.Test.YtkpcieenikmbmaaPkDP1
-- Written by xprint.py (by way of the kit's print program) out of the translation.
namespace Go.Proofs.Ytkpcieenikmbmaa.P
open Go.RowKit Go.Proofs.YtkpcieenikmbmaaW.PrintWords Go.Proofs.YtkpcieenikmbmaaW.PrintLast Go.Proofs.YtkpcieenikmbmaaW.PrintMore
attribute [local go_sem] max2_int min2_int max_two min_two max_three min_three max_four min_four   -- for this text's walks alone
open Go.Proofs.Ytkpcieenikmbmaa.E
set_option linter.unusedVariables false
set_option linter.unusedSimpArgs false

theorem laws_FnFalls.calls (k : Nat) (A0 : Option Addr) (c0 : Nat) (l0 : List Int) (r : Bool) (w : World) (hr0 : Kd.C (Kd.int .u8) w A0 l0.length l0) (hc0 : l0.length ≤ c0) (hr_ : Aside0 (r = true)) (h : laws_FnFalls.f k l0 = some r) :
    Calls Try.prog 9 #[.slice A0 l0.length c0] w fun e w' => e = .returned (.bool r) ∧ Below w.heap.size w w' := by
  refine calls_of_spec (laws_FnFalls_ev h) ⟨trivial⟩ ?_
  simp only [RepsL]
  exact ⟨_, _, rfl, (show RepC _ _ _ _ from repC_of G0_imm (fun _ => rfl) (by decide) hk_int hr0 hc0), rfl⟩
theorem laws_FnFalls.walk (P : laws_FnFalls.Pure) (a0 : Option Addr) (len0 cap0 : Nat) (z0 : List Int) (w : World) (w0 : (a0 = none ∧ len0 = 0 ∧ cap0 = 0 ∧ z0 = []) ∨ ∃ x, a0 = some x ∧ len0 ≤ cap0 ∧ cap0 ≤ maxLen ∧ z0.length = cap0 ∧ (∀ i, i < z0.length → w.cell? (x.add i) = some (.int .u8 (z0.getD i 0))) ∧ ∀ n ∈ z0, (Lit.int .u8 n).wf = true) (y0 : len0 * 1 ≤ 140737488351232) :
    Calls Try.prog 9 #[.slice a0 len0 cap0] w fun e w' => e = .returned (.bool true) ∧ Below w.heap.size w w' := by
  obtain ⟨l0, rfl, hr0, hm0, hw0, hc0⟩ := ReadsInt.ofRowC w0
  obtain ⟨k, h⟩ := P l0 hm0 y0 hw0
  refine (laws_FnFalls.calls k _ _ l0 true w (Kd.C_of_reads (d := (0 : Int)) (h1 := fun _ => rfl) hr0) hc0 ⟨rfl⟩ h).mono ?_
  rintro e w' ⟨rfl, hd⟩
  exact ⟨rfl, hd⟩
end Go.Proofs.Ytkpcieenikmbmaa.P

-- PRINTED by print.py: the row of the law laws_FnFalls, out of its Pure (the session's) and the printed walk. Not trusted: Lean checks it.
namespace Go.Proofs.Ytkpcieenikmbmaa.fnFalls
open Go.ChangeShapes Go.WideShapes Go.ChangeAt Go.RowKit
open Go.ChangeMaps (open_string shut_string)
set_option linter.unusedVariables false
theorem own : ownKnob Try.prog.godebug = none := by kernel_rfl
theorem laidOut : laidOutB Try.prog = true := by kernel_rfl
def IsRow (k : IntKind) (w : World) (a : Option Addr) (len cap : Nat) (zs : List Int) : Prop :=
 (a = none ∧ len = 0 ∧ cap = 0 ∧ zs = []) ∨
 ∃ x, a = some x ∧ len ≤ cap ∧ cap ≤ maxLen ∧ zs.length = cap ∧ (∀ i, i < zs.length → w.cell? (x.add i) = some (.int k (zs.getD i 0))) ∧ ∀ n ∈ zs, (Lit.int k n).wf = true
set_option maxRecDepth 100000 in
theorem lifted (os : Os) (started : os.Started) (H : Type) (enc : TypeId × Value → H) :
  ReturnsInHanded {} Try.checked os 9 .any (Rows.fnFallsSpec.pre6 enc Try.prog Try.f9 Rows.fnFallsRow.domain false) (Rows.fnFallsSpec.post enc Try.prog Try.f9 false true false false) := by
 refine returnsInHanded_of_change_sized (C := Try.checked) own started (by kernel_rfl) Try.func9
  (ChangeSpec.witness6 (enc := enc) (C := Try.checked) false ⟨#[], #[.slice none 0 0], []⟩ 8 (by kernel_rfl) (by kernel_rfl) (by kernel_rfl) (by kernel_rfl)) ?_
 intro W base args ds gs before hval0 hW hcnd hsz0 _
 have hsz : (DataW.weightsEach Try.prog (Try.f9.params.toList ++ Rows.fnFallsSpec.plain.varTypes Try.prog) (ds ++ gs)).all (· ≤ reachBytes) = true := hsz0
 have hval : ∀ (j : Nat) t v, Try.f9.params[j]? = some t → args[j]? = some v → Value.okWide Try.prog W .any base t v := hval0
 have hW' := hW
 obtain ⟨p, q, hA0, hV, rfl, hfz, hnd⟩ := hW
 have hA : DataW.TrodAll enc Try.prog W 0 (fun _ => true) true Try.f9.params.toList args.toList ds p := hA0
 rw [Try.params9] at hA hval hsz
 obtain ⟨v0, vs0, d0, ds0, p0, q0, hargs, rfl, rfl, h0, r0⟩ := trodAll_cons hA
 obtain ⟨rfl, rfl, rfl⟩ := trodAll_nil r0
 obtain rfl : args = #[v0] := by cases args; simp_all
 obtain ⟨rfl, rfl⟩ := trodVars_none hV
 obtain ⟨a0, len0, cap0, rfl⟩ := okWide_slice Try.underlying27 (hval 0 27 v0 rfl rfl)
 have k0 := h0
 have lt0 : ∀ x ∈ p0, x.block < W.heap.size := by obtain ⟨m, hm⟩ := k0; exact DataW.trod_lt m _ _ _ hm
 obtain ⟨z0, w0⟩ : ∃ zs, IsRow .u8 W a0 len0 cap0 zs := by
  obtain ⟨fuel, hf⟩ := h0
  rcases open_ints Try.underlying27 Try.underlying5 (by kernel_rfl) hf with ⟨hcs, _⟩ | ⟨x, l, c, zs, hcs, _, hl, hm, hz, _, hcell, hwz⟩
  ·simp [Value.cells] at hcs
   obtain ⟨rfl, rfl, rfl⟩ := hcs
   exact ⟨[], .inl ⟨rfl, rfl, rfl, rfl⟩⟩
  ·simp [Value.cells] at hcs
   obtain ⟨rfl, rfl, rfl⟩ := hcs
   exact ⟨zs, .inr ⟨_, rfl, hl, hm, by simpa using hz, hcell, hwz⟩⟩
 have y0 : len0 * 1 ≤ 140737488351232 := Go.Proofs.YtkpcieenikmbmaaW.PrintWords.sized_ints hsz (j := 0) (t := 27) rfl rfl Try.underlying27 Try.underlying5 (by kernel_rfl) (by kernel_rfl) h0
 clear hA0 hval0 hsz0 hsz
 refine (P.laws_FnFalls.walk Pure.FnFalls a0 len0 cap0 z0 W w0 y0).mono fun e W' ⟨he, bel⟩ => ?_
 subst he
 exact ⟨_, rfl, _, _, _, [], _, [], hW', trodAll_mk1 (shut_bool Try.underlying4 _), (trodAll_cons_mk (Below.trod laidOut (by kernel_rfl) (of_decide_eq_true (by kernel_rfl)) k0 bel lt0) trodAll_mk0), rfl, bel.frame _, fun h => by cases h⟩
theorem over : Rows.fnFallsRow.holds Try.pinned (OpenSpec.ofChange Rows.fnFallsSpec) :=
 OpenClaim.holds_of_wide 9 Try.f9 rfl rfl rfl rfl rfl rfl rfl ⟨rfl, rfl, rfl, rfl, rfl⟩ rfl rfl rfl rfl rfl (by kernel_rfl) Try.func9 (by kernel_rfl)
  (of_decide_eq_true (by kernel_rfl)) (by unfold Func.isWrapper; first | (rw [if_pos (by decide +kernel)]; kernel_rfl) | (rw [if_neg (by decide +kernel)]; exact ⟨rfl, rfl⟩))
  (fun os started H enc _ => lifted os started H enc)
theorem proved : Rows.FnFallsSaid := over
#print axioms proved
end Go.Proofs.Ytkpcieenikmbmaa.fnFalls
namespace Go.Proofs.Ytkpcieenikmbmaa
/-- The row, under a short name, for the claim. -/
theorem fnFalls_holds : Rows.FnFallsSaid := fnFalls.proved
end Go.Proofs.Ytkpcieenikmbmaa
