/- The statement FnExactConfOk: the law's row, out of its pure statement and the walk of its code. For every input the law returns true, and each argument reads behind the call as it read before; no condition beyond the row's own. -/
import Derived.Test.YtdanfcjaamcaiaaRows
import Derived.Test.YtdanfcjaamcaiaaPx18
import Derived.Test.YtdanfcjaamcaiaaOpen
import Derived.Test.YtdanfcjaamcaiaaPureFnExactConfOk
import Derived.WalkKit
import Derived.ProofKit
import Derived.OpenShut
import Derived.ShutString
import Derived.ChangeOld
import Derived.Below
import Derived.SizedLaws
namespace Go.Proofs.Ytdanfcjaamcaiaa.fnExactConfOk
open Go.ChangeShapes Go.WideShapes Go.ChangeAt Go.RowKit Go.Proofs.YtdanfcjaamcaiaaW.PrintWords Go.Proofs.Ytdanfcjaamcaiaa.P Go.Proofs.Ytdanfcjaamcaiaa.Open
open Go.ChangeMaps (open_string shut_string)
set_option linter.unusedVariables false
theorem own : ownKnob Try.prog.godebug = none := by kernel_rfl
theorem laidOut : laidOutB Try.prog = true := by kernel_rfl
theorem open9 : Opens Try.prog 9 Kd.string (fun s => s.size ≤ maxLen) := Opens.string Try.underlying9
theorem open3 : Opens Try.prog 3 (Kd.int .i64) (fun n => (Lit.int .i64 n).wf = true) := Opens.int Try.underlying3
theorem open93 : Opens Try.prog 93 k93 (fun x => (x.f0.size ≤ maxLen ∧ (Lit.int .i64 x.f1).wf = true ∧ (Lit.int .i64 x.f2).wf = true ∧ (Lit.int .i64 x.f3).wf = true ∧ (Lit.int .i64 x.f4).wf = true)) := Opens.struct (fun x : S93 => (x.f0, x.f1, x.f2, x.f3, x.f4)) (fun y => ⟨y.1, y.2.1, y.2.2.1, y.2.2.2.1, y.2.2.2.2⟩) (fun y => rfl) Try.underlying93 (by kernel_rfl) (FieldsOpen.cons open9 rfl (by kernel_rfl) (FieldsOpen.cons open3 rfl (by kernel_rfl) (FieldsOpen.cons open3 rfl (by kernel_rfl) (FieldsOpen.cons open3 rfl (by kernel_rfl) (FieldsOpen.one open3 rfl (by kernel_rfl))))))
theorem open22 : Opens Try.prog 22 (Kd.slice 93 k93) (fun l => l.length ≤ maxLen ∧ ∀ x ∈ l, (x.f0.size ≤ maxLen ∧ (Lit.int .i64 x.f1).wf = true ∧ (Lit.int .i64 x.f2).wf = true ∧ (Lit.int .i64 x.f3).wf = true ∧ (Lit.int .i64 x.f4).wf = true)) := Opens.slice 93 Try.underlying22 (by kernel_rfl) open93
set_option maxRecDepth 100000 in
theorem lifted (os : Os) (started : os.Started) (H : Type) (enc : TypeId × Value → H) :
    ReturnsInHanded {} Try.checked os 6 .any (Rows.fnExactConfOkSpec.pre6 enc Try.prog Try.f6 Rows.fnExactConfOkRow.domain false) (Rows.fnExactConfOkSpec.post enc Try.prog Try.f6 false true false false) := by
  refine returnsInHanded_of_change_sized (C := Try.checked) own started (by kernel_rfl) Try.func6
    (ChangeSpec.witness6 (enc := enc) (C := Try.checked) false ⟨#[], #[.slice none 0 0], []⟩ 8 (by kernel_rfl) (by kernel_rfl) (by kernel_rfl) (by kernel_rfl)) ?_
  intro W base args ds gs before hval0 hW hcnd hsz0 _
  have hval : ∀ (j : Nat) t v, Try.f6.params[j]? = some t → args[j]? = some v → Value.okWide Try.prog W .any base t v := hval0
  have hW' := hW
  obtain ⟨p, q, hA0, hV, rfl, hfz, hnd⟩ := hW
  have hA : DataW.TrodAll enc Try.prog W 0 (fun _ => true) true Try.f6.params.toList args.toList ds p := hA0
  rw [Try.params6] at hA hval
  obtain ⟨v0, vs0, d0, ds0, p0, q0, hargs, rfl, rfl, h0, r0⟩ := trodAll_cons hA
  obtain ⟨rfl, rfl, rfl⟩ := trodAll_nil r0
  obtain rfl : args = #[v0] := by cases args; simp_all
  obtain ⟨rfl, rfl⟩ := trodVars_none hV
  have k0 := h0
  have lt0 : ∀ x ∈ p0, x.block < W.heap.size := by obtain ⟨m, hm⟩ := k0; exact DataW.trod_lt m _ _ _ hm
  obtain ⟨y0, hk0, hg0⟩ : ∃ y, (Kd.slice 93 k93).K W y v0.cells.toList ∧ (y.length ≤ maxLen ∧ ∀ y' ∈ y, (y'.f0.size ≤ maxLen ∧ (Lit.int .i64 y'.f1).wf = true ∧ (Lit.int .i64 y'.f2).wf = true ∧ (Lit.int .i64 y'.f3).wf = true ∧ (Lit.int .i64 y'.f4).wf = true)) := by
    obtain ⟨fuel, hf⟩ := h0
    exact open22 enc W _ _ _ fuel _ _ hf
  obtain ⟨a0, len0, cap0, rfl⟩ := okWide_slice Try.underlying22 (hval 0 22 v0 rfl rfl)
  obtain ⟨A0, c0, e0, hc0, hr0⟩ := hk0
  simp only [Value.cells, List.cons.injEq, Value.slice.injEq, and_true] at e0
  obtain ⟨rfl, rfl, rfl⟩ := e0
  clear hA0 hval0 hsz0
  obtain ⟨kk, hP⟩ := Pure.FnExactConfOk y0 hg0
  refine (laws_FnExactConfOk.calls kk _ _ y0 true W hr0 hc0 hP).mono fun e W' hq => ?_
  obtain ⟨he, hb⟩ := hq
  have bel : Below W.heap.size W W' := by first | exact hb | exact hb.below
  subst he
  exact ⟨_, rfl, _, _, _, [], _, [], hW', trodAll_mk1 (shut_bool Try.underlying4 _), (trodAll_cons_mk (Below.trod laidOut (by kernel_rfl) (of_decide_eq_true (by kernel_rfl)) k0 bel lt0) trodAll_mk0), rfl, bel.frame _, fun h => by cases h⟩
theorem over : Rows.fnExactConfOkRow.holds Try.pinned (OpenSpec.ofChange Rows.fnExactConfOkSpec) :=
  OpenClaim.holds_of_wide 6 Try.f6 rfl rfl rfl rfl rfl rfl rfl ⟨rfl, rfl, rfl, rfl, rfl⟩ rfl rfl rfl rfl rfl (by kernel_rfl) Try.func6 (by kernel_rfl)
    (of_decide_eq_true (by kernel_rfl)) (by unfold Func.isWrapper; first | (rw [if_pos (by decide +kernel)]; kernel_rfl) | (rw [if_neg (by decide +kernel)]; exact ⟨rfl, rfl⟩))
    (fun os started H enc _ => lifted os started H enc)
theorem proved : Rows.FnExactConfOkSaid := over
end Go.Proofs.Ytdanfcjaamcaiaa.fnExactConfOk
namespace Go.Proofs.Ytdanfcjaamcaiaa
/-- The row, under a short name, for the claim. -/
theorem fnExactConfOk_holds : Rows.FnExactConfOkSaid := fnExactConfOk.proved
end Go.Proofs.Ytdanfcjaamcaiaa
