/- The statement FnExactPutFrame: the law's row, out of its pure statement and the walk of its code. For every input the law returns true, and each argument reads behind the call as it read before; no condition beyond the row's own. -/
import Derived.Test.YtdanfcjaamcaiaaRows
import Derived.Test.YtdanfcjaamcaiaaPx26
import Derived.Test.YtdanfcjaamcaiaaOpen
import Derived.Test.YtdanfcjaamcaiaaPureFnExactPutFrame
import Derived.WalkKit
import Derived.ProofKit
import Derived.OpenShut
import Derived.ShutString
import Derived.ChangeOld
import Derived.Below
import Derived.SizedLaws
namespace Go.Proofs.Ytdanfcjaamcaiaa.fnExactPutFrame
open Go.ChangeShapes Go.WideShapes Go.ChangeAt Go.RowKit Go.Proofs.YtdanfcjaamcaiaaW.PrintWords Go.Proofs.Ytdanfcjaamcaiaa.P Go.Proofs.Ytdanfcjaamcaiaa.Open
open Go.ChangeMaps (open_string shut_string)
set_option linter.unusedVariables false
theorem own : ownKnob Try.prog.godebug = none := by kernel_rfl
theorem laidOut : laidOutB Try.prog = true := by kernel_rfl
theorem open3 : Opens Try.prog 3 (Kd.int .i64) (fun n => (Lit.int .i64 n).wf = true) := Opens.int Try.underlying3
theorem open9 : Opens Try.prog 9 Kd.string (fun s => s.size ≤ maxLen) := Opens.string Try.underlying9
theorem open64 : Opens Try.prog 64 k64 (fun x => ((Lit.int .i64 x.f0).wf = true ∧ x.f1.size ≤ maxLen ∧ (Lit.int .i64 x.f2).wf = true)) := Opens.struct (fun x : S64 => (x.f0, x.f1, x.f2)) (fun y => ⟨y.1, y.2.1, y.2.2⟩) (fun y => rfl) Try.underlying64 (by kernel_rfl) (FieldsOpen.cons open3 rfl (by kernel_rfl) (FieldsOpen.cons open9 rfl (by kernel_rfl) (FieldsOpen.one open3 rfl (by kernel_rfl))))
set_option maxRecDepth 100000 in
theorem lifted (os : Os) (started : os.Started) (H : Type) (enc : TypeId × Value → H) :
    ReturnsInHanded {} Try.checked os 9 .any (Rows.fnExactPutFrameSpec.pre6 enc Try.prog Try.f9 Rows.fnExactPutFrameRow.domain false) (Rows.fnExactPutFrameSpec.post enc Try.prog Try.f9 false true false false) := by
  refine returnsInHanded_of_change_sized (C := Try.checked) own started (by kernel_rfl) Try.func9
    (ChangeSpec.witness6 (enc := enc) (C := Try.checked) false ⟨#[], #[.agg #[.int .i64 0, .string ByteArray.empty, .int .i64 0]], []⟩ 8 (by kernel_rfl) (by kernel_rfl) (by kernel_rfl) (by kernel_rfl)) ?_
  intro W base args ds gs before hval0 hW hcnd hsz0 _
  have hval : ∀ (j : Nat) t v, Try.f9.params[j]? = some t → args[j]? = some v → Value.okWide Try.prog W .any base t v := hval0
  have hW' := hW
  obtain ⟨p, q, hA0, hV, rfl, hfz, hnd⟩ := hW
  have hA : DataW.TrodAll enc Try.prog W 0 (fun _ => true) true Try.f9.params.toList args.toList ds p := hA0
  rw [Try.params9] at hA hval
  obtain ⟨v0, vs0, d0, ds0, p0, q0, hargs, rfl, rfl, h0, r0⟩ := trodAll_cons hA
  obtain ⟨rfl, rfl, rfl⟩ := trodAll_nil r0
  obtain rfl : args = #[v0] := by cases args; simp_all
  obtain ⟨rfl, rfl⟩ := trodVars_none hV
  have k0 := h0
  have lt0 : ∀ x ∈ p0, x.block < W.heap.size := by obtain ⟨m, hm⟩ := k0; exact DataW.trod_lt m _ _ _ hm
  obtain ⟨y0, hk0, hg0⟩ : ∃ y, k64.K W y v0.cells.toList ∧ ((Lit.int .i64 y.f0).wf = true ∧ y.f1.size ≤ maxLen ∧ (Lit.int .i64 y.f2).wf = true) := by
    obtain ⟨fuel, hf⟩ := h0
    exact open64 enc W _ _ _ fuel _ _ hf
  obtain ⟨cs0, rfl, sz0⟩ := okWide_struct Try.underlying59 (hval 0 64 v0 rfl rfl)
  have e0 := k64_open hk0
  obtain rfl : cs0 = #[.int .i64 y0.f0, .string y0.f1, .int .i64 y0.f2] := by rw [← Array.toList_inj]; exact e0
  clear hA0 hval0 hsz0
  obtain ⟨kk, hP⟩ := Pure.FnExactPutFrame y0.f0 y0.f1 y0.f2 hg0.1 hg0.2.1 hg0.2.2
  refine (laws_FnExactPutFrame.calls kk y0.f0 y0.f1 y0.f2 true W  hP).mono fun e W' hq => ?_
  obtain ⟨he, hb⟩ := hq
  have bel : Below W.heap.size W W' := by first | exact hb | exact hb.below
  subst he
  exact ⟨_, rfl, _, _, _, [], _, [], hW', trodAll_mk1 (shut_bool Try.underlying4 _), (trodAll_cons_mk (Below.trod laidOut (by kernel_rfl) (of_decide_eq_true (by kernel_rfl)) k0 bel lt0) trodAll_mk0), rfl, bel.frame _, fun h => by cases h⟩
theorem over : Rows.fnExactPutFrameRow.holds Try.pinned (OpenSpec.ofChange Rows.fnExactPutFrameSpec) :=
  OpenClaim.holds_of_wide 9 Try.f9 rfl rfl rfl rfl rfl rfl rfl ⟨rfl, rfl, rfl, rfl, rfl⟩ rfl rfl rfl rfl rfl (by kernel_rfl) Try.func9 (by kernel_rfl)
    (of_decide_eq_true (by kernel_rfl)) (by unfold Func.isWrapper; first | (rw [if_pos (by decide +kernel)]; kernel_rfl) | (rw [if_neg (by decide +kernel)]; exact ⟨rfl, rfl⟩))
    (fun os started H enc _ => lifted os started H enc)
theorem proved : Rows.FnExactPutFrameSaid := over
end Go.Proofs.Ytdanfcjaamcaiaa.fnExactPutFrame
namespace Go.Proofs.Ytdanfcjaamcaiaa
/-- The row, under a short name, for the claim. -/
theorem fnExactPutFrame_holds : Rows.FnExactPutFrameSaid := fnExactPutFrame.proved
end Go.Proofs.Ytdanfcjaamcaiaa
