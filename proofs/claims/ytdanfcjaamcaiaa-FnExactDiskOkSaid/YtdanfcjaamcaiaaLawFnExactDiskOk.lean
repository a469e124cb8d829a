/- The statement FnExactDiskOk: the law's row, out of its pure statement and the walk of its code. For every input the law returns true, and each argument reads behind the call as it read before; no condition beyond the row's own. -/
import Derived.Test.YtdanfcjaamcaiaaRows
import Derived.Test.YtdanfcjaamcaiaaPx21
import Derived.Test.YtdanfcjaamcaiaaOpen
import Derived.Test.YtdanfcjaamcaiaaPureFnExactDiskOk
import Derived.WalkKit
import Derived.ProofKit
import Derived.OpenShut
import Derived.ShutString
import Derived.ChangeOld
import Derived.Below
import Derived.SizedLaws
namespace Go.Proofs.Ytdanfcjaamcaiaa.fnExactDiskOk
open Go.ChangeShapes Go.WideShapes Go.ChangeAt Go.RowKit Go.Proofs.YtdanfcjaamcaiaaW.PrintWords Go.Proofs.Ytdanfcjaamcaiaa.P Go.Proofs.Ytdanfcjaamcaiaa.Open
open Go.ChangeMaps (open_string shut_string)
set_option linter.unusedVariables false
theorem own : ownKnob Try.prog.godebug = none := by kernel_rfl
theorem laidOut : laidOutB Try.prog = true := by kernel_rfl
theorem open5 : Opens Try.prog 5 (Kd.int .u8) (fun n => (Lit.int .u8 n).wf = true) := Opens.int Try.underlying5
theorem open33 : Opens Try.prog 33 (Kd.slice 5 (Kd.int .u8)) (fun l => l.length ≤ maxLen ∧ ∀ x ∈ l, (Lit.int .u8 x).wf = true) := Opens.slice 5 Try.underlying33 (by kernel_rfl) open5
theorem open51 : Opens Try.prog 51 (Kd.slice 33 (Kd.slice 5 (Kd.int .u8))) (fun l => l.length ≤ maxLen ∧ ∀ x ∈ l, (x.length ≤ maxLen ∧ ∀ x' ∈ x, (Lit.int .u8 x').wf = true)) := Opens.slice 33 Try.underlying51 (by kernel_rfl) open33
theorem open3 : Opens Try.prog 3 (Kd.int .i64) (fun n => (Lit.int .i64 n).wf = true) := Opens.int Try.underlying3
theorem open131 : Opens Try.prog 131 k131 (fun x => ((Lit.int .i64 x.f0).wf = true ∧ (x.f1.length ≤ maxLen ∧ ∀ xf1' ∈ x.f1, (Lit.int .u8 xf1').wf = true))) := Opens.struct (fun x : S131 => (x.f0, x.f1)) (fun y => ⟨y.1, y.2⟩) (fun y => rfl) Try.underlying131 (by kernel_rfl) (FieldsOpen.cons open3 rfl (by kernel_rfl) (FieldsOpen.one open33 rfl (by kernel_rfl)))
theorem open74 : Opens Try.prog 74 (Kd.slice 131 k131) (fun l => l.length ≤ maxLen ∧ ∀ x ∈ l, ((Lit.int .i64 x.f0).wf = true ∧ (x.f1.length ≤ maxLen ∧ ∀ xf1' ∈ x.f1, (Lit.int .u8 xf1').wf = true))) := Opens.slice 131 Try.underlying74 (by kernel_rfl) open131
theorem open4 : Opens Try.prog 4 Kd.bool (fun _ => True) := Opens.bool Try.underlying4
theorem open76 : Opens Try.prog 76 k76 (fun x => ((x.f0.length ≤ maxLen ∧ ∀ xf0' ∈ x.f0, (xf0'.length ≤ maxLen ∧ ∀ xf0'' ∈ xf0', (Lit.int .u8 xf0'').wf = true)) ∧ (x.f1.length ≤ maxLen ∧ ∀ xf1' ∈ x.f1, ((Lit.int .i64 xf1'.f0).wf = true ∧ (xf1'.f1.length ≤ maxLen ∧ ∀ xf1'f1' ∈ xf1'.f1, (Lit.int .u8 xf1'f1').wf = true))) ∧ (Lit.int .i64 x.f2).wf = true ∧ True)) := Opens.struct (fun x : S76 => (x.f0, x.f1, x.f2, x.f3)) (fun y => ⟨y.1, y.2.1, y.2.2.1, y.2.2.2⟩) (fun y => rfl) Try.underlying76 (by kernel_rfl) (FieldsOpen.cons open51 rfl (by kernel_rfl) (FieldsOpen.cons open74 rfl (by kernel_rfl) (FieldsOpen.cons open3 rfl (by kernel_rfl) (FieldsOpen.one open4 rfl (by kernel_rfl)))))
set_option maxRecDepth 100000 in
theorem lifted (os : Os) (started : os.Started) (H : Type) (enc : TypeId × Value → H) :
    ReturnsInHanded {} Try.checked os 11 .any (Rows.fnExactDiskOkSpec.pre6 enc Try.prog Try.f11 Rows.fnExactDiskOkRow.domain false) (Rows.fnExactDiskOkSpec.post enc Try.prog Try.f11 false true false false) := by
  refine returnsInHanded_of_change_sized (C := Try.checked) own started (by kernel_rfl) Try.func11
    (ChangeSpec.witness6 (enc := enc) (C := Try.checked) false ⟨#[], #[.agg #[.slice none 0 0, .slice none 0 0, .int .i64 0, .bool false]], []⟩ 8 (by kernel_rfl) (by kernel_rfl) (by kernel_rfl) (by kernel_rfl)) ?_
  intro W base args ds gs before hval0 hW hcnd hsz0 _
  have hval : ∀ (j : Nat) t v, Try.f11.params[j]? = some t → args[j]? = some v → Value.okWide Try.prog W .any base t v := hval0
  have hW' := hW
  obtain ⟨p, q, hA0, hV, rfl, hfz, hnd⟩ := hW
  have hA : DataW.TrodAll enc Try.prog W 0 (fun _ => true) true Try.f11.params.toList args.toList ds p := hA0
  rw [Try.params11] at hA hval
  obtain ⟨v0, vs0, d0, ds0, p0, q0, hargs, rfl, rfl, h0, r0⟩ := trodAll_cons hA
  obtain ⟨rfl, rfl, rfl⟩ := trodAll_nil r0
  obtain rfl : args = #[v0] := by cases args; simp_all
  obtain ⟨rfl, rfl⟩ := trodVars_none hV
  have k0 := h0
  have lt0 : ∀ x ∈ p0, x.block < W.heap.size := by obtain ⟨m, hm⟩ := k0; exact DataW.trod_lt m _ _ _ hm
  obtain ⟨y0, hk0, hg0⟩ : ∃ y, k76.K W y v0.cells.toList ∧ ((y.f0.length ≤ maxLen ∧ ∀ yf0' ∈ y.f0, (yf0'.length ≤ maxLen ∧ ∀ yf0'' ∈ yf0', (Lit.int .u8 yf0'').wf = true)) ∧ (y.f1.length ≤ maxLen ∧ ∀ yf1' ∈ y.f1, ((Lit.int .i64 yf1'.f0).wf = true ∧ (yf1'.f1.length ≤ maxLen ∧ ∀ yf1'f1' ∈ yf1'.f1, (Lit.int .u8 yf1'f1').wf = true))) ∧ (Lit.int .i64 y.f2).wf = true ∧ True) := by
    obtain ⟨fuel, hf⟩ := h0
    exact open76 enc W _ _ _ fuel _ _ hf
  obtain ⟨cs0, rfl, sz0⟩ := okWide_struct Try.underlying75 (hval 0 76 v0 rfl rfl)
  obtain ⟨A0_0, c0_0, A0_1, c0_1, e0, hc0_0, hr0_0, hc0_1, hr0_1⟩ := k76_open hk0
  obtain rfl : cs0 = #[.slice A0_0 y0.f0.length c0_0, .slice A0_1 y0.f1.length c0_1, .int .i64 y0.f2, .bool y0.f3] := by rw [← Array.toList_inj]; exact e0
  clear hA0 hval0 hsz0
  obtain ⟨kk, hP⟩ := Pure.FnExactDiskOk y0.f0 y0.f1 y0.f2 y0.f3 hg0.1 hg0.2.1 hg0.2.2.1
  refine (laws_FnExactDiskOk.calls kk A0_0 c0_0 y0.f0 A0_1 c0_1 y0.f1 y0.f2 y0.f3 true W hr0_0 hc0_0 hr0_1 hc0_1 hP).mono fun e W' hq => ?_
  obtain ⟨he, hb⟩ := hq
  have bel : Below W.heap.size W W' := by first | exact hb | exact hb.below
  subst he
  exact ⟨_, rfl, _, _, _, [], _, [], hW', trodAll_mk1 (shut_bool Try.underlying4 _), (trodAll_cons_mk (Below.trod laidOut (by kernel_rfl) (of_decide_eq_true (by kernel_rfl)) k0 bel lt0) trodAll_mk0), rfl, bel.frame _, fun h => by cases h⟩
theorem over : Rows.fnExactDiskOkRow.holds Try.pinned (OpenSpec.ofChange Rows.fnExactDiskOkSpec) :=
  OpenClaim.holds_of_wide 11 Try.f11 rfl rfl rfl rfl rfl rfl rfl ⟨rfl, rfl, rfl, rfl, rfl⟩ rfl rfl rfl rfl rfl (by kernel_rfl) Try.func11 (by kernel_rfl)
    (of_decide_eq_true (by kernel_rfl)) (by unfold Func.isWrapper; first | (rw [if_pos (by decide +kernel)]; kernel_rfl) | (rw [if_neg (by decide +kernel)]; exact ⟨rfl, rfl⟩))
    (fun os started H enc _ => lifted os started H enc)
theorem proved : Rows.FnExactDiskOkSaid := over
end Go.Proofs.Ytdanfcjaamcaiaa.fnExactDiskOk
namespace Go.Proofs.Ytdanfcjaamcaiaa
/-- The row, under a short name, for the claim. -/
theorem fnExactDiskOk_holds : Rows.FnExactDiskOkSaid := fnExactDiskOk.proved
end Go.Proofs.Ytdanfcjaamcaiaa
