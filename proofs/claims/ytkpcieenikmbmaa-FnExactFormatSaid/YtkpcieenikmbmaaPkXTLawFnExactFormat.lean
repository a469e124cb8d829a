/- Texts of this seat's claims, put together: CFnExactFormat, LawFnExactFormat -/
import Derived.WalkKit
import Derived.Below
import Derived.Laws.StructEq
import Derived.Test.YtkpcieenikmbmaaRows
import Derived.ProofKit
import Derived.OpenShut
import Derived.ShutString
import Derived.ChangeOld
import Derived.SizedLaws
import Derived.Test.YtkpcieenikmbmaaPkXB5
import Derived.Test.YtkpcieenikmbmaaPkXE16
import Derived.Test.YtkpcieenikmbmaaPkXE17
import Derived.Test.YtkpcieenikmbmaaPkXE19
import Derived.Test.YtkpcieenikmbmaaPkXE20
import Derived.Test.YtkpcieenikmbmaaPkXE21
import Derived.Test.YtkpcieenikmbmaaPkXE22
import Derived.Test.YtkpcieenikmbmaaPkXE23
import Derived.Test.YtkpcieenikmbmaaPkXE24
import Derived.Test.YtkpcieenikmbmaaPkXE25
import Derived.Test.YtkpcieenikmbmaaPkXE26
import Derived.Test.YtkpcieenikmbmaaPkXE27
import Derived.Test.YtkpcieenikmbmaaPkXE28
import Derived.Test.YtkpcieenikmbmaaPkXE30
import Derived.Test.YtkpcieenikmbmaaPkXE31
import Derived.Test.YtkpcieenikmbmaaPkXE32
import Derived.Test.YtkpcieenikmbmaaPkXE33
import Derived.Test.YtkpcieenikmbmaaPkXE34
import Derived.Test.YtkpcieenikmbmaaPkXE35
import Derived.Test.YtkpcieenikmbmaaPkXE36
import Derived.Test.YtkpcieenikmbmaaPkXE37
import Derived.Test.YtkpcieenikmbmaaPkXE38
import Derived.Test.YtkpcieenikmbmaaPkXE40
import Derived.Test.YtkpcieenikmbmaaPkXE41
import Derived.Test.YtkpcieenikmbmaaPkXE42
import Derived.Test.YtkpcieenikmbmaaPkXE43
import Derived.Test.YtkpcieenikmbmaaPkXE44
import Derived.Test.YtkpcieenikmbmaaPkXE5
import Derived.Test.YtkpcieenikmbmaaPkXE50
import Derived.Test.YtkpcieenikmbmaaPkXE51
import Derived.Test.YtkpcieenikmbmaaPkXE52
import Derived.Test.YtkpcieenikmbmaaPkXE53
import Derived.Test.YtkpcieenikmbmaaPkXE54
import Derived.Test.YtkpcieenikmbmaaPkXE55
import Derived.Test.YtkpcieenikmbmaaPkXE56
import Derived.Test.YtkpcieenikmbmaaPkXE57
import Derived.Test.YtkpcieenikmbmaaPkXE58
import Derived.Test.YtkpcieenikmbmaaPkXE59
import Derived.Test.YtkpcieenikmbmaaPkXE6
import Derived.Test.YtkpcieenikmbmaaPkXP1
/- What the code of the law laws_FnExactFormat comes to, in the elder words. -/
namespace Go.Proofs.Ytkpcieenikmbmaa.P
open Go.RowKit Go.Proofs.YtkpcieenikmbmaaW.PrintWords Go.Proofs.YtkpcieenikmbmaaW.PrintLast Go.Proofs.YtkpcieenikmbmaaW.PrintMore
open Go.Proofs.Ytkpcieenikmbmaa.E
set_option linter.unusedVariables false
theorem laws_FnExactFormat.calls (k : Nat)  (r : Bool) (w : World)  (h : laws_FnExactFormat.f k  = some r) :
    Calls Try.prog 7 #[] w fun e w' => e = .returned (.bool r) ∧ Below w.heap.size w w' := by
  refine calls_of_spec (laws_FnExactFormat_ev h) ⟨trivial⟩ ?_
  simp only [RepsL]
end Go.Proofs.Ytkpcieenikmbmaa.P

/- The statement FnExactFormat: the law's row, out of its pure statement and the walk of its code. For every input the law returns true, and each argument reads behind the call as it read before; no condition beyond the row's own. -/
namespace Go.Proofs.Ytkpcieenikmbmaa.fnExactFormat
open Go.ChangeShapes Go.WideShapes Go.ChangeAt Go.RowKit Go.Proofs.YtkpcieenikmbmaaW.PrintWords Go.Proofs.Ytkpcieenikmbmaa.P Go.Proofs.Ytkpcieenikmbmaa.Open
open Go.ChangeMaps (open_string shut_string)
set_option linter.unusedVariables false
theorem own : ownKnob Try.prog.godebug = none := by kernel_rfl
theorem laidOut : laidOutB Try.prog = true := by kernel_rfl
set_option maxRecDepth 100000 in
theorem lifted (os : Os) (started : os.Started) (H : Type) (enc : TypeId × Value → H) :
  ReturnsInHanded {} Try.checked os 7 .any (Rows.fnExactFormatSpec.pre6 enc Try.prog Try.f7 Rows.fnExactFormatRow.domain false) (Rows.fnExactFormatSpec.post enc Try.prog Try.f7 false true false false) := by
 refine returnsInHanded_of_change_sized (C := Try.checked) own started (by kernel_rfl) Try.func7
  (ChangeSpec.witness6 (enc := enc) (C := Try.checked) false ⟨#[], #[], []⟩ 8 (by kernel_rfl) (by kernel_rfl) (by kernel_rfl) (by kernel_rfl)) ?_
 intro W base args ds gs before hval0 hW hcnd hsz0 _
 have hval : ∀ (j : Nat) t v, Try.f7.params[j]? = some t → args[j]? = some v → Value.okWide Try.prog W .any base t v := hval0
 have hW' := hW
 obtain ⟨p, q, hA0, hV, rfl, hfz, hnd⟩ := hW
 have hA : DataW.TrodAll enc Try.prog W 0 (fun _ => true) true Try.f7.params.toList args.toList ds p := hA0
 rw [Try.params7] at hA hval
 obtain ⟨hnil, rfl, rfl⟩ := trodAll_nil hA
 obtain rfl : args = #[] := by cases args; simp_all
 obtain ⟨rfl, rfl⟩ := trodVars_none hV
 clear hA0 hval0 hsz0
 obtain ⟨kk, hP⟩ := Pure.FnExactFormat  
 refine (laws_FnExactFormat.calls kk  true W  hP).mono fun e W' hq => ?_
 obtain ⟨he, hb⟩ := hq
 have bel : Below W.heap.size W W' := by first | exact hb | exact hb.below
 subst he
 exact ⟨_, rfl, _, _, _, [], _, [], hW', trodAll_mk1 (shut_bool Try.underlying4 _), trodAll_mk0, rfl, bel.frame _, fun h => by cases h⟩
theorem over : Rows.fnExactFormatRow.holds Try.pinned (OpenSpec.ofChange Rows.fnExactFormatSpec) :=
 OpenClaim.holds_of_wide 7 Try.f7 rfl rfl rfl rfl rfl rfl rfl ⟨rfl, rfl, rfl, rfl, rfl⟩ rfl rfl rfl rfl rfl (by kernel_rfl) Try.func7 (by kernel_rfl)
  (of_decide_eq_true (by kernel_rfl)) (by unfold Func.isWrapper; first | (rw [if_pos (by decide +kernel)]; kernel_rfl) | (rw [if_neg (by decide +kernel)]; exact ⟨rfl, rfl⟩))
  (fun os started H enc _ => lifted os started H enc)
theorem proved : Rows.FnExactFormatSaid := over
end Go.Proofs.Ytkpcieenikmbmaa.fnExactFormat
namespace Go.Proofs.Ytkpcieenikmbmaa
/-- The row, under a short name, for the claim. -/
theorem fnExactFormat_holds : Rows.FnExactFormatSaid := fnExactFormat.proved
end Go.Proofs.Ytkpcieenikmbmaa
