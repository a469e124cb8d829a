/- Texts of this seat's claims, put together: CFnExactWriteSec, LawFnExactWriteSec -/
import Derived.WalkKit
import Derived.Below
import Derived.Laws.StructEq
import Derived.Test.YtkpcieenikmbmaaRows
import Derived.ProofKit
import Derived.OpenShut
import Derived.ShutString
import Derived.ChangeOld
import Derived.SizedLaws
import Derived.Test.YtkpcieenikmbmaaPkXB5
import Derived.Test.YtkpcieenikmbmaaPkXE1
import Derived.Test.YtkpcieenikmbmaaPkXE10
import Derived.Test.YtkpcieenikmbmaaPkXE11
import Derived.Test.YtkpcieenikmbmaaPkXE12
import Derived.Test.YtkpcieenikmbmaaPkXE13
import Derived.Test.YtkpcieenikmbmaaPkXE14
import Derived.Test.YtkpcieenikmbmaaPkXE15
import Derived.Test.YtkpcieenikmbmaaPkXE16
import Derived.Test.YtkpcieenikmbmaaPkXE17
import Derived.Test.YtkpcieenikmbmaaPkXE19
import Derived.Test.YtkpcieenikmbmaaPkXE2
import Derived.Test.YtkpcieenikmbmaaPkXE20
import Derived.Test.YtkpcieenikmbmaaPkXE21
import Derived.Test.YtkpcieenikmbmaaPkXE22
import Derived.Test.YtkpcieenikmbmaaPkXE23
import Derived.Test.YtkpcieenikmbmaaPkXE24
import Derived.Test.YtkpcieenikmbmaaPkXE25
import Derived.Test.YtkpcieenikmbmaaPkXE26
import Derived.Test.YtkpcieenikmbmaaPkXE27
import Derived.Test.YtkpcieenikmbmaaPkXE28
import Derived.Test.YtkpcieenikmbmaaPkXE3
import Derived.Test.YtkpcieenikmbmaaPkXE30
import Derived.Test.YtkpcieenikmbmaaPkXE31
import Derived.Test.YtkpcieenikmbmaaPkXE32
import Derived.Test.YtkpcieenikmbmaaPkXE33
import Derived.Test.YtkpcieenikmbmaaPkXE34
import Derived.Test.YtkpcieenikmbmaaPkXE35
import Derived.Test.YtkpcieenikmbmaaPkXE36
import Derived.Test.YtkpcieenikmbmaaPkXE37
import Derived.Test.YtkpcieenikmbmaaPkXE38
import Derived.Test.YtkpcieenikmbmaaPkXE39
import Derived.Test.YtkpcieenikmbmaaPkXE4
import Derived.Test.YtkpcieenikmbmaaPkXE5
import Derived.Test.YtkpcieenikmbmaaPkXE6
import Derived.Test.YtkpcieenikmbmaaPkXE8
import Derived.Test.YtkpcieenikmbmaaPkXE9
import Derived.Test.YtkpcieenikmbmaaPkXP1
/- What the code of the law laws_FnExactWriteSec comes to, in the elder words. -/
namespace Go.Proofs.Ytkpcieenikmbmaa.P
open Go.RowKit Go.Proofs.YtkpcieenikmbmaaW.PrintWords Go.Proofs.YtkpcieenikmbmaaW.PrintLast Go.Proofs.YtkpcieenikmbmaaW.PrintMore
open Go.Proofs.Ytkpcieenikmbmaa.E
set_option linter.unusedVariables false
theorem laws_FnExactWriteSec.calls (k : Nat) (A0_0 : Option Addr) (c0_0 : Nat) (l0_0 : List (List Int)) (A0_1 : Option Addr) (c0_1 : Nat) (l0_1 : List S77) (a0_2 : Int) (a0_3 : Bool) (a1 : Int) (A2 : Option Addr) (c2 : Nat) (l2 : List Int) (r : Bool) (w : World) (hr0_0 : Kd.C (Kd.slice 5 (Kd.int .u8)) w A0_0 l0_0.length l0_0) (hc0_0 : l0_0.length ≤ c0_0) (hr0_1 : Kd.C k77 w A0_1 l0_1.length l0_1) (hc0_1 : l0_1.length ≤ c0_1) (hr2 : Kd.C (Kd.int .u8) w A2 l2.length l2) (hc2 : l2.length ≤ c2) (h : laws_FnExactWriteSec.f k l0_0 l0_1 a0_2 a0_3 a1 l2 = some r) :
    Calls Try.prog 6 #[.agg #[.slice A0_0 l0_0.length c0_0, .slice A0_1 l0_1.length c0_1, .int .i64 a0_2, .bool a0_3], .int .i64 a1, .slice A2 l2.length c2] w fun e w' => e = .returned (.bool r) ∧ Below w.heap.size w w' := by
  refine calls_of_spec (laws_FnExactWriteSec_ev h) ⟨trivial⟩ ?_
  simp only [RepsL]
  exact ⟨_, _, rfl, (by simp only [E.Reps, RepsL]; exact ⟨_, rfl, _, _, rfl, (show RepC _ _ _ _ from repC_of G0_imm (fun _ => rfl) (by decide) (hk_row G0_imm (fun _ => rfl) (by decide) hk_int) hr0_0 hc0_0), _, _, rfl, (show RepC _ _ _ _ from repC_of G0_imm (fun _ => rfl) (by decide) (fun x cs h => (hk_pair (fun _ => rfl) hk_int (hk_row G0_imm (fun _ => rfl) (by decide) hk_int)) (x.f0, x.f1) cs h) hr0_1 hc0_1), _, _, rfl, (by simp only [RepC]), _, _, rfl, (by simp only [RepC]), rfl⟩), _, _, rfl, (by simp only [E.Reps, RepC]), _, _, rfl, (show RepC _ _ _ _ from repC_of G0_imm (fun _ => rfl) (by decide) hk_int hr2 hc2), rfl⟩
end Go.Proofs.Ytkpcieenikmbmaa.P

/- The statement FnExactWriteSec: the law's row, out of its pure statement and the walk of its code. For every input the law returns true, and each argument reads behind the call as it read before; no condition beyond the row's own. -/
namespace Go.Proofs.Ytkpcieenikmbmaa.fnExactWriteSec
open Go.ChangeShapes Go.WideShapes Go.ChangeAt Go.RowKit Go.Proofs.YtkpcieenikmbmaaW.PrintWords Go.Proofs.Ytkpcieenikmbmaa.P Go.Proofs.Ytkpcieenikmbmaa.Open
open Go.ChangeMaps (open_string shut_string)
set_option linter.unusedVariables false
theorem own : ownKnob Try.prog.godebug = none := by kernel_rfl
theorem laidOut : laidOutB Try.prog = true := by kernel_rfl
theorem open5 : Opens Try.prog 5 (Kd.int .u8) (fun n => (Lit.int .u8 n).wf = true) := Opens.int Try.underlying5
theorem open27 : Opens Try.prog 27 (Kd.slice 5 (Kd.int .u8)) (fun l => l.length ≤ maxLen ∧ ∀ x ∈ l, (Lit.int .u8 x).wf = true) := Opens.slice 5 Try.underlying27 (by kernel_rfl) open5
theorem open22 : Opens Try.prog 22 (Kd.slice 27 (Kd.slice 5 (Kd.int .u8))) (fun l => l.length ≤ maxLen ∧ ∀ x ∈ l, (x.length ≤ maxLen ∧ ∀ x' ∈ x, (Lit.int .u8 x').wf = true)) := Opens.slice 27 Try.underlying22 (by kernel_rfl) open27
theorem open3 : Opens Try.prog 3 (Kd.int .i64) (fun n => (Lit.int .i64 n).wf = true) := Opens.int Try.underlying3
theorem open77 : Opens Try.prog 77 k77 (fun x => ((Lit.int .i64 x.f0).wf = true ∧ (x.f1.length ≤ maxLen ∧ ∀ xf1' ∈ x.f1, (Lit.int .u8 xf1').wf = true))) := Opens.struct (fun x : S77 => (x.f0, x.f1)) (fun y => ⟨y.1, y.2⟩) (fun y => rfl) Try.underlying77 (by kernel_rfl) (FieldsOpen.cons open3 rfl (by kernel_rfl) (FieldsOpen.one open27 rfl (by kernel_rfl)))
theorem open23 : Opens Try.prog 23 (Kd.slice 77 k77) (fun l => l.length ≤ maxLen ∧ ∀ x ∈ l, ((Lit.int .i64 x.f0).wf = true ∧ (x.f1.length ≤ maxLen ∧ ∀ xf1' ∈ x.f1, (Lit.int .u8 xf1').wf = true))) := Opens.slice 77 Try.underlying23 (by kernel_rfl) open77
theorem open4 : Opens Try.prog 4 Kd.bool (fun _ => True) := Opens.bool Try.underlying4
theorem open25 : Opens Try.prog 25 k25 (fun x => ((x.f0.length ≤ maxLen ∧ ∀ xf0' ∈ x.f0, (xf0'.length ≤ maxLen ∧ ∀ xf0'' ∈ xf0', (Lit.int .u8 xf0'').wf = true)) ∧ (x.f1.length ≤ maxLen ∧ ∀ xf1' ∈ x.f1, ((Lit.int .i64 xf1'.f0).wf = true ∧ (xf1'.f1.length ≤ maxLen ∧ ∀ xf1'f1' ∈ xf1'.f1, (Lit.int .u8 xf1'f1').wf = true))) ∧ (Lit.int .i64 x.f2).wf = true ∧ True)) := Opens.struct (fun x : S25 => (x.f0, x.f1, x.f2, x.f3)) (fun y => ⟨y.1, y.2.1, y.2.2.1, y.2.2.2⟩) (fun y => rfl) Try.underlying25 (by kernel_rfl) (FieldsOpen.cons open22 rfl (by kernel_rfl) (FieldsOpen.cons open23 rfl (by kernel_rfl) (FieldsOpen.cons open3 rfl (by kernel_rfl) (FieldsOpen.one open4 rfl (by kernel_rfl)))))
set_option maxRecDepth 100000 in
theorem lifted (os : Os) (started : os.Started) (H : Type) (enc : TypeId × Value → H) :
  ReturnsInHanded {} Try.checked os 6 .any (Rows.fnExactWriteSecSpec.pre6 enc Try.prog Try.f6 Rows.fnExactWriteSecRow.domain false) (Rows.fnExactWriteSecSpec.post enc Try.prog Try.f6 false true false false) := by
 refine returnsInHanded_of_change_sized (C := Try.checked) own started (by kernel_rfl) Try.func6
  (ChangeSpec.witness6 (enc := enc) (C := Try.checked) false ⟨#[], #[.agg #[.slice none 0 0, .slice none 0 0, .int .i64 0, .bool false], .int .i64 0, .slice none 0 0], []⟩ 8 (by kernel_rfl) (by kernel_rfl) (by kernel_rfl) (by kernel_rfl)) ?_
 intro W base args ds gs before hval0 hW hcnd hsz0 _
 have hval : ∀ (j : Nat) t v, Try.f6.params[j]? = some t → args[j]? = some v → Value.okWide Try.prog W .any base t v := hval0
 have hW' := hW
 obtain ⟨p, q, hA0, hV, rfl, hfz, hnd⟩ := hW
 have hA : DataW.TrodAll enc Try.prog W 0 (fun _ => true) true Try.f6.params.toList args.toList ds p := hA0
 rw [Try.params6] at hA hval
 obtain ⟨v0, vs0, d0, ds0, p0, q0, hargs, rfl, rfl, h0, r0⟩ := trodAll_cons hA
 obtain ⟨v1, vs1, d1, ds1, p1, q1, rfl, rfl, rfl, h1, r1⟩ := trodAll_cons r0
 obtain ⟨v2, vs2, d2, ds2, p2, q2, rfl, rfl, rfl, h2, r2⟩ := trodAll_cons r1
 obtain ⟨rfl, rfl, rfl⟩ := trodAll_nil r2
 obtain rfl : args = #[v0, v1, v2] := by cases args; simp_all
 obtain ⟨rfl, rfl⟩ := trodVars_none hV
 have k0 := h0
 have lt0 : ∀ x ∈ p0, x.block < W.heap.size := by obtain ⟨m, hm⟩ := k0; exact DataW.trod_lt m _ _ _ hm
 obtain ⟨y0, hk0, hg0⟩ : ∃ y, k25.K W y v0.cells.toList ∧ ((y.f0.length ≤ maxLen ∧ ∀ yf0' ∈ y.f0, (yf0'.length ≤ maxLen ∧ ∀ yf0'' ∈ yf0', (Lit.int .u8 yf0'').wf = true)) ∧ (y.f1.length ≤ maxLen ∧ ∀ yf1' ∈ y.f1, ((Lit.int .i64 yf1'.f0).wf = true ∧ (yf1'.f1.length ≤ maxLen ∧ ∀ yf1'f1' ∈ yf1'.f1, (Lit.int .u8 yf1'f1').wf = true))) ∧ (Lit.int .i64 y.f2).wf = true ∧ True) := by
  obtain ⟨fuel, hf⟩ := h0
  exact open25 enc W _ _ _ fuel _ _ hf
 obtain ⟨cs0, rfl, sz0⟩ := okWide_struct Try.underlying24 (hval 0 25 v0 rfl rfl)
 obtain ⟨A0_0, c0_0, A0_1, c0_1, e0, hc0_0, hr0_0, hc0_1, hr0_1⟩ := k25_open hk0
 obtain rfl : cs0 = #[.slice A0_0 y0.f0.length c0_0, .slice A0_1 y0.f1.length c0_1, .int .i64 y0.f2, .bool y0.f3] := by rw [← Array.toList_inj]; exact e0
 have k1 := h1
 have lt1 : ∀ x ∈ p1, x.block < W.heap.size := by obtain ⟨m, hm⟩ := k1; exact DataW.trod_lt m _ _ _ hm
 obtain ⟨y1, hk1, hg1⟩ : ∃ y, (Kd.int .i64).K W y v1.cells.toList ∧ (Lit.int .i64 y).wf = true := by
  obtain ⟨fuel, hf⟩ := h1
  exact open3 enc W _ _ _ fuel _ _ hf
 obtain ⟨s1, rfl⟩ := okWide_int Try.underlying3 (hval 1 3 v1 rfl rfl)
 obtain rfl : s1 = y1 := by simpa [Value.cells, Kd.int, Kd.scalar] using hk1
 have k2 := h2
 have lt2 : ∀ x ∈ p2, x.block < W.heap.size := by obtain ⟨m, hm⟩ := k2; exact DataW.trod_lt m _ _ _ hm
 obtain ⟨y2, hk2, hg2⟩ : ∃ y, (Kd.slice 5 (Kd.int .u8)).K W y v2.cells.toList ∧ (y.length ≤ maxLen ∧ ∀ y' ∈ y, (Lit.int .u8 y').wf = true) := by
  obtain ⟨fuel, hf⟩ := h2
  exact open27 enc W _ _ _ fuel _ _ hf
 obtain ⟨a2, len2, cap2, rfl⟩ := okWide_slice Try.underlying27 (hval 2 27 v2 rfl rfl)
 obtain ⟨A2, c2, e2, hc2, hr2⟩ := hk2
 simp only [Value.cells, List.cons.injEq, Value.slice.injEq, and_true] at e2
 obtain ⟨rfl, rfl, rfl⟩ := e2
 clear hA0 hval0 hsz0
 obtain ⟨kk, hP⟩ := Pure.FnExactWriteSec y0.f0 y0.f1 y0.f2 y0.f3 s1 y2 hg0.1 hg0.2.1 hg0.2.2.1 hg1 hg2
 refine (laws_FnExactWriteSec.calls kk A0_0 c0_0 y0.f0 A0_1 c0_1 y0.f1 y0.f2 y0.f3 s1 _ _ y2 true W hr0_0 hc0_0 hr0_1 hc0_1 hr2 hc2 hP).mono fun e W' hq => ?_
 obtain ⟨he, hb⟩ := hq
 have bel : Below W.heap.size W W' := by first | exact hb | exact hb.below
 subst he
 exact ⟨_, rfl, _, _, _, [], _, [], hW', trodAll_mk1 (shut_bool Try.underlying4 _), (trodAll_cons_mk (Below.trod laidOut (by kernel_rfl) (of_decide_eq_true (by kernel_rfl)) k0 bel lt0) (trodAll_cons_mk (Below.trod laidOut (by kernel_rfl) (of_decide_eq_true (by kernel_rfl)) k1 bel lt1) (trodAll_cons_mk (Below.trod laidOut (by kernel_rfl) (of_decide_eq_true (by kernel_rfl)) k2 bel lt2) trodAll_mk0))), rfl, bel.frame _, fun h => by cases h⟩
theorem over : Rows.fnExactWriteSecRow.holds Try.pinned (OpenSpec.ofChange Rows.fnExactWriteSecSpec) :=
 OpenClaim.holds_of_wide 6 Try.f6 rfl rfl rfl rfl rfl rfl rfl ⟨rfl, rfl, rfl, rfl, rfl⟩ rfl rfl rfl rfl rfl (by kernel_rfl) Try.func6 (by kernel_rfl)
  (of_decide_eq_true (by kernel_rfl)) (by unfold Func.isWrapper; first | (rw [if_pos (by decide +kernel)]; kernel_rfl) | (rw [if_neg (by decide +kernel)]; exact ⟨rfl, rfl⟩))
  (fun os started H enc _ => lifted os started H enc)
theorem proved : Rows.FnExactWriteSecSaid := over
end Go.Proofs.Ytkpcieenikmbmaa.fnExactWriteSec
namespace Go.Proofs.Ytkpcieenikmbmaa
/-- The row, under a short name, for the claim. -/
theorem fnExactWriteSec_holds : Rows.FnExactWriteSecSaid := fnExactWriteSec.proved
end Go.Proofs.Ytkpcieenikmbmaa
