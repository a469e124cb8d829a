/- The statement FnExactKnownOk: the law's row, out of its pure statement and the walk of its code. For every input the law returns true, and each argument reads behind the call as it read before; no condition beyond the row's own. -/
import Derived.Test.YtldfehmaophfjaaDoorRows
import Derived.Test.YtldfehmaophfjaaDoorCards
import Derived.Test.YtldfehmaophfjaaDoorTie
import Derived.Test.YtldfehmaophfjaaDoorCard
import Derived.SevenTiedAt
import Derived.Test.YtldfehmaophfjaaDoorPx13
import Derived.Test.YtldfehmaophfjaaDoorOpen
import Derived.Test.YtldfehmaophfjaaDoorPureFnExactKnownOk
import Derived.WalkKit
import Derived.ProofKit
import Derived.OpenShut
import Derived.ShutString
import Derived.ChangeOld
import Derived.Below
import Derived.SizedLaws
namespace Go.Proofs.YtldfehmaophfjaaDoor.fnExactKnownOk
open Go.ChangeShapes Go.WideShapes Go.ChangeAt Go.RowKit Go.Proofs.YtldfehmaophfjaaDoorW.PrintWords Go.Proofs.YtldfehmaophfjaaDoor.P Go.Proofs.YtldfehmaophfjaaDoor.Open
open Go.ChangeMaps (open_string shut_string)
set_option linter.unusedVariables false
theorem own : ownKnob Tryd.prog.godebug = none := by kernel_rfl
theorem laidOut : laidOutB Tryd.prog = true := by kernel_rfl
theorem open3 : Opens Tryd.prog 3 (Kd.int .i64) (fun n => (Lit.int .i64 n).wf = true) := Opens.int Tryd.underlying3
theorem open9 : Opens Tryd.prog 9 Kd.string (fun s => s.size ≤ maxLen) := Opens.string Tryd.underlying9
theorem open64 : Opens Tryd.prog 64 k64 (fun x => ((Lit.int .i64 x.f0).wf = true ∧ x.f1.size ≤ maxLen ∧ (Lit.int .i64 x.f2).wf = true ∧ x.f3.size ≤ maxLen ∧ (Lit.int .i64 x.f4).wf = true ∧ (Lit.int .i64 x.f5).wf = true)) := Opens.struct (fun x : S64 => (x.f0, x.f1, x.f2, x.f3, x.f4, x.f5)) (fun y => ⟨y.1, y.2.1, y.2.2.1, y.2.2.2.1, y.2.2.2.2.1, y.2.2.2.2.2⟩) (fun y => rfl) Tryd.underlying64 (by kernel_rfl) (FieldsOpen.cons open3 rfl (by kernel_rfl) (FieldsOpen.cons open9 rfl (by kernel_rfl) (FieldsOpen.cons open3 rfl (by kernel_rfl) (FieldsOpen.cons open9 rfl (by kernel_rfl) (FieldsOpen.cons open3 rfl (by kernel_rfl) (FieldsOpen.one open3 rfl (by kernel_rfl)))))))
theorem laid_met (os : Os) (args : Array Value) : laidMetH Tryd.prog Rows.fnExactKnownOkRow.laid ((World.laidAll Tryd.prog os Rows.fnExactKnownOkRow.laid).forCall (fun _ _ => 0) ⟨#[], args, []⟩).memory := by
  rw [MakeChecks.laidMetH_plain _ _ _ (by kernel_rfl)]
  exact laidMet_laidAll args (by kernel_rfl) (by kernel_rfl)
set_option maxRecDepth 100000 in
theorem lifted (os : Os) (started : os.Started) (H : Type) (enc : TypeId × Value → H) :
    ReturnsInHanded {} Tryd.checked os 7 .any (fun w args => (Rows.fnExactKnownOkSpec.pre enc Tryd.prog Tryd.f7 Rows.fnExactKnownOkRow.domain false w args ∧ laidMetH Tryd.prog Rows.fnExactKnownOkRow.laid w) ∧ sizedMet enc Tryd.prog Tryd.f7 (OpenSpec.ofChange Rows.fnExactKnownOkSpec) false w args) (Rows.fnExactKnownOkSpec.post enc Tryd.prog Tryd.f7 false true false false) := by
  refine Card.returns_both (C := Tryd.checked) (X := fun w _ => laidMetH Tryd.prog Rows.fnExactKnownOkRow.laid w) (fun _ _ _ hh h => h.of_heap hh) own started (by kernel_rfl) Tryd.func7
    (ChangeSpec.witness_at (enc := enc) (C := Tryd.checked) (os := os) (X := fun w _ => laidMetH Tryd.prog Rows.fnExactKnownOkRow.laid w) false (World.laidAll Tryd.prog os Rows.fnExactKnownOkRow.laid) #[.agg #[.int .i64 0, .string ByteArray.empty, .int .i64 0, .string ByteArray.empty, .int .i64 0, .int .i64 0]] 8 (World.laidAll_os _ _ _) (by kernel_rfl) (by kernel_rfl) (by kernel_rfl) (by kernel_rfl) (by kernel_rfl) (laid_met os _)) ?_
  intro W base args ds gs before hval0 hW hcnd hsz0 hL hShape _
  have hGW : Go.Proofs.YtldfehmaophfjaaDoor.P.GW W := Card.gw hL (by kernel_rfl) (by kernel_rfl) hShape
  have hval : ∀ (j : Nat) t v, Tryd.f7.params[j]? = some t → args[j]? = some v → Value.okWide Tryd.prog W .any base t v := hval0
  have hW' := hW
  obtain ⟨p, q, hA0, hV, rfl, hfz, hnd⟩ := hW
  have hA : DataW.TrodAll enc Tryd.prog W 0 (fun _ => true) true Tryd.f7.params.toList args.toList ds p := hA0
  rw [Tryd.params7] at hA hval
  obtain ⟨v0, vs0, d0, ds0, p0, q0, hargs, rfl, rfl, h0, r0⟩ := trodAll_cons hA
  obtain ⟨rfl, rfl, rfl⟩ := trodAll_nil r0
  obtain rfl : args = #[v0] := by cases args; simp_all
  obtain ⟨rfl, rfl⟩ := trodVars_none hV
  have k0 := h0
  have lt0 : ∀ x ∈ p0, x.block < W.heap.size := by obtain ⟨m, hm⟩ := k0; exact DataW.trod_lt m _ _ _ hm
  obtain ⟨y0, hk0, hg0⟩ : ∃ y, k64.K W y v0.cells.toList ∧ ((Lit.int .i64 y.f0).wf = true ∧ y.f1.size ≤ maxLen ∧ (Lit.int .i64 y.f2).wf = true ∧ y.f3.size ≤ maxLen ∧ (Lit.int .i64 y.f4).wf = true ∧ (Lit.int .i64 y.f5).wf = true) := by
    obtain ⟨fuel, hf⟩ := h0
    exact open64 enc W _ _ _ fuel _ _ hf
  obtain ⟨cs0, rfl, sz0⟩ := okWide_struct Tryd.underlying63 (hval 0 64 v0 rfl rfl)
  have e0 := k64_open hk0
  obtain rfl : cs0 = #[.int .i64 y0.f0, .string y0.f1, .int .i64 y0.f2, .string y0.f3, .int .i64 y0.f4, .int .i64 y0.f5] := by rw [← Array.toList_inj]; exact e0
  clear hA0 hval0 hsz0
  obtain ⟨kk, hP⟩ := Pure.FnExactKnownOk y0.f0 y0.f1 y0.f2 y0.f3 y0.f4 y0.f5 hg0.1 hg0.2.1 hg0.2.2.1 hg0.2.2.2.1 hg0.2.2.2.2.1 hg0.2.2.2.2.2
  refine (laws_FnExactKnownOk.calls kk y0.f0 y0.f1 y0.f2 y0.f3 y0.f4 y0.f5 true W hGW  hP).mono fun e W' hq => ?_
  obtain ⟨he, hb⟩ := hq
  have bel : Below W.heap.size W W' := by first | exact hb | exact hb.below
  subst he
  exact ⟨_, rfl, _, _, _, [], _, [], hW', trodAll_mk1 (shut_bool Tryd.underlying4 _), (trodAll_cons_mk (Below.trod laidOut (by kernel_rfl) (of_decide_eq_true (by kernel_rfl)) k0 bel lt0) trodAll_mk0), rfl, bel.frame _, fun h => by cases h⟩
theorem over : Rows.fnExactKnownOkRow.holds Tryd.pinned (OpenSpec.ofChange Rows.fnExactKnownOkSpec) :=
  OpenClaim.holds_of_wide 7 Tryd.f7 rfl rfl rfl rfl rfl rfl rfl ⟨rfl, rfl, rfl, rfl, rfl⟩ rfl rfl rfl rfl rfl (by kernel_rfl) Tryd.func7 (by kernel_rfl)
    (of_decide_eq_true (by kernel_rfl)) (by unfold Func.isWrapper; first | (rw [if_pos (by decide +kernel)]; kernel_rfl) | (rw [if_neg (by decide +kernel)]; exact ⟨rfl, rfl⟩))
    (fun os started H enc _ => lifted os started H enc)
theorem proved : Rows.FnExactKnownOkSaid := over
theorem card : Rows.FnExactKnownOkCardSaid :=
  Claim7.holds_tied_plain_at .later [] [.data, .data, .data, .data, .pinned] true (true, "fa5b28a68494b217eec442d1dbfc3ca830ff8ec13be7255b149b66e87c77963f") false
    over (fun _ h => by cases h) (by kernel_rfl) (fun _ h => by cases h) fnExactKnownOk_row_tie rfl ⟨rfl, rfl⟩ (by kernel_rfl) rfl
    (fun f fn hf hfn => by
      obtain rfl : f = 7 := Option.some.inj ((show Tryd.prog.funcNamed Rows.fnExactKnownOkRow.func = some 7 by kernel_rfl).symm.trans hf) |>.symm
      obtain rfl : fn = Tryd.f7 := (Option.some.inj (Tryd.func7.symm.trans hfn)).symm
      refine ⟨by kernel_rfl, fun j t ht => ?_⟩
      have hall : Tryd.f7.params.toList.all (fun t => !(Tryd.prog.wantsStandIn t)) = true := by kernel_rfl
      have hm : t ∈ Tryd.f7.params.toList := by
        rw [← Array.getElem?_toList] at ht
        exact List.mem_of_getElem? ht
      have h3 : Tryd.prog.wantsStandIn t = false := by simpa using List.all_eq_true.1 hall t hm
      exact h3)
    (by kernel_rfl)
#print axioms card
end Go.Proofs.YtldfehmaophfjaaDoor.fnExactKnownOk
namespace Go.Proofs.YtldfehmaophfjaaDoor
/-- The card, under a short name, for the claim. -/
theorem fnExactKnownOk_holds : Rows.FnExactKnownOkCardSaid := fnExactKnownOk.card
end Go.Proofs.YtldfehmaophfjaaDoor
