/- Proved here: the statement FnExactAddRec holds of the given program for every input that its given row lets in: The program's AddRec returns what the reference's returns, for all arguments. Conditions: those of the given row and of its given card (the tables of the library that the card lists), and no others. -/
import Derived.WalkKit
import Derived.Below
import Derived.Test.YthkepmicdpgbbaaGreatDoorRows
import Derived.Test.YthkepmicdpgbbaaGreatDoorCards
import Derived.Test.YthkepmicdpgbbaaGreatDoorTie
import Derived.SevenTiedAt
import Derived.ProofKit
import Derived.OpenShut
import Derived.ShutString
import Derived.ChangeOld
import Derived.SizedLaws
import Derived.Lib.Bytes
import Derived.Test.YthkepmicdpgbbaaGreatDoorPkYzEla2
import Derived.Test.YthkepmicdpgbbaaGreatDoorPkYzP7
namespace Go.Proofs.YthkepmicdpgbbaaGreatDoor.P
open Go.RowKit Go.Proofs.YthkepmicdpgbbaaGreatDoorW.PrintWords Go.Proofs.YthkepmicdpgbbaaGreatDoorW.PrintLast Go.Proofs.YthkepmicdpgbbaaGreatDoorW.PrintMore
open Go.Proofs.YthkepmicdpgbbaaGreatDoor.E
set_option linter.unusedVariables false
theorem laws_FnExactAddRec.calls (k : Nat) (A0_0 : Option Addr) (c0_0 : Nat) (l0_0 : List (List Int)) (A0_1 : Option Addr) (c0_1 : Nat) (l0_1 : List S125) (a0_2 : Int) (a0_3 : Bool) (a1_0 : Int) (a1_1 : Int) (a1_2 : Int) (a1_3 : ByteArray) (r : Bool) (w : World) (hgw : GW w) (hr0_0 : Kd.C (Kd.slice 5 (Kd.int .u8)) w A0_0 l0_0.length l0_0) (hc0_0 : l0_0.length ≤ c0_0) (hr0_1 : Kd.C k125 w A0_1 l0_1.length l0_1) (hc0_1 : l0_1.length ≤ c0_1) (h : laws_FnExactAddRec.f k l0_0 l0_1 a0_2 a0_3 a1_0 a1_1 a1_2 a1_3 = some r) :
  Calls Tryz.prog 7 #[.agg #[.slice A0_0 l0_0.length c0_0, .slice A0_1 l0_1.length c0_1, .int .i64 a0_2, .bool a0_3], .agg #[.int .i64 a1_0, .int .i64 a1_1, .int .i64 a1_2, .string a1_3]] w fun e w' => e = .returned (.bool r) ∧ Below w.heap.size w w' := by
 refine calls_of_spec (laws_FnExactAddRec_ev h) hgw ?_
 simp only [RepsL]
 exact ⟨_, _, rfl, (by simp only [E.Reps, RepsL]; exact ⟨_, rfl, _, _, rfl, (show RepC _ _ _ _ from repC_of G0_imm (fun _ => rfl) (by decide) (hk_row G0_imm (fun _ => rfl) (by decide) hk_int) hr0_0 hc0_0), _, _, rfl, (show RepC _ _ _ _ from repC_of G0_imm (fun _ => rfl) (by decide) (fun x cs h => (hk_pair (fun _ => rfl) hk_int (hk_row G0_imm (fun _ => rfl) (by decide) hk_int)) (x.f0, x.f1) cs h) hr0_1 hc0_1), _, _, rfl, (by simp only [RepC]), _, _, rfl, (by simp only [RepC]), rfl⟩), _, _, rfl, (by simp only [E.Reps, RepsL]; exact ⟨_, rfl, _, _, rfl, (by simp only [RepC]), _, _, rfl, (by simp only [RepC]), _, _, rfl, (by simp only [RepC]), _, _, rfl, (by simp only [RepC]), rfl⟩), rfl⟩
end Go.Proofs.YthkepmicdpgbbaaGreatDoor.P

namespace Go.Proofs.YthkepmicdpgbbaaGreatDoor.fnExactAddRec
open Go.ChangeShapes Go.WideShapes Go.ChangeAt Go.RowKit Go.Proofs.YthkepmicdpgbbaaGreatDoorW.PrintWords Go.Proofs.YthkepmicdpgbbaaGreatDoor.P Go.Proofs.YthkepmicdpgbbaaGreatDoor.Open
open Go.ChangeMaps (open_string shut_string)
set_option linter.unusedVariables false
theorem own : ownKnob Tryz.prog.godebug = none := by kernel_rfl
theorem laidOut : laidOutB Tryz.prog = true := by kernel_rfl
theorem open5 : Opens Tryz.prog 5 (Kd.int .u8) (fun n => (Lit.int .u8 n).wf = true) := Opens.int Tryz.underlying5
theorem open22 : Opens Tryz.prog 22 (Kd.slice 5 (Kd.int .u8)) (fun l => l.length ≤ maxLen ∧ ∀ x ∈ l, (Lit.int .u8 x).wf = true) := Opens.slice 5 Tryz.underlying22 (by kernel_rfl) open5
theorem open35 : Opens Tryz.prog 35 (Kd.slice 22 (Kd.slice 5 (Kd.int .u8))) (fun l => l.length ≤ maxLen ∧ ∀ x ∈ l, (x.length ≤ maxLen ∧ ∀ x' ∈ x, (Lit.int .u8 x').wf = true)) := Opens.slice 22 Tryz.underlying35 (by kernel_rfl) open22
theorem open3 : Opens Tryz.prog 3 (Kd.int .i64) (fun n => (Lit.int .i64 n).wf = true) := Opens.int Tryz.underlying3
theorem open125 : Opens Tryz.prog 125 k125 (fun x => ((Lit.int .i64 x.f0).wf = true ∧ (x.f1.length ≤ maxLen ∧ ∀ xf1' ∈ x.f1, (Lit.int .u8 xf1').wf = true))) := Opens.struct (fun x : S125 => (x.f0, x.f1)) (fun y => ⟨y.1, y.2⟩) (fun y => rfl) Tryz.underlying125 (by kernel_rfl) (FieldsOpen.cons open3 rfl (by kernel_rfl) (FieldsOpen.one open22 rfl (by kernel_rfl)))
theorem open36 : Opens Tryz.prog 36 (Kd.slice 125 k125) (fun l => l.length ≤ maxLen ∧ ∀ x ∈ l, ((Lit.int .i64 x.f0).wf = true ∧ (x.f1.length ≤ maxLen ∧ ∀ xf1' ∈ x.f1, (Lit.int .u8 xf1').wf = true))) := Opens.slice 125 Tryz.underlying36 (by kernel_rfl) open125
theorem open4 : Opens Tryz.prog 4 Kd.bool (fun _ => True) := Opens.bool Tryz.underlying4
theorem open38 : Opens Tryz.prog 38 k38 (fun x => ((x.f0.length ≤ maxLen ∧ ∀ xf0' ∈ x.f0, (xf0'.length ≤ maxLen ∧ ∀ xf0'' ∈ xf0', (Lit.int .u8 xf0'').wf = true)) ∧ (x.f1.length ≤ maxLen ∧ ∀ xf1' ∈ x.f1, ((Lit.int .i64 xf1'.f0).wf = true ∧ (xf1'.f1.length ≤ maxLen ∧ ∀ xf1'f1' ∈ xf1'.f1, (Lit.int .u8 xf1'f1').wf = true))) ∧ (Lit.int .i64 x.f2).wf = true ∧ True)) := Opens.struct (fun x : S38 => (x.f0, x.f1, x.f2, x.f3)) (fun y => ⟨y.1, y.2.1, y.2.2.1, y.2.2.2⟩) (fun y => rfl) Tryz.underlying38 (by kernel_rfl) (FieldsOpen.cons open35 rfl (by kernel_rfl) (FieldsOpen.cons open36 rfl (by kernel_rfl) (FieldsOpen.cons open3 rfl (by kernel_rfl) (FieldsOpen.one open4 rfl (by kernel_rfl)))))
theorem open9 : Opens Tryz.prog 9 Kd.string (fun s => s.size ≤ maxLen) := Opens.string Tryz.underlying9
theorem open65 : Opens Tryz.prog 65 k65 (fun x => ((Lit.int .i64 x.f0).wf = true ∧ (Lit.int .i64 x.f1).wf = true ∧ (Lit.int .i64 x.f2).wf = true ∧ x.f3.size ≤ maxLen)) := Opens.struct (fun x : S65 => (x.f0, x.f1, x.f2, x.f3)) (fun y => ⟨y.1, y.2.1, y.2.2.1, y.2.2.2⟩) (fun y => rfl) Tryz.underlying65 (by kernel_rfl) (FieldsOpen.cons open3 rfl (by kernel_rfl) (FieldsOpen.cons open3 rfl (by kernel_rfl) (FieldsOpen.cons open3 rfl (by kernel_rfl) (FieldsOpen.one open9 rfl (by kernel_rfl)))))
theorem laid_met (os : Os) (args : Array Value) : laidMetH Tryz.prog Rows.fnExactAddRecRow.laid ((World.laidAll Tryz.prog os Rows.fnExactAddRecRow.laid).forCall (fun _ _ => 0) ⟨#[], args, []⟩).memory := by
 rw [MakeChecks.laidMetH_plain _ _ _ (by kernel_rfl)]
 exact laidMet_laidAll args (by kernel_rfl) (by kernel_rfl)
set_option maxRecDepth 100000 in
theorem lifted (os : Os) (started : os.Started) (H : Type) (enc : TypeId × Value → H) :
  ReturnsInHanded {} Tryz.checked os 7 .any (fun w args => (Rows.fnExactAddRecSpec.pre enc Tryz.prog Tryz.f7 Rows.fnExactAddRecRow.domain false w args ∧ laidMetH Tryz.prog Rows.fnExactAddRecRow.laid w) ∧ sizedMet enc Tryz.prog Tryz.f7 (OpenSpec.ofChange Rows.fnExactAddRecSpec) false w args) (Rows.fnExactAddRecSpec.post enc Tryz.prog Tryz.f7 false true false false) := by
 refine Card.returns_both (C := Tryz.checked) (X := fun w _ => laidMetH Tryz.prog Rows.fnExactAddRecRow.laid w) (fun _ _ _ hh h => h.of_heap hh) own started (by kernel_rfl) Tryz.func7
  (ChangeSpec.witness_at (enc := enc) (C := Tryz.checked) (os := os) (X := fun w _ => laidMetH Tryz.prog Rows.fnExactAddRecRow.laid w) false (World.laidAll Tryz.prog os Rows.fnExactAddRecRow.laid) #[.agg #[.slice none 0 0, .slice none 0 0, .int .i64 0, .bool false], .agg #[.int .i64 0, .int .i64 0, .int .i64 0, .string ByteArray.empty]] 8 (World.laidAll_os _ _ _) (by kernel_rfl) (by kernel_rfl) (by kernel_rfl) (by kernel_rfl) (by kernel_rfl) (laid_met os _)) ?_
 intro W base args ds gs before hval0 hW hcnd hsz0 hL hShape _
 have hGW : Go.Proofs.YthkepmicdpgbbaaGreatDoor.P.GW W := Card.gw hL (by kernel_rfl) (by kernel_rfl) hShape
 have hval : ∀ (j : Nat) t v, Tryz.f7.params[j]? = some t → args[j]? = some v → Value.okWide Tryz.prog W .any base t v := hval0
 have hW' := hW
 obtain ⟨p, q, hA0, hV, rfl, hfz, hnd⟩ := hW
 have hA : DataW.TrodAll enc Tryz.prog W 0 (fun _ => true) true Tryz.f7.params.toList args.toList ds p := hA0
 rw [Tryz.params7] at hA hval
 obtain ⟨v0, vs0, d0, ds0, p0, q0, hargs, rfl, rfl, h0, r0⟩ := trodAll_cons hA
 obtain ⟨v1, vs1, d1, ds1, p1, q1, rfl, rfl, rfl, h1, r1⟩ := trodAll_cons r0
 obtain ⟨rfl, rfl, rfl⟩ := trodAll_nil r1
 obtain rfl : args = #[v0, v1] := by cases args; simp_all
 obtain ⟨rfl, rfl⟩ := trodVars_none hV
 have k0 := h0
 have lt0 : ∀ x ∈ p0, x.block < W.heap.size := by obtain ⟨m, hm⟩ := k0; exact DataW.trod_lt m _ _ _ hm
 obtain ⟨y0, hk0, hg0⟩ : ∃ y, k38.K W y v0.cells.toList ∧ ((y.f0.length ≤ maxLen ∧ ∀ yf0' ∈ y.f0, (yf0'.length ≤ maxLen ∧ ∀ yf0'' ∈ yf0', (Lit.int .u8 yf0'').wf = true)) ∧ (y.f1.length ≤ maxLen ∧ ∀ yf1' ∈ y.f1, ((Lit.int .i64 yf1'.f0).wf = true ∧ (yf1'.f1.length ≤ maxLen ∧ ∀ yf1'f1' ∈ yf1'.f1, (Lit.int .u8 yf1'f1').wf = true))) ∧ (Lit.int .i64 y.f2).wf = true ∧ True) := by
  obtain ⟨fuel, hf⟩ := h0
  exact open38 enc W _ _ _ fuel _ _ hf
 obtain ⟨cs0, rfl, sz0⟩ := okWide_struct Tryz.underlying37 (hval 0 38 v0 rfl rfl)
 obtain ⟨A0_0, c0_0, A0_1, c0_1, e0, hc0_0, hr0_0, hc0_1, hr0_1⟩ := k38_open hk0
 obtain rfl : cs0 = #[.slice A0_0 y0.f0.length c0_0, .slice A0_1 y0.f1.length c0_1, .int .i64 y0.f2, .bool y0.f3] := by rw [← Array.toList_inj]; exact e0
 have k1 := h1
 have lt1 : ∀ x ∈ p1, x.block < W.heap.size := by obtain ⟨m, hm⟩ := k1; exact DataW.trod_lt m _ _ _ hm
 obtain ⟨y1, hk1, hg1⟩ : ∃ y, k65.K W y v1.cells.toList ∧ ((Lit.int .i64 y.f0).wf = true ∧ (Lit.int .i64 y.f1).wf = true ∧ (Lit.int .i64 y.f2).wf = true ∧ y.f3.size ≤ maxLen) := by
  obtain ⟨fuel, hf⟩ := h1
  exact open65 enc W _ _ _ fuel _ _ hf
 obtain ⟨cs1, rfl, sz1⟩ := okWide_struct Tryz.underlying24 (hval 1 65 v1 rfl rfl)
 have e1 := k65_open hk1
 obtain rfl : cs1 = #[.int .i64 y1.f0, .int .i64 y1.f1, .int .i64 y1.f2, .string y1.f3] := by rw [← Array.toList_inj]; exact e1
 clear hA0 hval0 hsz0
 obtain ⟨kk, hP⟩ := Pure.FnExactAddRec y0.f0 y0.f1 y0.f2 y0.f3 y1.f0 y1.f1 y1.f2 y1.f3 hg0.1 hg0.2.1 hg0.2.2.1 hg1.1 hg1.2.1 hg1.2.2.1 hg1.2.2.2
 refine (laws_FnExactAddRec.calls kk A0_0 c0_0 y0.f0 A0_1 c0_1 y0.f1 y0.f2 y0.f3 y1.f0 y1.f1 y1.f2 y1.f3 true W hGW hr0_0 hc0_0 hr0_1 hc0_1 hP).mono fun e W' hq => ?_
 obtain ⟨he, hb⟩ := hq
 have bel : Below W.heap.size W W' := by first | exact hb | exact hb.below
 subst he
 exact ⟨_, rfl, _, _, _, [], _, [], hW', trodAll_mk1 (shut_bool Tryz.underlying4 _), (trodAll_cons_mk (Below.trod laidOut (by kernel_rfl) (of_decide_eq_true (by kernel_rfl)) k0 bel lt0) (trodAll_cons_mk (Below.trod laidOut (by kernel_rfl) (of_decide_eq_true (by kernel_rfl)) k1 bel lt1) trodAll_mk0)), rfl, bel.frame _, fun h => by cases h⟩
theorem over : Rows.fnExactAddRecRow.holds Tryz.pinned (OpenSpec.ofChange Rows.fnExactAddRecSpec) :=
 OpenClaim.holds_of_wide 7 Tryz.f7 rfl rfl rfl rfl rfl rfl rfl ⟨rfl, rfl, rfl, rfl, rfl⟩ rfl rfl rfl rfl rfl (by kernel_rfl) Tryz.func7 (by kernel_rfl)
  (of_decide_eq_true (by kernel_rfl)) (by unfold Func.isWrapper; first | (rw [if_pos (by decide +kernel)]; kernel_rfl) | (rw [if_neg (by decide +kernel)]; exact ⟨rfl, rfl⟩))
  (fun os started H enc _ => lifted os started H enc)
theorem proved : Rows.FnExactAddRecSaid := over
theorem card : Rows.FnExactAddRecCardSaid :=
 Claim7.holds_tied_plain_at .later [] [.data, .data, .data, .data, .pinned] true (true, "a0b08ec5bca06275ea6e51147ab65c76ea4c60e324e187ea80e5266fafab190f") false
  over (fun _ h => by cases h) (by kernel_rfl) (fun _ h => by cases h) fnExactAddRec_row_tie rfl ⟨rfl, rfl⟩ (by kernel_rfl) rfl
  (fun f fn hf hfn => by
   obtain rfl : f = 7 := Option.some.inj ((show Tryz.prog.funcNamed Rows.fnExactAddRecRow.func = some 7 by kernel_rfl).symm.trans hf) |>.symm
   obtain rfl : fn = Tryz.f7 := (Option.some.inj (Tryz.func7.symm.trans hfn)).symm
   refine ⟨by kernel_rfl, fun j t ht => ?_⟩
   have hall : Tryz.f7.params.toList.all (fun t => !(Tryz.prog.wantsStandIn t)) = true := by kernel_rfl
   have hm : t ∈ Tryz.f7.params.toList := by
    rw [← Array.getElem?_toList] at ht
    exact List.mem_of_getElem? ht
   have h3 : Tryz.prog.wantsStandIn t = false := by simpa using List.all_eq_true.1 hall t hm
   exact h3)
  (by kernel_rfl)
#print axioms card
end Go.Proofs.YthkepmicdpgbbaaGreatDoor.fnExactAddRec
namespace Go.Proofs.YthkepmicdpgbbaaGreatDoor
theorem fnExactAddRec_holds : Rows.FnExactAddRecCardSaid := fnExactAddRec.card
end Go.Proofs.YthkepmicdpgbbaaGreatDoor
