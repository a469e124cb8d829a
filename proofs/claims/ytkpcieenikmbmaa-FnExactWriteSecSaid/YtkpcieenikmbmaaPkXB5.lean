/- Texts of this seat's claims, put together: EvZ, WLast, WApart, WArr, WFoot, WKept, WShare, WN, WRepsOne, WInv, WMore, Px0, Pxd, Pxl, EvY, Enc, Pxh1, Pxh2 -/
import Derived.Test.YtkpcieenikmbmaaProg
import Derived.Test.YtkpcieenikmbmaaChecked
import Derived.KernelRfl
import Derived.Laws.StructEq
import Derived.OrdersHeld
import Derived.Deep.RegionHeld3
import Derived.Laws.BitsLemmas
import Derived.RowKit
import Derived.Below
import Derived.Deep.Draws
import Derived.Deep.AppendLies
import Derived.Maps.AppendAt
import Derived.OwnWalk
import Derived.Laws.BytesArg
import Derived.Laws.MakeOwn
import Derived.Laws.OwnMore
import Derived.Deep.OwnRows
import Derived.Tactics
import Derived.Lib.ConvBytes
import Derived.Laws.Slices
import Derived.WalkKit
import Derived.RowKit3
import Derived.Deep.LoopGhost
import Derived.Deep.QuietTactic
import Derived.BigQuiet
import Derived.WideLaws
import Derived.Deep.DeepCutAuto
import Derived.Deep.CutBlock
import Derived.Laws.Rows
import Derived.Lib.AppendStr
import Derived.ArgAppend
import Derived.Laws.IdiomCopy
import Derived.Lib.LazyBuf
import Derived.Test.YtkpcieenikmbmaaPkXB4
/- The types that the functions use. -/
namespace Go.Proofs.Ytkpcieenikmbmaa.E
open Go Go.RowKit
theorem ty2 : TyFact Try.prog 2 ⟨1, 8, .int .i64 0, .int .i64⟩ := ⟨by kernel_rfl, (show Try.prog.underlying 2 = some (.int .i64) by kernel_rfl), by kernel_rfl⟩
theorem ty3 : TyFact Try.prog 3 ⟨1, 8, .int .i64 0, .int .i64⟩ := ⟨by kernel_rfl, (show Try.prog.underlying 3 = some (.int .i64) by kernel_rfl), by kernel_rfl⟩
theorem ty4 : TyFact Try.prog 4 ⟨1, 1, .bool false, .bool⟩ := ⟨by kernel_rfl, (show Try.prog.underlying 4 = some (.bool) by kernel_rfl), by kernel_rfl⟩
theorem ty5 : TyFact Try.prog 5 ⟨1, 1, .int .u8 0, .int .u8⟩ := ⟨by kernel_rfl, (show Try.prog.underlying 5 = some (.int .u8) by kernel_rfl), by kernel_rfl⟩
theorem ty7 : TyFact Try.prog 7 ⟨4, 24, .agg #[.int .i64 0, .int .i64 0, .bool false, .int .u8 0], .struct [(0, 1), (1, 1), (2, 1), (3, 1)]⟩ := ⟨by kernel_rfl, (show ((Try.prog.underlying 7).bind structOf).map (fun l => l.map fun x => (x.1, (Try.prog.info? x.2).map (·.size))) = some [(0, some 1), (1, some 1), (2, some 1), (3, some 1)] by kernel_rfl), by kernel_rfl⟩
theorem ty9 : TyFact Try.prog 9 ⟨1, 16, .string (⟨#[]⟩ : ByteArray), .str⟩ := ⟨by kernel_rfl, (show Try.prog.underlying 9 = some (.string) by kernel_rfl), by kernel_rfl⟩
theorem ty12 : TyFact Try.prog 12 ⟨1, 8, .int .u64 0, .int .u64⟩ := ⟨by kernel_rfl, (show Try.prog.underlying 12 = some (.int .u64) by kernel_rfl), by kernel_rfl⟩
theorem ty13 : TyFact Try.prog 13 ⟨2, 24, .agg #[.string (⟨#[]⟩ : ByteArray), .int .u64 0], .struct [(0, 1), (1, 1)]⟩ := ⟨by kernel_rfl, (show ((Try.prog.underlying 13).bind structOf).map (fun l => l.map fun x => (x.1, (Try.prog.info? x.2).map (·.size))) = some [(0, some 1), (1, some 1)] by kernel_rfl), by kernel_rfl⟩
theorem ty15 : TyFact Try.prog 15 ⟨1, 8, .pointer none, .ptr 89⟩ := ⟨by kernel_rfl, (show Try.prog.underlying 15 = some (.pointer 89) by kernel_rfl), by kernel_rfl⟩
theorem ty16 : TyFact Try.prog 16 ⟨1, 8, .pointer none, .ptr 92⟩ := ⟨by kernel_rfl, (show Try.prog.underlying 16 = some (.pointer 92) by kernel_rfl), by kernel_rfl⟩
theorem ty17 : TyFact Try.prog 17 ⟨1, 8, .pointer none, .ptr 102⟩ := ⟨by kernel_rfl, (show Try.prog.underlying 17 = some (.pointer 102) by kernel_rfl), by kernel_rfl⟩
theorem ty18 : TyFact Try.prog 18 ⟨1, 8, .agg #[.pointer none], .struct [(0, 1)]⟩ := ⟨by kernel_rfl, (show ((Try.prog.underlying 18).bind structOf).map (fun l => l.map fun x => (x.1, (Try.prog.info? x.2).map (·.size))) = some [(0, some 1)] by kernel_rfl), by kernel_rfl⟩
theorem ty21 : TyFact Try.prog 21 ⟨1, 4, .int .i32 0, .int .i32⟩ := ⟨by kernel_rfl, (show Try.prog.underlying 21 = some (.int .i32) by kernel_rfl), by kernel_rfl⟩
theorem ty22 : TyFact Try.prog 22 ⟨1, 24, .slice none 0 0, .slice 27⟩ := ⟨by kernel_rfl, (show Try.prog.underlying 22 = some (.slice 27) by kernel_rfl), by kernel_rfl⟩
theorem ty23 : TyFact Try.prog 23 ⟨1, 24, .slice none 0 0, .slice 77⟩ := ⟨by kernel_rfl, (show Try.prog.underlying 23 = some (.slice 77) by kernel_rfl), by kernel_rfl⟩
theorem ty24 : TyFact Try.prog 24 ⟨4, 64, .agg #[.slice none 0 0, .slice none 0 0, .int .i64 0, .bool false], .struct [(0, 1), (1, 1), (2, 1), (3, 1)]⟩ := ⟨by kernel_rfl, (show ((Try.prog.underlying 24).bind structOf).map (fun l => l.map fun x => (x.1, (Try.prog.info? x.2).map (·.size))) = some [(0, some 1), (1, some 1), (2, some 1), (3, some 1)] by kernel_rfl), by kernel_rfl⟩
theorem ty25 : TyFact Try.prog 25 ⟨4, 64, .agg #[.slice none 0 0, .slice none 0 0, .int .i64 0, .bool false], .struct [(0, 1), (1, 1), (2, 1), (3, 1)]⟩ := ⟨by kernel_rfl, (show ((Try.prog.underlying 25).bind structOf).map (fun l => l.map fun x => (x.1, (Try.prog.info? x.2).map (·.size))) = some [(0, some 1), (1, some 1), (2, some 1), (3, some 1)] by kernel_rfl), by kernel_rfl⟩
theorem ty27 : TyFact Try.prog 27 ⟨1, 24, .slice none 0 0, .slice 5⟩ := ⟨by kernel_rfl, (show Try.prog.underlying 27 = some (.slice 5) by kernel_rfl), by kernel_rfl⟩
theorem ty29 : TyFact Try.prog 29 ⟨1, 24, .slice none 0 0, .slice 54⟩ := ⟨by kernel_rfl, (show Try.prog.underlying 29 = some (.slice 54) by kernel_rfl), by kernel_rfl⟩
theorem ty30 : TyFact Try.prog 30 ⟨4, 64, .agg #[.slice none 0 0, .slice none 0 0, .int .i64 0, .bool false], .struct [(0, 1), (1, 1), (2, 1), (3, 1)]⟩ := ⟨by kernel_rfl, (show ((Try.prog.underlying 30).bind structOf).map (fun l => l.map fun x => (x.1, (Try.prog.info? x.2).map (·.size))) = some [(0, some 1), (1, some 1), (2, some 1), (3, some 1)] by kernel_rfl), by kernel_rfl⟩
theorem ty31 : TyFact Try.prog 31 ⟨4, 64, .agg #[.slice none 0 0, .slice none 0 0, .int .i64 0, .bool false], .struct [(0, 1), (1, 1), (2, 1), (3, 1)]⟩ := ⟨by kernel_rfl, (show ((Try.prog.underlying 31).bind structOf).map (fun l => l.map fun x => (x.1, (Try.prog.info? x.2).map (·.size))) = some [(0, some 1), (1, some 1), (2, some 1), (3, some 1)] by kernel_rfl), by kernel_rfl⟩
theorem ty53 : TyFact Try.prog 53 ⟨2, 32, .agg #[.int .i64 0, .slice none 0 0], .struct [(0, 1), (1, 1)]⟩ := ⟨by kernel_rfl, (show ((Try.prog.underlying 53).bind structOf).map (fun l => l.map fun x => (x.1, (Try.prog.info? x.2).map (·.size))) = some [(0, some 1), (1, some 1)] by kernel_rfl), by kernel_rfl⟩
theorem ty54 : TyFact Try.prog 54 ⟨2, 32, .agg #[.int .i64 0, .slice none 0 0], .struct [(0, 1), (1, 1)]⟩ := ⟨by kernel_rfl, (show ((Try.prog.underlying 54).bind structOf).map (fun l => l.map fun x => (x.1, (Try.prog.info? x.2).map (·.size))) = some [(0, some 1), (1, some 1)] by kernel_rfl), by kernel_rfl⟩
theorem ty63 : TyFact Try.prog 63 ⟨1, 8, .pointer none, .ptr 81⟩ := ⟨by kernel_rfl, (show Try.prog.underlying 63 = some (.pointer 81) by kernel_rfl), by kernel_rfl⟩
theorem ty69 : TyFact Try.prog 69 ⟨1, 24, .slice none 0 0, .slice 3⟩ := ⟨by kernel_rfl, (show Try.prog.underlying 69 = some (.slice 3) by kernel_rfl), by kernel_rfl⟩
theorem ty73 : TyFact Try.prog 73 ⟨1, 8, .pointer none, .ptr 31⟩ := ⟨by kernel_rfl, (show Try.prog.underlying 73 = some (.pointer 31) by kernel_rfl), by kernel_rfl⟩
theorem ty77 : TyFact Try.prog 77 ⟨2, 32, .agg #[.int .i64 0, .slice none 0 0], .struct [(0, 1), (1, 1)]⟩ := ⟨by kernel_rfl, (show ((Try.prog.underlying 77).bind structOf).map (fun l => l.map fun x => (x.1, (Try.prog.info? x.2).map (·.size))) = some [(0, some 1), (1, some 1)] by kernel_rfl), by kernel_rfl⟩
theorem ty80 : TyFact Try.prog 80 ⟨3, 40, .agg #[.slice none 0 0, .int .i64 0, .int .i64 0], .struct [(0, 1), (1, 1), (2, 1)]⟩ := ⟨by kernel_rfl, (show ((Try.prog.underlying 80).bind structOf).map (fun l => l.map fun x => (x.1, (Try.prog.info? x.2).map (·.size))) = some [(0, some 1), (1, some 1), (2, some 1)] by kernel_rfl), by kernel_rfl⟩
theorem ty81 : TyFact Try.prog 81 ⟨3, 40, .agg #[.slice none 0 0, .int .i64 0, .int .i64 0], .struct [(0, 1), (1, 1), (2, 1)]⟩ := ⟨by kernel_rfl, (show ((Try.prog.underlying 81).bind structOf).map (fun l => l.map fun x => (x.1, (Try.prog.info? x.2).map (·.size))) = some [(0, some 1), (1, some 1), (2, some 1)] by kernel_rfl), by kernel_rfl⟩
theorem ty86 : TyFact Try.prog 86 ⟨1, 8, .int .u64 0, .int .u64⟩ := ⟨by kernel_rfl, (show Try.prog.underlying 86 = some (.int .u64) by kernel_rfl), by kernel_rfl⟩
theorem ty88 : TyFact Try.prog 88 ⟨4, 40, .agg #[.pointer none, .pointer none, .pointer none, .string (⟨#[]⟩ : ByteArray)], .struct [(0, 1), (1, 1), (2, 1), (3, 1)]⟩ := ⟨by kernel_rfl, (show ((Try.prog.underlying 88).bind structOf).map (fun l => l.map fun x => (x.1, (Try.prog.info? x.2).map (·.size))) = some [(0, some 1), (1, some 1), (2, some 1), (3, some 1)] by kernel_rfl), by kernel_rfl⟩
theorem ty94 : TyFact Try.prog 94 ⟨1, 4, .int .u32 0, .int .u32⟩ := ⟨by kernel_rfl, (show Try.prog.underlying 94 = some (.int .u32) by kernel_rfl), by kernel_rfl⟩
theorem ty98 : TyFact Try.prog 98 ⟨1, 8, .pointer none, .ptr 5⟩ := ⟨by kernel_rfl, (show Try.prog.underlying 98 = some (.pointer 5) by kernel_rfl), by kernel_rfl⟩
def tys : List (Nat × TI) := [(2, ⟨1, 8, .int .i64 0, .int .i64⟩), (3, ⟨1, 8, .int .i64 0, .int .i64⟩), (4, ⟨1, 1, .bool false, .bool⟩), (5, ⟨1, 1, .int .u8 0, .int .u8⟩), (7, ⟨4, 24, .agg #[.int .i64 0, .int .i64 0, .bool false, .int .u8 0], .struct [(0, 1), (1, 1), (2, 1), (3, 1)]⟩), (9, ⟨1, 16, .string (⟨#[]⟩ : ByteArray), .str⟩), (12, ⟨1, 8, .int .u64 0, .int .u64⟩), (13, ⟨2, 24, .agg #[.string (⟨#[]⟩ : ByteArray), .int .u64 0], .struct [(0, 1), (1, 1)]⟩), (15, ⟨1, 8, .pointer none, .ptr 89⟩), (16, ⟨1, 8, .pointer none, .ptr 92⟩), (17, ⟨1, 8, .pointer none, .ptr 102⟩), (18, ⟨1, 8, .agg #[.pointer none], .struct [(0, 1)]⟩), (21, ⟨1, 4, .int .i32 0, .int .i32⟩), (22, ⟨1, 24, .slice none 0 0, .slice 27⟩), (23, ⟨1, 24, .slice none 0 0, .slice 77⟩), (24, ⟨4, 64, .agg #[.slice none 0 0, .slice none 0 0, .int .i64 0, .bool false], .struct [(0, 1), (1, 1), (2, 1), (3, 1)]⟩), (25, ⟨4, 64, .agg #[.slice none 0 0, .slice none 0 0, .int .i64 0, .bool false], .struct [(0, 1), (1, 1), (2, 1), (3, 1)]⟩), (27, ⟨1, 24, .slice none 0 0, .slice 5⟩), (29, ⟨1, 24, .slice none 0 0, .slice 54⟩), (30, ⟨4, 64, .agg #[.slice none 0 0, .slice none 0 0, .int .i64 0, .bool false], .struct [(0, 1), (1, 1), (2, 1), (3, 1)]⟩), (31, ⟨4, 64, .agg #[.slice none 0 0, .slice none 0 0, .int .i64 0, .bool false], .struct [(0, 1), (1, 1), (2, 1), (3, 1)]⟩), (53, ⟨2, 32, .agg #[.int .i64 0, .slice none 0 0], .struct [(0, 1), (1, 1)]⟩), (54, ⟨2, 32, .agg #[.int .i64 0, .slice none 0 0], .struct [(0, 1), (1, 1)]⟩), (63, ⟨1, 8, .pointer none, .ptr 81⟩), (69, ⟨1, 24, .slice none 0 0, .slice 3⟩), (73, ⟨1, 8, .pointer none, .ptr 31⟩), (77, ⟨2, 32, .agg #[.int .i64 0, .slice none 0 0], .struct [(0, 1), (1, 1)]⟩), (80, ⟨3, 40, .agg #[.slice none 0 0, .int .i64 0, .int .i64 0], .struct [(0, 1), (1, 1), (2, 1)]⟩), (81, ⟨3, 40, .agg #[.slice none 0 0, .int .i64 0, .int .i64 0], .struct [(0, 1), (1, 1), (2, 1)]⟩), (86, ⟨1, 8, .int .u64 0, .int .u64⟩), (88, ⟨4, 40, .agg #[.pointer none, .pointer none, .pointer none, .string (⟨#[]⟩ : ByteArray)], .struct [(0, 1), (1, 1), (2, 1), (3, 1)]⟩), (94, ⟨1, 4, .int .u32 0, .int .u32⟩), (98, ⟨1, 8, .pointer none, .ptr 5⟩)]
theorem tys_ok : ∀ x ∈ tys, TyFact Try.prog x.1 x.2 := by
  intro x hx
  simp only [tys, List.mem_cons, List.not_mem_nil, or_false] at hx
  rcases hx with rfl | rfl | rfl | rfl | rfl | rfl | rfl | rfl | rfl | rfl | rfl | rfl | rfl | rfl | rfl | rfl | rfl | rfl | rfl | rfl | rfl | rfl | rfl | rfl | rfl | rfl | rfl | rfl | rfl | rfl | rfl | rfl | rfl
  · exact ty2
  · exact ty3
  · exact ty4
  · exact ty5
  · exact ty7
  · exact ty9
  · exact ty12
  · exact ty13
  · exact ty15
  · exact ty16
  · exact ty17
  · exact ty18
  · exact ty21
  · exact ty22
  · exact ty23
  · exact ty24
  · exact ty25
  · exact ty27
  · exact ty29
  · exact ty30
  · exact ty31
  · exact ty53
  · exact ty54
  · exact ty63
  · exact ty69
  · exact ty73
  · exact ty77
  · exact ty80
  · exact ty81
  · exact ty86
  · exact ty88
  · exact ty94
  · exact ty98
theorem mixed : Try.prog.follows .mixedOrders = true := Try.checked.mixed
open Go.Proofs.YtkpcieenikmbmaaW.PrintWords
set_option maxRecDepth 100000
def eqs : List (Nat × EqF) := []
theorem eqs_ok : ∀ x ∈ eqs, EqFact Try.prog x.1 x.2 := by
  intro x hx
  cases hx
noncomputable def env : Env := ⟨Try.prog, mixed, tys, tys_ok, eqs, eqs_ok⟩
end Go.Proofs.Ytkpcieenikmbmaa.E

-- PRINTED BY print.sh 35421559b90ae4d0a3588c463048766b98c2df88dd9212a6774a882060cdf62d: not written by this session
/-
  PRINTED WORDS, second file: A REGION THAT DRAWS ITS ORDER, WALKED BY HAND, where its last store writes what its own loads read ('x.f = append(x.f, f(i))'). Plain theorems; no macro, no elab. A claim may hold it (turn the namespace's name).
  A load may be taken first in every world that meets S; behind the operations of ds nothing is shown; sound because each of ds waits for what is taken (Region.lastB). The kernel checks it.
  By an AI agent of Go's test side, Mon Nov 16 2026. No person has read it.
-/
namespace Go.Proofs.YtkpcieenikmbmaaW.PrintLast

section
variable {P : Program} {ops : Array Oper} {Q : Exit → Act → World → Prop} {md : Region.Mode} {S : World → Prop} {ds : List Nat}

/-- Operation d waits for operation i, by a chain of at most 'fuel' edges. -/
def Region.reachB (md : Region.Mode) (ops : Array Oper) (i : Nat) : Nat → Nat → Bool
  | 0, _ => false
  | fuel + 1, d => match ops[d]? with
    | some o => o.after.any fun e => Region.binds md e && (e.on == i || Region.reachB md ops i fuel e.on)
    | none => false

/-- Each of ds that has not come up yet waits for number i. -/
def Region.lastB (md : Region.Mode) (ops : Array Oper) (listed : Array Bool) (ds : List Nat) (i : Nat) : Bool :=
  ds.all fun d => listed.getD d true || Region.reachB md ops i ops.size d

def ListedClosed (md : Region.Mode) (ops : Array Oper) (listed : Array Bool) : Prop :=
  ∀ j oj, ops[j]? = some oj → listed.getD j false = true → ∀ e ∈ oj.after, Region.binds md e = true → listed.getD e.on false = true

theorem ListedClosed.set {listed : Array Bool} {i : Nat} (h : ListedClosed md ops listed) (hi : i ∈ Region.ready md ops listed) : ListedClosed md ops (listed.setIfInBounds i true) := by
  obtain ⟨_, oi, hoi, hall⟩ := mem_ready.1 hi
  intro j oj hj hl e he hb
  by_cases hij : i = j
  · subst hij
    have : oj = oi := Option.some.inj (hj.symm.trans hoi)
    subst this
    exact getD_set_true (hall e he hb)
  · rw [getD_set_ne false hij] at hl
    exact getD_set_true (h j oj hj hl e he hb)

/-- Whatever order is picked from here on, AND 'S' HOLDS BEHIND EVERY OPERATION THAT IS CARRIED OUT, those of ds apart. -/
def wpAnyLast (P : Program) (md : Region.Mode) (ops : Array Oper) (Q : Exit → Act → World → Prop) (S : World → Prop) (ds : List Nat) : Nat → Array Bool → Act → World → Prop
  | 0, listed, a, w => Region.ready md ops listed = [] ∧ Q .normal a w
  | fuel + 1, listed, a, w =>
    (Region.ready md ops listed = [] → Q .normal a w) ∧
    ∀ i ∈ Region.ready md ops listed, wpOp P ops Q i (fun a' w' => (i ∉ ds → S w → S w') ∧ wpAnyLast P md ops Q S ds fuel (listed.setIfInBounds i true) a' w') a w

end

section
variable {P : Program} {ops : Array Oper} {Q : Exit → Act → World → Prop} {md : Region.Mode} {S : World → Prop} {ds : List Nat}

def AllReadyL (P : Program) (md : Region.Mode) (ops : Array Oper) (Q : Exit → Act → World → Prop) (S : World → Prop) (ds : List Nat) (fuel : Nat) (listed : Array Bool) (a : Act) (w : World) (rs : List Nat) : Prop :=
  ∀ i ∈ rs, wpOp P ops Q i (fun a' w' => (i ∉ ds → S w → S w') ∧ wpAnyLast P md ops Q S ds fuel (listed.setIfInBounds i true) a' w') a w
theorem AllReadyL.nil {fuel : Nat} {listed : Array Bool} {a : Act} {w : World} : AllReadyL P md ops Q S ds fuel listed a w [] := fun _ h => by cases h
theorem AllReadyL.cons {fuel : Nat} {listed : Array Bool} {a : Act} {w : World} {i : Nat} {o : Oper} {rs : List Nat} (ho : ops[i]? = some o) (hd : i ∉ ds)
    (h : ∀ K' : Act → World → Prop, Shut (∀ a w, S w → (S w → wpAnyLast P md ops Q S ds fuel (listed.setIfInBounds i true) a w) → K' a w) → if Region.wanted o (yielded ops a.tmps) = true then Oper.wp P o a w K' Q else K' (a.put o.dst undef) w)
    (hs : AllReadyL P md ops Q S ds fuel listed a w rs) : AllReadyL P md ops Q S ds fuel listed a w (i :: rs) := fun j hj => by
  rcases List.mem_cons.1 hj with rfl | hj
  · exact wpOp_step ho (fun K' hK => h K' (fun a w hS hW => hK a w ⟨fun _ _ => hS, hW hS⟩))
  · exact hs j hj
/-! ### Several operations that write or call may come up: each order is walked, what follows is shown once (join_) -/
/-- A call of a Go function, by its contract. -/
theorem call_ {oi : Oper} {N : Option Tmp} {a : Act} {w : World} {K : Act → World → Prop} (f : FuncId) (args : Array Value) (hw : Region.wanted oi (yielded ops a.tmps) = true) (hN : oi.dst = N) (hrun : (execOp a.eval oi).run P w = .ok (.enter f args) w)
    (h : Calls P f args w fun e w' => ∃ v, e = .returned v ∧ K (a.put N v) w') : if Region.wanted oi (yielded ops a.tmps) = true then Oper.wp P oi a w K Q else K (a.put N undef) w := by
  rw [if_pos hw]
  subst hN
  unfold Oper.wp
  rw [hrun, Oper.upon_enter]
  refine h.mono fun e w'' hh => ?_
  obtain ⟨v, rfl, hk⟩ := hh
  exact hk
end
end Go.Proofs.YtkpcieenikmbmaaW.PrintLast

-- PRINTED BY print.sh 35421559b90ae4d0a3588c463048766b98c2df88dd9212a6774a882060cdf62d: not written by this session
/-! ### 40. Elements whose inner rows lie apart: what is stored into one says nothing of the others.
   S: as R, with an owner function f (block to element's index). H: as S with a hole: of element i its cells alone are told, its blocks are oki. -/
namespace Go.Proofs.YtkpcieenikmbmaaW.PrintWords
open Go.RowKit
namespace Kd
/-- An element with its index: its blocks are those that f gives to it. -/
def tag {α : Type} (f : Nat → Nat) (d : Kd α) : Kd (α × Nat) where
  sz := d.sz
  E := d.E
  K := fun w x cs => d.K w x.1 cs
  M := fun w base ok x cs => d.M w base (fun k => ok k ∧ f k = x.2) x.1 cs
  K_len := fun h => d.K_len h
  K_one := fun h => d.K_one h
  K_below := fun hb h => d.K_below hb h
  K_of_M := fun h => d.K_of_M h
  M_mono := fun hok h => d.M_mono (fun k hk => ⟨hok k hk.1, hk.2⟩) h
  M_bound := fun h => d.M_mono (fun _ hk => ⟨⟨hk.1.1, hk.2⟩, hk.1.2⟩) (d.M_bound h)
  M_move := fun hm h => d.M_move (fun k hk => hm k hk.1) h
  M_lower := fun hb h => d.M_lower hb h
/-- The cells themselves. -/
def raw (sz : Nat) : Kd (List Value) where
  sz := sz
  E := []
  K := fun _ x cs => cs = x ∧ cs.length = sz ∧ ∀ u ∈ cs, u.oneCell' = true
  M := fun _ _ _ x cs => cs = x ∧ cs.length = sz ∧ ∀ u ∈ cs, u.oneCell' = true
  K_len := fun h => h.2.1
  K_one := fun h => h.2.2
  K_below := fun _ h => h
  K_of_M := fun h => h
  M_mono := fun _ h => h
  M_bound := fun h => h
  M_move := fun _ h => h
  M_lower := fun _ h => h
/-- A row of elements (type e) of the call's own, no two of which lead to one block. -/
def S {α : Type} (d : Kd α) (e : Nat) (w : World) (base : Nat) (ok : Nat → Prop) (v : Value) (xs : List α) : Prop := ∃ f, (tag f d).R e w base ok v xs.zipIdx
section
variable {α β : Type} {d : Kd α} {d' : Kd β} {e e' : Nat} {w w1 W : World} {base b : Nat} {ok ok' okv oku : Nat → Prop} {u v : Value} {xs : List α} {ys : List β}
end
section
variable {α β : Type} {d : Kd α} {d' : Kd β} {e e' g : Nat} {w w1 W : World} {base b : Nat} {ok ok' okv oku : Nat → Prop} {u v : Value} {xs : List α} {ys : List β}
end
/-! #### append, make, literals: the new element's blocks are none of the elder ones' -/
section
variable {P : Program} {ops : Array Oper} {rest : List Oper} {o : Oper} {a : Act} {Q : Exit → Act → World → Prop} {Kc : Act → World → Prop} {α : Type}
end
/-! #### a row with a hole: element i is lent, its blocks are oki; of it the row says its cells alone -/
/-- Element i is these cells; the others are d's. -/
def gap {α : Type} (f : Nat → Nat) (d : Kd α) (i : Nat) (c : List Value) : Kd (α × Nat) where
  sz := d.sz
  E := d.E
  K := fun w x cs => (x.2 = i → cs = c ∧ cs.length = d.sz ∧ ∀ u ∈ cs, u.oneCell' = true) ∧ (x.2 ≠ i → d.K w x.1 cs)
  M := fun w base ok x cs => (x.2 = i → cs = c ∧ cs.length = d.sz ∧ ∀ u ∈ cs, u.oneCell' = true) ∧ (x.2 ≠ i → d.M w base (fun k => ok k ∧ f k = x.2) x.1 cs)
  K_len := fun {w x cs} h => by
    by_cases hx : x.2 = i
    · exact (h.1 hx).2.1
    · exact d.K_len (h.2 hx)
  K_one := fun {w x cs} h => by
    by_cases hx : x.2 = i
    · exact (h.1 hx).2.2
    · exact d.K_one (h.2 hx)
  K_below := fun hb h => ⟨h.1, fun hx => d.K_below hb (h.2 hx)⟩
  K_of_M := fun h => ⟨h.1, fun hx => d.K_of_M (h.2 hx)⟩
  M_mono := fun hok h => ⟨h.1, fun hx => d.M_mono (fun k hk => ⟨hok k hk.1, hk.2⟩) (h.2 hx)⟩
  M_bound := fun h => ⟨h.1, fun hx => d.M_mono (fun _ hk => ⟨⟨hk.1.1, hk.2⟩, hk.1.2⟩) (d.M_bound (h.2 hx))⟩
  M_move := fun hm h => ⟨h.1, fun hx => d.M_move (fun k hk => hm k hk.1) (h.2 hx)⟩
  M_lower := fun hb h => ⟨h.1, fun hx => d.M_lower hb (h.2 hx)⟩
def H {α : Type} (d : Kd α) (e : Nat) (w : World) (base : Nat) (ok : Nat → Prop) (v : Value) (xs : List α) (i : Int) (oki : Nat → Prop) (c : List Value) : Prop :=
  (∀ k, oki k → ok k) ∧ ∃ f, (gap f d i.toNat c).R e w base (fun k => ok k ∧ ¬ oki k) v xs.zipIdx
section
variable {α β : Type} {d : Kd α} {e e' g n cap : Nat} {w w1 W : World} {base : Nat} {ok ok' oki okp : Nat → Prop} {u v : Value} {xs : List α} {i : Int} {c : List Value}
end
section
variable {P : Program} {ops : Array Oper} {rest : List Oper} {o : Oper} {a : Act} {Q : Exit → Act → World → Prop} {α : Type}
end
end Kd
end Go.Proofs.YtkpcieenikmbmaaW.PrintWords

-- PRINTED BY print.sh 35421559b90ae4d0a3588c463048766b98c2df88dd9212a6774a882060cdf62d: not written by this session
/-! ### 41. Arrays '[n]T' as_ values: a kind (a field, an element of a row), an element read, an element set -/
namespace Go.Proofs.YtkpcieenikmbmaaW.PrintWords
open Go.RowKit
namespace Kd
theorem reps_one {α : Type} {R : α → List Value → Prop} {size : Nat} {ps : List α} {cs : List Value} (h : Reps R size ps cs) (hs0 : 0 < size) (hR : ∀ p c, R p c → ∀ u ∈ c, u.oneCell' = true) : ∀ u ∈ cs, u.oneCell' = true := by
  intro u hu
  obtain ⟨q, hq, rfl⟩ := List.mem_iff_getElem.1 hu
  have hql : q / size < ps.length := by
    rw [Nat.div_lt_iff_lt_mul hs0, ← h.1]
    exact hq
  refine hR _ _ (h.2 (q / size) _ (List.getElem?_eq_getElem hql)) _ ?_
  rw [List.mem_iff_getElem?]
  refine ⟨q % size, ?_⟩
  rw [List.getElem?_take, if_pos (Nat.mod_lt _ hs0), List.getElem?_drop, Nat.mul_comm, Nat.div_add_mod, List.getElem?_eq_getElem hq]
/-- An array of n elements of kind d. -/
def arr {α : Type} (n : Nat) (d : Kd α) (hs : 0 < d.sz) : Kd (List α) where
  sz := n * d.sz
  E := d.E
  K := fun w xs cs => xs.length = n ∧ Reps (d.K w) d.sz xs cs
  M := fun w base ok xs cs => xs.length = n ∧ Reps (d.M w base ok) d.sz xs cs
  K_len := fun h => by rw [← h.1]; exact h.2.1
  K_one := fun h => reps_one h.2 hs (fun _ _ hk => d.K_one hk)
  K_below := fun hb h => ⟨h.1, h.2.imp_ (fun _ _ hk => d.K_below hb hk)⟩
  K_of_M := fun h => ⟨h.1, h.2.imp_ (fun _ _ hk => d.K_of_M hk)⟩
  M_mono := fun hok h => ⟨h.1, h.2.imp_ (fun _ _ hk => d.M_mono hok hk)⟩
  M_bound := fun h => ⟨h.1, h.2.imp_ (fun _ _ hk => d.M_bound hk)⟩
  M_move := fun hm h => ⟨h.1, h.2.imp_ (fun _ _ hk => d.M_move hm hk)⟩
  M_lower := fun hb h => ⟨h.1, h.2.imp_ (fun _ _ hk => d.M_lower hb hk)⟩
section
variable {α : Type} {n : Nat} {d : Kd α} {hs : 0 < d.sz} {w : World} {base : Nat} {ok : Nat → Prop} {xs : List α} {cs : List Value}
end
section
variable {α : Type} {n : Nat} {enc : α → Value} {h1 : ∀ x, (enc x).oneCell' = true} {hs : 0 < (scalar enc h1).sz} {w : World} {base : Nat} {ok : Nat → Prop} {xs : List α} {cs : List Value}
end
end Kd
end Go.Proofs.YtkpcieenikmbmaaW.PrintWords

-- PRINTED BY print.sh 35421559b90ae4d0a3588c463048766b98c2df88dd9212a6774a882060cdf62d: not written by this session
/-! ### 43. What is read beside a state: it stays read whatever the state's calls turn ('∀ W', KeepBut w W' g none → d.C W' A n xs') -/
namespace Go.Proofs.YtkpcieenikmbmaaW.PrintWords
open Go.RowKit
namespace Kd
/-- What a kind reads lies in the blocks: nothing else of the world is looked at. -/
structure Heap {α : Type} (d : Kd α) : Prop where
  K : ∀ {w w1 : World} {x : α} {cs : List Value}, (∀ k, k < w.heap.size → w1.heap[k]? = w.heap[k]?) → d.K w x cs → d.K w1 x cs
theorem cell_heap {w w1 : World} (hb : ∀ k, k < w.heap.size → w1.heap[k]? = w.heap[k]?) {a : Addr} {v : Value} (h : w.cell? a = some v) : w1.cell? a = some v := by
  have := hb a.block (World.block_lt_of_cell? w a h)
  simpa [World.cell?, this] using h
theorem Heap.C {α : Type} {d : Kd α} (hd : Heap d) {w w1 : World} {A : Option Addr} {n : Nat} {xs : List α} (hb : ∀ k, k < w.heap.size → w1.heap[k]? = w.heap[k]?) (h : d.C w A n xs) : d.C w1 A n xs :=
  ⟨h.1, h.2.1, fun hn => by
    obtain ⟨ad, e, hc⟩ := h.2.2 hn
    refine ⟨ad, e, fun j p hj => ?_⟩
    obtain ⟨c, hs, hr, hcell⟩ := hc j p hj
    exact ⟨c, hs, hd.K hb hr, fun i u hu => cell_heap hb (hcell i u hu)⟩⟩
section
variable {α : Type} {d : Kd α} {e base g n c : Nat} {ok : Nat → Prop} {w w0 W : World} {A : Option Addr} {xs : List α}
end
end Kd
end Go.Proofs.YtkpcieenikmbmaaW.PrintWords

-- PRINTED BY print.sh 35421559b90ae4d0a3588c463048766b98c2df88dd9212a6774a882060cdf62d: not written by this session
/-! ### 45. What a call keeps: all but the blocks of S (the rows that it was given to write) and what is new since -/
namespace Go.Proofs.YtkpcieenikmbmaaW.PrintWords
open Go.RowKit
def Kept (w W : World) (S : Nat → Prop) : Prop := w.heap.size ≤ W.heap.size ∧ ∀ i, i < w.heap.size → ¬ S i → W.heap[i]? = w.heap[i]?
section
variable {w W W2 : World} {S S2 S' : Nat → Prop}
theorem Kept.refl (w : World) (S : Nat → Prop) : Kept w w S := ⟨Nat.le_refl _, fun _ _ _ => rfl⟩
theorem Kept.of_below (h : Below w.heap.size w W) (S : Nat → Prop) : Kept w W S := ⟨h.size, fun i hi _ => h.block i hi⟩
theorem Kept.mono (h : Kept w W S) (hs : ∀ k, S k → S' k) : Kept w W S' := ⟨h.1, fun i hi hn => h.2 i hi (fun hk => hn (hs i hk))⟩
theorem Kept.then_ (h : Kept w W S) (k : Kept W W2 S2) (hs : ∀ k, S2 k → S k ∨ w.heap.size ≤ k) : Kept w W2 S :=
  ⟨Nat.le_trans h.1 k.1, fun i hi hn => (k.2 i (Nat.lt_of_lt_of_le hi h.1) (fun h2 => (hs i h2).elim hn (fun h3 => by omega))).trans (h.2 i hi hn)⟩
theorem Kept.below (h : Kept w W S) (hb : Below W.heap.size W W2) : Kept w W2 S := h.then_ (Kept.of_below hb (fun _ => False)) (fun _ hk => hk.elim)
theorem Kept.alloc (h : Kept w W S) (o : Obj) : Kept w (W.alloc o) S := h.below (below_alloc (Below.refl _ _) o)
theorem Kept.drew (h : Kept w W S) : Kept w W.drew S := h
theorem Kept.drewN (h : Kept w W S) (m : Nat) : Kept w (W.drewN m) S := h
/-- Beside a state: what was written is new since. -/
theorem Kept.keep {g : Nat} (h : KeepBut w W g none) (k : Kept W W2 S2) (hs : ∀ k, S2 k → w.heap.size ≤ k) : KeepBut w W2 g none :=
  ⟨Nat.le_trans h.1 k.1, fun i hi hg hr => (k.2 i (Nat.lt_of_lt_of_le hi h.1) (fun h2 => by have := hs i h2; omega)).trans (h.2 i hi hg hr)⟩
end
namespace Kd
section
variable {α : Type} {d : Kd α} {e base n c : Nat} {ok oki S S2 : Nat → Prop} {w w0 W W1 W2 : World} {v : Value} {A : Option Addr} {xs : List α} {i : Int} {cs : List Value}
end
end Kd
end Go.Proofs.YtkpcieenikmbmaaW.PrintWords

-- PRINTED BY print.sh 35421559b90ae4d0a3588c463048766b98c2df88dd9212a6774a882060cdf62d: not written by this session
/-! ### 46. Values that share: what is only read, with the blocks it lies in (its footprint 'ok'): Foot, F (a row that is read), FK (an element's cells) -/
namespace Go.Proofs.YtkpcieenikmbmaaW.PrintWords
open Go.RowKit
/-- P holds in W and in every world that has W's blocks of ok. -/
def Foot (P : World → Prop) (W : World) (ok : Nat → Prop) : Prop := ∀ W' : World, (∀ k, ok k → k < W.heap.size → W'.heap[k]? = W.heap[k]?) → P W'
theorem heap_lt {W W1 : World} {k : Nat} (h : W1.heap[k]? = W.heap[k]?) (hlt : k < W.heap.size) : k < W1.heap.size := by
  rw [Array.getElem?_eq_getElem hlt] at h
  exact (Array.getElem?_eq_some_iff.1 h).1
namespace Foot
variable {P Q : World → Prop} {W W1 : World} {ok ok' : Nat → Prop}
theorem mono (h : Foot P W ok) (hok : ∀ k, ok k → ok' k) : Foot P W ok' := fun W' hW => h W' (fun k hk hlt => hW k (hok k hk) hlt)
theorem bound (h : Foot P W ok) : Foot P W (fun k => ok k ∧ k < W.heap.size) := fun W' hW => h W' (fun k hk hlt => hW k ⟨hk, hlt⟩ hlt)
theorem step (h : Foot P W ok) (hm : ∀ k, ok k → k < W.heap.size → W1.heap[k]? = W.heap[k]?) : Foot P W1 ok := fun W' hW => h W' (fun k hk hlt => (hW k hk (heap_lt (hm k hk hlt) hlt)).trans (hm k hk hlt))
/-- Moved, and still elder than what is new since W. -/
theorem old (h : Foot P W ok) (hb : Below W.heap.size W W1) : Foot P W1 (fun k => ok k ∧ k < W.heap.size) := (h.bound).step (fun k _ hlt => hb.block k hlt)
end Foot
namespace Kd
/-- A row that is only read: what it leads to lies in ok. -/
def F {α : Type} (d : Kd α) (W : World) (ok : Nat → Prop) (A : Option Addr) (n : Nat) (xs : List α) : Prop := Foot (fun W => d.C W A n xs) W ok
/-- An element's cells: what they lead to lies in ok. -/
def FK {α : Type} (d : Kd α) (W : World) (ok : Nat → Prop) (x : α) (c : List Value) : Prop := Foot (fun W => d.K W x c) W ok
section
variable {α β : Type} {d : Kd α} {e base n n' cc g N : Nat} {ok ok' okp S : Nat → Prop} {w w0 w1 W W1 : World} {A A' : Option Addr} {u v v1 : Value} {xs : List α} {xs' : List β} {d' : Kd β} {x : α} {c : List Value}
end
end Kd
end Go.Proofs.YtkpcieenikmbmaaW.PrintWords

-- PRINTED BY print.sh 35421559b90ae4d0a3588c463048766b98c2df88dd9212a6774a882060cdf62d: not written by this session
/-! ### 47. N: a row of the call's own whose elements share (what they lead to is only read) -/
namespace Go.Proofs.YtkpcieenikmbmaaW.PrintWords
open Go.RowKit
namespace Kd
/-- The cells one behind the other, element by element. -/
def chunks (sz : Nat) (n : Nat) (inner : List Value) : List (List Value) := (List.range n).map fun j => (inner.drop (j * sz)).take sz
theorem chunks_length (sz n : Nat) (inner : List Value) : (chunks sz n inner).length = n := by simp [chunks]
section
variable {α : Type} {d : Kd α} {e base n cc g : Nat} {ok ok' okp S : Nat → Prop} {w w1 W W1 : World} {A : Option Addr} {u v v1 : Value} {xs : List α} {x : α} {c : List Value}
/-- A row of elements (type e) of the call's own; what the elements lead to is only read, and is not this row. -/
def N {α : Type} (d : Kd α) (e : Nat) (w : World) (base : Nat) (ok : Nat → Prop) (v : Value) (xs : List α) : Prop :=
  (∀ k, v.ownBlock = some k → ok k) ∧ ∃ rows : List (List Value), rows.length = xs.length ∧ (raw d.sz).R e w base (fun k => some k = v.ownBlock) v rows ∧ ∀ (j : Nat) (x : α) (c : List Value), xs[j]? = some x → rows[j]? = some c → FK d w (fun k => ok k ∧ some k ≠ v.ownBlock) x c
end
end Kd
end Go.Proofs.YtkpcieenikmbmaaW.PrintWords

-- PRINTED BY print.sh 35421559b90ae4d0a3588c463048766b98c2df88dd9212a6774a882060cdf62d: not written by this session
/-! ### 55. Reps told from the front, no append: for rows of one-cell elements and of wider ones -/
namespace Go.Proofs.YtkpcieenikmbmaaW.PrintWords
/-- One cell an element. -/
theorem Reps.one {α : Type} {R : α → List Value → Prop} {ps : List α} {cs : List Value} {p : α} {v : Value} (hp : R p [v]) (h : Reps R 1 ps cs) : Reps R 1 (p :: ps) (v :: cs) := by
  refine ⟨by simp [h.1], fun j q hq => ?_⟩
  cases j with
  | zero =>
    simp only [List.getElem?_cons_zero, Option.some.injEq] at hq
    subst hq
    simpa using hp
  | succ j =>
    simp only [List.getElem?_cons_succ] at hq
    have h1 := h.2 j q hq
    simpa [Nat.mul_one] using h1
/-- More cells an element: told apart by the cells' list. -/
theorem Reps.front {α : Type} {R : α → List Value → Prop} {size : Nat} {ps : List α} {cs c all : List Value} {p : α} (hp : R p c) (hc : c.length = size) (h : Reps R size ps cs) (ha : c ++ cs = all) : Reps R size (p :: ps) all := by
  subst ha
  refine ⟨by rw [List.length_append, hc, h.1, List.length_cons, Nat.succ_mul, Nat.add_comm], fun j q hq => ?_⟩
  cases j with
  | zero =>
    simp only [List.getElem?_cons_zero, Option.some.injEq] at hq
    subst hq
    rw [Nat.zero_mul, List.drop_zero, List.take_append_of_le_length (by omega), List.take_of_length_le (by omega)]
    exact hp
  | succ j =>
    simp only [List.getElem?_cons_succ] at hq
    have h1 := h.2 j q hq
    rw [Nat.succ_mul, List.drop_append, List.drop_of_length_le (by rw [hc]; exact Nat.le_add_left _ _), List.nil_append, hc, Nat.add_sub_cancel]
    exact h1
theorem Reps.c2 {α : Type} {R : α → List Value → Prop} {ps : List α} {cs : List Value} {p : α} {va vb : Value} (hp : R p [va, vb]) (h : Reps R 2 ps cs) : Reps R 2 (p :: ps) (va :: vb :: cs) := Reps.front hp rfl h rfl
theorem Reps.c3 {α : Type} {R : α → List Value → Prop} {ps : List α} {cs : List Value} {p : α} {va vb vc : Value} (hp : R p [va, vb, vc]) (h : Reps R 3 ps cs) : Reps R 3 (p :: ps) (va :: vb :: vc :: cs) := Reps.front hp rfl h rfl
theorem Reps.c4 {α : Type} {R : α → List Value → Prop} {ps : List α} {cs : List Value} {p : α} {va vb vc vd : Value} (hp : R p [va, vb, vc, vd]) (h : Reps R 4 ps cs) : Reps R 4 (p :: ps) (va :: vb :: vc :: vd :: cs) := Reps.front hp rfl h rfl
theorem Reps.c5 {α : Type} {R : α → List Value → Prop} {ps : List α} {cs : List Value} {p : α} {va vb vc vd ve : Value} (hp : R p [va, vb, vc, vd, ve]) (h : Reps R 5 ps cs) : Reps R 5 (p :: ps) (va :: vb :: vc :: vd :: ve :: cs) := Reps.front hp rfl h rfl
theorem Reps.c6 {α : Type} {R : α → List Value → Prop} {ps : List α} {cs : List Value} {p : α} {va vb vc vd ve vf : Value} (hp : R p [va, vb, vc, vd, ve, vf]) (h : Reps R 6 ps cs) : Reps R 6 (p :: ps) (va :: vb :: vc :: vd :: ve :: vf :: cs) := Reps.front hp rfl h rfl
end Go.Proofs.YtkpcieenikmbmaaW.PrintWords

-- PRINTED BY print.sh 35421559b90ae4d0a3588c463048766b98c2df88dd9212a6774a882060cdf62d: not written by this session
/-! ### 57. A region of open order by ONE relation over what is listed so far: each operation is shown once, whatever came up before it -/
namespace Go.Proofs.YtkpcieenikmbmaaW.PrintLast
/-- Number i is listed too. -/
def up (b : Nat → Bool) (i : Nat) : Nat → Bool := fun j => if j = i then true else b j
section
variable {P : Program} {ops : Array Oper} {Q : Exit → Act → World → Prop} {md : Region.Mode} {T : Bool × List (List Nat × List Nat)} {B : List Nat} {O : List Nat} {b : Nat → Bool} {i j n : Nat}
/-- The step of operation i: out of the relation, it not being listed, all it waits for being so, and nothing that waits for it. -/
def StepAt (P : Program) (ops : Array Oper) (Q : Exit → Act → World → Prop) (B : List Nat) (O : List Nat) (I : (Nat → Bool) → Act → World → Prop) (i : Nat) : Prop :=
  ∀ b a w, I b a w → b i = false → (∀ j, (O.contains j && (B.getD i 0).testBit j) = true → b j = true) → (∀ d, (O.contains d && (B.getD d 0).testBit i) = true → b d = false) →
    ∃ oi, ops[i]? = some oi ∧ ∀ K : Act → World → Prop, Shut (∀ a' w', I (up b i) a' w' → K a' w') → if Region.wanted oi (yielded ops a.tmps) = true then Oper.wp P oi a w K Q else K (a.put oi.dst undef) w
/-! The frame: what is listed has its destination filled. -/
end
end Go.Proofs.YtkpcieenikmbmaaW.PrintLast

-- PRINTED BY print.sh 35421559b90ae4d0a3588c463048766b98c2df88dd9212a6774a882060cdf62d: not written by this session
-- PRINTED WORDS (module Derived/Print/More.lean): go-gate-2's additions: an AI agent of Go's test side, Tue Nov 17 2026; no person has read it. Lean checks it.
namespace Go.Proofs.YtkpcieenikmbmaaW.PrintMore
open Go.RowKit Go.Proofs.YtkpcieenikmbmaaW.PrintWords
namespace Kd
open Go.Proofs.YtkpcieenikmbmaaW.PrintWords.Kd
end Kd

namespace Kd
open Go.Proofs.YtkpcieenikmbmaaW.PrintWords.Kd
section
variable {α : Type} {d : Kd α} {e base g N : Nat} {ok : Nat → Prop} {W w1 : World} {u v : Value} {xs : List α}
end
end Kd
/-- 'max' and 'min' of two whole numbers. -/
theorem max2_int (k k' : IntKind) (x y : Int) : Builtin.max2 (.int k x) (.int k' y) = pure (.int k (if x < y then y else x)) := by simp only [Builtin.max2, gt_iff_lt]
theorem min2_int (k k' : IntKind) (x y : Int) : Builtin.min2 (.int k x) (.int k' y) = pure (.int k (if y < x then y else x)) := by simp only [Builtin.min2]
theorem max_two (ats : Array TypeId) (ty : TypeId) (a b : Value) : Builtin.max_ ats ty #[a, b] = (Builtin.max2 a b >>= fun s => pure s) := by simp only [Builtin.max_, List.foldlM_cons, List.foldlM_nil]
theorem min_two (ats : Array TypeId) (ty : TypeId) (a b : Value) : Builtin.min_ ats ty #[a, b] = (Builtin.min2 a b >>= fun s => pure s) := by simp only [Builtin.min_, List.foldlM_cons, List.foldlM_nil]
theorem max_three (ats : Array TypeId) (ty : TypeId) (a b c : Value) : Builtin.max_ ats ty #[a, b, c] = (Builtin.max2 a b >>= fun s => Builtin.max2 s c >>= fun s => pure s) := by simp only [Builtin.max_, List.foldlM_cons, List.foldlM_nil]
theorem min_three (ats : Array TypeId) (ty : TypeId) (a b c : Value) : Builtin.min_ ats ty #[a, b, c] = (Builtin.min2 a b >>= fun s => Builtin.min2 s c >>= fun s => pure s) := by simp only [Builtin.min_, List.foldlM_cons, List.foldlM_nil]
theorem max_four (ats : Array TypeId) (ty : TypeId) (a b c d : Value) : Builtin.max_ ats ty #[a, b, c, d] = (Builtin.max2 a b >>= fun s => Builtin.max2 s c >>= fun s => Builtin.max2 s d >>= fun s => pure s) := by simp only [Builtin.max_, List.foldlM_cons, List.foldlM_nil]
theorem min_four (ats : Array TypeId) (ty : TypeId) (a b c d : Value) : Builtin.min_ ats ty #[a, b, c, d] = (Builtin.min2 a b >>= fun s => Builtin.min2 s c >>= fun s => Builtin.min2 s d >>= fun s => pure s) := by simp only [Builtin.min_, List.foldlM_cons, List.foldlM_nil]
end Go.Proofs.YtkpcieenikmbmaaW.PrintMore
namespace Go.Proofs.YtkpcieenikmbmaaW.PrintWords
open Go.RowKit
section
variable {P : Program} {ops : Array Oper} {rest : List Oper} {o : Oper} {a : Act} {Q : Exit → Act → World → Prop} {W : World}
/-- The operation is a builtin over these places. -/
theorem gate_builtin {b : Builtin} {xs : Array Operand} {ts : Array TypeId} (_ho : o.op = .call { callee := .builtin b, args := xs, argTypes := ts }) (h : wpList P ops Q (o :: rest) a W) : wpList P ops Q (o :: rest) a W := h
end
/-- The greater of two whole numbers, as Go's max tells it. -/
def mx (a b : Int) : Int := if a < b then b else a
/-- A shift to the left, as Go tells it: a count beyond the width leaves nothing. -/
def shl (k : IntKind) (x y : Int) : Int := k.wrap (x * 2 ^ min y.toNat k.bits)
/-- A shift to the right: a count beyond the width leaves the sign. -/
def shr (k : IntKind) (x y : Int) : Int := x / 2 ^ min y.toNat k.bits
namespace Kd
section
variable {α : Type} {d : Kd α} {e base : Nat} {ok : Nat → Prop} {W w1 : World} {v : Value} {xs : List α}
end
section
variable {α : Type} {d : Kd α} {e base g n cap : Nat} {ok oki okp : Nat → Prop} {W : World} {xs : List α} {i : Int} {c : List Value}
end
section
variable {α : Type} {d : Kd α} {e base b b' g N : Nat} {ok ok1 : Nat → Prop} {W W2 w1 : World} {u v : Value} {xs ys : List α} {S : Nat → Prop}
end
end Kd
end Go.Proofs.YtkpcieenikmbmaaW.PrintWords
namespace Go.Proofs.YtkpcieenikmbmaaW.PrintWords
open Go.RowKit
namespace Kd
/-- A row that is only read, told by its value: its form, its length, what it leads to (in ok). e and base say nothing; they make it as the others are. -/
def V {α : Type} (d : Kd α) (_e : Nat) (W : World) (_base : Nat) (ok : Nat → Prop) (v : Value) (xs : List α) : Prop := ∃ A c, v = .slice A xs.length c ∧ xs.length ≤ c ∧ F d W ok A xs.length xs
section
variable {α β : Type} {d : Kd α} {e base base' n m c g N' lo hi : Nat} {ok ok' S : Nat → Prop} {w W w1 : World} {A : Option Addr} {ad : Addr} {u v v1 : Value} {xs : List α}
end
end Kd
end Go.Proofs.YtkpcieenikmbmaaW.PrintWords

-- Written by xprint.py (by way of the kit's print program) out of the translation.
namespace Go.Proofs.Ytkpcieenikmbmaa.P
open Go.RowKit Go.Proofs.YtkpcieenikmbmaaW.PrintWords Go.Proofs.YtkpcieenikmbmaaW.PrintLast Go.Proofs.YtkpcieenikmbmaaW.PrintMore
attribute [local go_sem] max2_int min2_int max_two min_two max_three min_three max_four min_four   -- for this text's walks alone
set_option linter.unusedVariables false
set_option linter.unusedSimpArgs false

def errW : Option Int → Value
 | none => .nilIface
 | some c => .iface 0 (.int .i64 c)
theorem errW_none : errW none = .nilIface := rfl
theorem errW_some (c : Int) : errW (some c) = .iface 0 (.int .i64 c) := rfl

theorem info5 : (Try.prog.info? 5).map (fun i => (i.zero, i.size, i.bytes)) = some (some (.int .u8 0), 1, 1) := by kernel_rfl
-- the values' own types
def rd_L1 (xs : List (List Int)) (i : Int) : (List Int) := xs.getD i.toNat ([] : List Int)

/-! #### struct type 77 -/
structure S77 where
 f0 : Int
 f1 : (List Int)
def z77 : S77 := ⟨(0 : Int), ([] : List Int)⟩
def k77 : Kd S77 := Kd.iso (Kd.pair (Kd.int .i64) (Kd.slice 5 (Kd.int .u8))) (fun x : S77 => (x.f0, x.f1))
def rd_T77 (xs : List S77) (i : Int) : S77 := xs.getD i.toNat z77

/-! #### struct type 54 -/
structure S54 where
 f0 : Int
 f1 : (List Int)
def z54 : S54 := ⟨(0 : Int), ([] : List Int)⟩
def rd_T54 (xs : List S54) (i : Int) : S54 := xs.getD i.toNat z54

/-! #### struct type 31 -/

end Go.Proofs.Ytkpcieenikmbmaa.P

-- Written by xprint.py (by way of the kit's print program) out of the translation.
namespace Go.Proofs.Ytkpcieenikmbmaa.P
open Go.RowKit Go.Proofs.YtkpcieenikmbmaaW.PrintWords Go.Proofs.YtkpcieenikmbmaaW.PrintLast Go.Proofs.YtkpcieenikmbmaaW.PrintMore
attribute [local go_sem] max2_int min2_int max_two min_two max_three min_three max_four min_four   -- for this text's walks alone
set_option linter.unusedVariables false
set_option linter.unusedSimpArgs false

def laws_szByteS.f (l0 : List Int) (a1 : Int) : Option (Int) := if (wrap64 (a1 - (l0.length : Int))) < 0 then (some (-1)) else (some (wrap64 (a1 - (l0.length : Int))))
def laws_szByteSS.l0 : Nat → List (List Int) → Int → Int → Option (Int)
  | 0, _, _, _ => none
  | k + 1, x0, x1, x5 => if x5 < (x0.length : Int) then (if 0 ≤ x5 then ((laws_szByteS.f (rd_L1 x0 x5) x1).bind fun t102 => (if t102 < 0 then (some (-1)) else (laws_szByteSS.l0 k x0 t102 (wrap64 (x5 + 1))))) else (none)) else (some x1)
def laws_szByteSS.f (k : Nat) (l0 : List (List Int)) (a1 : Int) : Option (Int) := if (wrap64 (a1 - (l0.length : Int))) < 0 then (some (-1)) else (laws_szByteSS.l0 k l0 (wrap64 (a1 - (l0.length : Int))) 0)
def laws_szWr.f (a0_0 : Int) (l0_1 : List Int) (a1 : Int) : Option (Int) := (laws_szByteS.f l0_1 a1).bind fun t104 => (if t104 < 0 then (some (-1)) else (some t104))
def laws_szWrS.l0 : Nat → List (S77) → Int → Int → Option (Int)
  | 0, _, _, _ => none
  | k + 1, x0, x1, x5 => if x5 < (x0.length : Int) then (if 0 ≤ x5 then ((laws_szWr.f ((rd_T77 x0 x5).f0) ((rd_T77 x0 x5).f1) x1).bind fun t106 => (if t106 < 0 then (some (-1)) else (laws_szWrS.l0 k x0 t106 (wrap64 (x5 + 1))))) else (none)) else (some x1)
def laws_szWrS.f (k : Nat) (l0 : List (S77)) (a1 : Int) : Option (Int) := if (wrap64 (a1 - (l0.length : Int))) < 0 then (some (-1)) else (laws_szWrS.l0 k l0 (wrap64 (a1 - (l0.length : Int))) 0)
def laws_szDisk.f (k : Nat) (l0_0 : List (List Int)) (l0_1 : List (S77)) (a0_2 : Int) (a0_3 : Bool) (a1 : Int) : Option (Int) := (laws_szByteSS.f k l0_0 a1).bind fun t108 => (if t108 < 0 then (some (-1)) else ((laws_szWrS.f k l0_1 t108).bind fun t109 => (if t109 < 0 then (some (-1)) else (some t109))))
def spec_l1In.f (a0 : Int) (a1 : Int) (a2 : Int) : Option (Bool) := if a0 ≥ a1 then (some (decide (a0 ≤ a2))) else (some false)
mutual
def spec_DiskOk.l0 : Nat → Int → List (List Int) → List (S54) → Int → Bool → Option (Bool)
  | 0, _, _, _, _, _ => none
  | k + 1, x3, x111000, x111001, x111002, x111003 => if x3 < (x111000.length : Int) then (if 0 ≤ x3 then (if ((rd_L1 x111000 x3).length : Int) > 160 then (some false) else (spec_DiskOk.l0 k (wrap64 (x3 + 1)) x111000 x111001 x111002 x111003)) else (none)) else (spec_DiskOk.l1 k 0 x111000 x111001 x111002 x111003)
def spec_DiskOk.l1 : Nat → Int → List (List Int) → List (S54) → Int → Bool → Option (Bool)
  | 0, _, _, _, _, _ => none
  | k + 1, x4, x111000, x111001, x111002, x111003 => if x4 < (x111001.length : Int) then (if 0 ≤ x4 then ((spec_l1In.f ((rd_T54 x111001 x4).f0) 0 (wrap64 ((x111000.length : Int) - 1))).bind fun t113 => (if t113 = true then (if (((rd_T54 x111001 x4).f1).length : Int) > 160 then (some false) else (spec_DiskOk.l1 k (wrap64 (x4 + 1)) x111000 x111001 x111002 x111003)) else (some false))) else (none)) else ((spec_l1In.f (x111000.length : Int) 1 40).bind fun t115 => (if t115 = true then (if (x111001.length : Int) ≤ 30 then ((spec_l1In.f x111002 (-1) 1000).bind fun t116 => (some t116)) else (some false)) else (some false)))
end
def spec_DiskOk.f (k : Nat) (l0_0 : List (List Int)) (l0_1 : List (S54)) (a0_2 : Int) (a0_3 : Bool) : Option (Bool) := spec_DiskOk.l0 k 0 l0_0 l0_1 a0_2 a0_3
mutual
def spec_ReadSec.j0 : Nat → Int → Bool → List (List Int) → List (S54) → Int → Bool → Option (List Int)
  | 0, _, _, _, _, _, _ => none
  | k + 1, x1, x18, x118000, x118001, x118002, x118003 => if x18 = true then (some (([] : List Int))) else (if 0 ≤ x1 then (if x1 < (x118000.length : Int) then (spec_ReadSec.l0 k x1 (rd_L1 x118000 x1) 0 x118000 x118001 x118002 x118003) else (none)) else (none))
def spec_ReadSec.l0 : Nat → Int → List Int → Int → List (List Int) → List (S54) → Int → Bool → Option (List Int)
  | 0, _, _, _, _, _, _, _ => none
  | k + 1, x1, x5, x6, x118000, x118001, x118002, x118003 => if x6 < (x118001.length : Int) then (if 0 ≤ x6 then (if ((rd_T54 x118001 x6).f0) = x1 then (spec_ReadSec.l0 k x1 ((rd_T54 x118001 x6).f1) (wrap64 (x6 + 1)) x118000 x118001 x118002 x118003) else (spec_ReadSec.l0 k x1 x5 (wrap64 (x6 + 1)) x118000 x118001 x118002 x118003)) else (none)) else ((some (([] : List Int) : List Int)).bind fun y126 => (if y126.length + x5.length < 140737488355328 then (some (y126 ++ x5)) else (none)))
end
def spec_ReadSec.f (k : Nat) (l0_0 : List (List Int)) (l0_1 : List (S54)) (a0_2 : Int) (a0_3 : Bool) (a1 : Int) : Option (List Int) := (spec_DiskOk.f k l0_0 l0_1 a0_2 a0_3).bind fun t118 => (if t118 = true then ((spec_l1In.f a1 0 (wrap64 ((l0_0.length : Int) - 1))).bind fun t119 => (spec_ReadSec.j0 k a1 (!t119) l0_0 l0_1 a0_2 a0_3)) else (spec_ReadSec.j0 k a1 true l0_0 l0_1 a0_2 a0_3))
def laws_toByteS.l0 : Nat → List Int → List Int → Int → Option (List Int)
  | 0, _, _, _ => none
  | k + 1, x0, x3, x4 => if x4 < (x0.length : Int) then (if 0 ≤ x4 then (if x4 < (x3.length : Int) then (laws_toByteS.l0 k x0 (x3.set (x4 : Int).toNat (rd x0 x4)) (wrap64 (x4 + 1))) else (none)) else (none)) else (some x3)
def laws_toByteS.f (k : Nat) (l0 : List Int) : Option (List Int) := if 0 ≤ (l0.length : Int) then (if ((l0.length : Int) : Int).toNat ≤ 281474976710656 then (laws_toByteS.l0 k l0 (List.replicate ((l0.length : Int) : Int).toNat 0) 0) else (none)) else (none)
def laws_toByteSS.l0 : Nat → List (List Int) → List (List Int) → Int → Option ((List (List Int)))
  | 0, _, _, _ => none
  | k + 1, x0, x3, x4 => if x4 < (x0.length : Int) then (if 0 ≤ x4 then ((laws_toByteS.f k (rd_L1 x0 x4)).bind fun t141 => (if x4 < (x3.length : Int) then (laws_toByteSS.l0 k x0 (x3.set (x4 : Int).toNat t141) (wrap64 (x4 + 1))) else (none))) else (none)) else (some x3)
def laws_toByteSS.f (k : Nat) (l0 : List (List Int)) : Option ((List (List Int))) := if 0 ≤ (l0.length : Int) then (if ((l0.length : Int) : Int).toNat ≤ 11728124029610 then (laws_toByteSS.l0 k l0 (List.replicate ((l0.length : Int) : Int).toNat []) 0) else (none)) else (none)
def laws_toWr.f (k : Nat) (a0_0 : Int) (l0_1 : List Int) : Option (Int × List Int) := (laws_toByteS.f k l0_1).bind fun t148 => (some (a0_0, t148))
def laws_toWrS.l0 : Nat → List (S77) → List (S54) → Int → Option ((List (S54)))
  | 0, _, _, _ => none
  | k + 1, x0, x3, x4 => if x4 < (x0.length : Int) then (if 0 ≤ x4 then ((laws_toWr.f k ((rd_T77 x0 x4).f0) ((rd_T77 x0 x4).f1)).bind fun bt155 => (if x4 < (x3.length : Int) then (laws_toWrS.l0 k x0 (x3.set (x4 : Int).toNat (⟨bt155.1, bt155.2⟩ : S54)) (wrap64 (x4 + 1))) else (none))) else (none)) else (some x3)
def laws_toWrS.f (k : Nat) (l0 : List (S77)) : Option ((List (S54))) := if 0 ≤ (l0.length : Int) then (if ((l0.length : Int) : Int).toNat ≤ 8796093022208 then (laws_toWrS.l0 k l0 (List.replicate ((l0.length : Int) : Int).toNat z54) 0) else (none)) else (none)
def laws_toDisk.f (k : Nat) (l0_0 : List (List Int)) (l0_1 : List (S77)) (a0_2 : Int) (a0_3 : Bool) : Option ((List (List Int)) × (List (S54)) × Int × Bool) := (laws_toByteSS.f k l0_0).bind fun t163 => ((laws_toWrS.f k l0_1).bind fun t166 => (some (t163, t166, a0_2, a0_3)))
def impl_isIn.f (a0 : Int) (a1 : Int) (a2 : Int) : Option (Bool) := if a1 ≤ a0 then (some (decide (a0 ≤ a2))) else (some false)
mutual
def impl_DiskOk.j0 : Nat → Bool → List (List Int) → List (S54) → Int → Bool → Option (Bool)
  | 0, _, _, _, _, _ => none
  | k + 1, x23, x170000, x170001, x170002, x170003 => if x23 = true then (some false) else (impl_DiskOk.l0 k x170000 (x170000.length : Int) 0 x170000 x170001 x170002 x170003)
def impl_DiskOk.l0 : Nat → List (List Int) → Int → Int → List (List Int) → List (S54) → Int → Bool → Option (Bool)
  | 0, _, _, _, _, _, _, _ => none
  | k + 1, x25, x26, x27, x170000, x170001, x170002, x170003 => if x27 < x26 then (if 0 ≤ x27 then (if x27 < (x25.length : Int) then (if ((rd_L1 x25 x27).length : Int) > 160 then (some false) else (impl_DiskOk.l0 k x25 x26 (wrap64 (x27 + 1)) x170000 x170001 x170002 x170003)) else (none)) else (none)) else (impl_DiskOk.l1 k x170001 (x170001.length : Int) 0 x170000 x170001 x170002 x170003)
def impl_DiskOk.l1 : Nat → List (S54) → Int → Int → List (List Int) → List (S54) → Int → Bool → Option (Bool)
  | 0, _, _, _, _, _, _, _ => none
  | k + 1, x36, x37, x38, x170000, x170001, x170002, x170003 => if x38 < x37 then (if 0 ≤ x38 then (if x38 < (x36.length : Int) then ((impl_isIn.f ((rd_T54 x36 x38).f0) 0 (wrap64 ((x170000.length : Int) - 1))).bind fun t175 => (if t175 = true then (if (((rd_T54 x36 x38).f1).length : Int) > 160 then (some false) else (impl_DiskOk.l1 k x36 x37 (wrap64 (x38 + 1)) x170000 x170001 x170002 x170003)) else (some false))) else (none)) else (none)) else (some true)
end
def impl_DiskOk.f (k : Nat) (l0_0 : List (List Int)) (l0_1 : List (S54)) (a0_2 : Int) (a0_3 : Bool) : Option (Bool) := (impl_isIn.f (l0_0.length : Int) 1 40).bind fun t170 => (if t170 = true then (if (l0_1.length : Int) > 30 then (impl_DiskOk.j0 k true l0_0 l0_1 a0_2 a0_3) else ((impl_isIn.f a0_2 (-1) 1000).bind fun t171 => (impl_DiskOk.j0 k (!t171) l0_0 l0_1 a0_2 a0_3))) else (impl_DiskOk.j0 k true l0_0 l0_1 a0_2 a0_3))
def slices_Clone_byte_byte.f (l0 : List Int) : Option (List Int) := (some (([] : List Int) : List Int)).bind fun y176 => (if y176.length + l0.length < 140737488355328 then (some (y176 ++ l0)) else (none))
mutual
def impl_ReadSec.j0 : Nat → Int → Bool → List (List Int) → List (S54) → Int → Bool → Option (List Int)
  | 0, _, _, _, _, _, _ => none
  | k + 1, x1, x17, x183000, x183001, x183002, x183003 => if x17 = true then (some (([] : List Int))) else (impl_ReadSec.l0 k x1 (wrap64 ((x183001.length : Int) - 1)) x183000 x183001 x183002 x183003)
def impl_ReadSec.l0 : Nat → Int → Int → List (List Int) → List (S54) → Int → Bool → Option (List Int)
  | 0, _, _, _, _, _, _ => none
  | k + 1, x1, x5, x183000, x183001, x183002, x183003 => if x5 ≥ 0 then (if 0 ≤ x5 then (if x5 < (x183001.length : Int) then (if ((rd_T54 x183001 x5).f0) = x1 then ((slices_Clone_byte_byte.f ((rd_T54 x183001 x5).f1)).bind fun t190 => (some t190)) else (impl_ReadSec.l0 k x1 (wrap64 (x5 - 1)) x183000 x183001 x183002 x183003)) else (none)) else (none)) else (if 0 ≤ x1 then (if x1 < (x183000.length : Int) then ((slices_Clone_byte_byte.f (rd_L1 x183000 x1)).bind fun t194 => (some t194)) else (none)) else (none))
end
def impl_ReadSec.f (k : Nat) (l0_0 : List (List Int)) (l0_1 : List (S54)) (a0_2 : Int) (a0_3 : Bool) (a1 : Int) : Option (List Int) := (impl_DiskOk.f k l0_0 l0_1 a0_2 a0_3).bind fun t183 => (if t183 = true then ((impl_isIn.f a1 0 (wrap64 ((l0_0.length : Int) - 1))).bind fun t184 => (impl_ReadSec.j0 k a1 (!t184) l0_0 l0_1 a0_2 a0_3)) else (impl_ReadSec.j0 k a1 true l0_0 l0_1 a0_2 a0_3))
def laws_eqByteS.l0 : Nat → List Int → List Int → Int → Option (Bool)
  | 0, _, _, _ => none
  | k + 1, x0, x1, x5 => if x5 < (x0.length : Int) then (if 0 ≤ x5 then (if x5 < (x1.length : Int) then (if (rd x0 x5) = (rd x1 x5) then (laws_eqByteS.l0 k x0 x1 (wrap64 (x5 + 1))) else (some false)) else (none)) else (none)) else (some true)
def laws_eqByteS.f (k : Nat) (l0 : List Int) (l1 : List Int) : Option (Bool) := if (l0.length : Int) = (l1.length : Int) then (laws_eqByteS.l0 k l0 l1 0) else (some false)
def laws_eqByteSS.l0 : Nat → List (List Int) → List (List Int) → Int → Option (Bool)
  | 0, _, _, _ => none
  | k + 1, x0, x1, x5 => if x5 < (x0.length : Int) then (if 0 ≤ x5 then (if x5 < (x1.length : Int) then ((laws_eqByteS.f k (rd_L1 x0 x5) (rd_L1 x1 x5)).bind fun t201 => (if t201 = true then (laws_eqByteSS.l0 k x0 x1 (wrap64 (x5 + 1))) else (some false))) else (none)) else (none)) else (some true)
def laws_eqByteSS.f (k : Nat) (l0 : List (List Int)) (l1 : List (List Int)) : Option (Bool) := if (l0.length : Int) = (l1.length : Int) then (laws_eqByteSS.l0 k l0 l1 0) else (some false)
def laws_eqWr.f (k : Nat) (a0_0 : Int) (l0_1 : List Int) (a1_0 : Int) (l1_1 : List Int) : Option (Bool) := if a0_0 = a1_0 then ((laws_eqByteS.f k l0_1 l1_1).bind fun t204 => (if t204 = true then (some true) else (some false))) else (some false)
def laws_eqWrS.l0 : Nat → List (S54) → List (S54) → Int → Option (Bool)
  | 0, _, _, _ => none
  | k + 1, x0, x1, x5 => if x5 < (x0.length : Int) then (if 0 ≤ x5 then (if x5 < (x1.length : Int) then ((laws_eqWr.f k ((rd_T54 x0 x5).f0) ((rd_T54 x0 x5).f1) ((rd_T54 x1 x5).f0) ((rd_T54 x1 x5).f1)).bind fun t207 => (if t207 = true then (laws_eqWrS.l0 k x0 x1 (wrap64 (x5 + 1))) else (some false))) else (none)) else (none)) else (some true)
def laws_eqWrS.f (k : Nat) (l0 : List (S54)) (l1 : List (S54)) : Option (Bool) := if (l0.length : Int) = (l1.length : Int) then (laws_eqWrS.l0 k l0 l1 0) else (some false)
def laws_eqDisk.f (k : Nat) (l0_0 : List (List Int)) (l0_1 : List (S54)) (a0_2 : Int) (a0_3 : Bool) (l1_0 : List (List Int)) (l1_1 : List (S54)) (a1_2 : Int) (a1_3 : Bool) : Option (Bool) := (laws_eqByteSS.f k l0_0 l1_0).bind fun t210 => (if t210 = true then ((laws_eqWrS.f k l0_1 l1_1).bind fun t211 => (if t211 = true then (if a0_2 = a1_2 then (if (a0_3 != a1_3) = true then (some false) else (some true)) else (some false)) else (some false))) else (some false))
def laws_markByteS.l0 : Nat → List Int → Int → Int → Option (Int × List Int)
  | 0, _, _, _ => none
  | k + 1, x0, x1, x5 => if x5 < (x0.length : Int) then (if 0 ≤ x5 then (laws_markByteS.l0 k (x0.set (x5 : Int).toNat ((x1) % 256)) (wrap64 (x1 + 1)) (wrap64 (x5 + 1))) else (none)) else (some (x1, x0))
def laws_markByteS.f (k : Nat) (l0 : List Int) (a1 : Int) : Option (Int × List Int) := laws_markByteS.l0 k l0 a1 0
def laws_heldByteS.l0 : Nat → List Int → Int → Int → Option (Int)
  | 0, _, _, _ => none
  | k + 1, x0, x1, x5 => if x5 < (x0.length : Int) then (if 0 ≤ x5 then (if (rd x0 x5) = ((x1) % 256) then (laws_heldByteS.l0 k x0 (wrap64 (x1 + 1)) (wrap64 (x5 + 1))) else (some (-1))) else (none)) else (some x1)
def laws_heldByteS.f (k : Nat) (l0 : List Int) (a1 : Int) : Option (Int) := laws_heldByteS.l0 k l0 a1 0
mutual
def spec_l2Copy.l0 : Nat → Int → List (List Int) → List (S54) → Int → Bool → List (List Int) → Int → Bool → Option ((List (List Int)) × (List (S54)) × Int × Bool)
  | 0, _, _, _, _, _, _, _, _ => none
  | k + 1, x4, x281000, x281001, x281002, x281003, x283000, x283002, x283003 => if x4 < (x281000.length : Int) then ((some (([] : List Int) : List Int)).bind fun y283 => (if 0 ≤ x4 then (if y283.length + (rd_L1 x281000 x4).length < 140737488355328 then (if x283000.length < 5864062014805 then (spec_l2Copy.l0 k (wrap64 (x4 + 1)) x281000 x281001 x281002 x281003 (x283000 ++ [(y283 ++ (rd_L1 x281000 x4))]) x283002 x283003) else (none)) else (none)) else (none))) else (spec_l2Copy.l1 k 0 x281000 x281001 x281002 x281003 x283000 ([] : List (S54)) x283002 x283003)
def spec_l2Copy.l1 : Nat → Int → List (List Int) → List (S54) → Int → Bool → List (List Int) → List (S54) → Int → Bool → Option ((List (List Int)) × (List (S54)) × Int × Bool)
  | 0, _, _, _, _, _, _, _, _, _ => none
  | k + 1, x5, x281000, x281001, x281002, x281003, x283000, x283001, x283002, x283003 => if x5 < (x281001.length : Int) then (if 0 ≤ x5 then ((some (([] : List Int) : List Int)).bind fun y294 => (if y294.length + ((rd_T54 x281001 x5).f1).length < 140737488355328 then (if x283001.length < 4398046511104 then (spec_l2Copy.l1 k (wrap64 (x5 + 1)) x281000 x281001 x281002 x281003 x283000 (x283001 ++ [(⟨(rd_T54 x281001 x5).f0, (y294 ++ ((rd_T54 x281001 x5).f1))⟩ : S54)]) x283002 x283003) else (none)) else (none))) else (none)) else (some (x283000, x283001, x283002, x283003))
end
def spec_l2Copy.f (k : Nat) (l0_0 : List (List Int)) (l0_1 : List (S54)) (a0_2 : Int) (a0_3 : Bool) : Option ((List (List Int)) × (List (S54)) × Int × Bool) := spec_l2Copy.l0 k 0 l0_0 l0_1 a0_2 a0_3 ([] : List (List Int)) a0_2 a0_3
def spec_l2Fuse.f (s0_0 : List (List Int)) (s0_1 : List (S54)) (s0_2 : Int) (s0_3 : Bool) : Option (Bool × Int × Bool) := if s0_2 = 0 then (some (false, (-1), true)) else (if s0_2 > 0 then (some (true, wrap64 (s0_2 - 1), s0_3)) else (some (true, s0_2, s0_3)))
def spec_WriteSec.f (k : Nat) (l0_0 : List (List Int)) (l0_1 : List (S54)) (a0_2 : Int) (a0_3 : Bool) (a1 : Int) (l2 : List Int) : Option ((List (List Int)) × (List (S54)) × Int × Bool) := (spec_l2Copy.f k l0_0 l0_1 a0_2 a0_3).bind fun c => ((spec_DiskOk.f k l0_0 l0_1 a0_2 a0_3).bind fun t => (if t = true then (if a0_3 = true then (some (c.1, c.2.1, c.2.2.1, c.2.2.2)) else ((spec_l1In.f a1 0 (wrap64 ((l0_0.length : Int) - 1))).bind fun u => (if u = true then (if (l2.length : Int) > 160 then (some (c.1, c.2.1, c.2.2.1, c.2.2.2)) else (if (l0_1.length : Int) = 30 then (some (c.1, c.2.1, c.2.2.1, c.2.2.2)) else ((spec_l2Fuse.f c.1 c.2.1 c.2.2.1 c.2.2.2).bind fun p => (if p.1 = true then ((some (([] : List Int) : List Int)).bind fun y => (if y.length + l2.length < 140737488355328 then (if c.2.1.length < 4398046511104 then (some (c.1, c.2.1 ++ [(⟨a1, (y ++ l2)⟩ : S54)], p.2.1, p.2.2)) else (none)) else (none))) else (some (c.1, c.2.1, p.2.1, p.2.2)))))) else (some (c.1, c.2.1, c.2.2.1, c.2.2.2))))) else (some (c.1, c.2.1, c.2.2.1, c.2.2.2))))
def spec_SyncDisk.l0 : Nat → Int → List (List Int) → List (S54) → Int → Bool → List (List Int) → List (S54) → Int → Bool → Option ((List (List Int)) × (List (S54)) × Int × Bool)
  | 0, _, _, _, _, _, _, _, _, _ => none
  | k + 1, x4, x7000, x7001, x7002, x7003, x8000, x8001, x8002, x8003 => if x4 < (x8001.length : Int) then (if 0 ≤ x4 then (if 0 ≤ ((rd_T54 x8001 x4).f0) then (if ((rd_T54 x8001 x4).f0) < (x8000.length : Int) then (spec_SyncDisk.l0 k (wrap64 (x4 + 1)) x7000 x7001 x7002 x7003 (x8000.set ((rd_T54 x8001 x4).f0).toNat ((rd_T54 x8001 x4).f1)) x8001 x8002 x8003) else (none)) else (none)) else (none)) else (some (x8000, ([] : List (S54)), x8002, x8003))
def spec_SyncDisk.f (k : Nat) (l0_0 : List (List Int)) (l0_1 : List (S54)) (a0_2 : Int) (a0_3 : Bool) : Option ((List (List Int)) × (List (S54)) × Int × Bool) := (spec_l2Copy.f k l0_0 l0_1 a0_2 a0_3).bind fun c => ((spec_DiskOk.f k l0_0 l0_1 a0_2 a0_3).bind fun t => (if t = true then (if a0_3 = true then (some (c.1, c.2.1, c.2.2.1, c.2.2.2)) else ((spec_l2Fuse.f c.1 c.2.1 c.2.2.1 c.2.2.2).bind fun p => (if p.1 = true then (spec_SyncDisk.l0 k 0 l0_0 l0_1 a0_2 a0_3 c.1 c.2.1 p.2.1 p.2.2) else (some (c.1, c.2.1, p.2.1, p.2.2))))) else (some (c.1, c.2.1, c.2.2.1, c.2.2.2))))
def spec_DiskNew.l0 : Nat → Int → Int → List (List Int) → Int → Bool → Option ((List (List Int)) × (List (S54)) × Int × Bool)
  | 0, _, _, _, _, _ => none
  | k + 1, x0, x4, x306000, x306002, x306003 => if x4 < x0 then (if x306000.length < 5864062014805 then (spec_DiskNew.l0 k x0 (wrap64 (x4 + 1)) (x306000 ++ [(([] : List Int))]) x306002 x306003) else (none)) else (some (x306000, ([] : List (S54)), x306002, x306003))
def spec_DiskNew.f (k : Nat) (a0 : Int) : Option ((List (List Int)) × (List (S54)) × Int × Bool) := (spec_l1In.f a0 1 40).bind fun t306 => (if t306 = true then (spec_DiskNew.l0 k a0 0 ([] : List (List Int)) (-1) false) else (some (([] : List (List Int)), ([] : List (S54)), 0, false)))
mutual
def impl_diskCopy.l0 : Nat → List (List Int) → List (S54) → List (List Int) → Int → Int → List (List Int) → List (S54) → Int → Bool → Option ((List (List Int)) × (List (S54)) × Int × Bool)
  | 0, _, _, _, _, _, _, _, _, _ => none
  | k + 1, x3, x4, x12, x13, x14, x453000, x453001, x453002, x453003 => if x14 < x13 then (if 0 ≤ x14 then (if x14 < (x12.length : Int) then ((slices_Clone_byte_byte.f (rd_L1 x12 x14)).bind fun t461 => (if x3.length < 5864062014805 then (impl_diskCopy.l0 k (x3 ++ [t461]) x4 x12 x13 (wrap64 (x14 + 1)) x453000 x453001 x453002 x453003) else (none))) else (none)) else (none)) else (impl_diskCopy.l1 k x3 x4 x453001 (x453001.length : Int) 0 x453000 x453001 x453002 x453003)
def impl_diskCopy.l1 : Nat → List (List Int) → List (S54) → List (S54) → Int → Int → List (List Int) → List (S54) → Int → Bool → Option ((List (List Int)) × (List (S54)) × Int × Bool)
  | 0, _, _, _, _, _, _, _, _, _ => none
  | k + 1, x3, x4, x25, x26, x27, x453000, x453001, x453002, x453003 => if x27 < x26 then (if 0 ≤ x27 then (if x27 < (x25.length : Int) then ((slices_Clone_byte_byte.f ((rd_T54 x25 x27).f1)).bind fun t469 => (if x4.length < 4398046511104 then (impl_diskCopy.l1 k x3 (x4 ++ [(⟨(rd_T54 x25 x27).f0, t469⟩ : S54)]) x25 x26 (wrap64 (x27 + 1)) x453000 x453001 x453002 x453003) else (none))) else (none)) else (none)) else (some (x3, x4, x453002, x453003))
end
def impl_diskCopy.f (k : Nat) (l0_0 : List (List Int)) (l0_1 : List (S54)) (a0_2 : Int) (a0_3 : Bool) : Option ((List (List Int)) × (List (S54)) × Int × Bool) := impl_diskCopy.l0 k (([] : List (List Int))) (([] : List (S54))) l0_0 (l0_0.length : Int) 0 l0_0 l0_1 a0_2 a0_3
def impl_powered.f (l0_0 : List (List Int)) (l0_1 : List (S54)) (a0_2 : Int) (a0_3 : Bool) : Option ((List (List Int)) × (List (S54)) × Int × Bool × Bool) := if a0_2 = 0 then (some (l0_0, l0_1, (-1), true, false)) else (if a0_2 > 0 then (some (l0_0, l0_1, wrap64 (a0_2 - 1), a0_3, true)) else (some (l0_0, l0_1, a0_2, a0_3, true)))
def impl_WriteSec.f (k : Nat) (l0_0 : List (List Int)) (l0_1 : List (S54)) (a0_2 : Int) (a0_3 : Bool) (a1 : Int) (l2 : List Int) : Option ((List (List Int)) × (List (S54)) × Int × Bool) := (impl_diskCopy.f k l0_0 l0_1 a0_2 a0_3).bind fun c => ((impl_DiskOk.f k l0_0 l0_1 a0_2 a0_3).bind fun t => (if t = true then (if a0_3 = true then (some (c.1, c.2.1, c.2.2.1, c.2.2.2)) else ((impl_isIn.f a1 0 (wrap64 ((l0_0.length : Int) - 1))).bind fun u => (if u = true then (if (l2.length : Int) > 160 then (some (c.1, c.2.1, c.2.2.1, c.2.2.2)) else (if (l0_1.length : Int) = 30 then (some (c.1, c.2.1, c.2.2.1, c.2.2.2)) else ((impl_powered.f c.1 c.2.1 c.2.2.1 c.2.2.2).bind fun p => (if p.2.2.2.2 = true then ((slices_Clone_byte_byte.f l2).bind fun b => (if p.2.1.length < 4398046511104 then (some (p.1, p.2.1 ++ [(⟨a1, b⟩ : S54)], p.2.2.1, p.2.2.2.1)) else (none))) else (some (p.1, p.2.1, p.2.2.1, p.2.2.2.1)))))) else (some (c.1, c.2.1, c.2.2.1, c.2.2.2))))) else (some (c.1, c.2.1, c.2.2.1, c.2.2.2))))
def impl_FallDisk.l0 : Nat → Int → List (S54) → Int → Int → List (List Int) → List (S54) → Int → Bool → List (List Int) → Int → Bool → Option ((List (List Int)) × (List (S54)) × Int × Bool)
  | 0, _, _, _, _, _, _, _, _, _, _, _ => none
  | k + 1, x1, x18, x19, x20, x7000, x7001, x7002, x7003, x8000, x8002, x8003 => if x20 < x19 then (if 0 ≤ x20 then (if x20 < (x18.length : Int) then (if x20 ≤ 64 then (if (Go.bits .and .i64 (x1 / ((2 ^ (x20).toNat : Nat) : Int)) 1) = 1 then (if 0 ≤ ((rd_T54 x18 x20).f0) then (if ((rd_T54 x18 x20).f0) < (x8000.length : Int) then (impl_FallDisk.l0 k x1 x18 x19 (wrap64 (x20 + 1)) x7000 x7001 x7002 x7003 (x8000.set ((rd_T54 x18 x20).f0).toNat ((rd_T54 x18 x20).f1)) x8002 x8003) else (none)) else (none)) else (impl_FallDisk.l0 k x1 x18 x19 (wrap64 (x20 + 1)) x7000 x7001 x7002 x7003 x8000 x8002 x8003)) else (none)) else (none)) else (none)) else (impl_diskCopy.f k x8000 ([] : List (S54)) (-1) false)
def impl_FallDisk.f (k : Nat) (l0_0 : List (List Int)) (l0_1 : List (S54)) (a0_2 : Int) (a0_3 : Bool) (a1 : Int) : Option ((List (List Int)) × (List (S54)) × Int × Bool) := (impl_diskCopy.f k l0_0 l0_1 a0_2 a0_3).bind fun c => ((impl_DiskOk.f k l0_0 l0_1 a0_2 a0_3).bind fun t => (if t = true then ((impl_isIn.f a1 0 1073741823).bind fun u => (if u = true then (impl_FallDisk.l0 k a1 c.2.1 (c.2.1.length : Int) 0 l0_0 l0_1 a0_2 a0_3 c.1 c.2.2.1 c.2.2.2) else (impl_FallDisk.l0 k 0 c.2.1 (c.2.1.length : Int) 0 l0_0 l0_1 a0_2 a0_3 c.1 c.2.2.1 c.2.2.2))) else (some (c.1, c.2.1, c.2.2.1, c.2.2.2))))
def impl_SyncDisk.l0 : Nat → List (S54) → Int → Int → List (List Int) → List (S54) → Int → Bool → List (List Int) → Int → Bool → Option ((List (List Int)) × (List (S54)) × Int × Bool)
  | 0, _, _, _, _, _, _, _, _, _, _ => none
  | k + 1, x24, x25, x26, x7000, x7001, x7002, x7003, x8000, x8002, x8003 => if x26 < x25 then (if 0 ≤ x26 then (if x26 < (x24.length : Int) then (if 0 ≤ ((rd_T54 x24 x26).f0) then (if ((rd_T54 x24 x26).f0) < (x8000.length : Int) then (impl_SyncDisk.l0 k x24 x25 (wrap64 (x26 + 1)) x7000 x7001 x7002 x7003 (x8000.set ((rd_T54 x24 x26).f0).toNat ((rd_T54 x24 x26).f1)) x8002 x8003) else (none)) else (none)) else (none)) else (none)) else (impl_diskCopy.f k x8000 ([] : List (S54)) x8002 x8003)
def impl_SyncDisk.f (k : Nat) (l0_0 : List (List Int)) (l0_1 : List (S54)) (a0_2 : Int) (a0_3 : Bool) : Option ((List (List Int)) × (List (S54)) × Int × Bool) := (impl_diskCopy.f k l0_0 l0_1 a0_2 a0_3).bind fun c => ((impl_DiskOk.f k l0_0 l0_1 a0_2 a0_3).bind fun t => (if t = true then (if a0_3 = true then (some (c.1, c.2.1, c.2.2.1, c.2.2.2)) else ((impl_powered.f c.1 c.2.1 c.2.2.1 c.2.2.2).bind fun p => (if p.2.2.2.2 = true then (impl_SyncDisk.l0 k p.2.1 (p.2.1.length : Int) 0 l0_0 l0_1 a0_2 a0_3 p.1 p.2.2.1 p.2.2.2.1) else (impl_diskCopy.f k p.1 p.2.1 p.2.2.1 p.2.2.2.1)))) else (some (c.1, c.2.1, c.2.2.1, c.2.2.2))))
def spec_FallDisk.l0 : Nat → Int → Int → List (List Int) → List (S54) → Int → Bool → List (List Int) → List (S54) → Int → Bool → Option ((List (List Int)) × (List (S54)) × Int × Bool)
  | 0, _, _, _, _, _, _, _, _, _, _ => none
  | k + 1, x6, x7, x7000, x7001, x7002, x7003, x8000, x8001, x8002, x8003 => if x7 < (x8001.length : Int) then (if 0 ≤ x7 then (if x7 ≤ 64 then (if (Go.bits .and .i64 (x6 / ((2 ^ (x7).toNat : Nat) : Int)) 1) = 1 then (if 0 ≤ ((rd_T54 x8001 x7).f0) then (if ((rd_T54 x8001 x7).f0) < (x8000.length : Int) then (spec_FallDisk.l0 k x6 (wrap64 (x7 + 1)) x7000 x7001 x7002 x7003 (x8000.set ((rd_T54 x8001 x7).f0).toNat ((rd_T54 x8001 x7).f1)) x8001 x8002 x8003) else (none)) else (none)) else (spec_FallDisk.l0 k x6 (wrap64 (x7 + 1)) x7000 x7001 x7002 x7003 x8000 x8001 x8002 x8003)) else (none)) else (none)) else (some (x8000, ([] : List (S54)), (-1), false))
def spec_FallDisk.f (k : Nat) (l0_0 : List (List Int)) (l0_1 : List (S54)) (a0_2 : Int) (a0_3 : Bool) (a1 : Int) : Option ((List (List Int)) × (List (S54)) × Int × Bool) := (spec_l2Copy.f k l0_0 l0_1 a0_2 a0_3).bind fun c => ((spec_DiskOk.f k l0_0 l0_1 a0_2 a0_3).bind fun t => (if t = true then ((spec_l1In.f a1 0 1073741823).bind fun u => (if u = true then (spec_FallDisk.l0 k a1 0 l0_0 l0_1 a0_2 a0_3 c.1 c.2.1 c.2.2.1 c.2.2.2) else (spec_FallDisk.l0 k 0 0 l0_0 l0_1 a0_2 a0_3 c.1 c.2.1 c.2.2.1 c.2.2.2))) else (some (c.1, c.2.1, c.2.2.1, c.2.2.2))))
def laws_heldByteSS.l0 : Nat → List (List Int) → Int → Int → Option (Int)
  | 0, _, _, _ => none
  | k + 1, x0, x1, x5 => if x5 < (x0.length : Int) then (if 0 ≤ x5 then ((laws_heldByteS.f k (rd_L1 x0 x5) x1).bind fun t565 => (if t565 < 0 then (some (-1)) else (laws_heldByteSS.l0 k x0 t565 (wrap64 (x5 + 1))))) else (none)) else (some x1)
def laws_heldByteSS.f (k : Nat) (l0 : List (List Int)) (a1 : Int) : Option (Int) := laws_heldByteSS.l0 k l0 a1 0
def laws_heldWrS.l0 : Nat → List (S54) → Int → Int → Option (Int)
  | 0, _, _, _ => none
  | k + 1, x0, x1, x5 => if x5 < (x0.length : Int) then (if 0 ≤ x5 then (if ((rd_T54 x0 x5).f0) = x1 then ((laws_heldByteS.f k ((rd_T54 x0 x5).f1) (wrap64 (x1 + 1))).bind fun t568 => (if t568 < 0 then (some (-1)) else (laws_heldWrS.l0 k x0 t568 (wrap64 (x5 + 1))))) else (some (-1))) else (none)) else (some x1)
def laws_heldWrS.f (k : Nat) (l0 : List (S54)) (a1 : Int) : Option (Int) := laws_heldWrS.l0 k l0 a1 0
def laws_heldDisk.f (k : Nat) (l0_0 : List (List Int)) (l0_1 : List (S54)) (a0_2 : Int) (a0_3 : Bool) (a1 : Int) : Option (Int) := (laws_heldByteSS.f k l0_0 a1).bind fun t570 => (if t570 < 0 then (some (-1)) else ((laws_heldWrS.f k l0_1 t570).bind fun t571 => (if t571 < 0 then (some (-1)) else (some t571))))
def spec_PutWord.f (l0 : List Int) (a1 : Int) : Option (List Int) := (some (([] : List Int) : List Int)).bind fun y676 => (if y676.length + l0.length < 140737488355328 then ((some (y676 ++ l0 : List Int)).bind fun y679 => ((some (([(Go.bits .and .i64 (a1 / 256) 255) % 256, (Go.bits .and .i64 a1 255) % 256] : List Int) : List Int)).bind fun y682 => (if y679.length + y682.length < 140737488355328 then (some (y679 ++ y682)) else (none)))) else (none))
mutual
def spec_Sum.l0 : Nat → List Int → Int → Int → Option (Int)
  | 0, _, _, _ => none
  | k + 1, x0, x3, x4 => if x4 < (x0.length : Int) then (if 0 ≤ x4 then (spec_Sum.l1 k x0 (Go.bits .xor .i64 x3 (wrap64 ((wrap64 (rd x0 x4)) * 256))) x4 0) else (none)) else (some (Go.bits .and .i64 x3 65535))
def spec_Sum.l1 : Nat → List Int → Int → Int → Int → Option (Int)
  | 0, _, _, _, _ => none
  | k + 1, x0, x3, x4, x5 => if x5 < 8 then (if (wrap64 (x3 * 2)) > 65535 then (spec_Sum.l1 k x0 (Go.bits .xor .i64 (wrap64 (x3 * 2)) 69665) x4 (wrap64 (x5 + 1))) else (spec_Sum.l1 k x0 (wrap64 (x3 * 2)) x4 (wrap64 (x5 + 1)))) else (spec_Sum.l0 k x0 x3 (wrap64 (x4 + 1)))
end
def spec_Sum.f (k : Nat) (l0 : List Int) : Option (Int) := spec_Sum.l0 k l0 65535 0
def spec_HeadOf.j0 : Nat → Int → Int → Bool → Option (List Int)
  | 0, _, _, _ => none
  | k + 1, x0, x1, x13 => if x13 = true then (some (([] : List Int))) else ((spec_PutWord.f (([] : List Int)) x0).bind fun t697 => ((spec_PutWord.f t697 x1).bind fun t700 => ((spec_Sum.f k t700).bind fun t703 => ((spec_PutWord.f t700 t703).bind fun t704 => (some t704)))))
def spec_HeadOf.f (k : Nat) (a0 : Int) (a1 : Int) : Option (List Int) := (spec_l1In.f a0 1 60000).bind fun t689 => (if t689 = true then ((spec_l1In.f a1 0 18).bind fun t690 => (spec_HeadOf.j0 k a0 a1 (!t690))) else (spec_HeadOf.j0 k a0 a1 true))
def spec_Format.f (k : Nat)  : Option ((List (List Int)) × (List (S54)) × Int × Bool) := (spec_DiskNew.f k 38).bind fun bt708 => ((spec_HeadOf.f k 1 0).bind fun t716 => ((spec_WriteSec.f k bt708.1 bt708.2.1 bt708.2.2.1 bt708.2.2.2 1 t716).bind fun bt719 => ((spec_SyncDisk.f k bt719.1 bt719.2.1 bt719.2.2.1 bt719.2.2.2).bind fun bt727 => (some (bt727.1, bt727.2.1, bt727.2.2.1, bt727.2.2.2)))))
def impl_DiskNew.f (a0 : Int) : Option ((List (List Int)) × (List (S54)) × Int × Bool) := (impl_isIn.f a0 1 40).bind fun t736 => (if t736 = true then (if 0 ≤ a0 then (if (a0 : Int).toNat ≤ 11728124029610 then (some ((List.replicate (a0 : Int).toNat []), ([] : List (S54)), (-1), false)) else (none)) else (none)) else (some (([] : List (List Int)), ([] : List (S54)), 0, false)))
def impl_PutWord.f (l0 : List Int) (a1 : Int) : Option (List Int) := (slices_Clone_byte_byte.f l0).bind fun t740 => ((some (([(a1 / 256) % 256, (a1) % 256] : List Int) : List Int)).bind fun y743 => (if t740.length + y743.length < 140737488355328 then (some (t740 ++ y743)) else (none)))
mutual
def impl_Sum.l0 : Nat → Int → List Int → Int → Int → Option (Int)
  | 0, _, _, _, _ => none
  | k + 1, x3, x6, x7, x8 => if x8 < x7 then (if 0 ≤ x8 then (if x8 < (x6.length : Int) then (impl_Sum.l1 k (Go.bits .xor .i64 x3 (wrap64 (256 * (wrap64 (rd x6 x8))))) x6 x7 x8 0) else (none)) else (none)) else (some (Go.bits .and .i64 x3 65535))
def impl_Sum.l1 : Nat → Int → List Int → Int → Int → Int → Option (Int)
  | 0, _, _, _, _, _ => none
  | k + 1, x3, x6, x7, x8, x17 => if x17 < 8 then (if (wrap64 (x3 * 2)) > 65535 then (impl_Sum.l1 k (Go.bits .xor .i64 (wrap64 (x3 * 2)) 69665) x6 x7 x8 (wrap64 (x17 + 1))) else (impl_Sum.l1 k (wrap64 (x3 * 2)) x6 x7 x8 (wrap64 (x17 + 1)))) else (impl_Sum.l0 k x3 x6 x7 (wrap64 (x8 + 1)))
end
def impl_Sum.f (k : Nat) (l0 : List Int) : Option (Int) := impl_Sum.l0 k 65535 l0 (l0.length : Int) 0
def impl_HeadOf.j0 : Nat → Int → Int → Bool → Option (List Int)
  | 0, _, _, _ => none
  | k + 1, x0, x1, x13 => if x13 = true then (some (([] : List Int))) else ((impl_PutWord.f ([] : List Int) x0).bind fun t755 => ((impl_PutWord.f t755 x1).bind fun t758 => ((impl_Sum.f k t758).bind fun t761 => ((impl_PutWord.f t758 t761).bind fun t762 => (some t762)))))
def impl_HeadOf.f (k : Nat) (a0 : Int) (a1 : Int) : Option (List Int) := (impl_isIn.f a0 1 60000).bind fun t750 => (if t750 = true then ((impl_isIn.f a1 0 18).bind fun t751 => (impl_HeadOf.j0 k a0 a1 (!t751))) else (impl_HeadOf.j0 k a0 a1 true))
def impl_Format.f (k : Nat)  : Option ((List (List Int)) × (List (S54)) × Int × Bool) := (impl_DiskNew.f 38).bind fun bt766 => ((impl_HeadOf.f k 1 0).bind fun t774 => ((impl_WriteSec.f k bt766.1 bt766.2.1 bt766.2.2.1 bt766.2.2.2 1 t774).bind fun bt777 => ((impl_SyncDisk.f k bt777.1 bt777.2.1 bt777.2.2.1 bt777.2.2.2).bind fun bt785 => (some (bt785.1, bt785.2.1, bt785.2.2.1, bt785.2.2.2)))))
end Go.Proofs.Ytkpcieenikmbmaa.P

-- Written by xprint.py (by way of the kit's print program) out of the translation.
namespace Go.Proofs.Ytkpcieenikmbmaa.P
open Go.RowKit Go.Proofs.YtkpcieenikmbmaaW.PrintWords Go.Proofs.YtkpcieenikmbmaaW.PrintLast Go.Proofs.YtkpcieenikmbmaaW.PrintMore
attribute [local go_sem] max2_int min2_int max_two min_two max_three min_three max_four min_four   -- for this text's walks alone
set_option linter.unusedVariables false
set_option linter.unusedSimpArgs false

/-! ### slices_Clone_byte_byte: function 44 -/
set_option maxHeartbeats 8000000 in
set_option maxRecDepth 100000 in
theorem slices_Clone_byte_byte.calls_some (ad0 : Addr) (c0 : Nat) (l0 : List Int) (r : List Int) (w : World) (hr0 : Kd.C (Kd.int .u8) w (some ad0) l0.length l0) (hc0 : l0.length ≤ c0) (h : slices_Clone_byte_byte.f l0 = some r) :
    Calls Try.prog 44 #[.slice (some ad0) l0.length c0] w fun e w' => ∃ v0_ : Value, e = .returned (v0_) ∧ Kd.R (Kd.int .u8) 5 w' w.heap.size (fun _ => True) v0_ r ∧ Below w.heap.size w w' := by
  have HR0 := Aside0.mk hr0
  have HC0 := Aside0.mk hc0
  clear hr0 hc0
  have HB := Aside0.mk (Below.refl w.heap.size w)
  have H : ((some (([] : List Int) : List Int)).bind fun y176 => (if y176.length + l0.length < 140737488355328 then (some (y176 ++ l0)) else (none))) = some r := h
  clear h
  obtain ⟨y176, hy176⟩ : ∃ y_ : List Int, y_ = (([] : List Int)) := ⟨_, rfl⟩
  replace H : (if y176.length + l0.length < 140737488355328 then (some (y176 ++ l0)) else (none)) = some r := by first | (rw [hy176]; with_reducible exact H) | (have H2_ := (Option.bind_some _ _).symm.trans H; rw [hy176]; with_reducible exact H2_) | (have H2_ := (Option.bind_some _ _).symm.trans H; with_reducible exact H2_) | with_reducible exact H | (rw [hy176]; exact H) | exact H
  have Ny176 := Aside0.mk hy176
  clear hy176
  by_cases c2 : y176.length + l0.length < 140737488355328
  · rw [if_pos c2] at H
    have LMc2 := Aside0.mk c2
    clear c2
    obtain ⟨y179, hy179⟩ : ∃ y_ : List Int, y_ = (y176 ++ l0) := ⟨_, rfl⟩
    replace H : (some y179) = some r := by first | (rw [hy179]; with_reducible exact H) | (have H2_ := (Option.bind_some _ _).symm.trans H; rw [hy179]; with_reducible exact H2_) | (have H2_ := (Option.bind_some _ _).symm.trans H; with_reducible exact H2_) | with_reducible exact H | (rw [hy179]; exact H) | exact H
    have Ny179 := Aside0.mk hy179
    clear hy179
    obtain rfl := Option.some.inj H
    have hnil : ∀ (W : World), (binOp .eql 27 (.slice (some ad0) l0.length c0) (.slice none 0 0)).run Try.prog W = .ok (.bool false) W := fun W => run_eql_slice_nil W 27 5 (some ad0) l0.length c0 Try.underlying27
    go_enter Try.func44, Try.ntmps44
    go_wp2_with (first | ((with_reducible refine gate_dst (N := 5) rfl ?_); refine Kd.R_lit (Kd.int .u8) _ 5 ?hg (N := 5) ?hd (xs := ([] : List Int)) (inner := []) (ok := fun _ => True) (okp := fun _ => True) ?hr ?hp (fun _ hk => hk) trivial (Below.refl _ _) (Nat.le_refl _) (by simp) ?_; (case hd => rfl); (case hg => rfl); (case hr => first | (go_simp; done) | (go_simp; rfl)); (case hp => exact (Reps.none _ _)); intro v177 w3 ho4 hb hg_ hnew_; clear hg_ hnew_; (first | rw [← Ny176.out] at ho4 | (simp only [Int.reduceToNat] at ho4; rw [← Ny176.out] at ho4)); have n0_ := Aside0.mk (Kd.R_lower ho4 (below_size (by repeat (first | (with_reducible first | exact HB.out | apply below_alloc | apply pw_below_drewN | apply below_drew1) | exact HB.out)))); have n1_ := Aside0.mk (below_step (by repeat (first | (with_reducible first | exact HB.out | apply below_alloc | apply pw_below_drewN | apply below_drew1) | exact HB.out)) hb); clear HB; have HO178 := n0_; have HB := n1_; clear n0_ n1_; clear hb ho4) | ((with_reducible refine gate_builtin (b := .append) (xs := #[.tmp 5, .tmp 6]) rfl ?_); at_builtin; refine Kd.R_append_rows (Kd.int .u8) (w0 := w) w.heap.size rfl (.tmp 5) (.tmp 6) 27 5 (.int .u8 0) 1 rfl Try.underlying27 info5 rfl (by decide) (by omega) v177 y176 l0 _ _ _ (fun _ => True) (fun _ => False) rfl rfl ?aO ?aR (fun _ _ h => h) (fun _ h => h.elim) ?aF ?aB ?aS ?aL ?_; (case aR => repeat (first | exact (Kd.C_below HR0.out HB.out) | (with_reducible refine Kd.C_alloc ?_ _) | (with_reducible refine Kd.C_drewN ?_ _) | (with_reducible refine Kd.C_drew ?_))); (case aB => exact (by repeat (first | (with_reducible first | exact HB.out | apply below_alloc | apply pw_below_drewN | apply below_drew1) | exact HB.out))); (case aF => exact (fun _ _ => trivial)); (case aO => exact (by (with_reducible repeat (first | apply Kd.R_alloc | apply Kd.R_drewN | apply Kd.R_drew)); exact HO178.out)); (case aS => exact (below_size (by repeat (first | (with_reducible first | exact HB.out | apply below_alloc | apply pw_below_drewN | apply below_drew1) | exact HB.out)))); (case aL => have := LMc2.out; omega); intro v180 w5 ho hb hg hat; rw [← Ny179.out] at ho; have n0_ := Aside0.mk (hb); have n1_ := Aside0.mk (ho); clear HB; clear HO178; have HB := n0_; have HO181 := n1_; clear n0_ n1_; clear ho hb hg hat))
    go_ret
    exact ⟨_, by first | rfl | (simp [errW_none, errW_some] <;> rfl) | (simp [*, errW_none, errW_some] <;> rfl), by (with_reducible repeat (first | apply Kd.R_alloc | apply Kd.R_drewN | apply Kd.R_drew)); exact HO181.out, by repeat (first | (with_reducible first | exact HB.out | apply below_alloc | apply pw_below_drewN | apply below_drew1) | exact HB.out)⟩
  · rw [if_neg c2] at H
    exact absurd H (by simp)

set_option maxHeartbeats 1000000 in
theorem slices_Clone_byte_byte.calls_none (c0 : Nat) (w : World) :
    Calls Try.prog 44 #[.slice none 0 c0] w fun e w' => e = .returned (.slice none 0 0) ∧ Below w.heap.size w w' := by
  have hnil : ∀ (W : World), (binOp .eql 27 (.slice none 0 c0) (.slice none 0 0)).run Try.prog W = .ok (.bool true) W := fun W => run_eql_slice_nil W 27 5 none 0 c0 Try.underlying27
  go_enter Try.func44, Try.ntmps44
  go_wp2
  go_ret
  exact ⟨rfl, by repeat (first | exact Below.refl _ _ | apply below_drew1 | apply pw_below_drewN)⟩
theorem slices_Clone_byte_byte.calls (A0 : Option Addr) (c0 : Nat) (l0 : List Int) (r : List Int) (w : World) (hr0 : Kd.C (Kd.int .u8) w A0 l0.length l0) (hc0 : l0.length ≤ c0) (h : slices_Clone_byte_byte.f l0 = some r) :
    Calls Try.prog 44 #[.slice A0 l0.length c0] w fun e w' => ∃ v0_ : Value, e = .returned (v0_) ∧ Kd.R (Kd.int .u8) 5 w' w.heap.size (fun _ => True) v0_ r ∧ Below w.heap.size w w' := by
  cases A0 with
  | some ad0 => exact slices_Clone_byte_byte.calls_some ad0 c0 l0 r w hr0 hc0 h
  | none =>
    have hl : l0 = [] := by
      rcases Nat.eq_zero_or_pos l0.length with h0 | h0
      · exact List.eq_nil_of_length_eq_zero h0
      · obtain ⟨ad, he, _⟩ := hr0.2.2 h0
        cases he
    subst hl
    have hr : r = [] := by
      simp [slices_Clone_byte_byte.f] at h
      exact h
    subst hr
    exact (slices_Clone_byte_byte.calls_none c0 w).mono fun e w' ⟨he, hb⟩ => ⟨_, he, Kd.R_nil _ _ _ _ _, hb⟩

end Go.Proofs.Ytkpcieenikmbmaa.P

/- What the library's functions come to. -/
namespace Go.Proofs.Ytkpcieenikmbmaa.E
open Go Go.RowKit Go.Proofs.YtkpcieenikmbmaaW.PrintWords Go.Proofs.Ytkpcieenikmbmaa.P
set_option linter.unusedVariables false
set_option maxRecDepth 100000
theorem slices_Clone_byte_byte_ev {l0 : List Int} {r : List Int} (H : slices_Clone_byte_byte.f l0 = some r) : Spec Try.prog 44 [.v (.row (List.map (fun (x : Int) => ([.i .u8 x] : List CV)) l0))] [] (.own 0 (List.map (fun (x : Int) => ([.i .u8 x] : List CV)) r).length) [.arr 1 5 false (List.map (fun (x : Int) => ([.i .u8 x] : List CV)) r)] := by
  refine spec_row (by decide) (callFunc_of Try.func44 (by rfl) (by rfl)) fun G w vals hgw hr => ?_
  simp only [RepsL, Reps] at hr
  obtain ⟨v, vs, h1, h2, h3⟩ := hr
  obtain ⟨A0, c0, rfl, hc, hC, _⟩ := kdC_of (Kd.int .u8) _ (fun _ => rfl) (fun x I w cs h => by simp only [RepP, RepC] at h; obtain ⟨v, vs', rfl, rfl, _⟩ := h; rfl) h2
  obtain rfl : vals = #[.slice A0 l0.length c0] := by rw [← Array.toList_inj, h1, h3]
  refine (slices_Clone_byte_byte.calls A0 c0 l0 r w hC hc H).mono fun e w' hq => ?_
  obtain ⟨v0, he, hR, hb⟩ := hq
  exact ⟨v0, he, hb, row_of_kd (f := fun x => [.i .u8 x]) (enc := Value.int .u8) (h1 := fun _ => rfl) (fun _ _ _ _ => by simp only [RepP, RepC]; exact ⟨_, _, rfl, rfl, trivial⟩) (fun _ => rfl) hR⟩
end Go.Proofs.Ytkpcieenikmbmaa.E

/- What the cells of an element hold, by its type. -/
namespace Go.Proofs.Ytkpcieenikmbmaa.E
open Go Go.RowKit Go.Proofs.YtkpcieenikmbmaaW.PrintWords Go.Proofs.Ytkpcieenikmbmaa.P
abbrev e3 (x : Int) : List CV := [.i .i64 x]
abbrev e5 (x : Int) : List CV := [.i .u8 x]
abbrev e27 (x : (List Int)) : List CV := [.row (List.map e5 x)]
abbrev e54 (p : S54) : List CV := [.i .i64 p.f0, .row (List.map e5 p.f1)]
theorem set54 (v0 : Int) (v1 : (List Int)) {l : List S54} {i : Nat} {y : List CV} {K : List (List CV) → Prop} (h : ([.i .i64 v0, .row (List.map e5 v1)] : List CV) = y) (k : K (List.map e54 (l.set i ⟨v0, v1⟩))) : Norm 54 ((List.map e54 l).set i y) K := norm_set (f := e54) ⟨v0, v1⟩ h k
theorem lit54 (v0 : Int) (v1 : (List Int)) {c : List CV} {K : List (List CV) → Prop} (h : ([[.i .i64 v0, .row (List.map e5 v1)]] : List (List CV)) = chunks 2 1 c) (k : K (List.map e54 [⟨v0, v1⟩])) : Norm 54 (chunks 2 1 c) K := norm_lit (f := e54) [⟨v0, v1⟩] h k
abbrev e77 (p : S77) : List CV := [.i .i64 p.f0, .row (List.map e5 p.f1)]
end Go.Proofs.Ytkpcieenikmbmaa.E

/- Functions of the disk as the told runs with trees want them written. -/
namespace Go.Proofs.Ytkpcieenikmbmaa.P
open Go.RowKit Go.Proofs.YtkpcieenikmbmaaW.PrintWords
set_option linter.unusedVariables false

def impl_diskCopyT.f (k : Nat) (l0_0 : List (List Int)) (l0_1 : List (S54)) (a0_2 : Int) (a0_3 : Bool) : Option ((List (List Int)) × (List (S54)) × Int × Bool) := (impl_diskCopy.f k l0_0 l0_1 a0_2 a0_3).bind some
theorem impl_diskCopyT.eq (k : Nat) (l0_0 : List (List Int)) (l0_1 : List (S54)) (a0_2 : Int) (a0_3 : Bool) : impl_diskCopyT.f k l0_0 l0_1 a0_2 a0_3 = impl_diskCopy.f k l0_0 l0_1 a0_2 a0_3 := by unfold impl_diskCopyT.f; cases impl_diskCopy.f k l0_0 l0_1 a0_2 a0_3 <;> rfl
def laws_toDiskT.f (k : Nat) (l0_0 : List (List Int)) (l0_1 : List (S77)) (a0_2 : Int) (a0_3 : Bool) : Option ((List (List Int)) × (List (S54)) × Int × Bool) := (laws_toDisk.f k l0_0 l0_1 a0_2 a0_3).bind some
theorem laws_toDiskT.eq (k : Nat) (l0_0 : List (List Int)) (l0_1 : List (S77)) (a0_2 : Int) (a0_3 : Bool) : laws_toDiskT.f k l0_0 l0_1 a0_2 a0_3 = laws_toDisk.f k l0_0 l0_1 a0_2 a0_3 := by unfold laws_toDiskT.f; cases laws_toDisk.f k l0_0 l0_1 a0_2 a0_3 <;> rfl
def impl_SyncDiskA.f (k : Nat) (l0_0 : List (List Int)) (l0_1 : List (S54)) (a0_2 : Int) (a0_3 : Bool) : Option ((List (List Int)) × (List (S54)) × Int × Bool) := (impl_diskCopy.f k l0_0 l0_1 a0_2 a0_3).bind fun c => ((impl_DiskOk.f k l0_0 l0_1 a0_2 a0_3).bind fun t => (if t = true then (if a0_3 = true then (some (c.1, c.2.1, c.2.2.1, c.2.2.2)) else (none)) else (some (c.1, c.2.1, c.2.2.1, c.2.2.2))))
def impl_SyncDiskB.l0 : Nat → List (S54) → Int → Int → List (List Int) → List (S54) → Int → Bool → List (List Int) → Int → Bool → Option ((List (List Int)) × (List (S54)) × Int × Bool)
  | 0, _, _, _, _, _, _, _, _, _, _ => none
  | k + 1, x24, x25, x26, x7000, x7001, x7002, x7003, x8000, x8002, x8003 => if x26 < x25 then (if 0 ≤ x26 then (if x26 < (x24.length : Int) then (if 0 ≤ ((rd_T54 x24 x26).f0) then (if ((rd_T54 x24 x26).f0) < (x8000.length : Int) then (impl_SyncDiskB.l0 k x24 x25 (wrap64 (x26 + 1)) x7000 x7001 x7002 x7003 (x8000.set ((rd_T54 x24 x26).f0).toNat ((rd_T54 x24 x26).f1)) x8002 x8003) else (none)) else (none)) else (none)) else (none)) else (impl_diskCopyT.f k x8000 ([] : List (S54)) x8002 x8003)
def impl_SyncDiskB.f (k : Nat) (l0_0 : List (List Int)) (l0_1 : List (S54)) (a0_2 : Int) (a0_3 : Bool) : Option ((List (List Int)) × (List (S54)) × Int × Bool) := (impl_diskCopy.f k l0_0 l0_1 a0_2 a0_3).bind fun c => ((impl_DiskOk.f k l0_0 l0_1 a0_2 a0_3).bind fun t => (if t = true then (if a0_3 = true then (none) else ((impl_powered.f c.1 c.2.1 c.2.2.1 c.2.2.2).bind fun p => (if p.2.2.2.2 = true then (impl_SyncDiskB.l0 k p.2.1 (p.2.1.length : Int) 0 l0_0 l0_1 a0_2 a0_3 p.1 p.2.2.1 p.2.2.2.1) else (impl_diskCopyT.f k p.1 p.2.1 p.2.2.1 p.2.2.2.1)))) else (none)))
theorem impl_SyncDiskB_l0 (k : Nat) : ∀ (x24 : List (S54)) (x25 x26 : Int) (x7000 : List (List Int)) (x7001 : List (S54)) (x7002 : Int) (x7003 : Bool) (x8000 : List (List Int)) (x8002 : Int) (x8003 : Bool), impl_SyncDiskB.l0 k x24 x25 x26 x7000 x7001 x7002 x7003 x8000 x8002 x8003 = impl_SyncDisk.l0 k x24 x25 x26 x7000 x7001 x7002 x7003 x8000 x8002 x8003 := by
  induction k with
  | zero => intros; rfl
  | succ k ih => intros; simp only [impl_SyncDiskB.l0, impl_SyncDisk.l0, ih, impl_diskCopyT.eq]
theorem impl_SyncDisk_split {k : Nat} {l0_0 : List (List Int)} {l0_1 : List (S54)} {a0_2 : Int} {a0_3 : Bool} {r : (List (List Int)) × (List (S54)) × Int × Bool} (H : impl_SyncDisk.f k l0_0 l0_1 a0_2 a0_3 = some r) : impl_SyncDiskA.f k l0_0 l0_1 a0_2 a0_3 = some r ∨ impl_SyncDiskB.f k l0_0 l0_1 a0_2 a0_3 = some r := by
  unfold impl_SyncDisk.f at H
  unfold impl_SyncDiskA.f impl_SyncDiskB.f
  obtain ⟨c, h1, H⟩ := Option.bind_eq_some_iff.1 H
  obtain ⟨t, h2, H⟩ := Option.bind_eq_some_iff.1 H
  rw [h1, h2]
  simp only [Option.bind_some]
  by_cases ht : t = true
  · rw [if_pos ht] at H
    rw [if_pos ht, if_pos ht]
    by_cases hd : a0_3 = true
    · rw [if_pos hd] at H
      rw [if_pos hd]
      exact .inl H
    · rw [if_neg hd] at H
      rw [if_neg hd, if_neg hd]
      refine .inr ?_
      simp only [impl_SyncDiskB_l0, impl_diskCopyT.eq]
      exact H
  · rw [if_neg ht] at H
    rw [if_neg ht]
    exact .inl H
def impl_FallDiskA.f (k : Nat) (l0_0 : List (List Int)) (l0_1 : List (S54)) (a0_2 : Int) (a0_3 : Bool) (a1 : Int) : Option ((List (List Int)) × (List (S54)) × Int × Bool) := (impl_diskCopy.f k l0_0 l0_1 a0_2 a0_3).bind fun c => ((impl_DiskOk.f k l0_0 l0_1 a0_2 a0_3).bind fun t => (if t = true then (none) else (some (c.1, c.2.1, c.2.2.1, c.2.2.2))))
def impl_FallDiskB.l0 : Nat → Int → List (S54) → Int → Int → List (List Int) → List (S54) → Int → Bool → List (List Int) → Int → Bool → Option ((List (List Int)) × (List (S54)) × Int × Bool)
  | 0, _, _, _, _, _, _, _, _, _, _, _ => none
  | k + 1, x1, x18, x19, x20, x7000, x7001, x7002, x7003, x8000, x8002, x8003 => if x20 < x19 then (if 0 ≤ x20 then (if x20 < (x18.length : Int) then (if x20 ≤ 64 then (if (Go.bits .and .i64 (x1 / ((2 ^ (x20).toNat : Nat) : Int)) 1) = 1 then (if 0 ≤ ((rd_T54 x18 x20).f0) then (if ((rd_T54 x18 x20).f0) < (x8000.length : Int) then (impl_FallDiskB.l0 k x1 x18 x19 (wrap64 (x20 + 1)) x7000 x7001 x7002 x7003 (x8000.set ((rd_T54 x18 x20).f0).toNat ((rd_T54 x18 x20).f1)) x8002 x8003) else (none)) else (none)) else (impl_FallDiskB.l0 k x1 x18 x19 (wrap64 (x20 + 1)) x7000 x7001 x7002 x7003 x8000 x8002 x8003)) else (none)) else (none)) else (none)) else (impl_diskCopyT.f k x8000 ([] : List (S54)) (-1) false)
def impl_FallDiskB.f (k : Nat) (l0_0 : List (List Int)) (l0_1 : List (S54)) (a0_2 : Int) (a0_3 : Bool) (a1 : Int) : Option ((List (List Int)) × (List (S54)) × Int × Bool) := (impl_diskCopy.f k l0_0 l0_1 a0_2 a0_3).bind fun c => ((impl_DiskOk.f k l0_0 l0_1 a0_2 a0_3).bind fun t => (if t = true then ((impl_isIn.f a1 0 1073741823).bind fun u => (if u = true then (impl_FallDiskB.l0 k a1 c.2.1 (c.2.1.length : Int) 0 l0_0 l0_1 a0_2 a0_3 c.1 c.2.2.1 c.2.2.2) else (impl_FallDiskB.l0 k 0 c.2.1 (c.2.1.length : Int) 0 l0_0 l0_1 a0_2 a0_3 c.1 c.2.2.1 c.2.2.2))) else (none)))
theorem impl_FallDiskB_l0 (k : Nat) : ∀ (x1 : Int) (x18 : List (S54)) (x19 x20 : Int) (x7000 : List (List Int)) (x7001 : List (S54)) (x7002 : Int) (x7003 : Bool) (x8000 : List (List Int)) (x8002 : Int) (x8003 : Bool), impl_FallDiskB.l0 k x1 x18 x19 x20 x7000 x7001 x7002 x7003 x8000 x8002 x8003 = impl_FallDisk.l0 k x1 x18 x19 x20 x7000 x7001 x7002 x7003 x8000 x8002 x8003 := by
  induction k with
  | zero => intros; rfl
  | succ k ih => intros; simp only [impl_FallDiskB.l0, impl_FallDisk.l0, ih, impl_diskCopyT.eq]
theorem impl_FallDisk_split {k : Nat} {l0_0 : List (List Int)} {l0_1 : List (S54)} {a0_2 : Int} {a0_3 : Bool} {a1 : Int} {r : (List (List Int)) × (List (S54)) × Int × Bool} (H : impl_FallDisk.f k l0_0 l0_1 a0_2 a0_3 a1 = some r) : impl_FallDiskA.f k l0_0 l0_1 a0_2 a0_3 a1 = some r ∨ impl_FallDiskB.f k l0_0 l0_1 a0_2 a0_3 a1 = some r := by
  unfold impl_FallDisk.f at H
  unfold impl_FallDiskA.f impl_FallDiskB.f
  obtain ⟨c, h1, H⟩ := Option.bind_eq_some_iff.1 H
  obtain ⟨t, h2, H⟩ := Option.bind_eq_some_iff.1 H
  rw [h1, h2]
  simp only [Option.bind_some]
  by_cases ht : t = true
  · rw [if_pos ht] at H
    rw [if_pos ht, if_pos ht]
    refine .inr ?_
    simp only [impl_FallDiskB_l0]
    exact H
  · rw [if_neg ht] at H
    rw [if_neg ht]
    exact .inl H
/-! ### marks -/
theorem laws_markByteS_l0_len (k : Nat) : ∀ (l : List Int) (a i : Int) (r : Int × List Int), laws_markByteS.l0 k l a i = some r → r.2.length = l.length := by
  induction k with
  | zero => intro l a i r h; simp [laws_markByteS.l0] at h
  | succ k ih =>
    intro l a i r h
    simp only [laws_markByteS.l0] at h
    split at h
    · split at h
      · have := ih _ _ _ _ h
        simpa using this
      · cases h
    · injection h with h
      subst h
      rfl
theorem laws_markByteS_len {k : Nat} {l : List Int} {a : Int} {r : Int × List Int} (h : laws_markByteS.f k l a = some r) : r.2.length = l.length := laws_markByteS_l0_len k l a 0 r h
def laws_markByteSS.l0 : Nat → List (List Int) → Int → Int → Option (Int × (List (List Int)))
  | 0, _, _, _ => none
  | k + 1, x0, x1, x5 => if x5 < (x0.length : Int) then (if 0 ≤ x5 then ((laws_markByteS.f k (rd_L1 x0 x5) x1).bind fun p => (laws_markByteSS.l0 k (x0.set x5.toNat p.2) p.1 (wrap64 (x5 + 1)))) else (none)) else (some (x1, x0))
def laws_markByteSS.f (k : Nat) (l0 : List (List Int)) (a1 : Int) : Option (Int × (List (List Int))) := laws_markByteSS.l0 k l0 a1 0
def laws_markWrS.l0 : Nat → List (S54) → Int → Int → Option (Int × (List (S54)))
  | 0, _, _, _ => none
  | k + 1, x0, x1, x5 => if x5 < (x0.length : Int) then (if 0 ≤ x5 then ((laws_markByteS.f k ((rd_T54 x0 x5).f1) (wrap64 (x1 + 1))).bind fun p => (laws_markWrS.l0 k ((x0.set x5.toNat ⟨x1, (rd_T54 x0 x5).f1⟩).set x5.toNat ⟨x1, p.2⟩) p.1 (wrap64 (x5 + 1)))) else (none)) else (some (x1, x0))
def laws_markWrS.f (k : Nat) (l0 : List (S54)) (a1 : Int) : Option (Int × (List (S54))) := laws_markWrS.l0 k l0 a1 0
def laws_markDisk.f (k : Nat) (l0_0 : List (List Int)) (l0_1 : List (S54)) (a0_2 : Int) (a0_3 : Bool) (a1 : Int) : Option (Int × (List (List Int)) × (List (S54))) := (laws_markByteSS.f k l0_0 a1).bind fun p => ((laws_markWrS.f k l0_1 p.1).bind fun q => (some (q.1, p.2, q.2)))
theorem laws_markByteSS_l0_len (k : Nat) : ∀ (l : List (List Int)) (a i : Int) (r : Int × List (List Int)), laws_markByteSS.l0 k l a i = some r → r.2.length = l.length := by
  induction k with
  | zero => intro l a i r h; simp [laws_markByteSS.l0] at h
  | succ k ih =>
    intro l a i r h
    simp only [laws_markByteSS.l0] at h
    split at h
    · split at h
      · obtain ⟨p, _, h⟩ := Option.bind_eq_some_iff.1 h
        have := ih _ _ _ _ h
        simpa using this
      · cases h
    · injection h with h
      subst h
      rfl
theorem laws_markWrS_l0_len (k : Nat) : ∀ (l : List (S54)) (a i : Int) (r : Int × List (S54)), laws_markWrS.l0 k l a i = some r → r.2.length = l.length := by
  induction k with
  | zero => intro l a i r h; simp [laws_markWrS.l0] at h
  | succ k ih =>
    intro l a i r h
    simp only [laws_markWrS.l0] at h
    split at h
    · split at h
      · obtain ⟨p, _, h⟩ := Option.bind_eq_some_iff.1 h
        have := ih _ _ _ _ h
        simpa using this
      · cases h
    · injection h with h
      subst h
      rfl
theorem laws_markDisk_len {k : Nat} {l0_0 : List (List Int)} {l0_1 : List (S54)} {a0_2 : Int} {a0_3 : Bool} {a1 : Int} {r : Int × (List (List Int)) × (List (S54))} (h : laws_markDisk.f k l0_0 l0_1 a0_2 a0_3 a1 = some r) : r.2.1.length = l0_0.length ∧ r.2.2.length = l0_1.length := by
  unfold laws_markDisk.f at h
  obtain ⟨p, h1, h⟩ := Option.bind_eq_some_iff.1 h
  obtain ⟨q, h2, h⟩ := Option.bind_eq_some_iff.1 h
  injection h with h
  subst h
  exact ⟨laws_markByteSS_l0_len _ _ _ _ _ h1, laws_markWrS_l0_len _ _ _ _ _ h2⟩
end Go.Proofs.Ytkpcieenikmbmaa.P

/- What the laws of the disk's functions come to. -/
namespace Go.Proofs.Ytkpcieenikmbmaa.P
open Go.RowKit Go.Proofs.YtkpcieenikmbmaaW.PrintWords
set_option linter.unusedVariables false
structure S25 where
  f0 : (List (List Int))
  f1 : (List S77)
  f2 : Int
  f3 : Bool
def k25 : Kd S25 := Kd.iso (Kd.pair (Kd.slice 27 (Kd.slice 5 (Kd.int .u8))) (Kd.pair (Kd.slice 77 k77) (Kd.pair (Kd.int .i64) Kd.bool))) (fun x : S25 => (x.f0, x.f1, x.f2, x.f3))
theorem k25_open {w : World} {x : S25} {cs : List Value} (h : k25.K w x cs) : ∃ A0 c0 A1 c1, cs = [.slice A0 x.f0.length c0, .slice A1 x.f1.length c1, .int .i64 x.f2, .bool x.f3] ∧ x.f0.length ≤ c0 ∧ (Kd.slice 5 (Kd.int .u8)).C w A0 x.f0.length x.f0 ∧ x.f1.length ≤ c1 ∧ k77.C w A1 x.f1.length x.f1 := by
  obtain ⟨_, _, rfl, ⟨A0, c0, rfl, l0, g0⟩, ⟨_, _, rfl, ⟨A1, c1, rfl, l1, g1⟩, ⟨_, _, rfl, rfl, rfl⟩⟩⟩ := h
  exact ⟨A0, c0, A1, c1, rfl, l0, g0, l1, g1⟩
def laws_FnExactReadSec.f (k : Nat) (l0_0 : List (List Int)) (l0_1 : List (S77)) (a0_2 : Int) (a0_3 : Bool) (a1 : Int) : Option (Bool) := (laws_szDisk.f k l0_0 l0_1 a0_2 a0_3 1048576).bind fun t0 => (if t0 < 0 then (some true) else ((laws_toDisk.f k l0_0 l0_1 a0_2 a0_3).bind fun a0 => ((spec_ReadSec.f k a0.1 a0.2.1 a0.2.2.1 a0.2.2.2 a1).bind fun w0 => ((laws_toDiskT.f k l0_0 l0_1 a0_2 a0_3).bind fun x0 => ((impl_ReadSec.f k x0.1 x0.2.1 x0.2.2.1 x0.2.2.2 a1).bind fun g0 => ((laws_eqByteS.f k g0 w0).bind fun b2 => (if b2 = true then ((laws_toDisk.f k l0_0 l0_1 a0_2 a0_3).bind fun y0 => ((laws_eqDisk.f k x0.1 x0.2.1 x0.2.2.1 x0.2.2.2 y0.1 y0.2.1 y0.2.2.1 y0.2.2.2).bind fun e0 => (if e0 = true then ((laws_markDisk.f k x0.1 x0.2.1 x0.2.2.1 x0.2.2.2 1).bind fun m1 => (if m1.1 < 0 then (some false) else ((laws_eqByteS.f k g0 w0).bind fun b1 => (if b1 = true then ((laws_markByteS.f k g0 1).bind fun m2 => ((laws_heldByteS.f k m2.2 1).bind fun q2 => (if q2 < 0 then (some false) else (if q2 = m2.1 then ((laws_toDisk.f k l0_0 l0_1 a0_2 a0_3).bind fun z0 => ((impl_ReadSec.f k z0.1 z0.2.1 z0.2.2.1 z0.2.2.2 a1).bind fun h0 => ((laws_eqByteS.f k h0 w0).bind fun b0 => (if b0 = true then ((laws_heldByteS.f k m2.2 1).bind fun q1 => (if q1 < 0 then (some false) else (if q1 = m2.1 then (some true) else (some false)))) else (some false))))) else (some false))))) else (some false))))) else (some false)))) else (some false))))))))
def laws_FnExactWriteSec.f (k : Nat) (l0_0 : List (List Int)) (l0_1 : List (S77)) (a0_2 : Int) (a0_3 : Bool) (a1 : Int) (l2 : List Int) : Option (Bool) := if (l2.length : Int) > 1048576 then (some true) else ((laws_szDisk.f k l0_0 l0_1 a0_2 a0_3 1048576).bind fun t0 => (if t0 < 0 then (some true) else ((laws_toDisk.f k l0_0 l0_1 a0_2 a0_3).bind fun a0 => ((laws_toByteS.f k l2).bind fun u0 => ((spec_WriteSec.f k a0.1 a0.2.1 a0.2.2.1 a0.2.2.2 a1 u0).bind fun w0 => ((laws_toDiskT.f k l0_0 l0_1 a0_2 a0_3).bind fun x0 => ((laws_toByteS.f k l2).bind fun x2 => ((impl_WriteSec.f k x0.1 x0.2.1 x0.2.2.1 x0.2.2.2 a1 x2).bind fun g0 => ((laws_eqDisk.f k g0.1 g0.2.1 g0.2.2.1 g0.2.2.2 w0.1 w0.2.1 w0.2.2.1 w0.2.2.2).bind fun b2 => (if b2 = true then ((laws_toDisk.f k l0_0 l0_1 a0_2 a0_3).bind fun y0 => ((laws_eqDisk.f k x0.1 x0.2.1 x0.2.2.1 x0.2.2.2 y0.1 y0.2.1 y0.2.2.1 y0.2.2.2).bind fun e0 => (if e0 = true then ((laws_toByteS.f k l2).bind fun v0 => ((laws_eqByteS.f k x2 v0).bind fun c0 => (if c0 = true then ((laws_markDisk.f k x0.1 x0.2.1 x0.2.2.1 x0.2.2.2 1).bind fun m1 => ((laws_markByteS.f k x2 m1.1).bind fun n0 => (if n0.1 < 0 then (some false) else ((laws_eqDisk.f k g0.1 g0.2.1 g0.2.2.1 g0.2.2.2 w0.1 w0.2.1 w0.2.2.1 w0.2.2.2).bind fun b1 => (if b1 = true then ((laws_markDisk.f k g0.1 g0.2.1 g0.2.2.1 g0.2.2.2 1).bind fun m2 => ((laws_heldDisk.f k m2.2.1 m2.2.2 g0.2.2.1 g0.2.2.2 1).bind fun q2 => (if q2 < 0 then (some false) else (if q2 = m2.1 then ((laws_toDisk.f k l0_0 l0_1 a0_2 a0_3).bind fun z0 => ((laws_toByteS.f k l2).bind fun u1 => ((impl_WriteSec.f k z0.1 z0.2.1 z0.2.2.1 z0.2.2.2 a1 u1).bind fun h0 => ((laws_eqDisk.f k h0.1 h0.2.1 h0.2.2.1 h0.2.2.2 w0.1 w0.2.1 w0.2.2.1 w0.2.2.2).bind fun b0 => (if b0 = true then ((laws_heldDisk.f k m2.2.1 m2.2.2 g0.2.2.1 g0.2.2.2 1).bind fun q1 => (if q1 < 0 then (some false) else (if q1 = m2.1 then (some true) else (some false)))) else (some false)))))) else (some false))))) else (some false)))))) else (some false)))) else (some false)))) else (some false)))))))))))
def laws_FnExactSyncDisk.f (k : Nat) (l0_0 : List (List Int)) (l0_1 : List (S77)) (a0_2 : Int) (a0_3 : Bool) : Option (Bool) := (laws_szDisk.f k l0_0 l0_1 a0_2 a0_3 1048576).bind fun t0 => (if t0 < 0 then (some true) else ((laws_toDisk.f k l0_0 l0_1 a0_2 a0_3).bind fun a0 => ((spec_SyncDisk.f k a0.1 a0.2.1 a0.2.2.1 a0.2.2.2).bind fun w0 => ((laws_toDiskT.f k l0_0 l0_1 a0_2 a0_3).bind fun x0 => ((impl_SyncDisk.f k x0.1 x0.2.1 x0.2.2.1 x0.2.2.2).bind fun g0 => ((laws_eqDisk.f k g0.1 g0.2.1 g0.2.2.1 g0.2.2.2 w0.1 w0.2.1 w0.2.2.1 w0.2.2.2).bind fun b2 => (if b2 = true then ((laws_toDisk.f k l0_0 l0_1 a0_2 a0_3).bind fun y0 => ((laws_eqDisk.f k x0.1 x0.2.1 x0.2.2.1 x0.2.2.2 y0.1 y0.2.1 y0.2.2.1 y0.2.2.2).bind fun e0 => (if e0 = true then ((laws_markDisk.f k x0.1 x0.2.1 x0.2.2.1 x0.2.2.2 1).bind fun m1 => (if m1.1 < 0 then (some false) else ((laws_eqDisk.f k g0.1 g0.2.1 g0.2.2.1 g0.2.2.2 w0.1 w0.2.1 w0.2.2.1 w0.2.2.2).bind fun b1 => (if b1 = true then ((laws_markDisk.f k g0.1 g0.2.1 g0.2.2.1 g0.2.2.2 1).bind fun m2 => ((laws_heldDisk.f k m2.2.1 m2.2.2 g0.2.2.1 g0.2.2.2 1).bind fun q2 => (if q2 < 0 then (some false) else (if q2 = m2.1 then ((laws_toDisk.f k l0_0 l0_1 a0_2 a0_3).bind fun z0 => ((impl_SyncDisk.f k z0.1 z0.2.1 z0.2.2.1 z0.2.2.2).bind fun h0 => ((laws_eqDisk.f k h0.1 h0.2.1 h0.2.2.1 h0.2.2.2 w0.1 w0.2.1 w0.2.2.1 w0.2.2.2).bind fun b0 => (if b0 = true then ((laws_heldDisk.f k m2.2.1 m2.2.2 g0.2.2.1 g0.2.2.2 1).bind fun q1 => (if q1 < 0 then (some false) else (if q1 = m2.1 then (some true) else (some false)))) else (some false))))) else (some false))))) else (some false))))) else (some false)))) else (some false))))))))
def laws_FnExactFallDisk.f (k : Nat) (l0_0 : List (List Int)) (l0_1 : List (S77)) (a0_2 : Int) (a0_3 : Bool) (a1 : Int) : Option (Bool) := (laws_szDisk.f k l0_0 l0_1 a0_2 a0_3 1048576).bind fun t0 => (if t0 < 0 then (some true) else ((laws_toDisk.f k l0_0 l0_1 a0_2 a0_3).bind fun a0 => ((spec_FallDisk.f k a0.1 a0.2.1 a0.2.2.1 a0.2.2.2 a1).bind fun w0 => ((laws_toDiskT.f k l0_0 l0_1 a0_2 a0_3).bind fun x0 => ((impl_FallDisk.f k x0.1 x0.2.1 x0.2.2.1 x0.2.2.2 a1).bind fun g0 => ((laws_eqDisk.f k g0.1 g0.2.1 g0.2.2.1 g0.2.2.2 w0.1 w0.2.1 w0.2.2.1 w0.2.2.2).bind fun b2 => (if b2 = true then ((laws_toDisk.f k l0_0 l0_1 a0_2 a0_3).bind fun y0 => ((laws_eqDisk.f k x0.1 x0.2.1 x0.2.2.1 x0.2.2.2 y0.1 y0.2.1 y0.2.2.1 y0.2.2.2).bind fun e0 => (if e0 = true then ((laws_markDisk.f k x0.1 x0.2.1 x0.2.2.1 x0.2.2.2 1).bind fun m1 => (if m1.1 < 0 then (some false) else ((laws_eqDisk.f k g0.1 g0.2.1 g0.2.2.1 g0.2.2.2 w0.1 w0.2.1 w0.2.2.1 w0.2.2.2).bind fun b1 => (if b1 = true then ((laws_markDisk.f k g0.1 g0.2.1 g0.2.2.1 g0.2.2.2 1).bind fun m2 => ((laws_heldDisk.f k m2.2.1 m2.2.2 g0.2.2.1 g0.2.2.2 1).bind fun q2 => (if q2 < 0 then (some false) else (if q2 = m2.1 then ((laws_toDisk.f k l0_0 l0_1 a0_2 a0_3).bind fun z0 => ((impl_FallDisk.f k z0.1 z0.2.1 z0.2.2.1 z0.2.2.2 a1).bind fun h0 => ((laws_eqDisk.f k h0.1 h0.2.1 h0.2.2.1 h0.2.2.2 w0.1 w0.2.1 w0.2.2.1 w0.2.2.2).bind fun b0 => (if b0 = true then ((laws_heldDisk.f k m2.2.1 m2.2.2 g0.2.2.1 g0.2.2.2 1).bind fun q1 => (if q1 < 0 then (some false) else (if q1 = m2.1 then (some true) else (some false)))) else (some false))))) else (some false))))) else (some false))))) else (some false)))) else (some false))))))))
def laws_FnExactFormat.f (k : Nat) : Option (Bool) := (spec_Format.f k ).bind fun w0 => ((impl_Format.f k ).bind fun g0 => ((laws_eqDisk.f k g0.1 g0.2.1 g0.2.2.1 g0.2.2.2 w0.1 w0.2.1 w0.2.2.1 w0.2.2.2).bind fun b1 => (if b1 = true then ((laws_markDisk.f k g0.1 g0.2.1 g0.2.2.1 g0.2.2.2 1).bind fun m2 => ((laws_heldDisk.f k m2.2.1 m2.2.2 g0.2.2.1 g0.2.2.2 1).bind fun q2 => (if q2 < 0 then (some false) else (if q2 = m2.1 then ((impl_Format.f k ).bind fun h0 => ((laws_eqDisk.f k h0.1 h0.2.1 h0.2.2.1 h0.2.2.2 w0.1 w0.2.1 w0.2.2.1 w0.2.2.2).bind fun b0 => (if b0 = true then ((laws_heldDisk.f k m2.2.1 m2.2.2 g0.2.2.1 g0.2.2.2 1).bind fun q1 => (if q1 < 0 then (some false) else (if q1 = m2.1 then (some true) else (some false)))) else (some false)))) else (some false))))) else (some false))))
def laws_FnExactReadSec.Pure : Prop := ∀ (l0_0 : List (List Int)) (l0_1 : List (S77)) (a0_2 : Int) (a0_3 : Bool) (a1 : Int), (l0_0.length ≤ maxLen ∧ ∀ x0_ ∈ l0_0, (x0_.length ≤ maxLen ∧ ∀ x1_ ∈ x0_, (Lit.int .u8 x1_).wf = true)) → (l0_1.length ≤ maxLen ∧ ∀ x0_ ∈ l0_1, ((Lit.int .i64 x0_.f0).wf = true ∧ (x0_.f1.length ≤ maxLen ∧ ∀ x1_ ∈ x0_.f1, (Lit.int .u8 x1_).wf = true))) → (Lit.int .i64 a0_2).wf = true → (Lit.int .i64 a1).wf = true → ∃ k, laws_FnExactReadSec.f k l0_0 l0_1 a0_2 a0_3 a1 = some true
def laws_FnExactWriteSec.Pure : Prop := ∀ (l0_0 : List (List Int)) (l0_1 : List (S77)) (a0_2 : Int) (a0_3 : Bool) (a1 : Int) (l2 : List Int), (l0_0.length ≤ maxLen ∧ ∀ x0_ ∈ l0_0, (x0_.length ≤ maxLen ∧ ∀ x1_ ∈ x0_, (Lit.int .u8 x1_).wf = true)) → (l0_1.length ≤ maxLen ∧ ∀ x0_ ∈ l0_1, ((Lit.int .i64 x0_.f0).wf = true ∧ (x0_.f1.length ≤ maxLen ∧ ∀ x1_ ∈ x0_.f1, (Lit.int .u8 x1_).wf = true))) → (Lit.int .i64 a0_2).wf = true → (Lit.int .i64 a1).wf = true → (l2.length ≤ maxLen ∧ ∀ x0_ ∈ l2, (Lit.int .u8 x0_).wf = true) → ∃ k, laws_FnExactWriteSec.f k l0_0 l0_1 a0_2 a0_3 a1 l2 = some true
def laws_FnExactSyncDisk.Pure : Prop := ∀ (l0_0 : List (List Int)) (l0_1 : List (S77)) (a0_2 : Int) (a0_3 : Bool), (l0_0.length ≤ maxLen ∧ ∀ x0_ ∈ l0_0, (x0_.length ≤ maxLen ∧ ∀ x1_ ∈ x0_, (Lit.int .u8 x1_).wf = true)) → (l0_1.length ≤ maxLen ∧ ∀ x0_ ∈ l0_1, ((Lit.int .i64 x0_.f0).wf = true ∧ (x0_.f1.length ≤ maxLen ∧ ∀ x1_ ∈ x0_.f1, (Lit.int .u8 x1_).wf = true))) → (Lit.int .i64 a0_2).wf = true → ∃ k, laws_FnExactSyncDisk.f k l0_0 l0_1 a0_2 a0_3 = some true
def laws_FnExactFallDisk.Pure : Prop := ∀ (l0_0 : List (List Int)) (l0_1 : List (S77)) (a0_2 : Int) (a0_3 : Bool) (a1 : Int), (l0_0.length ≤ maxLen ∧ ∀ x0_ ∈ l0_0, (x0_.length ≤ maxLen ∧ ∀ x1_ ∈ x0_, (Lit.int .u8 x1_).wf = true)) → (l0_1.length ≤ maxLen ∧ ∀ x0_ ∈ l0_1, ((Lit.int .i64 x0_.f0).wf = true ∧ (x0_.f1.length ≤ maxLen ∧ ∀ x1_ ∈ x0_.f1, (Lit.int .u8 x1_).wf = true))) → (Lit.int .i64 a0_2).wf = true → (Lit.int .i64 a1).wf = true → ∃ k, laws_FnExactFallDisk.f k l0_0 l0_1 a0_2 a0_3 a1 = some true
def laws_FnExactFormat.Pure : Prop := ∃ k, laws_FnExactFormat.f k  = some true
end Go.Proofs.Ytkpcieenikmbmaa.P
