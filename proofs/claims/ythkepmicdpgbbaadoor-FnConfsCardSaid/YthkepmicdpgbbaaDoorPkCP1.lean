/- Texts of this seat's claims, put together: Card, EvY0, Base, Crc, Bytes, Lists, Conf, Frame, Dbs, NumText, ConfText, Split, Num, Numbers, Parse, ParseConf, ParseImpl, Draw, DrawFrames, DrawConf, Same -/
import Derived.Test.YthkepmicdpgbbaaDoorRows
import Derived.ChangeVars
import Derived.JoinedOf
import Derived.SizedLaws
import Derived.HandedShaped
import Derived.LaidLaws
import Derived.LaidHandle
import Derived.LaidSub
import Derived.MakeChecks
import Derived.Lay
import Derived.Lib.LaidTab
import Derived.WideShapes
import Derived.Laws.BitsLemmas
import Derived.Lib.ItoaLen
import Derived.Lib.Join
import Derived.Lib.SplitLaws
import Derived.Lib.IndexLaws
import Derived.Test.YthkepmicdpgbbaaDoorPkCB4
/- A row whose card lists tables: what the listed tables, and the shape of the world, tell of the world in which the row's call begins. -/
namespace Go.Proofs.YthkepmicdpgbbaaDoor.Card
open Go
set_option linter.unusedVariables false
section
variable {H : Type} {enc : TypeId × Value → H}
/-- The row's builder, with both: a condition on the world, and the world's shape. -/
theorem returns_both {a : Assume} {C : Checked} {os : Os} {f : FuncId} {fn : Func} {s : ChangeSpec} {conds : List PathCond} {apart fresh handsOn again : Bool} {X : World → Array Value → Prop}
    (hX : ∀ (w w' : World) (args : Array Value), w.heap = w'.heap → X w args → X w' args)
    (own : ownKnob C.prog.godebug = none) (started : os.Started) (noInit : C.prog.inits.idxOf? f = none) (hfn : C.prog.funcs[f]? = some fn)
    (witness : ∃ (w : World) (tape : Tape) (i : Input), w.os = os ∧ (w.forCall tape i).Shaped C.prog ∧ i.vars = [] ∧ Input.okWide C.prog (w.forCall tape i) .any w.heap.size f i ∧
      ((s.pre enc C.prog fn conds apart (w.forCall tape i).memory i.args ∧ X (w.forCall tape i).memory i.args) ∧ sizedMet enc C.prog fn (OpenSpec.ofChange s) apart (w.forCall tape i).memory i.args) ∧ a.holds C.prog (lone (Frame.enter C.prog f i.args .normal) [] (w.forCall tape i)))
    (contract : ∀ (W : World) (base : Nat) (args : Array Value) (ds gs : List (DataW H)) (before : List MemPlace),
      (∀ (j : Nat) t v, fn.params[j]? = some t → args[j]? = some v → Value.okWide C.prog W .any base t v) →
      DataW.Whole enc C.prog fn.params.toList s.vars apart W args.toList ds gs before →
      conds.all (PathCond.test C.prog ⟨fn.params.toList, ds, s.plain.varTypes C.prog, gs⟩) = true →
      (DataW.weightsEach C.prog (fn.params.toList ++ s.plain.varTypes C.prog) (ds ++ gs)).all (· ≤ reachBytes) = true → X W args → W.ShapedOpen C.prog →
      a.holds C.prog (lone (Frame.enter C.prog f args .normal) [] W) →
      Calls C.prog f args W fun e W' => ∃ v, e = .returned v ∧ s.post enc C.prog fn apart fresh handsOn again W args v W') :
    ReturnsInHanded a C os f .any (fun w args => (s.pre enc C.prog fn conds apart w args ∧ X w args) ∧ sizedMet enc C.prog fn (OpenSpec.ofChange s) apart w args) (s.post enc C.prog fn apart fresh handsOn again) := by
  refine returnsInHanded_of_calls own started noInit witness ?_
  intro w tape i _ hsh _ hok hpre hholds
  obtain ⟨_, _, _, fn', hfn', _, _, _, _, hval⟩ := hok
  have e : fn' = fn := Option.some.inj (hfn'.symm.trans hfn)
  subst e
  obtain ⟨⟨⟨ds, gs, before, hw, hc⟩, hx⟩, hz⟩ := hpre
  have hw' := DataW.Whole.of_heap (w' := w.forCall tape i) (by rfl) hw
  refine (contract (w.forCall tape i) w.heap.size i.args ds gs before hval hw' hc (hz.weights hw) (hX _ _ _ (by rfl) hx) hsh hholds).mono fun e W' ⟨v, he, hp⟩ => ?_
  subst he
  exact ChangeSpec.post_blind hp
end
theorem tabType : (Tryd.prog.globalNamed "internal/strconv.uint64pow10").bind (fun g => (Tryd.prog.globals[g]?).map (·.type)) = some 147 := by kernel_rfl
theorem tab_of_laid {l : List (String × DataW Unit)} {W : World} (h : laidMetH Tryd.prog l W) (hp : (l.all fun x => x.2.handleName?.isNone) = true)
    (hf : (l.filter fun x => x.1 == "internal/strconv.uint64pow10") = [("internal/strconv.uint64pow10", Lib.tabData .u64 Lib.pow10Tab)]) : Lib.TabIs Tryd.prog W "internal/strconv.uint64pow10" .u64 Lib.pow10Tab := by
  rw [MakeChecks.laidMetH_plain _ _ _ hp] at h
  have h2 := laidMet.filter (fun x => x.1 == "internal/strconv.uint64pow10") h
  rw [hf] at h2
  have hT := tabType
  cases hg : Tryd.prog.globalNamed "internal/strconv.uint64pow10" with
  | none => rw [hg] at hT; cases hT
  | some g =>
    rw [hg] at hT
    exact Lib.tabIs_of_head hg hT Tryd.underlying147 Tryd.underlying137 (by kernel_rfl) (by kernel_rfl) h2
theorem gw {l : List (String × DataW Unit)} {W : World} (h : laidMetH Tryd.prog l W) (hp : (l.all fun x => x.2.handleName?.isNone) = true)
    (hf : (l.filter fun x => x.1 == "internal/strconv.uint64pow10") = [("internal/strconv.uint64pow10", Lib.tabData .u64 Lib.pow10Tab)]) (hs : W.ShapedOpen Tryd.prog) : P.GW W :=
  ⟨tab_of_laid h hp hf, by
    obtain ⟨m, hm⟩ := Tryd.laysM145.s1_3 W hs
    exact ⟨m, 0, by kernel_rfl, hm, World.block_lt_of_cell? _ _ hm⟩⟩
end Go.Proofs.YthkepmicdpgbbaaDoor.Card

/- From what a law is handed, in the elder words, to what is told of its code. -/
namespace Go.Proofs.YthkepmicdpgbbaaDoor.E
open Go Go.RowKit Go.Proofs.YthkepmicdpgbbaaDoorW.PrintWords
set_option linter.unusedVariables false
set_option linter.unusedSimpArgs false

def G0 (w : World) : Gh := ⟨w.heap.size, fun _ => True, fun _ => none, fun _ => none⟩
theorem G0_imm {w : World} (b : Nat) (hb : b < w.heap.size) : (G0 w).imm b := .inl ⟨hb, rfl, trivial⟩
theorem calls_of_spec {P : Program} {f : FuncId} {args : List PV} {r : Bool} (S : Spec P f args [] (.v (.b r)) []) {w : World} {vals : Array Value} (hgw : Go.Proofs.YthkepmicdpgbbaaDoor.P.GW w) (ha : RepsL (G0 w) w args vals.toList) :
    Calls P f vals w fun e w' => e = .returned (.bool r) ∧ Below w.heap.size w w' := by
  have hi : Inv (G0 w) w := ⟨Nat.le_refl _, fun b id e => (by cases e), ⟨w, hgw, Below.refl _ _, fun _ _ => rfl⟩⟩
  refine (S.2 (G0 w) w vals hi ha (fun id => ?_)).mono fun e w' hq => ?_
  · simp only [nthB, RelB]
    exact ⟨rfl, fun b e => by cases e⟩
  · obtain ⟨v, G', ids, rfl, X, hv, _⟩ := hq
    simp only [Reps, RepC] at hv
    subst hv
    exact ⟨rfl, X.os, X.tape, X.output, X.size, fun k hk => (X.nn k hk rfl).2⟩
theorem repC_of {α : Type} {d : Kd α} {f : α → List CV} {w : World} {I : Nat → Prop} (hI : ∀ b, b < w.heap.size → I b) (hs : ∀ x, (f x).length = d.sz) (h0 : 0 < d.sz) (hk : ∀ x cs, d.K w x cs → RepP I w (f x) cs) {A : Option Addr} {l : List α} {c : Nat}
    (h : d.C w A l.length l) (hc : l.length ≤ c) : RepC I w (.row (l.map f)) (.slice A l.length c) := by
  obtain ⟨_, hlen, hcell⟩ := h
  have hm : maxLen = 9223372036854775807 := by decide
  simp only [RepC, List.length_map]
  refine ⟨A, c, rfl, hc, by omega, ?_⟩
  by_cases hl : l = []
  · exact .inl (by rw [hl]; rfl)
  refine .inr ?_
  have hpos := List.length_pos_iff.2 hl
  obtain ⟨ad, rfl, hc'⟩ := hcell hpos
  have hfirst : ∃ cs ty fr, w.heap[ad.block]? = some (.cells cs ty fr) ∧ ad.spot = none := by
    obtain ⟨cs, q1, q2, q3⟩ := hc' 0 _ (List.getElem?_eq_getElem hpos)
    have h1 : 0 < cs.length := by omega
    have h2 := q3 0 _ (List.getElem?_eq_getElem h1)
    rw [Nat.zero_mul] at h2
    have h3 : ad.add (0 + 0) = ad := by simp [Addr.add]
    rw [h3] at h2
    unfold World.cell? at h2
    split at h2
    · rename_i cs ty fr hh
      refine ⟨cs, ty, fr, hh, ?_⟩
      split at h2
      · cases h2
      · rename_i hsp
        cases hq : ad.spot with
        | none => rfl
        | some _ => rw [hq] at hsp; exact absurd rfl hsp
    · cases h2
  obtain ⟨cs, ty, fr, hh, hsp⟩ := hfirst
  obtain ⟨b, o, sp⟩ := ad
  obtain rfl : sp = none := hsp
  have hh : w.heap[b]? = some (.cells cs ty fr) := hh
  refine ⟨b, o, d.sz, cs, ty, fr, rfl, hI b (Array.getElem?_eq_some_iff.1 hh).1, hh, h0, RepE.mk fun e el he => ?_⟩
  rw [List.getElem?_map] at he
  obtain ⟨p, hp, rfl⟩ := Option.map_eq_some_iff.1 he
  refine ⟨hs p, ?_⟩
  obtain ⟨c0, q1, q2, q3⟩ := hc' e p hp
  have e1 : ((cs.toList.drop o).drop (e * d.sz)).take d.sz = c0 := by
    apply List.ext_getElem?
    intro i
    rw [List.getElem?_take]
    split
    · rename_i hi
      have h2 := q3 i _ (List.getElem?_eq_getElem (by omega))
      rw [Addr.add_lit] at h2
      have h3 : cs[o + (e * d.sz + i)]? = some c0[i] := by simpa [World.cell?, hh] using h2
      rw [List.getElem?_eq_getElem (show i < c0.length by omega), ← h3, List.getElem?_drop, List.getElem?_drop]
      simp [Nat.add_assoc]
    · rw [List.getElem?_eq_none (by omega)]
  exact RepP.of_take d.sz (by rw [e1]; exact hk p c0 q2)
section
variable {w : World} {I : Nat → Prop}
theorem hk_int {k : IntKind} (x : Int) (cs : List Value) (h : (Kd.int k).K w x cs) : RepP I w [.i k x] cs := by
  obtain rfl : cs = [Value.int k x] := h
  simp only [RepP, RepC]
  exact ⟨_, _, rfl, rfl, trivial⟩
end
end Go.Proofs.YthkepmicdpgbbaaDoor.E

/- Plain words that all further texts of this seat use: rounds of printed functions ('Ev'), whole numbers without wrap, bytes. No program is in sight here. -/
namespace Go.Proofs.YthkepmicdpgbbaaDoor.Base
set_option linter.unusedVariables false
set_option linter.unusedSimpArgs false
open Go.RowKit Go.Proofs.YthkepmicdpgbbaaDoorW.PrintWords

/-! ### rounds -/
section
variable {α β : Type} {c : Prop} [Decidable c] {f g : Nat → Option α} {r : α}
theorem Ev.pos (h : c) (k : Ev f r) : Ev (fun n => if c then f n else g n) r := by
  obtain ⟨K, hK⟩ := k
  exact ⟨K, fun n hn => (if_pos h).trans (hK n hn)⟩
theorem Ev.neg (h : ¬ c) (k : Ev g r) : Ev (fun n => if c then f n else g n) r := by
  obtain ⟨K, hK⟩ := k
  exact ⟨K, fun n hn => (if_neg h).trans (hK n hn)⟩
theorem Ev.const {x : Option α} (h : x = some r) : Ev (fun _ => x) r := ⟨0, fun _ _ => h⟩
theorem Ev.done {a : α} (h : a = r) : Ev (fun _ => some a) r := ⟨0, fun _ _ => by rw [h]⟩
theorem Ev.then {x : Option β} {a : β} {h : Nat → β → Option α} (e : x = some a) (k : Ev (fun n => h n a) r) : Ev (fun n => x.bind (h n)) r := by
  subst e
  exact k
theorem Ev.uniq {a b : α} (h : Ev f a) (k : Ev f b) : a = b := by
  obtain ⟨K, hK⟩ := h
  obtain ⟨J, hJ⟩ := k
  have e := (hK (max K J) (Nat.le_max_left _ _)).symm.trans (hJ (max K J) (Nat.le_max_right _ _))
  exact Option.some.inj e
theorem Ev.all {k : Nat} (h : Ev f r) : ∃ n, k ≤ n ∧ f n = some r := by
  obtain ⟨K, hK⟩ := h
  exact ⟨max K k, Nat.le_max_right _ _, hK _ (Nat.le_max_left _ _)⟩
theorem Ev.eq {r' : α} (h : Ev f r) (e : r = r') : Ev f r' := e ▸ h
end

/-! ### whole numbers -/
theorem w64 {n : Int} (h : -9223372036854775808 ≤ n) (h' : n ≤ 9223372036854775807) : wrap64 n = n := by unfold wrap64; omega

/-! ### bytes -/
def Bytes (l : List Int) : Prop := ∀ x ∈ l, 0 ≤ x ∧ x ≤ 255
theorem Bytes.nil : Bytes [] := fun _ h => by cases h
theorem Bytes.append {l m : List Int} (h : Bytes l) (k : Bytes m) : Bytes (l ++ m) := fun x hx => (List.mem_append.1 hx).elim (h x) (k x)
theorem Bytes.cons {a : Int} {l : List Int} (ha : 0 ≤ a ∧ a ≤ 255) (h : Bytes l) : Bytes (a :: l) := fun x hx => (List.mem_cons.1 hx).elim (fun e => e ▸ ha) (h x)
theorem Bytes.take {l : List Int} (h : Bytes l) (n : Nat) : Bytes (l.take n) := fun x hx => h x (List.mem_of_mem_take hx)
theorem Bytes.drop {l : List Int} (h : Bytes l) (n : Nat) : Bytes (l.drop n) := fun x hx => h x (List.mem_of_mem_drop hx)
theorem rd_byte {l : List Int} (h : Bytes l) (i : Int) : 0 ≤ rd l i ∧ rd l i ≤ 255 := by
  unfold rd
  rw [List.getD_eq_getElem?_getD]
  by_cases hi : i.toNat < l.length
  · rw [List.getElem?_eq_getElem hi]
    exact h _ (List.getElem_mem hi)
  · rw [List.getElem?_eq_none (by omega)]
    exact ⟨by decide, by decide⟩
theorem bt_byte (s : ByteArray) (i : Int) : 0 ≤ bt s i ∧ bt s i ≤ 255 := by
  unfold bt
  split
  · rename_i h
    have := (s[i.toNat]'h).toNat_lt
    omega
  · exact ⟨by decide, by decide⟩

/-! ### equality, and lists by their elements -/
noncomputable def eqB {α : Type} (x y : α) : Bool := @decide (x = y) (Classical.propDecidable _)
theorem eqB_iff {α : Type} {x y : α} : eqB x y = true ↔ x = y := by unfold eqB; simp
theorem eqB_same {α : Type} (x : α) : eqB x x = true := eqB_iff.2 rfl
theorem eqB_not {α : Type} {x y : α} (h : x ≠ y) : eqB x y = false := by rw [← Bool.not_eq_true, eqB_iff]; exact h
theorem text_inj {s t : ByteArray} (h : s.toList = t.toList) : s = t := by
  rw [ByteArray.toList_eq, ByteArray.toList_eq] at h
  exact WideShapes.bytes_inj h
theorem text_nil {s : ByteArray} : s.toList = [] ↔ s = ⟨#[]⟩ := ⟨fun h => text_inj (h.trans (by rw [ByteArray.toList_eq])), fun h => by rw [h, ByteArray.toList_eq]⟩
theorem cast_succ (i : Nat) : ((i : Int) + 1) = ((i + 1 : Nat) : Int) := rfl
theorem getD_nat {α : Type} (l : List α) (d : α) {i : Nat} (h : i < l.length) : l.getD ((i : Int)).toNat d = l[i] := by
  rw [Int.toNat_natCast, List.getD_eq_getElem?_getD, List.getElem?_eq_getElem h]; rfl
theorem size_append (s t : ByteArray) : (s ++ t).size = s.size + t.size := by simp
theorem size_strOfNums (l : List Int) : (strOfNums l).size = l.length := by
  unfold strOfNums
  rw [ByteArray.size]
  simp
theorem bytesOf_bytes (s : ByteArray) : Bytes (bytesOf s) := by
  intro x hx
  unfold bytesOf at hx
  obtain ⟨b, _, rfl⟩ := List.mem_map.1 hx
  have := b.toNat_lt
  omega
end Go.Proofs.YthkepmicdpgbbaaDoor.Base

/- The checksum as a function on natural numbers, and that a changed byte changes it. Plain arithmetic: no program is in sight here. -/
namespace Go.Proofs.YthkepmicdpgbbaaDoor.Crc
set_option linter.unusedVariables false
set_option linter.unusedSimpArgs false

def bit (s : Nat) : Nat := if 2 * s > 65535 then (2 * s) ^^^ 69665 else 2 * s
def bits (s : Nat) : Nat → Nat
  | 0 => s
  | k + 1 => bits (bit s) k
@[irreducible] def byte (s x : Nat) : Nat := bits (s ^^^ (256 * x)) 8

end Go.Proofs.YthkepmicdpgbbaaDoor.Crc

/- What the printed functions on bytes, words and texts come to: the laws' own copies, marks and comparisons, and the functions of the first chapter. No memory is in sight here. -/
namespace Go.Proofs.YthkepmicdpgbbaaDoor.Fn
set_option linter.unusedVariables false
set_option linter.unusedSimpArgs false
open Go.RowKit Go.Proofs.YthkepmicdpgbbaaDoorW.PrintWords Go.Proofs.YthkepmicdpgbbaaDoor.P Go.Proofs.YthkepmicdpgbbaaDoor.Base

/-! ### copies -/

/-! ### comparisons -/

/-! ### marks -/

/-! ### ranges and words -/
theorem isIn (a b c : Int) : impl_isIn.f a b c = some (decide (b ≤ a ∧ a ≤ c)) := by
  unfold impl_isIn.f
  by_cases h : b ≤ a
  · rw [if_pos h]; simp [h]
  · rw [if_neg h]; simp [h]
theorem l1In (a b c : Int) : spec_l1In.f a b c = some (decide (b ≤ a ∧ a ≤ c)) := by
  unfold spec_l1In.f
  by_cases h : a ≥ b
  · rw [if_pos h]; simp; omega
  · rw [if_neg h]; simp; omega
theorem wraps_i64 : ∀ n : Int, 0 ≤ n → n < 2 ^ 63 → IntKind.i64.wrap n = n := fun n h h' => by
  rw [IntKind.wrap_i64]; omega
end Go.Proofs.YthkepmicdpgbbaaDoor.Fn

/- Plain words on lists by their elements. No program is in sight here. -/
namespace Go.Proofs.YthkepmicdpgbbaaDoor.Fn
set_option linter.unusedVariables false
set_option linter.unusedSimpArgs false
open Go.RowKit Go.Proofs.YthkepmicdpgbbaaDoorW.PrintWords Go.Proofs.YthkepmicdpgbbaaDoor.Base

theorem drop_get {α : Type} (l : List α) (d : α) {i : Nat} (h : i < l.length) : l.drop i = l.getD ((i : Int)).toNat d :: l.drop (i + 1) := by
  rw [getD_nat l d h]; exact List.drop_eq_getElem_cons h
theorem eqB_cons {α : Type} (x y : α) (l m : List α) : eqB (x :: l) (y :: m) = (eqB x y && eqB l m) := by
  rw [Bool.eq_iff_iff, Bool.and_eq_true, eqB_iff, eqB_iff, eqB_iff, List.cons.injEq]
end Go.Proofs.YthkepmicdpgbbaaDoor.Fn

/- What the printed functions that copy, size and compare databases come to. No memory is in sight here. -/
namespace Go.Proofs.YthkepmicdpgbbaaDoor.Fn
set_option linter.unusedVariables false
set_option linter.unusedSimpArgs false
open Go.RowKit Go.Proofs.YthkepmicdpgbbaaDoorW.PrintWords Go.Proofs.YthkepmicdpgbbaaDoor.P Go.Proofs.YthkepmicdpgbbaaDoor.Base

abbrev Db := S55
theorem db_eq {x y : Db} (h0 : x.f0 = y.f0) (h1 : x.f1 = y.f1) (h2 : x.f2 = y.f2) (h3 : x.f3 = y.f3) (h4 : x.f4 = y.f4) : x = y := by
  cases x; cases y; simp_all
/-! ### sizes: 'left' only falls, and is not below 0 where it counts -/
end Go.Proofs.YthkepmicdpgbbaaDoor.Fn

/- What the printed functions on frames come to. No memory is in sight here. -/
namespace Go.Proofs.YthkepmicdpgbbaaDoor.Fn
set_option linter.unusedVariables false
set_option linter.unusedSimpArgs false
open Go.RowKit Go.Proofs.YthkepmicdpgbbaaDoorW.PrintWords Go.Proofs.YthkepmicdpgbbaaDoor.P Go.Proofs.YthkepmicdpgbbaaDoor.Base

/-! ### names -/
def nameOk (s : ByteArray) : Bool := decide (1 ≤ s.size ∧ s.size ≤ 8) && decide (∀ i : Nat, i < s.size → 97 ≤ bt s (i : Int) ∧ bt s (i : Int) ≤ 122)
theorem nameOk_iff (s : ByteArray) : nameOk s = true ↔ (1 ≤ s.size ∧ s.size ≤ 8) ∧ ∀ i : Nat, i < s.size → 97 ≤ bt s (i : Int) ∧ bt s (i : Int) ≤ 122 := by simp [nameOk]
theorem nameOk_false {s : ByteArray} {i : Nat} (hi : i < s.size) (h : bt s (i : Int) < 97 ∨ 122 < bt s (i : Int)) : nameOk s = false := by
  rw [← Bool.not_eq_true, nameOk_iff]
  rintro ⟨_, a⟩
  have := a i hi
  omega
theorem nameOk_all {s : ByteArray} (hp : ∀ j : Nat, j < s.size → 97 ≤ bt s (j : Int) ∧ bt s (j : Int) ≤ 122) : decide ((1 : Int) ≤ (s.size : Int) ∧ (s.size : Int) ≤ 8) = nameOk s := by
  rw [Bool.eq_iff_iff, nameOk_iff, decide_eq_true_eq]
  exact ⟨fun h => ⟨by omega, hp⟩, fun h => by omega⟩
theorem impl_nameOk_l0 (s : ByteArray) (hs : s.size ≤ 9223372036854775807) (d : Nat) : ∀ (i : Nat), i + d = s.size → (∀ j : Nat, j < i → 97 ≤ bt s (j : Int) ∧ bt s (j : Int) ≤ 122) → Ev (fun k => impl_nameOk.l0 k s (s.size : Int) (i : Int)) (nameOk s) := by
  induction d with
  | zero =>
    intro i hi hp
    obtain rfl : i = s.size := by omega
    exact Ev.step (fun k => impl_nameOk.l0.eq_2 _ _ _ k) (Ev.neg (by omega) (Ev.then (isIn _ _ _) (Ev.done (nameOk_all hp))))
  | succ d ih =>
    intro i hi hp
    refine Ev.step (fun k => impl_nameOk.l0.eq_2 _ _ _ k) (Ev.pos (by omega) (Ev.pos (by omega) (Ev.pos (by omega) ?_)))
    by_cases h1 : bt s (i : Int) < 97
    · exact Ev.pos h1 (Ev.done (nameOk_false (by omega) (.inl h1)).symm)
    · refine Ev.neg h1 ?_
      by_cases h2 : bt s (i : Int) > 122
      · exact Ev.pos h2 (Ev.done (nameOk_false (by omega) (.inr h2)).symm)
      · refine Ev.neg h2 ?_
        rw [w64 (by omega) (by omega), cast_succ]
        refine ih (i + 1) (by omega) (fun j hj => ?_)
        rcases Nat.lt_or_ge j i with hj' | hj'
        · exact hp j hj'
        · obtain rfl : j = i := by omega
          omega
theorem impl_nameOk (s : ByteArray) (hs : s.size ≤ 9223372036854775807) : Ev (fun k => impl_nameOk.f k s) (nameOk s) := by
  unfold impl_nameOk.f
  exact impl_nameOk_l0 s hs s.size 0 (by omega) (fun j hj => by omega)
theorem spec_l1Name_l0 (s : ByteArray) (hs : s.size ≤ 9223372036854775807) (d : Nat) : ∀ (i : Nat), i + d = s.size → (∀ j : Nat, j < i → 97 ≤ bt s (j : Int) ∧ bt s (j : Int) ≤ 122) → Ev (fun k => spec_l1Name.l0 k s (i : Int)) (nameOk s) := by
  induction d with
  | zero =>
    intro i hi hp
    obtain rfl : i = s.size := by omega
    exact Ev.step (fun k => spec_l1Name.l0.eq_2 _ _ k) (Ev.neg (by omega) (Ev.then (l1In _ _ _) (Ev.done (nameOk_all hp))))
  | succ d ih =>
    intro i hi hp
    refine Ev.step (fun k => spec_l1Name.l0.eq_2 _ _ k) (Ev.pos (by omega) (Ev.pos (by omega) ?_))
    by_cases h1 : bt s (i : Int) < 97
    · exact Ev.pos h1 (Ev.done (nameOk_false (by omega) (.inl h1)).symm)
    · refine Ev.neg h1 ?_
      by_cases h2 : bt s (i : Int) > 122
      · exact Ev.pos h2 (Ev.done (nameOk_false (by omega) (.inr h2)).symm)
      · refine Ev.neg h2 ?_
        rw [w64 (by omega) (by omega), cast_succ]
        refine ih (i + 1) (by omega) (fun j hj => ?_)
        rcases Nat.lt_or_ge j i with hj' | hj'
        · exact hp j hj'
        · obtain rfl : j = i := by omega
          omega
theorem l1Name (s : ByteArray) (hs : s.size ≤ 9223372036854775807) : Ev (fun k => spec_l1Name.f k s) (nameOk s) := by
  unfold spec_l1Name.f
  exact spec_l1Name_l0 s hs s.size 0 (by omega) (fun j hj => by omega)

/-! ### frames -/
end Go.Proofs.YthkepmicdpgbbaaDoor.Fn

/- What the printed functions that look for a database by its name, and that check a configuration, come to. -/
namespace Go.Proofs.YthkepmicdpgbbaaDoor.Fn
set_option linter.unusedVariables false
set_option linter.unusedSimpArgs false
open Go.RowKit Go.Proofs.YthkepmicdpgbbaaDoorW.PrintWords Go.Proofs.YthkepmicdpgbbaaDoor.P Go.Proofs.YthkepmicdpgbbaaDoor.Base

/-! ### a database by its name -/
def dbAt (l : List Db) (name : ByteArray) : Option Db := l.find? (fun x => x.f0.toList == name.toList)
def dbAns : Option Db → ByteArray × Int × Int × Int × Int × Bool
  | none => ((⟨#[]⟩ : ByteArray), 0, 0, 0, 0, false)
  | some x => (x.f0, x.f1, x.f2, x.f3, x.f4, true)
theorem spec_DbAt_l0 (l : List Db) (name : ByteArray) (hl : l.length ≤ 9223372036854775807) (d : Nat) : ∀ (i : Nat), i + d = l.length → Ev (fun k => spec_DbAt.l0 k l name (i : Int)) (dbAns (dbAt (l.drop i) name)) := by
  induction d with
  | zero =>
    intro i hi
    refine Ev.step (fun k => spec_DbAt.l0.eq_2 _ _ _ k) (Ev.neg (by omega) (Ev.done ?_))
    rw [List.drop_of_length_le (by omega)]
    rfl
  | succ d ih =>
    intro i hi
    have he : rd_T55 l (i : Int) = l[i] := getD_nat l _ (by omega)
    refine Ev.step (fun k => spec_DbAt.l0.eq_2 _ _ _ k) (Ev.pos (by omega) (Ev.pos (by omega) ?_))
    rw [he, List.drop_eq_getElem_cons (by omega), dbAt, List.find?_cons]
    by_cases h : (l[i]).f0.toList = name.toList
    · refine Ev.pos h (Ev.done ?_)
      simp [h, dbAns]
    · refine Ev.neg h ?_
      rw [w64 (n := (i : Int) + 1) (by omega) (by omega), cast_succ]
      refine Ev.eq (ih (i + 1) (by omega)) ?_
      have hb : ((l[i]).f0.toList == name.toList) = false := by simpa using h
      simp only [hb]
      rfl
theorem spec_dbAt (l : List Db) (name : ByteArray) (hl : l.length ≤ 9223372036854775807) : Ev (fun k => spec_DbAt.f k l name) (dbAns (dbAt l name)) := spec_DbAt_l0 l name hl l.length 0 (by omega)
theorem place_at (name : ByteArray) (l : List Db) : ∀ (i : Nat), (dbAt l name = none ∧ impl_dbPlace.l0 l name i = -1) ∨ ∃ (j : Nat) (h : j < l.length), dbAt l name = some l[j] ∧ impl_dbPlace.l0 l name i = ((i + j : Nat) : Int) := by
  induction l with
  | nil => intro i; exact .inl ⟨rfl, rfl⟩
  | cons x xs ih =>
    intro i
    rw [impl_dbPlace.l0, dbAt, List.find?_cons]
    by_cases h : x.f0.toList = name.toList
    · refine .inr ⟨0, by simp, ?_, ?_⟩
      · simp [h]
      · rw [if_pos h]; rfl
    · have hb : (x.f0.toList == name.toList) = false := by simpa using h
      rw [if_neg h, hb]
      rcases ih (i + 1) with ⟨h1, h2⟩ | ⟨j, hj, h1, h2⟩
      · exact .inl ⟨h1, h2⟩
      · refine .inr ⟨j + 1, by simp; omega, ?_, ?_⟩
        · simpa [dbAt] using h1
        · rw [cast_succ, h2]; congr 1; omega
theorem impl_dbAt (l : List Db) (name : ByteArray) : impl_DbAt.f l name = some (dbAns (dbAt l name)) := by
  unfold impl_DbAt.f impl_dbPlace.f
  rw [Option.bind_some]
  rcases place_at name l 0 with ⟨h1, h2⟩ | ⟨j, hj, h1, h2⟩
  · rw [show ((0 : Int)) = ((0 : Nat) : Int) from rfl, h2, h1]; rfl
  · have he : rd_T55 l (j : Int) = l[j] := getD_nat l _ hj
    rw [show impl_dbPlace.l0 l name 0 = (j : Int) by rw [show ((0 : Int)) = ((0 : Nat) : Int) from rfl, h2]; congr 1; omega, h1, if_neg (by omega), if_pos (by omega), if_pos (by omega), he]
    rfl
/-! ### a configuration -/
/-- No database of a name stands at j, .., j + e - 1. -/
def noneAt (l : List Db) (name : ByteArray) : Nat → Nat → Bool
  | _, 0 => true
  | j, e + 1 => !((rd_T55 l (j : Int)).f0.toList == name.toList) && noneAt l name (j + 1) e
def dbOk (x : Db) : Bool := nameOk x.f0 && (decide (1 ≤ x.f1 ∧ x.f1 ≤ 3) && (decide (0 ≤ x.f2 ∧ x.f2 ≤ 4) && (decide (1 ≤ x.f3 ∧ x.f3 ≤ 20) && decide (1 ≤ x.f4 ∧ x.f4 ≤ 20))))
def confFrom (l : List Db) : Nat → Nat → Bool
  | _, 0 => decide ((1 : Int) ≤ (l.length : Int) ∧ (l.length : Int) ≤ 3)
  | i, d + 1 => dbOk (rd_T55 l (i : Int)) && (noneAt l (rd_T55 l (i : Int)).f0 0 i && confFrom l (i + 1) d)
theorem spec_l3Db (x : Db) (hx : x.f0.size ≤ 9223372036854775807) : Ev (fun k => spec_l3Db.f k x.f0 x.f1 x.f2 x.f3 x.f4) (dbOk x) := by
  unfold spec_l3Db.f dbOk
  refine Ev.bind (l1Name _ hx) ?_
  cases nameOk x.f0
  · exact Ev.neg (by decide) (Ev.done rfl)
  · refine Ev.pos rfl (Ev.then (l1In _ _ _) ?_)
    generalize decide (1 ≤ x.f1 ∧ x.f1 ≤ 3) = b1
    cases b1
    · exact Ev.neg (by decide) (Ev.done rfl)
    · refine Ev.pos rfl (Ev.then (l1In _ _ _) ?_)
      generalize decide (0 ≤ x.f2 ∧ x.f2 ≤ 4) = b2
      cases b2
      · exact Ev.neg (by decide) (Ev.done rfl)
      · refine Ev.pos rfl (Ev.then (l1In _ _ _) ?_)
        generalize decide (1 ≤ x.f3 ∧ x.f3 ≤ 20) = b3
        cases b3
        · exact Ev.neg (by decide) (Ev.done rfl)
        · exact Ev.pos rfl (Ev.then (l1In _ _ _) (Ev.done (by simp)))
theorem spec_ConfOk_l1 (l : List Db) (hl : l.length ≤ 1048577) (i : Nat) (hi : i < l.length) (b : Bool) (hb : Ev (fun k => spec_ConfOk.l0 k l ((i + 1 : Nat) : Int)) b) (e : Nat) : ∀ (j : Nat), j + e = i →
    Ev (fun k => spec_ConfOk.l1 k l (i : Int) (j : Int)) (noneAt l (rd_T55 l (i : Int)).f0 j e && b) := by
  induction e with
  | zero =>
    intro j hj
    refine Ev.step (fun k => spec_ConfOk.l1.eq_2 _ _ _ k) (Ev.neg (by omega) ?_)
    rw [w64 (n := (i : Int) + 1) (by omega) (by omega), cast_succ]
    exact Ev.eq hb (by simp [noneAt])
  | succ e ih =>
    intro j hj
    refine Ev.step (fun k => spec_ConfOk.l1.eq_2 _ _ _ k) (Ev.pos (by omega) (Ev.pos (by omega) (Ev.pos (by omega) (Ev.pos (by omega) (Ev.pos (by omega) ?_)))))
    rw [noneAt]
    by_cases h : (rd_T55 l (j : Int)).f0.toList = (rd_T55 l (i : Int)).f0.toList
    · exact Ev.pos h (Ev.done (by rw [beq_iff_eq.2 h]; rfl))
    · refine Ev.neg h ?_
      rw [w64 (n := (j : Int) + 1) (by omega) (by omega), cast_succ]
      refine Ev.eq (ih (j + 1) (by omega)) ?_
      rw [beq_eq_false_iff_ne.2 h]
      rfl
theorem spec_ConfOk_l0 (l : List Db) (hl : l.length ≤ 1048577) (hg : ∀ x ∈ l, x.f0.size ≤ 9223372036854775807) (d : Nat) : ∀ (i : Nat), i + d = l.length → Ev (fun k => spec_ConfOk.l0 k l (i : Int)) (confFrom l i d) := by
  induction d with
  | zero =>
    intro i hi
    exact Ev.step (fun k => spec_ConfOk.l0.eq_2 _ _ k) (Ev.neg (by omega) (Ev.then (l1In _ _ _) (Ev.done rfl)))
  | succ d ih =>
    intro i hi
    have he : rd_T55 l (i : Int) = l[i] := getD_nat l _ (by omega)
    refine Ev.step (fun k => spec_ConfOk.l0.eq_2 _ _ k) (Ev.pos (by omega) (Ev.pos (by omega) (Ev.bind (spec_l3Db _ (by rw [he]; exact hg _ (List.getElem_mem _))) ?_)))
    rw [confFrom]
    cases dbOk (rd_T55 l (i : Int))
    · exact Ev.neg (by decide) (Ev.done rfl)
    · refine Ev.pos rfl ?_
      rw [Bool.true_and]
      exact spec_ConfOk_l1 l hl i (by omega) _ (ih (i + 1) (by omega)) i 0 (by omega)
theorem spec_confOk (l : List Db) (hl : l.length ≤ 1048577) (hg : ∀ x ∈ l, x.f0.size ≤ 9223372036854775807) : Ev (fun k => spec_ConfOk.f k l) (confFrom l 0 l.length) := spec_ConfOk_l0 l hl hg l.length 0 (by omega)
theorem place_none (l : List Db) (i : Nat) (hi : i < l.length) (e : Nat) : ∀ (j : Nat), j + e = i →
    decide (impl_dbPlace.l0 (l.drop j) (rd_T55 l (i : Int)).f0 (j : Int) = (i : Int)) = noneAt l (rd_T55 l (i : Int)).f0 j e := by
  induction e with
  | zero =>
    intro j hj
    obtain rfl : j = i := by omega
    rw [drop_get l z55 hi, impl_dbPlace.l0]
    unfold rd_T55
    rw [if_pos rfl]
    simp [noneAt]
  | succ e ih =>
    intro j hj
    rw [drop_get l z55 (show j < l.length by omega), impl_dbPlace.l0, noneAt]
    by_cases h : (rd_T55 l (j : Int)).f0.toList = (rd_T55 l (i : Int)).f0.toList
    · rw [if_pos (by unfold rd_T55 at h ⊢; exact h), beq_iff_eq.2 h]
      simp; omega
    · rw [if_neg (by unfold rd_T55 at h ⊢; exact h), beq_eq_false_iff_ne.2 h, cast_succ, ih (j + 1) (by omega)]
      rfl
theorem impl_ConfOk_l0 (l : List Db) (hl : l.length ≤ 1048577) (hg : ∀ x ∈ l, x.f0.size ≤ 9223372036854775807) (d : Nat) : ∀ (i : Nat), i + d = l.length → Ev (fun k => impl_ConfOk.l0 k l l (l.length : Int) (i : Int)) (confFrom l i d) := by
  induction d with
  | zero =>
    intro i hi
    exact Ev.step (fun k => impl_ConfOk.l0.eq_2 _ _ _ _ k) (Ev.neg (by omega) (Ev.then (isIn _ _ _) (Ev.done rfl)))
  | succ d ih =>
    intro i hi
    have he : rd_T55 l (i : Int) = l[i] := getD_nat l _ (by omega)
    have hp := place_none l i (by omega) i 0 (by omega)
    refine Ev.step (fun k => impl_ConfOk.l0.eq_2 _ _ _ _ k) (Ev.pos (by omega) (Ev.pos (by omega) (Ev.pos (by omega) (Ev.bind (impl_nameOk _ (by rw [he]; exact hg _ (List.getElem_mem _))) ?_))))
    rw [confFrom, dbOk]
    cases nameOk (rd_T55 l (i : Int)).f0
    · exact Ev.neg (by decide) (Ev.done rfl)
    refine Ev.pos rfl (Ev.then rfl ?_)
    rw [← hp]
    by_cases h : impl_dbPlace.l0 l (rd_T55 l (i : Int)).f0 0 = (i : Int)
    · refine Ev.pos h (Ev.then (isIn _ _ _) ?_)
      rw [show decide (impl_dbPlace.l0 (List.drop 0 l) (rd_T55 l (i : Int)).f0 ((0 : Nat) : Int) = (i : Int)) = true from decide_eq_true h]
      generalize decide (1 ≤ (rd_T55 l (i : Int)).f1 ∧ (rd_T55 l (i : Int)).f1 ≤ 3) = b1
      cases b1
      · exact Ev.neg (by decide) (Ev.done rfl)
      refine Ev.pos rfl (Ev.then (isIn _ _ _) ?_)
      generalize decide (0 ≤ (rd_T55 l (i : Int)).f2 ∧ (rd_T55 l (i : Int)).f2 ≤ 4) = b2
      cases b2
      · exact Ev.neg (by decide) (Ev.done rfl)
      refine Ev.pos rfl (Ev.then (isIn _ _ _) ?_)
      generalize decide (1 ≤ (rd_T55 l (i : Int)).f3 ∧ (rd_T55 l (i : Int)).f3 ≤ 20) = b3
      cases b3
      · exact Ev.neg (by decide) (Ev.done rfl)
      refine Ev.pos rfl (Ev.then (isIn _ _ _) ?_)
      generalize decide (1 ≤ (rd_T55 l (i : Int)).f4 ∧ (rd_T55 l (i : Int)).f4 ≤ 20) = b4
      cases b4
      · exact Ev.neg (by decide) (Ev.done rfl)
      refine Ev.pos rfl ?_
      rw [w64 (n := (i : Int) + 1) (by omega) (by omega), cast_succ]
      exact Ev.eq (ih (i + 1) (by omega)) (by simp)
    · refine Ev.neg h (Ev.done ?_)
      rw [show decide (impl_dbPlace.l0 (List.drop 0 l) (rd_T55 l (i : Int)).f0 ((0 : Nat) : Int) = (i : Int)) = false from decide_eq_false h]
      simp
theorem impl_confOk (l : List Db) (hl : l.length ≤ 1048577) (hg : ∀ x ∈ l, x.f0.size ≤ 9223372036854775807) : Ev (fun k => impl_ConfOk.f k l) (confFrom l 0 l.length) := impl_ConfOk_l0 l hl hg l.length 0 (by omega)
end Go.Proofs.YthkepmicdpgbbaaDoor.Fn

/- What the printed functions that write a number come to: the numeral of Go's own strconv. -/
namespace Go.Proofs.YthkepmicdpgbbaaDoor.Fn
set_option linter.unusedVariables false
set_option linter.unusedSimpArgs false
open Go.RowKit Go.Proofs.YthkepmicdpgbbaaDoorW.PrintWords Go.Proofs.YthkepmicdpgbbaaDoor.P Go.Proofs.YthkepmicdpgbbaaDoor.Base

/-- A string of its bytes. -/
def ba (l : List UInt8) : ByteArray := ⟨l.toArray⟩
theorem ba_size (l : List UInt8) : (ba l).size = l.length := by simp [ba, ByteArray.size]
theorem ba_append (l m : List UInt8) : ba l ++ ba m = ba (l ++ m) := by
  apply ByteArray.ext
  simp [ba]
theorem ba_of (s : ByteArray) : s = ba s.data.toList := by
  apply ByteArray.ext
  simp [ba]
theorem ba_one (n : Nat) (h : n < 10) : strOfNums [(wrap64 (48 + (n : Int))) % 256] = ba [UInt8.ofNat (48 + n)] := by
  rw [w64 (by omega) (by omega), show (48 + (n : Int)) % 256 = ((48 + n : Nat) : Int) by omega]
  rfl
def numFin (n : Int) (s : ByteArray) : ByteArray := if n < 0 then ba [45] ++ s else s
theorem tmod_pos (m : Nat) : Int.tmod (m : Int) 10 = ((m % 10 : Nat) : Int) := by rw [Int.tmod_eq_emod_of_nonneg (by omega)]; omega
theorem tdiv_pos (m : Nat) : Int.tdiv (m : Int) 10 = ((m / 10 : Nat) : Int) := by rw [Int.tdiv_eq_ediv_of_nonneg (by omega)]; omega
theorem tmod_neg (m : Nat) : Int.tmod (-(m : Int)) 10 = -((m % 10 : Nat) : Int) := by rw [Int.neg_tmod, tmod_pos]
theorem tdiv_neg (m : Nat) : Int.tdiv (-(m : Int)) 10 = -((m / 10 : Nat) : Int) := by rw [Int.neg_tdiv, tdiv_pos]
theorem digits_step (m : Nat) (h : m ≠ 0) (s : ByteArray) : (if m / 10 = 0 then (ba [UInt8.ofNat (48 + m % 10)] ++ s) else ba (Lib.decDigits (m / 10)) ++ (ba [UInt8.ofNat (48 + m % 10)] ++ s)) = ba (Lib.decDigits m) ++ s := by
  by_cases h10 : m < 10
  · conv => rhs; rw [Lib.decDigits, dif_pos h10]
    rw [if_pos (by omega), Nat.mod_eq_of_lt h10]
  · conv => rhs; rw [Lib.decDigits, dif_neg h10]
    rw [if_neg (by omega), ba_of s, ba_append, ba_append, ba_append, List.append_assoc]
theorem spec_NumText_l0 (n : Int) (d : Nat) : ∀ (m : Nat) (x : Int) (s : ByteArray), x = (m : Int) ∨ x = -(m : Int) → m < 10 ^ d → d ≤ 20 → m ≤ 9223372036854775808 → s.size + d ≤ 1000 →
    Ev (fun k => spec_NumText.l0 k n s x) (numFin n (if m = 0 then s else ba (Lib.decDigits m) ++ s)) := by
  have fin : ∀ s : ByteArray, s.size ≤ 1000 → Ev (fun k => spec_NumText.l0 k n s 0) (numFin n s) := by
    intro s hs
    refine Ev.step (fun k => spec_NumText.l0.eq_2 _ _ _ k) (Ev.pos rfl ?_)
    by_cases hn : n < 0
    · exact Ev.pos hn (Ev.pos (by omega) (Ev.done (if_pos hn).symm))
    · exact Ev.neg hn (Ev.done (if_neg hn).symm)
  induction d with
  | zero =>
    intro m x s hx hm _ _ hs
    obtain rfl : m = 0 := by simpa using hm
    obtain rfl : x = 0 := by omega
    rw [if_pos rfl]
    exact fin s (by omega)
  | succ d ih =>
    intro m x s hx hm hd hM hs
    by_cases h0 : m = 0
    · subst h0
      obtain rfl : x = 0 := by omega
      rw [if_pos rfl]
      exact fin s (by omega)
    rw [if_neg h0, ← digits_step m h0 s]
    have hm' : m / 10 < 10 ^ d := by
      rw [Nat.pow_succ] at hm
      omega
    have hx0 : ¬ x = 0 := by omega
    have hmod : m % 10 < 10 := Nat.mod_lt _ (by decide)
    have next : ∀ y : Int, y = ((m / 10 : Nat) : Int) ∨ y = -((m / 10 : Nat) : Int) → Ev (fun k => spec_NumText.l0 k n (strOfNums [(wrap64 (48 + ((m % 10 : Nat) : Int))) % 256] ++ s) (wrap64 y)) (numFin n (if m / 10 = 0 then (ba [UInt8.ofNat (48 + m % 10)] ++ s) else ba (Lib.decDigits (m / 10)) ++ (ba [UInt8.ofNat (48 + m % 10)] ++ s))) := by
      intro y hy
      rw [ba_one _ hmod, w64 (by omega) (by omega)]
      exact ih (m / 10) y _ hy hm' (by omega) (by omega) (by rw [size_append, ba_size]; simp; omega)
    have sz : (strOfNums [(wrap64 (48 + ((m % 10 : Nat) : Int))) % 256]).size + s.size ≤ 9223372036854775807 := by rw [size_strOfNums]; simp; omega
    refine Ev.step (fun k => spec_NumText.l0.eq_2 _ _ _ k) (Ev.neg hx0 ?_)
    rcases hx with rfl | rfl
    · rw [tmod_pos, tdiv_pos]
      exact Ev.neg (by omega) (Ev.then rfl (Ev.pos sz (next _ (.inl rfl))))
    · rw [tmod_neg, tdiv_neg]
      by_cases hz : m % 10 = 0
      · rw [hz] at sz next ⊢
        exact Ev.neg (by omega) (Ev.then rfl (Ev.pos sz (next _ (.inr rfl))))
      · refine Ev.pos (by omega) ?_
        rw [Int.neg_neg, w64 (n := ((m % 10 : Nat) : Int)) (by omega) (by omega)]
        exact Ev.then rfl (Ev.pos sz (next _ (.inr rfl)))
theorem spec_numText (n : Int) (h0 : -9223372036854775808 ≤ n) (h1 : n ≤ 9223372036854775807) : Ev (fun k => spec_NumText.f k n) (ba (Lib.itoa n)) := by
  unfold spec_NumText.f
  by_cases hn : n = 0
  · subst hn
    exact Ev.pos rfl (Ev.done (by rw [Lib.itoa, if_neg (by decide), Lib.decDigits, dif_pos (by decide)]; rfl))
  refine Ev.neg hn (Ev.eq (spec_NumText_l0 n 19 n.natAbs n _ (by omega) (by have h10 : (10 : Nat) ^ 19 = 10000000000000000000 := (by decide); rw [h10]; omega) (by omega) (by omega) (by decide)) ?_)
  rw [if_neg (by omega), Lib.itoa, numFin]
  have he : ∀ l : List UInt8, ba l ++ (⟨#[]⟩ : ByteArray) = ba l := by
    intro l
    rw [show (⟨#[]⟩ : ByteArray) = ba [] from rfl, ba_append, List.append_nil]
  rw [he]
  by_cases hneg : n < 0
  · rw [if_pos hneg, if_pos hneg, ba_append]; rfl
  · rw [if_neg hneg, if_neg hneg, show n.natAbs = n.toNat by omega]
theorem impl_numText (n : Int) (h0 : -9223372036854775808 ≤ n) (h1 : n ≤ 9223372036854775807) : impl_NumText.f n = some (ba (Lib.itoa n)) := by
  unfold impl_NumText.f strconv_Itoa_97.f
  rw [if_pos ⟨h0, h1⟩]
  rfl
end Go.Proofs.YthkepmicdpgbbaaDoor.Fn

/- What the printed functions that write a configuration come to. -/
namespace Go.Proofs.YthkepmicdpgbbaaDoor.Fn
set_option linter.unusedVariables false
set_option linter.unusedSimpArgs false
open Go.RowKit Go.Proofs.YthkepmicdpgbbaaDoorW.PrintWords Go.Proofs.YthkepmicdpgbbaaDoor.P Go.Proofs.YthkepmicdpgbbaaDoor.Base

def itemL (x : Db) : List UInt8 := x.f0.data.toList ++ [58] ++ Lib.itoa x.f1 ++ [47] ++ Lib.itoa x.f2 ++ [47] ++ Lib.itoa x.f3 ++ [47] ++ Lib.itoa x.f4
theorem item_eq (x : Db) : ((((((((x.f0 ++ (⟨#[58]⟩ : ByteArray)) ++ ba (Lib.itoa x.f1)) ++ (⟨#[47]⟩ : ByteArray)) ++ ba (Lib.itoa x.f2)) ++ (⟨#[47]⟩ : ByteArray)) ++ ba (Lib.itoa x.f3)) ++ (⟨#[47]⟩ : ByteArray)) ++ ba (Lib.itoa x.f4)) = ba (itemL x) := by
  conv => lhs; rw [ba_of x.f0]
  rw [show (⟨#[58]⟩ : ByteArray) = ba [58] from rfl, show (⟨#[47]⟩ : ByteArray) = ba [47] from rfl]
  simp only [ba_append]
  rfl
theorem item_behind (s : ByteArray) (x : Db) : (((((((((s ++ x.f0) ++ (⟨#[58]⟩ : ByteArray)) ++ ba (Lib.itoa x.f1)) ++ (⟨#[47]⟩ : ByteArray)) ++ ba (Lib.itoa x.f2)) ++ (⟨#[47]⟩ : ByteArray)) ++ ba (Lib.itoa x.f3)) ++ (⟨#[47]⟩ : ByteArray)) ++ ba (Lib.itoa x.f4)) = s ++ ba (itemL x) := by
  conv => lhs; rw [ba_of s, ba_of x.f0]
  conv => rhs; rw [ba_of s]
  rw [show (⟨#[58]⟩ : ByteArray) = ba [58] from rfl, show (⟨#[47]⟩ : ByteArray) = ba [47] from rfl]
  simp only [ba_append, itemL, List.append_assoc]
theorem dbOk_of {x : Db} (h : dbOk x = true) : x.f0.size ≤ 8 ∧ (1 ≤ x.f1 ∧ x.f1 ≤ 3) ∧ (0 ≤ x.f2 ∧ x.f2 ≤ 4) ∧ (1 ≤ x.f3 ∧ x.f3 ≤ 20) ∧ (1 ≤ x.f4 ∧ x.f4 ≤ 20) := by
  unfold dbOk at h
  simp only [Bool.and_eq_true, decide_eq_true_eq] at h
  have := (nameOk_iff x.f0).1 h.1
  exact ⟨this.1.2, h.2.1, h.2.2.1, h.2.2.2.1, h.2.2.2.2⟩
theorem itoa_small {n : Int} (h0 : 0 ≤ n) (h1 : n ≤ 20) : (Lib.itoa n).length ≤ 21 := Lib.itoa_length_le n (by omega) (by omega)
theorem itemL_length {x : Db} (h : dbOk x = true) : (itemL x).length ≤ 100 := by
  obtain ⟨hn, h1, h2, h3, h4⟩ := dbOk_of h
  have e1 := itoa_small (n := x.f1) (by omega) (by omega)
  have e2 := itoa_small (n := x.f2) (by omega) (by omega)
  have e3 := itoa_small (n := x.f3) (by omega) (by omega)
  have e4 := itoa_small (n := x.f4) (by omega) (by omega)
  have e0 : x.f0.data.toList.length = x.f0.size := rfl
  simp only [itemL, List.length_append, List.length_singleton, e0]
  omega
theorem confFrom_all (l : List Db) (d : Nat) : ∀ (i : Nat), i + d = l.length → confFrom l i d = true → l.length ≤ 3 ∧ ∀ (j : Nat) (hj : j < l.length), i ≤ j → dbOk l[j] = true := by
  induction d with
  | zero =>
    intro i hi h
    unfold confFrom at h
    rw [decide_eq_true_eq] at h
    exact ⟨by omega, fun j hj hij => by omega⟩
  | succ d ih =>
    intro i hi h
    have he : rd_T55 l (i : Int) = l[i] := getD_nat l _ (by omega)
    unfold confFrom at h
    rw [he] at h
    simp only [Bool.and_eq_true] at h
    obtain ⟨h3, hall⟩ := ih (i + 1) (by omega) h.2.2
    refine ⟨h3, fun j hj hij => ?_⟩
    by_cases e : i = j
    · subst e; exact h.1
    · exact hall j hj (by omega)
/-- The texts of databases, each but the first behind a ';'. -/
def confAcc : ByteArray → Nat → List Db → ByteArray
  | s, _, [] => s
  | s, i, x :: xs => confAcc ((if i = 0 then s else s ++ (⟨#[59]⟩ : ByteArray)) ++ ba (itemL x)) (i + 1) xs
theorem confAcc_eq (xs : List Db) : ∀ (L : List UInt8) (i : Nat), i ≠ 0 → confAcc (ba L) i xs = ba (L ++ xs.flatMap (fun x => 59 :: itemL x)) := by
  induction xs with
  | nil => intro L i _; simp [confAcc]
  | cons x xs ih =>
    intro L i hi
    rw [confAcc, if_neg hi, show (⟨#[59]⟩ : ByteArray) = ba [59] from rfl, ba_append, ba_append, ih _ _ (by omega)]
    simp
theorem join_eq (x : Db) (xs : List Db) : Lib.join ((x :: xs).map itemL) [59] = itemL x ++ xs.flatMap (fun x => 59 :: itemL x) := by
  unfold Lib.join
  induction xs generalizing x with
  | nil => simp [List.intercalate]
  | cons y ys ih =>
    have := ih y
    simp only [List.intercalate, List.map_cons, List.intersperse, List.flatten_cons, List.flatMap_cons] at this ⊢
    cases ys with
    | nil => simp
    | cons z zs =>
      simp only [List.map_cons, List.intersperse, List.flatten_cons] at this ⊢
      rw [this]
      simp
noncomputable def confText (l : List Db) : ByteArray := if confFrom l 0 l.length = true then confAcc (⟨#[]⟩ : ByteArray) 0 l else (⟨#[]⟩ : ByteArray)
theorem spec_ConfText_j2 (l : List Db) (hl : l.length ≤ 3) (i : Nat) (hi : i < l.length) (hok : dbOk l[i] = true) (s : ByteArray) (hs : s.size ≤ 1000) (b : ByteArray) (hb : Ev (fun k => spec_ConfText.l0 k l (s ++ ba (itemL l[i])) ((i + 1 : Nat) : Int)) b) :
    Ev (fun k => spec_ConfText.j2 k l s (i : Int)) b := by
  have he : rd_T55 l (i : Int) = l[i] := getD_nat l _ (by omega)
  obtain ⟨hn, h1, h2, h3, h4⟩ := dbOk_of hok
  have e1 := itoa_small (n := l[i].f1) (by omega) (by omega)
  have e2 := itoa_small (n := l[i].f2) (by omega) (by omega)
  have e3 := itoa_small (n := l[i].f3) (by omega) (by omega)
  have e4 := itoa_small (n := l[i].f4) (by omega) (by omega)
  have z1 : ∀ a : UInt8, (⟨#[a]⟩ : ByteArray).size = 1 := fun _ => rfl
  refine Ev.step (fun k => spec_ConfText.j2.eq_2 _ _ _ k) (Ev.pos (by omega) (Ev.pos (by omega) ?_))
  rw [he]
  refine Ev.pos (by omega) (Ev.pos (by simp only [size_append]; omega) (Ev.bind (spec_numText _ (by omega) (by omega)) (Ev.pos (by simp only [size_append, ba_size, z1]; omega) (Ev.pos (by simp only [size_append, ba_size, z1]; omega) ?_))))
  refine Ev.bind (spec_numText _ (by omega) (by omega)) (Ev.pos (by simp only [size_append, ba_size, z1]; omega) (Ev.pos (by simp only [size_append, ba_size, z1]; omega) ?_))
  refine Ev.bind (spec_numText _ (by omega) (by omega)) (Ev.pos (by simp only [size_append, ba_size, z1]; omega) (Ev.pos (by simp only [size_append, ba_size, z1]; omega) ?_))
  refine Ev.bind (spec_numText _ (by omega) (by omega)) (Ev.pos (by simp only [size_append, ba_size, z1]; omega) ?_)
  rw [item_behind, w64 (n := (i : Int) + 1) (by omega) (by omega), cast_succ]
  exact hb
theorem spec_ConfText_l0 (l : List Db) (hl : l.length ≤ 3) (hg : ∀ x ∈ l, x.f0.size ≤ 9223372036854775807) (hc : confFrom l 0 l.length = true) (d : Nat) : ∀ (i : Nat) (s : ByteArray), i + d = l.length → s.size ≤ 101 * i → Ev (fun k => spec_ConfText.l0 k l s (i : Int)) (confAcc s i (l.drop i)) := by
  obtain ⟨_, hall⟩ := confFrom_all l l.length 0 (by omega) hc
  induction d with
  | zero =>
    intro i s hi hs
    refine Ev.step (fun k => spec_ConfText.l0.eq_2 _ _ _ k) (Ev.neg (by omega) (Ev.step (fun k => spec_ConfText.j1.eq_2 _ _ _ _ k) (Ev.neg (by decide) (Ev.done ?_))))
    rw [List.drop_of_length_le (by omega)]
    rfl
  | succ d ih =>
    intro i s hi hs
    have hok := hall i (by omega) (by omega)
    have hil := itemL_length hok
    rw [List.drop_eq_getElem_cons (by omega), confAcc]
    have hc' := spec_confOk l (by omega) hg
    rw [hc] at hc'
    refine Ev.step (fun k => spec_ConfText.l0.eq_2 _ _ _ k) (Ev.pos (by omega) (Ev.bind hc' (Ev.step (fun k => spec_ConfText.j1.eq_2 _ _ _ _ k) (Ev.pos rfl ?_))))
    by_cases h0 : i = 0
    · subst h0
      rw [if_pos rfl]
      exact Ev.neg (by omega) (spec_ConfText_j2 l hl 0 (by omega) hok s (by omega) _ (ih 1 _ (by omega) (by rw [size_append, ba_size]; omega)))
    · rw [if_neg h0]
      have z1 : ∀ a : UInt8, (⟨#[a]⟩ : ByteArray).size = 1 := fun _ => rfl
      exact Ev.pos (by omega) (Ev.pos (by omega) (spec_ConfText_j2 l hl i (by omega) hok _ (by rw [size_append, z1]; omega) _ (ih (i + 1) _ (by omega) (by rw [size_append, size_append, ba_size, z1]; omega))))
theorem spec_confText (l : List Db) (hl : l.length ≤ 1048577) (hg : ∀ x ∈ l, x.f0.size ≤ 9223372036854775807) : Ev (fun k => spec_ConfText.f k l) (confText l) := by
  unfold spec_ConfText.f confText
  by_cases hc : confFrom l 0 l.length = true
  · rw [if_pos hc]
    obtain ⟨h3, _⟩ := confFrom_all l l.length 0 (by omega) hc
    exact spec_ConfText_l0 l h3 hg hc l.length 0 _ (by omega) (by decide)
  · rw [if_neg hc]
    have hc' := spec_confOk l hl hg
    rw [Bool.not_eq_true] at hc
    rw [hc] at hc'
    refine Ev.step (fun k => spec_ConfText.l0.eq_2 _ _ _ k) ?_
    by_cases h0 : l.length = 0
    · exact Ev.neg (by omega) (Ev.step (fun k => spec_ConfText.j1.eq_2 _ _ _ _ k) (Ev.neg (by decide) (Ev.done rfl)))
    · exact Ev.pos (by omega) (Ev.bind hc' (Ev.step (fun k => spec_ConfText.j1.eq_2 _ _ _ _ k) (Ev.neg (by decide) (Ev.done rfl))))
theorem impl_ConfText_l0 (l : List Db) (hl : l.length ≤ 3) (hall : ∀ (j : Nat) (hj : j < l.length), 0 ≤ j → dbOk l[j] = true) (d : Nat) : ∀ (i : Nat), i + d = l.length → Ev (fun k => impl_ConfText.l0 k ((l.take i).map (fun x => ba (itemL x))) l (l.length : Int) (i : Int)) (ba (Lib.join (l.map itemL) [59])) := by
  induction d with
  | zero =>
    intro i hi
    refine Ev.step (fun k => impl_ConfText.l0.eq_2 _ _ _ _ k) (Ev.neg (by omega) (Ev.then (a := ba (Lib.join (l.map itemL) [59])) ?_ (Ev.done rfl)))
    have ht : l.take i = l := List.take_of_length_le (by omega)
    have hm : ((l.take i).map (fun x => ba (itemL x))).map (fun x => x.data.toList) = l.map itemL := by
      rw [ht, List.map_map]
      exact List.map_congr_left (fun x _ => by simp [ba])
    unfold strings_Join.f
    rw [show (⟨#[59]⟩ : ByteArray).data.toList = [59] from rfl, hm, if_pos]
    · rfl
    · refine ⟨by rw [List.length_map, List.length_take]; omega, ?_⟩
      cases l with
      | nil => simp [Lib.join, List.intercalate]
      | cons x xs =>
        rw [join_eq]
        have b : ∀ ys : List Db, (∀ y ∈ ys, dbOk y = true) → (ys.flatMap (fun x => 59 :: itemL x)).length ≤ 101 * ys.length := by
          intro ys
          induction ys with
          | nil => intro _; simp
          | cons y ys ih =>
            intro hy
            have := ih (fun z hz => hy z (List.mem_cons_of_mem _ hz))
            have h1 := itemL_length (hy y (List.mem_cons_self ..))
            simp only [List.flatMap_cons, List.length_append, List.length_cons]
            omega
        have hmem : ∀ y ∈ x :: xs, dbOk y = true := by
          intro y hy
          obtain ⟨j, hj, rfl⟩ := List.getElem_of_mem hy
          exact hall j hj (by omega)
        have h1 := itemL_length (hmem x (List.mem_cons_self ..))
        have h2 := b xs (fun y hy => hmem y (List.mem_cons_of_mem _ hy))
        simp only [List.length_cons] at hl
        rw [List.length_append]
        omega
  | succ d ih =>
    intro i hi
    have he : rd_T55 l (i : Int) = l[i] := getD_nat l _ (by omega)
    have hok := hall i (by omega) (by omega)
    obtain ⟨hn, h1, h2, h3, h4⟩ := dbOk_of hok
    have e1 := itoa_small (n := l[i].f1) (by omega) (by omega)
    have e2 := itoa_small (n := l[i].f2) (by omega) (by omega)
    have e3 := itoa_small (n := l[i].f3) (by omega) (by omega)
    have e4 := itoa_small (n := l[i].f4) (by omega) (by omega)
    have z1 : ∀ a : UInt8, (⟨#[a]⟩ : ByteArray).size = 1 := fun _ => rfl
    refine Ev.step (fun k => impl_ConfText.l0.eq_2 _ _ _ _ k) (Ev.pos (by omega) (Ev.pos (by omega) (Ev.pos (by omega) ?_)))
    rw [he]
    refine Ev.pos (by omega) (Ev.then (impl_numText _ (by omega) (by omega)) (Ev.pos (by simp only [size_append, ba_size, z1]; omega) (Ev.pos (by simp only [size_append, ba_size, z1]; omega) ?_)))
    refine Ev.then (impl_numText _ (by omega) (by omega)) (Ev.pos (by simp only [size_append, ba_size, z1]; omega) (Ev.pos (by simp only [size_append, ba_size, z1]; omega) ?_))
    refine Ev.then (impl_numText _ (by omega) (by omega)) (Ev.pos (by simp only [size_append, ba_size, z1]; omega) (Ev.pos (by simp only [size_append, ba_size, z1]; omega) ?_))
    refine Ev.then (impl_numText _ (by omega) (by omega)) (Ev.pos (by simp only [size_append, ba_size, z1]; omega) (Ev.pos (by rw [List.length_map, List.length_take]; omega) ?_))
    rw [item_eq, w64 (n := (i : Int) + 1) (by omega) (by omega), cast_succ]
    have hx := ih (i + 1) (by omega)
    rw [List.take_succ_eq_append_getElem (by omega), List.map_append] at hx
    exact hx
theorem impl_confText (l : List Db) (hl : l.length ≤ 1048577) (hg : ∀ x ∈ l, x.f0.size ≤ 9223372036854775807) : Ev (fun k => impl_ConfText.f k l) (confText l) := by
  unfold impl_ConfText.f confText
  refine Ev.bind (impl_confOk l hl hg) ?_
  by_cases hc : confFrom l 0 l.length = true
  · rw [if_pos hc]
    obtain ⟨h3, hall⟩ := confFrom_all l l.length 0 (by omega) hc
    refine Ev.pos hc (Ev.eq (impl_ConfText_l0 l h3 hall l.length 0 (by omega)) ?_)
    cases l with
    | nil => simp [confFrom] at hc
    | cons x xs =>
      rw [join_eq, confAcc, if_pos rfl, show (⟨#[]⟩ : ByteArray) = ba [] from rfl, ba_append, List.nil_append, confAcc_eq _ _ _ (by omega)]
  · exact Ev.neg hc (Ev.done (if_neg hc).symm)
end Go.Proofs.YthkepmicdpgbbaaDoor.Fn

/- Texts cut at a byte, and joined again. No program is in sight here. -/
namespace Go.Proofs.YthkepmicdpgbbaaDoor.Fn
set_option linter.unusedVariables false
set_option linter.unusedSimpArgs false

/-- A text cut at all places of a byte, behind the bytes 'acc'. -/
def splitA (c : UInt8) : List UInt8 → List UInt8 → List (List UInt8)
  | acc, [] => [acc]
  | acc, x :: xs => if x = c then acc :: splitA c [] xs else splitA c (acc ++ [x]) xs
/-- Pieces, each but the first behind the byte. -/
def joinA (c : UInt8) (x : List UInt8) (xs : List (List UInt8)) : List UInt8 := x ++ xs.flatMap (fun y => c :: y)
theorem joinA_cons (c : UInt8) (x y : List UInt8) (ys : List (List UInt8)) : joinA c x (y :: ys) = x ++ c :: joinA c y ys := by simp [joinA]
theorem splitA_free (c : UInt8) (a r : List UInt8) : ∀ acc, c ∉ a → splitA c acc (a ++ r) = splitA c (acc ++ a) r := by
  induction a with
  | nil => intro acc _; simp
  | cons x xs ih =>
    intro acc h
    have hx : ¬ x = c := fun e => h (by rw [e]; exact List.mem_cons_self ..)
    rw [List.cons_append, splitA, if_neg hx, ih _ (fun e => h (List.mem_cons_of_mem _ e))]
    simp
theorem splitA_join (c : UInt8) (xs : List (List UInt8)) : ∀ (acc x : List UInt8), c ∉ x → (∀ y ∈ xs, c ∉ y) → splitA c acc (joinA c x xs) = (acc ++ x) :: xs := by
  induction xs with
  | nil =>
    intro acc x hx _
    have := splitA_free c x [] acc hx
    simp only [List.append_nil] at this
    simp only [joinA, List.flatMap_nil, List.append_nil]
    rw [this, splitA]
  | cons y ys ih =>
    intro acc x hx hy
    rw [joinA_cons, splitA_free c x _ acc hx, splitA, if_pos rfl, ih [] y (hy y (List.mem_cons_self ..)) (fun z hz => hy z (List.mem_cons_of_mem _ hz))]
    rfl
theorem splitA_back (c : UInt8) (s : List UInt8) : ∀ (acc : List UInt8), ∃ x xs, splitA c acc s = x :: xs ∧ acc ++ s = joinA c x xs := by
  induction s with
  | nil => intro acc; exact ⟨acc, [], rfl, by simp [joinA]⟩
  | cons x xs ih =>
    intro acc
    rw [splitA]
    by_cases h : x = c
    · obtain ⟨y, ys, e, hj⟩ := ih []
      rw [if_pos h]
      exact ⟨acc, _, rfl, by rw [e, joinA_cons, ← hj, h]; rfl⟩
    · obtain ⟨y, ys, e, hj⟩ := ih (acc ++ [x])
      rw [if_neg h]
      exact ⟨y, ys, e, by rw [← hj]; simp⟩
theorem index_at (c : UInt8) (r : List UInt8) : ∀ a : List UInt8, c ∉ a → Lib.index (a ++ c :: r) [c] = (a.length : Int) := by
  intro a
  induction a with
  | nil => intro _; simp [Lib.index, List.isPrefixOf]
  | cons x xs ih =>
    intro h
    have hx : ¬ c = x := fun e => h (by rw [e]; exact List.mem_cons_self ..)
    have hp : ([c] : List UInt8).isPrefixOf (x :: (xs ++ c :: r)) = false := by simp [List.isPrefixOf, hx]
    have hi := ih (fun e => h (List.mem_cons_of_mem _ e))
    rw [List.cons_append, Lib.index, hp, hi]
    have : ¬ ((xs.length : Int) == -1) = true := fun e => by have := beq_iff_eq.1 e; omega
    simp only [Bool.false_eq_true, if_false, List.length_cons]
    rw [if_neg this]
    omega
theorem splitK_join (c : UInt8) (xs : List (List UInt8)) : ∀ (x : List UInt8), c ∉ x → (∀ y ∈ xs, c ∉ y) → Lib.splitK [c] 0 xs.length (joinA c x xs) = x :: xs := by
  induction xs with
  | nil => intro x _ _; simp [Lib.splitK, joinA]
  | cons y ys ih =>
    intro x hx hy
    have hi := index_at c (joinA c y ys) x hx
    have hn : ¬ ((x.length : Int) == -1) = true := fun e => by have := beq_iff_eq.1 e; omega
    rw [joinA_cons, List.length_cons, Lib.splitK, hi, if_neg hn, show ((x.length : Int)).toNat = x.length by omega]
    have e1 : (x ++ c :: joinA c y ys).take (x.length + 0) = x := by simp
    have e2 : (x ++ c :: joinA c y ys).drop (x.length + [c].length) = joinA c y ys := by
      rw [List.length_singleton, ← List.drop_drop]
      simp
    rw [e1, e2, ih y (hy y (List.mem_cons_self ..)) (fun z hz => hy z (List.mem_cons_of_mem _ hz))]
theorem count_free (c : UInt8) (x : List UInt8) (h : c ∉ x) : x.count c = 0 := List.count_eq_zero.2 h
theorem count_join (c : UInt8) (xs : List (List UInt8)) : ∀ (x : List UInt8), c ∉ x → (∀ y ∈ xs, c ∉ y) → (joinA c x xs).count c = xs.length := by
  induction xs with
  | nil => intro x hx _; simp [joinA, count_free c x hx]
  | cons y ys ih =>
    intro x hx hy
    rw [joinA_cons, List.count_append, count_free c x hx, List.count_cons_self, ih y (hy y (List.mem_cons_self ..)) (fun z hz => hy z (List.mem_cons_of_mem _ hz)), List.length_cons]
    omega
theorem cut_join (c : UInt8) (a r : List UInt8) (h : c ∉ a) : Lib.cut (a ++ c :: r) [c] = (a, r, true) := by
  unfold Lib.cut
  rw [index_at c r a h, if_pos (by omega)]
  have e2 : (a ++ c :: r).drop (a.length + [c].length) = r := by
    rw [List.length_singleton, ← List.drop_drop]
    simp
  rw [show ((a.length : Int)).toNat = a.length by omega, e2]
  simp
end Go.Proofs.YthkepmicdpgbbaaDoor.Fn

/- What the printed functions that parse numbers come to. No memory is in sight here. -/
namespace Go.Proofs.YthkepmicdpgbbaaDoor.Fn
set_option linter.unusedVariables false
set_option linter.unusedSimpArgs false
open Go.RowKit Go.Proofs.YthkepmicdpgbbaaDoorW.PrintWords Go.Proofs.YthkepmicdpgbbaaDoor.P Go.Proofs.YthkepmicdpgbbaaDoor.Base

/-! ### digits -/
/-- The digits of a text from place i on, behind the number n. -/
def digits (s : ByteArray) : Nat → Int → Nat → Option Int
  | _, n, 0 => some n
  | i, n, d + 1 => if 48 ≤ bt s (i : Int) ∧ bt s (i : Int) ≤ 57 then digits s (i + 1) (10 * n + (bt s (i : Int) - 48)) d else none
def ofDigits (most : Int) : Option Int → Int × Bool
  | none => (0, false)
  | some n => if n > most then (0, false) else (n, true)
def parseNum (s : ByteArray) (most : Int) : Int × Bool :=
  if s.size = 0 ∨ 5 < s.size ∨ (1 < s.size ∧ bt s 0 = 48) ∨ 65535 < most then (0, false) else ofDigits most (digits s 0 0 s.size)
theorem spec_ParseNum_l0 (s : ByteArray) (most : Int) (hs : s.size ≤ 5) (d : Nat) : ∀ (i : Nat) (n : Int), i + d = s.size → 0 ≤ n → n < 10 ^ i → Ev (fun k => spec_ParseNum.l0 k s most n (i : Int)) (ofDigits most (digits s i n d)) := by
  induction d with
  | zero =>
    intro i n hi h0 h1
    refine Ev.step (fun k => spec_ParseNum.l0.eq_2 _ _ _ _ k) (Ev.neg (by omega) ?_)
    simp only [digits, ofDigits]
    by_cases h : n > most
    · exact Ev.pos h (Ev.done (if_pos h).symm)
    · exact Ev.neg h (Ev.done (if_neg h).symm)
  | succ d ih =>
    intro i n hi h0 h1
    refine Ev.step (fun k => spec_ParseNum.l0.eq_2 _ _ _ _ k) (Ev.pos (by omega) (Ev.pos (by omega) (Ev.then (l1In _ _ _) ?_)))
    have hb := bt_byte s (i : Int)
    have hp : (10 : Int) ^ (i + 1) = 10 * 10 ^ i := by rw [Int.pow_succ, Int.mul_comm]
    have hm : (10 : Int) ^ i ≤ 10 ^ 4 := by
      have := Nat.pow_le_pow_right (n := 10) (by decide) (show i ≤ 4 by omega)
      exact_mod_cast this
    rw [w64 (n := bt s (i : Int)) (by omega) (by omega)]
    simp only [digits]
    by_cases h : 48 ≤ bt s (i : Int) ∧ bt s (i : Int) ≤ 57
    · rw [if_pos h]
      refine Ev.pos (by simpa using h) ?_
      rw [Int.emod_eq_of_lt (a := bt s (i : Int) - 48) (by omega) (by omega), w64 (n := 10 * n) (by omega) (by omega), w64 (n := 10 * n + _) (by omega) (by omega), w64 (by omega) (by omega), cast_succ]
      exact ih (i + 1) _ (by omega) (by omega) (by rw [hp]; omega)
    · rw [if_neg h]
      exact Ev.neg (by simpa using h) (Ev.done rfl)
theorem impl_ParseNum_l0 (s : ByteArray) (most : Int) (hs : s.size ≤ 5) (d : Nat) : ∀ (i : Nat) (n : Int), i + d = s.size → 0 ≤ n → n < 10 ^ i → Ev (fun k => impl_ParseNum.l0 k s most n (s.size : Int) (i : Int)) (ofDigits most (digits s i n d)) := by
  induction d with
  | zero =>
    intro i n hi h0 h1
    refine Ev.step (fun k => impl_ParseNum.l0.eq_2 _ _ _ _ _ k) (Ev.neg (by omega) ?_)
    simp only [digits, ofDigits]
    by_cases h : n > most
    · exact Ev.pos h (Ev.done (if_pos h).symm)
    · exact Ev.neg h (Ev.done (if_neg h).symm)
  | succ d ih =>
    intro i n hi h0 h1
    refine Ev.step (fun k => impl_ParseNum.l0.eq_2 _ _ _ _ _ k) (Ev.pos (by omega) (Ev.pos (by omega) (Ev.pos (by omega) ?_)))
    have hb := bt_byte s (i : Int)
    have hp : (10 : Int) ^ (i + 1) = 10 * 10 ^ i := by rw [Int.pow_succ, Int.mul_comm]
    have hm : (10 : Int) ^ i ≤ 10 ^ 4 := by
      have := Nat.pow_le_pow_right (n := 10) (by decide) (show i ≤ 4 by omega)
      exact_mod_cast this
    simp only [digits]
    by_cases h1' : bt s (i : Int) < 48
    · rw [if_neg (by omega)]; exact Ev.pos h1' (Ev.done rfl)
    · refine Ev.neg h1' ?_
      by_cases h2 : bt s (i : Int) > 57
      · rw [if_neg (by omega)]; exact Ev.pos h2 (Ev.done rfl)
      · rw [if_pos (by omega)]
        refine Ev.neg h2 ?_
        rw [Int.emod_eq_of_lt (a := bt s (i : Int) - 48) (by omega) (by omega), w64 (n := 10 * n) (by omega) (by omega), w64 (n := 10 * n + _) (by omega) (by omega), w64 (by omega) (by omega), cast_succ]
        exact ih (i + 1) _ (by omega) (by omega) (by rw [hp]; omega)
theorem spec_parseNum (s : ByteArray) (most : Int) : Ev (fun k => spec_ParseNum.f k s most) (parseNum s most) := by
  unfold spec_ParseNum.f parseNum
  have bad : ∀ b : Bool, b = true → Ev (fun k => spec_ParseNum.j0 k s most b) (0, false) := fun b hb => Ev.step (fun k => spec_ParseNum.j0.eq_2 _ _ _ k) (Ev.pos hb (Ev.done rfl))
  by_cases h0 : s.size = 0
  · rw [if_pos (.inl h0)]; exact Ev.pos (by omega) (bad _ rfl)
  refine Ev.neg (by omega) ?_
  by_cases h1 : 5 < s.size
  · rw [if_pos (.inr (.inl h1))]; exact Ev.pos (by omega) (bad _ rfl)
  refine Ev.neg (by omega) ?_
  have fin : ¬ (1 < s.size ∧ bt s 0 = 48) → Ev (fun k => spec_ParseNum.j0 k s most (decide (most > 65535))) (if s.size = 0 ∨ 5 < s.size ∨ (1 < s.size ∧ bt s 0 = 48) ∨ 65535 < most then (0, false) else ofDigits most (digits s 0 0 s.size)) := by
    intro hn
    by_cases h2 : 65535 < most
    · rw [if_pos (.inr (.inr (.inr h2)))]; exact bad _ (by simpa using h2)
    · rw [if_neg (by omega)]
      exact Ev.step (fun k => spec_ParseNum.j0.eq_2 _ _ _ k) (Ev.neg (by simpa using h2) (spec_ParseNum_l0 s most (by omega) s.size 0 0 (by omega) (by omega) (by decide)))
  by_cases h3 : 1 < s.size
  · refine Ev.pos (by omega) (Ev.pos (by omega) ?_)
    by_cases h4 : bt s 0 = 48
    · rw [if_pos (.inr (.inr (.inl ⟨h3, h4⟩)))]; exact Ev.pos h4 (bad _ rfl)
    · exact Ev.neg h4 (fin (fun h => h4 h.2))
  · exact Ev.neg (by omega) (fin (fun h => h3 h.1))
theorem impl_parseNum (s : ByteArray) (most : Int) : Ev (fun k => impl_ParseNum.f k s most) (parseNum s most) := by
  unfold impl_ParseNum.f parseNum
  have bad : ∀ b : Bool, b = true → Ev (fun k => impl_ParseNum.j0 k s most b) (0, false) := fun b hb => Ev.step (fun k => impl_ParseNum.j0.eq_2 _ _ _ k) (Ev.pos hb (Ev.done rfl))
  by_cases h2 : most > 65535
  · rw [if_pos (.inr (.inr (.inr h2)))]; exact Ev.pos h2 (bad _ rfl)
  refine Ev.neg h2 (Ev.then (isIn _ _ _) ?_)
  by_cases h0 : s.size = 0
  · rw [if_pos (.inl h0)]; exact Ev.neg (by simp; omega) (bad _ rfl)
  by_cases h1 : 5 < s.size
  · rw [if_pos (.inr (.inl h1))]; exact Ev.neg (by simp; omega) (bad _ rfl)
  refine Ev.pos (by simp; omega) ?_
  have fin : ∀ b : Bool, b = false → ¬ (1 < s.size ∧ bt s 0 = 48) → Ev (fun k => impl_ParseNum.j0 k s most b) (if s.size = 0 ∨ 5 < s.size ∨ (1 < s.size ∧ bt s 0 = 48) ∨ 65535 < most then (0, false) else ofDigits most (digits s 0 0 s.size)) := by
    intro b hb hn
    rw [if_neg (by omega)]
    exact Ev.step (fun k => impl_ParseNum.j0.eq_2 _ _ _ k) (Ev.neg (by simpa using hb) (impl_ParseNum_l0 s most (by omega) s.size 0 0 (by omega) (by omega) (by decide)))
  by_cases h3 : 1 < s.size
  · refine Ev.pos (by omega) (Ev.pos (by omega) ?_)
    by_cases h4 : bt s 0 = 48
    · rw [if_pos (.inr (.inr (.inl ⟨h3, h4⟩)))]; exact bad _ (by simpa using h4)
    · exact fin _ (by simpa using h4) (fun h => h4 h.2)
  · exact Ev.neg (by omega) (fin _ rfl (fun h => h3 h.1))

end Go.Proofs.YthkepmicdpgbbaaDoor.Fn

/- Numerals are read as what they were written from, and the other way round. -/
namespace Go.Proofs.YthkepmicdpgbbaaDoor.Fn
set_option linter.unusedVariables false
set_option linter.unusedSimpArgs false
open Go.RowKit Go.Proofs.YthkepmicdpgbbaaDoorW.PrintWords Go.Proofs.YthkepmicdpgbbaaDoor.P Go.Proofs.YthkepmicdpgbbaaDoor.Base

def isDig (c : UInt8) : Prop := 48 ≤ c.toNat ∧ c.toNat ≤ 57
instance (c : UInt8) : Decidable (isDig c) := inferInstanceAs (Decidable (_ ∧ _))
/-- The number that a list of digits is, behind n. -/
def foldDig : Int → List UInt8 → Option Int
  | n, [] => some n
  | n, c :: cs => if isDig c then foldDig (10 * n + ((c.toNat : Int) - 48)) cs else none
theorem foldDig_snoc (xs : List UInt8) (c : UInt8) : ∀ n, foldDig n (xs ++ [c]) = (foldDig n xs).bind fun m => if isDig c then some (10 * m + ((c.toNat : Int) - 48)) else none := by
  induction xs with
  | nil => intro n; simp [foldDig]
  | cons x xs ih =>
    intro n
    simp only [List.cons_append, foldDig]
    by_cases h : isDig x
    · rw [if_pos h, if_pos h, ih]
    · rw [if_neg h, if_neg h]; rfl
theorem bt_ba (L : List UInt8) (i : Nat) (h : i < L.length) : bt (ba L) (i : Int) = (L[i].toNat : Int) := by
  have hs : i < ({ data := L.toArray } : ByteArray).size := h
  have e : bt (ba L) (i : Int) = if h : i < ({ data := L.toArray } : ByteArray).size then ((({ data := L.toArray } : ByteArray)[i]).toNat : Int) else 0 := by
    first
      | rfl
      | simp [bt, ba]
  rw [e, dif_pos hs]
  rfl
theorem digits_fold (L : List UInt8) (d : Nat) : ∀ (i : Nat) (n : Int), i + d = L.length → digits (ba L) i n d = foldDig n (L.drop i) := by
  induction d with
  | zero =>
    intro i n hi
    rw [List.drop_of_length_le (by omega)]
    rfl
  | succ d ih =>
    intro i n hi
    rw [List.drop_eq_getElem_cons (by omega), digits, foldDig, bt_ba L i (by omega)]
    by_cases h : isDig L[i]
    · have h2 : (48 : Int) ≤ (L[i].toNat : Int) ∧ (L[i].toNat : Int) ≤ 57 := by have := h.1; have := h.2; omega
      rw [if_pos h2, if_pos h, ih (i + 1) _ (by omega)]
    · have h2 : ¬ ((48 : Int) ≤ (L[i].toNat : Int) ∧ (L[i].toNat : Int) ≤ 57) := fun e => h ⟨by omega, by omega⟩
      rw [if_neg h2, if_neg h]
theorem dig_toNat (m : Nat) (h : m < 10) : (UInt8.ofNat (48 + m)).toNat = 48 + m := by
  rw [UInt8.toNat_ofNat']
  omega
theorem fold_dec (m : Nat) : foldDig 0 (Lib.decDigits m) = some (m : Int) := by
  induction m using Nat.strongRecOn with
  | ind m ih =>
    rw [Lib.decDigits]
    by_cases h : m < 10
    · rw [dif_pos h, foldDig, if_pos ⟨by rw [dig_toNat m h]; omega, by rw [dig_toNat m h]; omega⟩, dig_toNat m h, foldDig]
      congr 1
      omega
    · have hm : m % 10 < 10 := Nat.mod_lt _ (by decide)
      rw [dif_neg h, foldDig_snoc, ih (m / 10) (by omega), Option.bind_some, if_pos ⟨by rw [dig_toNat _ hm]; omega, by rw [dig_toNat _ hm]; omega⟩, dig_toNat _ hm]
      congr 1
      omega
theorem dec_head (m : Nat) (h : 1 ≤ m) : ∃ c cs, Lib.decDigits m = c :: cs ∧ c.toNat ≠ 48 := by
  induction m using Nat.strongRecOn with
  | ind m ih =>
    rw [Lib.decDigits]
    by_cases h10 : m < 10
    · rw [dif_pos h10]
      exact ⟨_, _, rfl, by rw [dig_toNat m h10]; omega⟩
    · obtain ⟨c, cs, e, hc⟩ := ih (m / 10) (by omega) (by omega)
      rw [dif_neg h10, e]
      exact ⟨c, _, rfl, hc⟩
theorem dec_length_pos (m : Nat) : 1 ≤ (Lib.decDigits m).length := by
  rw [Lib.decDigits]
  split <;> simp
theorem dec_length (d : Nat) : ∀ (m : Nat), (Lib.decDigits m).length ≤ d + 1 ↔ m < 10 ^ (d + 1) := by
  induction d with
  | zero =>
    intro m
    rw [Lib.decDigits]
    by_cases h : m < 10
    · rw [dif_pos h]; simp; omega
    · have := dec_length_pos (m / 10)
      rw [dif_neg h, List.length_append, List.length_singleton]; omega
  | succ d ih =>
    intro m
    rw [Lib.decDigits]
    have hp : 10 ^ (d + 1 + 1) = 10 ^ (d + 1) * 10 := Nat.pow_succ ..
    have h1 : 1 ≤ 10 ^ (d + 1) := Nat.one_le_pow _ _ (by decide)
    by_cases h : m < 10
    · rw [dif_pos h]; simp only [List.length_singleton]; omega
    · rw [dif_neg h, List.length_append, List.length_singleton]
      have := ih (m / 10)
      omega
theorem fold_inv (n : Nat) : ∀ (L : List UInt8), L.length = n → L ≠ [] → (∀ c cs, L = c :: cs → cs = [] ∨ c.toNat ≠ 48) → ∀ z, foldDig 0 L = some z → 0 ≤ z ∧ Lib.decDigits z.toNat = L ∧ ((∀ c cs, L = c :: cs → c.toNat ≠ 48) → 1 ≤ z) := by
  induction n with
  | zero => intro L hl hne; exact absurd (List.eq_nil_of_length_eq_zero hl) hne
  | succ n ih0 =>
  intro L hl hne hh z hz
  obtain ⟨xs, c, rfl⟩ : ∃ xs c, L = xs ++ [c] := ⟨L.dropLast, L.getLast hne, (List.dropLast_concat_getLast hne).symm⟩
  have ih := ih0 xs (by simpa using hl)
  rw [foldDig_snoc] at hz
  by_cases hx : xs = []
  · subst hx
    simp only [foldDig, Option.bind_some] at hz
    by_cases hd : isDig c
    · rw [if_pos hd] at hz
      obtain rfl := Option.some.inj hz
      obtain ⟨h1, h2⟩ := hd
      refine ⟨by omega, ?_, fun hne => by have := hne c [] rfl; omega⟩
      have e : (10 * 0 + ((c.toNat : Int) - 48)).toNat = c.toNat - 48 := by omega
      rw [e, Lib.decDigits, dif_pos (by omega), show 48 + (c.toNat - 48) = c.toNat by omega]
      simp
    · rw [if_neg hd] at hz; cases hz
  · cases hf : foldDig 0 xs with
    | none => rw [hf] at hz; cases hz
    | some v =>
      rw [hf, Option.bind_some] at hz
      by_cases hd : isDig c
      · rw [if_pos hd] at hz
        obtain rfl := Option.some.inj hz
        obtain ⟨x, xs', rfl⟩ := List.exists_cons_of_ne_nil hx
        have hx0 : x.toNat ≠ 48 := (hh x (xs' ++ [c]) rfl).resolve_left (by simp)
        obtain ⟨h0, he, h1⟩ := ih hx (fun c' cs' e => by injection e with e1 e2; subst e1; exact .inr hx0) v hf
        have hv := h1 (fun c' cs' e => by injection e with e1 e2; subst e1; exact hx0)
        obtain ⟨d1, d2⟩ := hd
        refine ⟨by omega, ?_, fun _ => by omega⟩
        have e : (10 * v + ((c.toNat : Int) - 48)).toNat = 10 * v.toNat + (c.toNat - 48) := by omega
        rw [e, Lib.decDigits, dif_neg (by omega), show (10 * v.toNat + (c.toNat - 48)) / 10 = v.toNat by omega, show (10 * v.toNat + (c.toNat - 48)) % 10 = c.toNat - 48 by omega, he, show 48 + (c.toNat - 48) = c.toNat by omega]
        simp
      · rw [if_neg hd] at hz; cases hz
end Go.Proofs.YthkepmicdpgbbaaDoor.Fn

/- Numerals are read as the numbers that they were written from, up to any most, and the other way round. -/
namespace Go.Proofs.YthkepmicdpgbbaaDoor.Fn
set_option linter.unusedVariables false
set_option linter.unusedSimpArgs false
open Go.RowKit Go.Proofs.YthkepmicdpgbbaaDoorW.PrintWords Go.Proofs.YthkepmicdpgbbaaDoor.P Go.Proofs.YthkepmicdpgbbaaDoor.Base

theorem parse_num (n : Nat) (most : Int) (h : (n : Int) ≤ most) (hm : most ≤ 65535) : parseNum (ba (Lib.itoa (n : Int))) most = ((n : Int), true) := by
  unfold parseNum
  have hi : Lib.itoa (n : Int) = Lib.decDigits n := by rw [Lib.itoa, if_neg (by omega), Int.toNat_natCast]
  have hd : digits (ba (Lib.decDigits n)) 0 0 (Lib.decDigits n).length = some (n : Int) := by
    rw [digits_fold _ _ 0 0 (by omega), List.drop_zero, fold_dec]
  have hp : (10 : Nat) ^ (4 + 1) = 100000 := by decide
  have hlen := (dec_length 4 n).2 (by rw [hp]; omega)
  have hpos := dec_length_pos n
  rw [hi, ba_size, hd]
  have hhead : ¬ (1 < (Lib.decDigits n).length ∧ bt (ba (Lib.decDigits n)) 0 = 48) := by
    rintro ⟨h1, h2⟩
    have hn : 1 ≤ n := by
      rcases Nat.eq_zero_or_pos n with h | h
      · subst h; rw [Lib.decDigits, dif_pos (by decide)] at h1; simp at h1
      · exact h
    obtain ⟨c, cs, e, hc⟩ := dec_head n hn
    have hb := bt_ba (Lib.decDigits n) 0 (by omega)
    rw [show ((0 : Nat) : Int) = 0 from rfl] at hb
    rw [hb] at h2
    have : (Lib.decDigits n)[0] = c := by simp [e]
    rw [this] at h2
    omega
  rw [if_neg (by omega), ofDigits, if_neg (by omega)]
theorem parse_back (u : ByteArray) (most : Int) (h : (parseNum u most).2 = true) : 0 ≤ (parseNum u most).1 ∧ (parseNum u most).1 ≤ most ∧ ba (Lib.itoa (parseNum u most).1) = u := by
  unfold parseNum at h ⊢
  split at h
  · simp at h
  · rename_i hc
    rw [if_neg hc]
    have hu := ba_of u
    have hsz : u.size = u.data.toList.length := rfl
    have hdig : digits u 0 0 u.size = foldDig 0 u.data.toList := by
      conv => lhs; rw [hu, ba_size]
      rw [digits_fold _ _ 0 0 (by omega), List.drop_zero]
    rw [hdig] at h ⊢
    cases hf : foldDig 0 u.data.toList with
    | none => rw [hf] at h; simp [ofDigits] at h
    | some z =>
      rw [hf] at h
      simp only [ofDigits] at h ⊢
      by_cases hz : z > most
      · rw [if_pos hz] at h; simp at h
      · rw [if_neg hz]
        have hne : u.data.toList ≠ [] := fun e => hc (.inl (by rw [hsz, e]; rfl))
        obtain ⟨z0, hd, _⟩ := fold_inv _ u.data.toList rfl hne (by
          intro c cs e
          by_cases hcs : cs = []
          · exact .inl hcs
          · refine .inr fun h48 => hc (.inr (.inr (.inl ⟨?_, ?_⟩)))
            · rw [hsz, e]
              have := List.length_pos_iff.2 hcs
              simp only [List.length_cons]; omega
            · have hb := bt_ba u.data.toList 0 (by rw [e]; simp)
              rw [← hu, show ((0 : Nat) : Int) = 0 from rfl] at hb
              rw [hb]
              have : u.data.toList[0]'(by rw [e]; simp) = c := by simp [e]
              rw [this, h48]
              rfl) z hf
        refine ⟨z0, by dsimp only; omega, ?_⟩
        dsimp only
        rw [Lib.itoa, if_neg (by omega), hd]
        exact hu.symm
theorem dec_digs (m : Nat) : ∀ c ∈ Lib.decDigits m, 48 ≤ c.toNat ∧ c.toNat ≤ 57 := by
  induction m using Nat.strongRecOn with
  | ind m ih =>
    intro c hc
    rw [Lib.decDigits] at hc
    by_cases h : m < 10
    · rw [dif_pos h, List.mem_singleton] at hc
      rw [hc, dig_toNat m h]; omega
    · have hm : m % 10 < 10 := Nat.mod_lt _ (by decide)
      rw [dif_neg h, List.mem_append, List.mem_singleton] at hc
      rcases hc with hc | hc
      · exact ih (m / 10) (by omega) c hc
      · rw [hc, dig_toNat _ hm]; omega
theorem num_free (n : Int) (h : 0 ≤ n) (c : UInt8) (hc : c.toNat < 48 ∨ 57 < c.toNat) : c ∉ Lib.itoa n := by
  intro hm
  rw [Lib.itoa, if_neg (by omega)] at hm
  have := dec_digs _ c hm
  omega
theorem itoa_two (n : Int) (h0 : 0 ≤ n) (h1 : n ≤ 99) : (Lib.itoa n).length ≤ 2 ∧ 1 ≤ (Lib.itoa n).length := by
  rw [Lib.itoa, if_neg (by omega)]
  exact ⟨(dec_length 1 n.toNat).2 (by have hp : (10 : Nat) ^ (1 + 1) = 100 := by decide
                                      rw [hp]; omega), dec_length_pos _⟩
end Go.Proofs.YthkepmicdpgbbaaDoor.Fn

/- What the printed functions that read a configuration come to. -/
namespace Go.Proofs.YthkepmicdpgbbaaDoor.Fn
set_option linter.unusedVariables false
set_option linter.unusedSimpArgs false
open Go.RowKit Go.Proofs.YthkepmicdpgbbaaDoorW.PrintWords Go.Proofs.YthkepmicdpgbbaaDoor.P Go.Proofs.YthkepmicdpgbbaaDoor.Base

/-! ### what a configuration's text is made of -/
theorem name_bytes {s : ByteArray} (h : nameOk s = true) : ∀ c ∈ s.data.toList, 97 ≤ c.toNat ∧ c.toNat ≤ 122 := by
  intro c hc
  obtain ⟨i, hi, rfl⟩ := List.getElem_of_mem hc
  have hb := bt_ba s.data.toList i hi
  rw [← ba_of s] at hb
  have := ((nameOk_iff s).1 h).2 i hi
  omega
def restL (x : Db) : List UInt8 := joinA 47 (Lib.itoa x.f1) [Lib.itoa x.f2, Lib.itoa x.f3, Lib.itoa x.f4]
theorem item_rest (x : Db) : itemL x = x.f0.data.toList ++ 58 :: restL x := by simp [itemL, restL, joinA]
theorem item_join (x : Db) : itemL x = joinA 58 x.f0.data.toList [restL x] := by rw [item_rest]; simp [joinA]
def Pos4 (x : Db) : Prop := 0 ≤ x.f1 ∧ 0 ≤ x.f2 ∧ 0 ≤ x.f3 ∧ 0 ≤ x.f4
theorem dbOk_pos {x : Db} (h : dbOk x = true) : Pos4 x := by
  obtain ⟨_, h1, h2, h3, h4⟩ := dbOk_of h
  exact ⟨by omega, by omega, by omega, by omega⟩
theorem rest_free {x : Db} (h : Pos4 x) (c : UInt8) (hc : 57 < c.toNat) : c ∉ restL x := by
  obtain ⟨h1, h2, h3, h4⟩ := h
  intro hm
  have n1 := num_free _ h1 c (.inr hc)
  have n2 := num_free _ h2 c (.inr hc)
  have n3 := num_free _ h3 c (.inr hc)
  have n4 := num_free _ h4 c (.inr hc)
  have ne : ¬ c = 47 := fun e => by rw [e] at hc; revert hc; decide
  simp only [restL, joinA, List.flatMap_cons, List.flatMap_nil, List.mem_append, List.mem_cons, List.append_nil, List.cons_append] at hm
  simp only [n1, n2, n3, n4, ne, false_or, or_false] at hm
theorem rest_split {x : Db} (h : Pos4 x) : splitA 47 [] (restL x) = [Lib.itoa x.f1, Lib.itoa x.f2, Lib.itoa x.f3, Lib.itoa x.f4] := by
  obtain ⟨h1, h2, h3, h4⟩ := h
  rw [restL, splitA_join 47 _ _ _ (num_free _ h1 47 (.inl (by decide))) (by
    intro y hy
    simp only [List.mem_cons, List.not_mem_nil, or_false] at hy
    rcases hy with rfl | rfl | rfl
    · exact num_free _ h2 47 (.inl (by decide))
    · exact num_free _ h3 47 (.inl (by decide))
    · exact num_free _ h4 47 (.inl (by decide)))]
  rfl
theorem name_free {x : Db} (h : dbOk x = true) (c : UInt8) (hc : c.toNat < 97) : c ∉ x.f0.data.toList := by
  intro hm
  unfold dbOk at h
  simp only [Bool.and_eq_true] at h
  have := name_bytes h.1 c hm
  omega
theorem item_split {x : Db} (h : dbOk x = true) : splitA 58 [] (itemL x) = [x.f0.data.toList, restL x] := by
  rw [item_join, splitA_join 58 _ _ _ (name_free h 58 (by decide)) (by
    intro y hy
    simp only [List.mem_cons, List.not_mem_nil, or_false] at hy
    subst hy
    exact rest_free (dbOk_pos h) 58 (by decide))]
  rfl
theorem item_free {x : Db} (h : dbOk x = true) : (59 : UInt8) ∉ itemL x := by
  have n1 := name_free h 59 (by decide)
  have n2 := rest_free (dbOk_pos h) 59 (by decide)
  rw [item_rest]
  intro hm
  simp only [List.mem_append, List.mem_cons, n1, n2, false_or, or_false] at hm
  revert hm
  decide
theorem itemL_short {x : Db} (h : dbOk x = true) : (itemL x).length ≤ 20 ∧ 1 ≤ (itemL x).length := by
  obtain ⟨hn, h1, h2, h3, h4⟩ := dbOk_of h
  have e1 := itoa_two x.f1 (by omega) (by omega)
  have e2 := itoa_two x.f2 (by omega) (by omega)
  have e3 := itoa_two x.f3 (by omega) (by omega)
  have e4 := itoa_two x.f4 (by omega) (by omega)
  have e0 : x.f0.data.toList.length = x.f0.size := rfl
  simp only [itemL, List.length_append, List.length_singleton, e0]
  omega
theorem conf_cons {l : List Db} (h : confFrom l 0 l.length = true) : ∃ x xs, l = x :: xs ∧ xs.length ≤ 2 ∧ ∀ y ∈ l, dbOk y = true := by
  obtain ⟨h3, hall⟩ := confFrom_all l l.length 0 (by omega) h
  have hm : ∀ y ∈ l, dbOk y = true := by
    intro y hy
    obtain ⟨j, hj, rfl⟩ := List.getElem_of_mem hy
    exact hall j hj (by omega)
  cases l with
  | nil => simp [confFrom] at h
  | cons x xs => exact ⟨x, xs, rfl, by simp only [List.length_cons] at h3; omega, hm⟩
theorem confText_join (x : Db) (xs : List Db) (h : confFrom (x :: xs) 0 (x :: xs).length = true) : confText (x :: xs) = ba (joinA 59 (itemL x) (xs.map itemL)) := by
  unfold confText
  rw [if_pos h, confAcc, if_pos rfl, show (⟨#[]⟩ : ByteArray) = ba [] from rfl, ba_append, List.nil_append, confAcc_eq _ _ _ (by omega), joinA, List.flatMap_map]
theorem conf_split {l : List Db} (h : confFrom l 0 l.length = true) : splitA 59 [] (confText l).data.toList = l.map itemL := by
  obtain ⟨x, xs, rfl, _, hall⟩ := conf_cons h
  rw [confText_join x xs h, show (ba (joinA 59 (itemL x) (xs.map itemL))).data.toList = joinA 59 (itemL x) (xs.map itemL) by simp [ba], splitA_join 59 _ _ _ (item_free (hall x (List.mem_cons_self ..))) (by
    intro y hy
    obtain ⟨z, hz, rfl⟩ := List.mem_map.1 hy
    exact item_free (hall z (List.mem_cons_of_mem _ hz)))]
  rfl
theorem confText_size {l : List Db} (h : confFrom l 0 l.length = true) : 1 ≤ (confText l).size ∧ (confText l).size ≤ 100 := by
  obtain ⟨x, xs, rfl, h2, hall⟩ := conf_cons h
  rw [confText_join x xs h, ba_size, joinA, List.length_append]
  have hx := itemL_short (hall x (List.mem_cons_self ..))
  have b : ∀ ys : List Db, (∀ y ∈ ys, dbOk y = true) → ((ys.map itemL).flatMap (fun y => (59 : UInt8) :: y)).length ≤ 21 * ys.length := by
    intro ys
    induction ys with
    | nil => intro _; simp
    | cons y ys ih =>
      intro hy
      have := ih (fun z hz => hy z (List.mem_cons_of_mem _ hz))
      have h1 := itemL_short (hy y (List.mem_cons_self ..))
      simp only [List.map_cons, List.flatMap_cons, List.length_append, List.length_cons]
      omega
  have := b xs (fun y hy => hall y (List.mem_cons_of_mem _ hy))
  omega
/-! ### a configuration out of its pieces -/
noncomputable def parsed (q : List UInt8) : Option Int := if (parseNum (ba q) 99).2 = true then some (parseNum (ba q) 99).1 else none
theorem parsed_num {n : Int} (h0 : 0 ≤ n) (h1 : n ≤ 99) : parsed (Lib.itoa n) = some n := by
  obtain ⟨m, rfl⟩ := Int.eq_ofNat_of_zero_le h0
  rw [parsed, parse_num m 99 h1 (by omega), if_pos rfl]
theorem parsed_back {q : List UInt8} {n : Int} (h : parsed q = some n) : Lib.itoa n = q := by
  unfold parsed at h
  split at h
  · rename_i hp
    have e := (parse_back _ _ hp).2.2
    obtain rfl := Option.some.inj h
    have := congrArg (fun b : ByteArray => b.data.toList) e
    simpa [ba] using this
  · cases h
noncomputable def numsOf (a : List UInt8) : List (List UInt8) → Option Db
  | [q0, q1, q2, q3] => (parsed q0).bind fun n0 => (parsed q1).bind fun n1 => (parsed q2).bind fun n2 => (parsed q3).bind fun n3 => some ⟨ba a, n0, n1, n2, n3⟩
  | _ => none
noncomputable def partsOf : List (List UInt8) → Option Db
  | [a, b] => numsOf a (splitA 47 [] b)
  | _ => none
noncomputable def itemOf (p : List UInt8) : Option Db := partsOf (splitA 58 [] p)
noncomputable def itemsOf : List (List UInt8) → Option (List Db)
  | [] => some []
  | p :: ps => (itemOf p).bind fun x => (itemsOf ps).bind fun xs => some (x :: xs)
theorem itemOf_item {x : Db} (h : dbOk x = true) : itemOf (itemL x) = some x := by
  obtain ⟨hn, h1, h2, h3, h4⟩ := dbOk_of h
  rw [itemOf, item_split h, partsOf, rest_split (dbOk_pos h), numsOf, parsed_num (by omega) (by omega), parsed_num (by omega) (by omega), parsed_num (by omega) (by omega), parsed_num (by omega) (by omega)]
  simp only [Option.bind_some]
  rw [← ba_of]
theorem itemOf_back {p : List UInt8} {x : Db} (h : itemOf p = some x) : itemL x = p := by
  unfold itemOf at h
  obtain ⟨a, us, e, hj⟩ := splitA_back 58 p []
  rw [e] at h
  rcases us with _ | ⟨b, _ | ⟨c, cs⟩⟩
  · cases h
  · obtain ⟨q0, qs, e2, hj2⟩ := splitA_back 47 b []
    rw [partsOf, e2] at h
    rcases qs with _ | ⟨q1, _ | ⟨q2, _ | ⟨q3, _ | ⟨q4, qs⟩⟩⟩⟩
    · cases h
    · cases h
    · cases h
    · rw [numsOf] at h
      simp only [Option.bind_eq_some_iff] at h
      obtain ⟨n0, p0, n1, p1, n2, p2, n3, p3, hx⟩ := h
      obtain rfl := Option.some.inj hx
      rw [item_join, restL]
      simp only
      rw [parsed_back p0, parsed_back p1, parsed_back p2, parsed_back p3, ← hj2, List.nil_append]
      rw [List.nil_append] at hj
      rw [hj]
      simp [ba]
    · cases h
  · cases h
theorem itemsOf_items : ∀ (l : List Db), (∀ x ∈ l, dbOk x = true) → itemsOf (l.map itemL) = some l
  | [], _ => rfl
  | x :: xs, h => by
    rw [List.map_cons, itemsOf, itemOf_item (h x (List.mem_cons_self ..)), itemsOf_items xs (fun y hy => h y (List.mem_cons_of_mem _ hy))]
    rfl
theorem itemsOf_back : ∀ (ps : List (List UInt8)) (l : List Db), itemsOf ps = some l → l.map itemL = ps
  | [], l, h => by obtain rfl := Option.some.inj h; rfl
  | p :: ps, l, h => by
    rw [itemsOf] at h
    simp only [Option.bind_eq_some_iff] at h
    obtain ⟨x, hx, xs, hxs, he⟩ := h
    obtain rfl := Option.some.inj he
    rw [List.map_cons, itemOf_back hx, itemsOf_back ps xs hxs]
noncomputable def confFin : Option (List Db) → List Db × Bool
  | some l => if confFrom l 0 l.length = true then (l, true) else ([], false)
  | none => ([], false)
noncomputable def parseConf (s : ByteArray) : List Db × Bool := confFin (itemsOf (splitA 59 [] s.data.toList))
theorem parseConf_text {l : List Db} (h : confFrom l 0 l.length = true) : parseConf (confText l) = (l, true) := by
  obtain ⟨x, xs, rfl, _, hall⟩ := conf_cons h
  rw [parseConf, conf_split h, itemsOf_items _ hall, confFin, if_pos h]
theorem parseConf_back (s : ByteArray) : parseConf s = ([], false) ∨ ∃ l, parseConf s = (l, true) ∧ confFrom l 0 l.length = true ∧ confText l = s := by
  unfold parseConf
  cases h : itemsOf (splitA 59 [] s.data.toList) with
  | none => exact .inl rfl
  | some l =>
    by_cases hc : confFrom l 0 l.length = true
    · refine .inr ⟨l, by rw [confFin, if_pos hc], hc, ?_⟩
      have e := itemsOf_back _ _ h
      obtain ⟨x, xs, rfl, _, hall⟩ := conf_cons hc
      obtain ⟨y, ys, e2, hj⟩ := splitA_back 59 s.data.toList []
      rw [e2, List.map_cons] at e
      injection e with e3 e4
      rw [confText_join x xs hc, e3, e4, ← hj, List.nil_append]
      exact (ba_of s).symm
    · exact .inl (by rw [confFin, if_neg hc])
theorem parseConf_long {s : ByteArray} (h : 100 < s.size) : parseConf s = ([], false) := by
  rcases parseConf_back s with h' | ⟨l, _, hc, rfl⟩
  · exact h'
  · have := confText_size hc; omega
/-! ### the reference -/
theorem extract_ba (s : ByteArray) (a b : Nat) : s.extract a b = ba ((s.data.toList.drop a).take (b - a)) := by
  rw [← Lib.extract_data]
  exact ba_of _
theorem spec_l3Split_l0 (s : ByteArray) (hs : s.size ≤ 1048576) (c : UInt8) (d : Nat) : ∀ (i fr : Nat) (out : List ByteArray), i + d = s.size → fr ≤ i → out.length ≤ i →
    Ev (fun k => spec_l3Split.l0 k s (c.toNat : Int) out (fr : Int) (i : Int)) (out ++ (splitA c ((s.data.toList.drop fr).take (i - fr)) (s.data.toList.drop i)).map ba) := by
  have hL : s.data.toList.length = s.size := rfl
  induction d with
  | zero =>
    intro i fr out hi hf ho
    refine Ev.step (fun k => spec_l3Split.l0.eq_2 _ _ _ _ _ k) (Ev.pos (by omega) (Ev.pos (by omega) (Ev.pos (by omega) (Ev.pos (by omega) (Ev.pos (by omega) ?_)))))
    rw [w64 (n := (i : Int) + 1) (by omega) (by omega), cast_succ]
    refine Ev.step (fun k => spec_l3Split.l0.eq_2 _ _ _ _ _ k) (Ev.neg (by omega) (Ev.done ?_))
    rw [List.drop_of_length_le (l := s.data.toList) (i := i) (by omega), splitA, Int.toNat_natCast, Int.toNat_natCast, extract_ba]
    rfl
  | succ d ih =>
    intro i fr out hi hf ho
    have hlt : i < s.data.toList.length := by omega
    have hb := bt_ba s.data.toList i hlt
    rw [← ba_of s] at hb
    refine Ev.step (fun k => spec_l3Split.l0.eq_2 _ _ _ _ _ k) (Ev.pos (by omega) (Ev.neg (by omega) (Ev.pos (by omega) (Ev.pos (by omega) ?_))))
    rw [w64 (n := (i : Int) + 1) (by omega) (by omega), cast_succ, List.drop_eq_getElem_cons hlt, splitA]
    by_cases h : s.data.toList[i] = c
    · refine Ev.pos (by rw [hb, h]) (Ev.pos (by omega) (Ev.pos (by omega) (Ev.pos (by omega) ?_)))
      rw [Int.toNat_natCast, Int.toNat_natCast, extract_ba, if_pos h]
      refine Ev.eq (ih (i + 1) (i + 1) _ (by omega) (by omega) (by simp; omega)) ?_
      rw [Nat.sub_self, List.take_zero, List.map_cons, List.append_assoc]
      rfl
    · have hne : ¬ bt s (i : Int) = (c.toNat : Int) := by
        rw [hb]
        intro e
        exact h (UInt8.toNat_inj.1 (by omega))
      refine Ev.neg hne ?_
      rw [if_neg h]
      refine Ev.eq (ih (i + 1) fr _ (by omega) (by omega) (by omega)) ?_
      rw [show i + 1 - fr = (i - fr) + 1 by omega, List.take_succ_eq_append_getElem (by rw [List.length_drop]; omega), List.getElem_drop]
      have e : s.data.toList[fr + (i - fr)]'(by omega) = s.data.toList[i] := by congr 1; omega
      rw [e]
theorem spec_l3Split (s : ByteArray) (hs : s.size ≤ 1048576) (c : UInt8) : Ev (fun k => spec_l3Split.f k s (c.toNat : Int)) ((splitA c [] s.data.toList).map ba) := spec_l3Split_l0 s hs c s.size 0 0 [] (by omega) (by omega) (by simp)
theorem ba_data (l : List UInt8) : (ba l).data.toList = l := by simp [ba]
theorem spec_PC_step (P : List ByteArray) (out : List Db) (I : Int) (p q : List ByteArray) (nums : List Int) (j : Nat) (hj : j < 4) (hq : q.length = 4) (hn : nums.length = 4) (r : List Db × Bool)
    (h : ∀ n, parseNum (q[j]'(by omega)) 99 = (n, true) → Ev (fun k => spec_ParseConf.l1 k P out I p q (nums.set j n) ((j + 1 : Nat) : Int)) r) (hb : (parseNum (q[j]'(by omega)) 99).2 = false → r = ([], false)) :
    Ev (fun k => spec_ParseConf.l1 k P out I p q nums (j : Int)) r := by
  have he : rdOf ByteArray.empty q (j : Int) = q[j]'(by omega) := getD_nat q _ (by omega)
  refine Ev.step (fun k => spec_ParseConf.l1.eq_2 _ _ _ _ _ _ _ k) (Ev.pos (by omega) (Ev.pos (by omega) (Ev.pos (by omega) ?_)))
  rw [he]
  refine Ev.bind (spec_parseNum _ _) ?_
  cases hv : parseNum (q[j]'(by omega)) 99 with
  | mk n b =>
    cases b
    · exact Ev.neg (by simp) (Ev.done (hb (by rw [hv])).symm)
    · refine Ev.pos rfl (Ev.pos (by omega) ?_)
      rw [w64 (n := (j : Int) + 1) (by omega) (by omega), cast_succ, Int.toNat_natCast]
      exact h n hv
theorem spec_PC_end (P : List ByteArray) (out : List Db) (i : Nat) (hi : i ≤ 1048576) (a b : ByteArray) (q : List ByteArray) (n0 n1 n2 n3 : Int) (ho : out.length ≤ 1048577) (r : List Db × Bool)
    (h : Ev (fun k => spec_ParseConf.l0 k P (out ++ [⟨a, n0, n1, n2, n3⟩]) ((i + 1 : Nat) : Int)) r) : Ev (fun k => spec_ParseConf.l1 k P out (i : Int) [a, b] q [n0, n1, n2, n3] ((4 : Nat) : Int)) r := by
  refine Ev.step (fun k => spec_ParseConf.l1.eq_2 _ _ _ _ _ _ _ k) (Ev.neg (by omega) (Ev.pos (by simp) (Ev.pos (by simp) (Ev.pos (by simp) (Ev.pos (by simp) (Ev.pos (by simp) (Ev.pos (by omega) ?_)))))))
  rw [w64 (n := (i : Int) + 1) (by omega) (by omega), cast_succ]
  exact h
theorem spec_PC_nums (P : List ByteArray) (out : List Db) (i : Nat) (hi : i ≤ 1048576) (a : List UInt8) (b : ByteArray) (Q : List (List UInt8)) (hQ : Q.length = 4) (ho : out.length ≤ 1048577) (r : List Db × Bool)
    (h : ∀ x, numsOf a Q = some x → Ev (fun k => spec_ParseConf.l0 k P (out ++ [x]) ((i + 1 : Nat) : Int)) r) (hb : numsOf a Q = none → r = ([], false)) :
    Ev (fun k => spec_ParseConf.l1 k P out (i : Int) [ba a, b] (Q.map ba) [0, 0, 0, 0] ((0 : Nat) : Int)) r := by
  rcases Q with _ | ⟨q0, _ | ⟨q1, _ | ⟨q2, _ | ⟨q3, _ | ⟨q4, qs⟩⟩⟩⟩⟩
  · simp at hQ
  · simp at hQ
  · simp at hQ
  · simp at hQ
  · have no : ∀ q : List UInt8, (parseNum (ba q) 99).2 = false → parsed q = none := fun q hq => by rw [parsed, if_neg (by rw [hq]; decide)]
    have yes : ∀ (q : List UInt8) (n : Int), parseNum (ba q) 99 = (n, true) → parsed q = some n := fun q n hq => by rw [parsed, hq, if_pos rfl]
    refine spec_PC_step P out i _ _ _ 0 (by omega) rfl rfl r (fun n0 p0 => ?_) (fun p0 => hb ?_)
    · refine spec_PC_step P out i _ _ _ 1 (by omega) rfl rfl r (fun n1 p1 => ?_) (fun p1 => hb ?_)
      · refine spec_PC_step P out i _ _ _ 2 (by omega) rfl rfl r (fun n2 p2 => ?_) (fun p2 => hb ?_)
        · refine spec_PC_step P out i _ _ _ 3 (by omega) rfl rfl r (fun n3 p3 => ?_) (fun p3 => hb ?_)
          · refine spec_PC_end P out i hi _ _ _ n0 n1 n2 n3 ho r (h _ ?_)
            rw [numsOf, yes _ _ p0, yes _ _ p1, yes _ _ p2, yes _ _ p3]
            rfl
          · rw [numsOf, yes _ _ p0, yes _ _ p1, yes _ _ p2, no _ p3]; rfl
        · rw [numsOf, yes _ _ p0, yes _ _ p1, no _ p2]; rfl
      · rw [numsOf, yes _ _ p0, no _ p1]; rfl
    · rw [numsOf, no _ p0]; rfl
  · simp at hQ
theorem spec_PC_item (P : List ByteArray) (out : List Db) (i : Nat) (hi : i < P.length) (hP : P.length ≤ 1048577) (piece : List UInt8) (hp : P[i] = ba piece) (hl : piece.length ≤ 1048576) (ho : out.length ≤ 1048577) (r : List Db × Bool)
    (h : ∀ x, itemOf piece = some x → Ev (fun k => spec_ParseConf.l0 k P (out ++ [x]) ((i + 1 : Nat) : Int)) r) (hb : itemOf piece = none → r = ([], false)) :
    Ev (fun k => spec_ParseConf.l0 k P out (i : Int)) r := by
  have he : rdOf ByteArray.empty P (i : Int) = ba piece := (getD_nat P _ hi).trans hp
  refine Ev.step (fun k => spec_ParseConf.l0.eq_2 _ _ _ k) (Ev.pos (by omega) (Ev.pos (by omega) ?_))
  rw [he]
  have e1 : Ev (fun k => spec_l3Split.f k (ba piece) 58) ((splitA 58 [] piece).map ba) := by
    have := spec_l3Split (ba piece) (by rw [ba_size]; exact hl) 58
    rw [ba_data] at this
    exact this
  refine Ev.bind e1 ?_
  obtain ⟨a, us, e, hj⟩ := splitA_back 58 piece []
  unfold itemOf at h hb
  rw [e] at h hb ⊢
  rcases us with _ | ⟨b, _ | ⟨c, cs⟩⟩
  · exact Ev.neg (by simp) (Ev.done (hb rfl).symm)
  · refine Ev.pos (by simp) (Ev.pos (by simp) ?_)
    have hlb : b.length ≤ 1048576 := by
      have := congrArg List.length hj
      simp [joinA] at this
      omega
    have e2 : Ev (fun k => spec_l3Split.f k (rdOf ByteArray.empty ([a, b].map ba) 1) 47) ((splitA 47 [] b).map ba) := by
      have := spec_l3Split (ba b) (by rw [ba_size]; exact hlb) 47
      rw [ba_data] at this
      exact this
    refine Ev.bind e2 ?_
    by_cases h4 : (splitA 47 [] b).length = 4
    · refine Ev.pos (by rw [List.length_map, h4]; rfl) ?_
      exact spec_PC_nums P out i (by omega) a (ba b) _ h4 ho r (fun x hx => h x hx) (fun hx => hb hx)
    · refine Ev.neg (by rw [List.length_map]; omega) (Ev.done (hb ?_).symm)
      rw [partsOf]
      match hq : splitA 47 [] b with
      | [] => rfl
      | [_] => rfl
      | [_, _] => rfl
      | [_, _, _] => rfl
      | [_, _, _, _] => rw [hq] at h4; simp at h4
      | _ :: _ :: _ :: _ :: _ :: _ => rfl
  · refine Ev.neg (by simp; omega) (Ev.done (hb rfl).symm)
theorem spec_PC_l0 (ps : List (List UInt8)) (hps : ps.length ≤ 1048577) (hsz : ∀ p ∈ ps, p.length ≤ 1048576) (d : Nat) : ∀ (i : Nat) (out : List Db), i + d = ps.length → out.length = i → (∀ x ∈ out, x.f0.size ≤ 9223372036854775807) →
    Ev (fun k => spec_ParseConf.l0 k (ps.map ba) out (i : Int)) (confFin ((itemsOf (ps.drop i)).map (out ++ ·))) := by
  induction d with
  | zero =>
    intro i out hi ho hg
    rw [List.drop_of_length_le (by omega), itemsOf]
    refine Ev.step (fun k => spec_ParseConf.l0.eq_2 _ _ _ k) (Ev.neg (by rw [List.length_map]; omega) (Ev.bind (spec_confOk out (by omega) hg) ?_))
    simp only [Option.map_some, confFin, List.append_nil]
    by_cases hc : confFrom out 0 out.length = true
    · exact Ev.pos hc (Ev.done (if_pos hc).symm)
    · exact Ev.neg hc (Ev.done (if_neg hc).symm)
  | succ d ih =>
    intro i out hi ho hg
    have hlt : i < ps.length := by omega
    rw [List.drop_eq_getElem_cons hlt, itemsOf]
    refine spec_PC_item (ps.map ba) out i (by simpa using hlt) (by simpa using hps) ps[i] (by simp) (hsz _ (List.getElem_mem _)) (by omega) _ (fun x hx => ?_) (fun hx => ?_)
    · have hxs : x.f0.size ≤ 9223372036854775807 := by
        have e := congrArg List.length (itemOf_back hx)
        have := hsz _ (List.getElem_mem hlt)
        rw [item_rest, List.length_append] at e
        have e0 : x.f0.data.toList.length = x.f0.size := rfl
        omega
      refine Ev.eq (ih (i + 1) (out ++ [x]) (by omega) (by simp [ho]) (fun y hy => ?_)) ?_
      · rcases List.mem_append.1 hy with hy | hy
        · exact hg y hy
        · rw [List.mem_singleton] at hy; rw [hy]; exact hxs
      · rw [hx]
        cases itemsOf (ps.drop (i + 1)) with
        | none => rfl
        | some xs => simp
    · rw [hx]; rfl
theorem pieces_length (c : UInt8) (s : List UInt8) : ∀ acc, (splitA c acc s).length ≤ s.length + 1 ∧ ∀ p ∈ splitA c acc s, p.length ≤ acc.length + s.length := by
  induction s with
  | nil => intro acc; simp [splitA]
  | cons x xs ih =>
    intro acc
    rw [splitA]
    split
    · obtain ⟨h1, h2⟩ := ih []
      refine ⟨by simp only [List.length_cons]; omega, fun p hp => ?_⟩
      rcases List.mem_cons.1 hp with rfl | hp
      · simp
      · have := h2 p hp
        simp only [List.length_cons, List.length_nil] at this ⊢
        omega
    · obtain ⟨h1, h2⟩ := ih (acc ++ [x])
      refine ⟨by simp only [List.length_cons]; omega, fun p hp => ?_⟩
      have := h2 p hp
      simp only [List.length_append, List.length_cons, List.length_nil] at this ⊢
      omega
theorem spec_parseConf (s : ByteArray) (hs : s.size ≤ 1048576) : Ev (fun k => spec_ParseConf.f k s) (parseConf s) := by
  unfold spec_ParseConf.f
  by_cases h : (s.size : Int) > 100
  · exact Ev.pos h (Ev.done (parseConf_long (by omega)).symm)
  · refine Ev.neg h ?_
    have e1 : Ev (fun k => spec_l3Split.f k s 59) ((splitA 59 [] s.data.toList).map ba) := spec_l3Split s hs 59
    have hL : s.data.toList.length = s.size := rfl
    obtain ⟨h1, h2⟩ := pieces_length 59 s.data.toList []
    refine Ev.bind e1 (Ev.eq (spec_PC_l0 _ (by omega) (fun p hp => by have := h2 p hp; simp only [List.length_nil] at this; omega) (splitA 59 [] s.data.toList).length 0 [] (by omega) rfl (fun x hx => by cases hx)) ?_)
    rw [parseConf, List.drop_zero]
    cases itemsOf (splitA 59 [] s.data.toList) <;> rfl
end Go.Proofs.YthkepmicdpgbbaaDoor.Fn

/- What the program's printed function that reads a configuration comes to: the reference's answer. -/
namespace Go.Proofs.YthkepmicdpgbbaaDoor.Fn
set_option linter.unusedVariables false
set_option linter.unusedSimpArgs false
open Go.RowKit Go.Proofs.YthkepmicdpgbbaaDoorW.PrintWords Go.Proofs.YthkepmicdpgbbaaDoor.P Go.Proofs.YthkepmicdpgbbaaDoor.Base

noncomputable def numAt (ws : List ByteArray) (j : Nat) : Int := if h : j < ws.length then (parseNum ws[j] 20).1 else 0
def wsOf (rest : ByteArray) : List ByteArray := Lib.splitB (⟨#[47]⟩ : ByteArray) 0 (min (4 : Int).toNat (rest.size + 1) - 1) rest
def upd (f : Nat → Int) (i : Nat) (v : Int) (j : Nat) : Int := if j = i then v else f j
noncomputable def implItem (p : ByteArray) : Db :=
  ⟨ba (Lib.cut p.data.toList [58]).1, numAt (wsOf (ba (Lib.cut p.data.toList [58]).2.1)) 0, numAt (wsOf (ba (Lib.cut p.data.toList [58]).2.1)) 1, numAt (wsOf (ba (Lib.cut p.data.toList [58]).2.1)) 2, numAt (wsOf (ba (Lib.cut p.data.toList [58]).2.1)) 3⟩
theorem splitB_sizes (sep : ByteArray) (save : Nat) : ∀ (k : Nat) (s : ByteArray), ∀ p ∈ Lib.splitB sep save k s, p.size ≤ s.size
  | 0, s, p, hp => by
    rw [Lib.splitB_zero, List.mem_singleton] at hp
    rw [hp]; exact Nat.le_refl _
  | k + 1, s, p, hp => by
    unfold Lib.splitB at hp
    split at hp
    · rw [List.mem_singleton] at hp
      rw [hp]; exact Nat.le_refl _
    · rcases List.mem_cons.1 hp with rfl | hp
      · rw [ByteArray.size_extract]; omega
      · have := splitB_sizes sep save k _ p hp
        rw [ByteArray.size_extract] at this
        omega
theorem impl_PC_l1 (s : ByteArray) (out : List Db) (a : ByteArray) (P : List ByteArray) (i : Nat) (hi : i ≤ 1048577) (ho : out.length ≤ 1048577) (ws : List ByteArray) (h4 : ws.length ≤ 4) (r : List Db × Bool) (d : Nat) : ∀ (j : Nat) (f : Nat → Int), j + d = ws.length →
    (∀ g : Nat → Int, (∀ m, g m = if j ≤ m ∧ m < ws.length then numAt ws m else f m) → Ev (fun k => impl_ParseConf.l0 k s (out ++ [⟨a, g 0, g 1, g 2, g 3⟩]) P (P.length : Int) ((i + 1 : Nat) : Int)) r) →
    Ev (fun k => impl_ParseConf.l1 k s out a P (P.length : Int) (i : Int) ws (ws.length : Int) (j : Int) (f 0) (f 1) (f 2) (f 3)) r := by
  induction d with
  | zero =>
    intro j f hj h
    refine Ev.step (fun k => impl_ParseConf.l1.eq_2 _ _ _ _ _ _ _ _ _ _ _ _ _ k) (Ev.neg (by omega) (Ev.pos (by omega) ?_))
    rw [w64 (n := (i : Int) + 1) (by omega) (by omega), cast_succ]
    exact h f (fun m => by rw [if_neg (by omega)])
  | succ d ih =>
    intro j f hj h
    have he : rdOf ByteArray.empty ws (j : Int) = ws[j]'(by omega) := getD_nat ws _ (by omega)
    have hv : numAt ws j = (parseNum (ws[j]'(by omega)) 20).1 := dif_pos (by omega)
    have key := ih (j + 1) (upd f j (numAt ws j)) (by omega) (fun g hg => h g (fun m => by
      rw [hg m]
      unfold upd
      by_cases e : m = j
      · subst e
        rw [if_neg (by omega), if_pos rfl, if_pos (by omega)]
      · rw [if_neg e]
        by_cases c : j + 1 ≤ m ∧ m < ws.length
        · rw [if_pos c, if_pos (by omega)]
        · rw [if_neg c, if_neg (by omega)]))
    rw [← cast_succ] at key
    refine Ev.step (fun k => impl_ParseConf.l1.eq_2 _ _ _ _ _ _ _ _ _ _ _ _ _ k) (Ev.pos (by omega) (Ev.pos (by omega) (Ev.pos (by omega) ?_)))
    rw [he]
    refine Ev.bind (impl_parseNum _ _) (Ev.pos (by omega) ?_)
    rw [← hv, w64 (n := (j : Int) + 1) (by omega) (by omega)]
    rcases (show j = 0 ∨ j = 1 ∨ j = 2 ∨ j = 3 by omega) with rfl | rfl | rfl | rfl
    · exact Ev.pos (by omega) key
    · exact Ev.neg (by omega) (Ev.pos (by omega) key)
    · exact Ev.neg (by omega) (Ev.neg (by omega) (Ev.pos (by omega) key))
    · exact Ev.neg (by omega) (Ev.neg (by omega) (Ev.neg (by omega) (Ev.pos (by omega) key)))
theorem cut_short (p : List UInt8) : (Lib.cut p [58]).1.length ≤ p.length ∧ (Lib.cut p [58]).2.1.length ≤ p.length := by
  unfold Lib.cut
  split
  · simp only [List.length_take, List.length_drop]; omega
  · simp
noncomputable def implFin (s : ByteArray) (out : List Db) : List Db × Bool := if s.toList = ([] : List UInt8) then ([], false) else if (confText out).toList = s.toList then (out, true) else ([], false)
theorem impl_PC_l0 (s : ByteArray) (P : List ByteArray) (hP : P.length ≤ 1048577) (hsz : ∀ p ∈ P, p.size ≤ 1048576) (d : Nat) : ∀ (i : Nat) (out : List Db), i + d = P.length → out.length = i → (∀ x ∈ out, x.f0.size ≤ 9223372036854775807) →
    Ev (fun k => impl_ParseConf.l0 k s out P (P.length : Int) (i : Int)) (implFin s (out ++ (P.drop i).map implItem)) := by
  induction d with
  | zero =>
    intro i out hi ho hg
    rw [List.drop_of_length_le (by omega), List.map_nil, List.append_nil]
    refine Ev.step (fun k => impl_ParseConf.l0.eq_2 _ _ _ _ _ k) (Ev.neg (by omega) ?_)
    by_cases h0 : s.toList = ([] : List UInt8)
    · exact Ev.pos h0 (Ev.done (if_pos h0).symm)
    · refine Ev.neg h0 (Ev.bind (impl_confText out (by omega) hg) ?_)
      by_cases h1 : (confText out).toList = s.toList
      · exact Ev.pos h1 (Ev.done ((if_neg h0).trans (if_pos h1)).symm)
      · exact Ev.neg h1 (Ev.done ((if_neg h0).trans (if_neg h1)).symm)
  | succ d ih =>
    intro i out hi ho hg
    have hlt : i < P.length := by omega
    have he : rdOf ByteArray.empty P (i : Int) = P[i] := getD_nat P _ hlt
    have hpz := hsz _ (List.getElem_mem hlt)
    have hL : (P[i]).data.toList.length = (P[i]).size := rfl
    obtain ⟨c1, c2⟩ := cut_short (P[i]).data.toList
    refine Ev.step (fun k => impl_ParseConf.l0.eq_2 _ _ _ _ _ k) (Ev.pos (by omega) (Ev.pos (by omega) (Ev.pos (by omega) ?_)))
    rw [he]
    refine Ev.then (a := (ba (Lib.cut (P[i]).data.toList [58]).1, ba (Lib.cut (P[i]).data.toList [58]).2.1, (Lib.cut (P[i]).data.toList [58]).2.2)) ?_ ?_
    · unfold strings_Cut.f
      rw [if_pos (by omega)]
      rfl
    have hws : (wsOf (ba (Lib.cut (P[i]).data.toList [58]).2.1)).length ≤ 4 := by
      have := Lib.splitB_length_le (⟨#[47]⟩ : ByteArray) 0 (min (4 : Int).toNat ((ba (Lib.cut (P[i]).data.toList [58]).2.1).size + 1) - 1) (ba (Lib.cut (P[i]).data.toList [58]).2.1)
      have h4 : (4 : Int).toNat = 4 := rfl
      unfold wsOf
      omega
    refine Ev.then (a := wsOf (ba (Lib.cut (P[i]).data.toList [58]).2.1)) ?_ ?_
    · unfold strings_SplitN.f
      rw [if_pos ⟨by show (ba _).size < _; rw [ba_size]; omega, by decide, by decide, by decide⟩]
      rfl
    refine impl_PC_l1 s out _ P i (by omega) (by omega) _ hws _ _ 0 (fun _ => 0) (Nat.zero_add _) (fun g hg' => ?_)
    have hn : ∀ m, g m = numAt (wsOf (ba (Lib.cut (P[i]).data.toList [58]).2.1)) m := by
      intro m
      rw [hg' m]
      by_cases c : 0 ≤ m ∧ m < (wsOf (ba (Lib.cut (P[i]).data.toList [58]).2.1)).length
      · rw [if_pos c]
      · rw [if_neg c, numAt, dif_neg (by omega)]
    rw [hn, hn, hn, hn]
    refine Ev.eq (ih (i + 1) _ (by omega) (by simp [ho]) (fun y hy => ?_)) ?_
    · rcases List.mem_append.1 hy with hy | hy
      · exact hg y hy
      · rw [List.mem_singleton] at hy
        rw [hy]
        show (ba _).size ≤ _
        rw [ba_size]; omega
    · rw [List.drop_eq_getElem_cons hlt, List.map_cons, List.append_assoc]
      rfl
/-! ### what was written is read again -/
theorem map_ba (ws : List ByteArray) : (ws.map (·.data.toList)).map ba = ws := by
  rw [List.map_map]
  refine (List.map_congr_left (g := id) fun x _ => ?_).trans (List.map_id _)
  exact (ba_of x).symm
theorem num_small {n : Int} (h0 : 0 ≤ n) (h1 : n ≤ 20) : (parseNum (ba (Lib.itoa n)) 20).1 = n := by
  obtain ⟨m, rfl⟩ := Int.eq_ofNat_of_zero_le h0
  rw [parse_num m 20 h1 (by omega)]
theorem implItem_item {x : Db} (h : dbOk x = true) (p : ByteArray) (hp : p.data.toList = itemL x) : implItem p = x := by
  obtain ⟨hn, h1, h2, h3, h4⟩ := dbOk_of h
  have e1 := itoa_two x.f1 (by omega) (by omega)
  have e2 := itoa_two x.f2 (by omega) (by omega)
  have e3 := itoa_two x.f3 (by omega) (by omega)
  have e4 := itoa_two x.f4 (by omega) (by omega)
  have hc : Lib.cut p.data.toList [58] = (x.f0.data.toList, restL x, true) := by
    rw [hp, item_rest, cut_join 58 _ _ (name_free h 58 (by decide))]
  have hlen : 7 ≤ (restL x).length := by
    simp only [restL, joinA, List.flatMap_cons, List.flatMap_nil, List.length_append, List.length_cons, List.append_nil]
    omega
  have hw : wsOf (ba (restL x)) = [ba (Lib.itoa x.f1), ba (Lib.itoa x.f2), ba (Lib.itoa x.f3), ba (Lib.itoa x.f4)] := by
    have hd := Lib.splitB_data (⟨#[47]⟩ : ByteArray) 0 (min (4 : Int).toNat ((ba (restL x)).size + 1) - 1) (ba (restL x))
    rw [ba_data, show (min (4 : Int).toNat ((ba (restL x)).size + 1) - 1) = [Lib.itoa x.f2, Lib.itoa x.f3, Lib.itoa x.f4].length by rw [ba_size]; have h4 : (4 : Int).toNat = 4 := rfl; simp only [List.length_cons, List.length_nil]; omega] at hd
    have hk : Lib.splitK [47] 0 [Lib.itoa x.f2, Lib.itoa x.f3, Lib.itoa x.f4].length (restL x) = [Lib.itoa x.f1, Lib.itoa x.f2, Lib.itoa x.f3, Lib.itoa x.f4] := by
      refine splitK_join 47 [Lib.itoa x.f2, Lib.itoa x.f3, Lib.itoa x.f4] _ (num_free _ (by omega) 47 (.inl (by decide))) ?_
      intro y hy
      simp only [List.mem_cons, List.not_mem_nil, or_false] at hy
      rcases hy with rfl | rfl | rfl
      · exact num_free _ (by omega) 47 (.inl (by decide))
      · exact num_free _ (by omega) 47 (.inl (by decide))
      · exact num_free _ (by omega) 47 (.inl (by decide))
    have hd' := hd.trans hk
    have e := congrArg (List.map ba) hd'
    rw [map_ba] at e
    unfold wsOf
    rw [show (min (4 : Int).toNat ((ba (restL x)).size + 1) - 1) = [Lib.itoa x.f2, Lib.itoa x.f3, Lib.itoa x.f4].length by rw [ba_size]; have h4 : (4 : Int).toNat = 4 := rfl; simp only [List.length_cons, List.length_nil]; omega]
    exact e
  unfold implItem
  rw [hc]
  simp only
  rw [hw]
  have n0 : numAt [ba (Lib.itoa x.f1), ba (Lib.itoa x.f2), ba (Lib.itoa x.f3), ba (Lib.itoa x.f4)] 0 = x.f1 := (dif_pos (by simp)).trans (num_small (n := x.f1) (by omega) (by omega))
  have n1 : numAt [ba (Lib.itoa x.f1), ba (Lib.itoa x.f2), ba (Lib.itoa x.f3), ba (Lib.itoa x.f4)] 1 = x.f2 := (dif_pos (by simp)).trans (num_small (n := x.f2) (by omega) (by omega))
  have n2 : numAt [ba (Lib.itoa x.f1), ba (Lib.itoa x.f2), ba (Lib.itoa x.f3), ba (Lib.itoa x.f4)] 2 = x.f3 := (dif_pos (by simp)).trans (num_small (n := x.f3) (by omega) (by omega))
  have n3 : numAt [ba (Lib.itoa x.f1), ba (Lib.itoa x.f2), ba (Lib.itoa x.f3), ba (Lib.itoa x.f4)] 3 = x.f4 := (dif_pos (by simp)).trans (num_small (n := x.f4) (by omega) (by omega))
  rw [n0, n1, n2, n3, ← ba_of]
def piecesOf (s : ByteArray) : List ByteArray := Lib.splitB (⟨#[59]⟩ : ByteArray) 0 (Lib.countB s (⟨#[59]⟩ : ByteArray)) s
theorem pieces_text {l : List Db} (h : confFrom l 0 l.length = true) : (piecesOf (confText l)).map implItem = l := by
  obtain ⟨x, xs, rfl, _, hall⟩ := conf_cons h
  have hf := item_free (hall x (List.mem_cons_self ..))
  have hfs : ∀ y ∈ xs.map itemL, (59 : UInt8) ∉ y := by
    intro y hy
    obtain ⟨z, hz, rfl⟩ := List.mem_map.1 hy
    exact item_free (hall z (List.mem_cons_of_mem _ hz))
  have hcnt : Lib.countB (confText (x :: xs)) (⟨#[59]⟩ : ByteArray) = (xs.map itemL).length := by
    show Lib.count (confText (x :: xs)).data.toList [59] = _
    rw [confText_join x xs h, ba_data, Lib.count_one, count_join 59 _ _ hf hfs]
  have hd := Lib.splitB_data (⟨#[59]⟩ : ByteArray) 0 (Lib.countB (confText (x :: xs)) (⟨#[59]⟩ : ByteArray)) (confText (x :: xs))
  have hk : (piecesOf (confText (x :: xs))).map (·.data.toList) = (x :: xs).map itemL := by
    refine hd.trans ?_
    rw [hcnt, show (⟨#[59]⟩ : ByteArray).data.toList = [59] from rfl]
    conv => lhs; rw [confText_join x xs h, ba_data]
    exact splitK_join 59 _ _ hf hfs
  have hlen : (piecesOf (confText (x :: xs))).length = (x :: xs).length := by
    have := congrArg List.length hk
    simpa using this
  apply List.ext_getElem
  · rw [List.length_map]; exact hlen
  · intro j h1 h2
    rw [List.getElem_map]
    refine implItem_item (hall _ (List.getElem_mem h2)) _ ?_
    have hj : j < (piecesOf (confText (x :: xs))).length := by rw [hlen]; exact h2
    have e := congrArg (fun L : List (List UInt8) => L[j]?) hk
    simp only [List.getElem?_map, List.getElem?_eq_getElem hj, List.getElem?_eq_getElem h2, Option.map_some, Option.some.injEq] at e
    exact e
theorem impl_parseConf (s : ByteArray) (hs : s.size ≤ 1048576) : Ev (fun k => impl_ParseConf.f k s) (parseConf s) := by
  unfold impl_ParseConf.f
  have hcl := Lib.countB_le (⟨#[59]⟩ : ByteArray) (by decide) s.size s (Nat.le_refl _)
  have hpl : (piecesOf s).length ≤ 1048577 := by
    have := Lib.splitB_all (⟨#[59]⟩ : ByteArray) (by decide) 0 _ s rfl
    unfold piecesOf
    omega
  refine Ev.then (a := piecesOf s) ?_ ?_
  · unfold strings_Split.f
    rw [if_pos ⟨by omega, by decide⟩]
    rfl
  refine Ev.eq (impl_PC_l0 s (piecesOf s) hpl (fun p hp => Nat.le_trans (splitB_sizes _ _ _ _ p hp) hs) (piecesOf s).length 0 [] (by omega) rfl (fun x hx => by cases hx)) ?_
  rw [List.drop_zero, List.nil_append]
  unfold implFin
  rcases parseConf_back s with h | ⟨l, hl, hc, rfl⟩
  · rw [h]
    split
    · rfl
    · rename_i h0
      split
      · rename_i h1
        have e := text_inj h1
        by_cases hc : confFrom ((piecesOf s).map implItem) 0 ((piecesOf s).map implItem).length = true
        · have := parseConf_text hc
          rw [e, h] at this
          exact absurd (congrArg Prod.snd this) (by simp)
        · exact absurd (by rw [← e, confText, if_neg hc]; exact text_nil.2 rfl) h0
      · rfl
  · rw [hl, pieces_text hc]
    have hsz := confText_size hc
    rw [if_neg (fun e => by rw [text_nil.1 e] at hsz; revert hsz; decide), if_pos rfl]
end Go.Proofs.YthkepmicdpgbbaaDoor.Fn

/- What the printed functions that draw come to: whatever they draw, it lies in its range. No memory is in sight here. -/
namespace Go.Proofs.YthkepmicdpgbbaaDoor.Fn
set_option linter.unusedVariables false
set_option linter.unusedSimpArgs false
open Go.RowKit Go.Proofs.YthkepmicdpgbbaaDoorW.PrintWords Go.Proofs.YthkepmicdpgbbaaDoor.P Go.Proofs.YthkepmicdpgbbaaDoor.Base

/-- A cursor over the bytes l, at place i. -/
def Cur (l : List Int) (i : Int) : Prop := 0 ≤ i ∧ i ≤ l.length ∧ l.length ≤ 140737488351232
theorem and_range (x : Int) (m : Nat) (hm : m < 2 ^ 63) : 0 ≤ Go.bits .and .i64 x m ∧ Go.bits .and .i64 x m ≤ m := by
  have hk : IntKind.i64.bits = 64 := rfl
  have hm' : m % 2 ^ IntKind.i64.bits = m := Nat.mod_eq_of_lt (by rw [hk]; omega)
  have hle : (BitVec.ofInt IntKind.i64.bits x).toNat &&& m ≤ m := Nat.and_le_right
  simp only [Go.bits, BitVec.ofInt_natCast, BitVec.toNat_and, BitVec.toNat_ofNat, hm']
  rw [wraps_i64 _ (by omega) (by omega)]
  omega
theorem and255 (x : Int) : 0 ≤ Go.bits .and .i64 x 255 ∧ Go.bits .and .i64 x 255 ≤ 255 := and_range x 255 (by decide)
theorem l1New_l0 (l : List Int) (hl : l.length ≤ 140737488351232) (d : Nat) : ∀ (i : Nat) (h : Int), i + d = l.length → ∃ h', Ev (fun k => spec_l1New.l0 k l h (i : Int)) (l, 0, h') := by
  induction d with
  | zero =>
    intro i h hi
    exact ⟨h, Ev.step (fun k => spec_l1New.l0.eq_2 _ _ _ k) (Ev.neg (by omega) (Ev.done rfl))⟩
  | succ d ih =>
    intro i h hi
    by_cases h4 : (i : Int) < 4000
    · obtain ⟨h', hh⟩ := ih (i + 1) (Go.bits .and .i64 (wrap64 ((wrap64 ((wrap64 (h * 137)) + (wrap64 (rd l i)))) + 11)) 1073741823) (by omega)
      refine ⟨h', Ev.step (fun k => spec_l1New.l0.eq_2 _ _ _ k) (Ev.pos (by omega) (Ev.pos h4 (Ev.pos (by omega) ?_)))⟩
      rw [w64 (n := (i : Int) + 1) (by omega) (by omega), cast_succ]
      exact hh
    · exact ⟨h, Ev.step (fun k => spec_l1New.l0.eq_2 _ _ _ k) (Ev.pos (by omega) (Ev.neg h4 (Ev.done rfl)))⟩
theorem l1New (l : List Int) (hl : l.length ≤ 140737488351232) : ∃ h, Ev (fun k => spec_l1New.f k l) (l, 0, h) := by
  unfold spec_l1New.f
  exact l1New_l0 l hl l.length 0 _ (by omega)
theorem Cur.zero {l : List Int} (hl : l.length ≤ 140737488351232) : Cur l 0 := ⟨by omega, by omega, hl⟩
theorem l1Byte {l : List Int} {i : Int} (hc : Cur l i) (h : Int) : ∃ r i' h', spec_l1Byte.f l i h = some (r, i', h') ∧ 0 ≤ r ∧ r ≤ 255 ∧ Cur l i' := by
  obtain ⟨h0, h1, h2⟩ := hc
  unfold spec_l1Byte.f
  by_cases hi : i < (l.length : Int)
  · rw [if_pos hi, if_pos h0, w64 (n := i + 1) (by omega) (by omega)]
    exact ⟨_, _, _, rfl, (and255 _).1, (and255 _).2, by omega, by omega, h2⟩
  · rw [if_neg hi]
    exact ⟨_, _, _, rfl, (and255 _).1, (and255 _).2, h0, h1, h2⟩
theorem tmod_range {x n : Int} (hx : 0 ≤ x) (hn : 0 < n) : 0 ≤ Int.tmod x n ∧ Int.tmod x n < n := by
  rw [Int.tmod_eq_emod_of_nonneg hx]
  exact ⟨Int.emod_nonneg _ (by omega), Int.emod_lt_of_pos _ hn⟩
theorem l1Below {l : List Int} {i : Int} (hc : Cur l i) (h n : Int) : ∃ r i' h', spec_l1Below.f l i h n = some (r, i', h') ∧ 0 ≤ r ∧ (0 < n → r < n) ∧ (n ≤ 0 → r = 0) ∧ Cur l i' := by
  unfold spec_l1Below.f
  by_cases h0 : n ≤ 0
  · rw [if_pos h0]; exact ⟨0, i, h, rfl, by omega, by omega, fun _ => rfl, hc⟩
  rw [if_neg h0]
  by_cases h1 : n ≤ 256
  · rw [if_pos h1]
    obtain ⟨r, i1, h1', e1, r0, r1, hc1⟩ := l1Byte hc h
    rw [e1]
    simp only [Option.bind_some]
    rw [if_neg (by omega)]
    have := tmod_range r0 (show 0 < n by omega)
    exact ⟨_, _, _, rfl, this.1, fun _ => this.2, by omega, hc1⟩
  · rw [if_neg h1]
    obtain ⟨x, i1, h1', e1, x0, x1, hc1⟩ := l1Byte hc h
    obtain ⟨y, i2, h2', e2, y0, y1, hc2⟩ := l1Byte hc1 h1'
    obtain ⟨z, i3, h3', e3, z0, z1, hc3⟩ := l1Byte hc2 h2'
    simp only [e1, e2, e3, Option.bind_some]
    rw [if_neg (by omega), w64 (n := x * 65536) (by omega) (by omega), w64 (n := y * 256) (by omega) (by omega), w64 (n := x * 65536 + y * 256) (by omega) (by omega), w64 (by omega) (by omega)]
    have := tmod_range (show 0 ≤ x * 65536 + y * 256 + z by omega) (show 0 < n by omega)
    exact ⟨_, _, _, rfl, this.1, fun _ => this.2, by omega, hc3⟩
theorem big (l : List Int) : laws_big.f l = some (decide ((l.length : Int) > 1048576)) := rfl
theorem xor_u8 {a b : Int} (ha : 0 ≤ a ∧ a ≤ 255) (hb : 0 ≤ b ∧ b ≤ 255) : Go.bits .xor .u8 a b = ((a.toNat ^^^ b.toNat : Nat) : Int) ∧ a.toNat ^^^ b.toNat < 256 := by
  obtain ⟨x, rfl⟩ := Int.eq_ofNat_of_zero_le ha.1
  obtain ⟨y, rfl⟩ := Int.eq_ofNat_of_zero_le hb.1
  have hk : IntKind.u8.bits = 8 := rfl
  have hx : x % 2 ^ IntKind.u8.bits = x := Nat.mod_eq_of_lt (by rw [hk]; omega)
  have hy : y % 2 ^ IntKind.u8.bits = y := Nat.mod_eq_of_lt (by rw [hk]; omega)
  have hc : x ^^^ y < 2 ^ 8 := Nat.xor_lt_two_pow (by omega) (by omega)
  refine ⟨?_, by simpa using hc⟩
  simp only [Go.bits, BitVec.ofInt_natCast, BitVec.toNat_xor, BitVec.toNat_ofNat, hx, hy, IntKind.wrap_u8, Int.toNat_natCast]
  omega
/-- A byte of b, if it has one, is turned. -/
def Turned (b x : List Int) : Prop := b = [] ∧ x = [] ∨ ∃ (i : Nat) (hi : i < b.length) (y : Int), x = b.set i y ∧ 0 ≤ y ∧ y ≤ 255 ∧ y ≠ b[i]
theorem Turned.bytes {b x : List Int} (h : Turned b x) (hb : Bytes b) : Bytes x := by
  rcases h with ⟨rfl, rfl⟩ | ⟨i, hi, y, rfl, h0, h1, _⟩
  · exact hb
  · intro z hz
    rcases List.mem_or_eq_of_mem_set hz with hz | rfl
    · exact hb z hz
    · exact ⟨h0, h1⟩
theorem Turned.length {b x : List Int} (h : Turned b x) : x.length = b.length := by
  rcases h with ⟨rfl, rfl⟩ | ⟨i, hi, y, rfl, _⟩
  · rfl
  · rw [List.length_set]
theorem l1Once {l : List Int} {i : Int} (hc : Cur l i) (h n : Int) : ∃ r i' h', spec_l1Once.f l i h n = some (r, i', h') ∧ Cur l i' := by
  unfold spec_l1Once.f
  obtain ⟨r, i1, h1, e1, _, _, _, hc1⟩ := l1Below hc h n
  rw [e1]
  exact ⟨_, _, _, rfl, hc1⟩
theorem l1Str {l : List Int} {i : Int} (hc : Cur l i) (h : Int) (L : List ByteArray) (h0 : L ≠ []) : ∃ r i' h', spec_l1Str.f l i h L = some (r, i', h') ∧ r ∈ L ∧ Cur l i' := by
  unfold spec_l1Str.f
  obtain ⟨r, i1, h1, e1, r0, r1, _, hc1⟩ := l1Below hc h L.length
  have hl : 0 < L.length := List.length_pos_iff.2 h0
  have hr := r1 (by omega)
  rw [e1]
  simp only [Option.bind_some]
  rw [if_pos r0, if_pos hr]
  refine ⟨_, _, _, rfl, ?_, hc1⟩
  unfold rdOf
  rw [List.getD_eq_getElem?_getD, List.getElem?_eq_getElem (by omega)]
  exact List.getElem_mem _
theorem l1Int {l : List Int} {i : Int} (hc : Cur l i) (h : Int) (L : List Int) (h0 : L ≠ []) : ∃ r i' h', spec_l1Int.f l i h L = some (r, i', h') ∧ Cur l i' := by
  unfold spec_l1Int.f
  obtain ⟨r, i1, h1, e1, r0, r1, _, hc1⟩ := l1Below hc h L.length
  have hl : 0 < L.length := List.length_pos_iff.2 h0
  have hr := r1 (by omega)
  rw [e1]
  simp only [Option.bind_some]
  rw [if_pos r0, if_pos hr]
  exact ⟨_, _, _, rfl, hc1⟩
end Go.Proofs.YthkepmicdpgbbaaDoor.Fn

/- What the printed functions that draw frames come to: bytes, and not many. -/
namespace Go.Proofs.YthkepmicdpgbbaaDoor.Fn
set_option linter.unusedVariables false
set_option linter.unusedSimpArgs false
open Go.RowKit Go.Proofs.YthkepmicdpgbbaaDoorW.PrintWords Go.Proofs.YthkepmicdpgbbaaDoor.P Go.Proofs.YthkepmicdpgbbaaDoor.Base

theorem l1Bend {l : List Int} {i : Int} (hc : Cur l i) (h : Int) (b : List Int) (hb : Bytes b) (hl : b.length ≤ 1048576) : ∃ r i' h', spec_l1Bend.f l i h b = some (r, i', h') ∧ Bytes r ∧ r.length ≤ b.length + 1 ∧ Cur l i' := by
  unfold spec_l1Bend.f
  obtain ⟨q, i1, h1, e1, q0, q1, _, hc1⟩ := l1Below hc h 8
  simp only [Option.bind_some, List.nil_append, List.length_nil]
  rw [if_pos (by omega), e1, Option.bind_some]
  dsimp only
  by_cases k0 : q = 0
  · rw [if_pos k0]
    by_cases hp : (b.length : Int) > 0
    · rw [if_pos hp]
      obtain ⟨r, i2, h2, e2, r0, r1, _, hc2⟩ := l1Below hc1 h1 b.length
      obtain ⟨z, i3, h3, e3, z0, z1, _, hc3⟩ := l1Below hc2 h2 255
      have hr := r1 hp
      have hz := z1 (by omega)
      rw [e2]
      simp only [Option.bind_some]
      rw [if_pos r0, if_pos hr, e3]
      simp only [Option.bind_some]
      refine ⟨_, _, _, rfl, ?_, by rw [List.length_set]; (try dsimp only); omega, hc3⟩
      intro x hx
      rcases List.mem_or_eq_of_mem_set hx with hx | rfl
      · exact hb x hx
      · rw [w64 (n := 1 + z) (by omega) (by omega)]
        obtain ⟨h1, h2⟩ := xor_u8 (rd_byte hb r) (show 0 ≤ (1 + z) % 256 ∧ (1 + z) % 256 ≤ 255 by omega)
        rw [h1]
        omega
    · rw [if_neg hp]
      exact ⟨_, _, _, rfl, hb, by omega, hc1⟩
  rw [if_neg k0]
  by_cases k1 : q = 1
  · rw [if_pos k1]
    by_cases hp : (b.length : Int) > 0
    · rw [if_pos hp]
      obtain ⟨r, i2, h2, e2, r0, r1, _, hc2⟩ := l1Below hc1 h1 b.length
      have hr := r1 hp
      rw [e2]
      simp only [Option.bind_some]
      rw [if_pos r0, if_pos (by omega)]
      exact ⟨_, _, _, rfl, hb.take _, by rw [List.length_take]; omega, hc2⟩
    · rw [if_neg hp]
      exact ⟨_, _, _, rfl, hb, by omega, hc1⟩
  rw [if_neg k1]
  by_cases k2 : q = 2
  · rw [if_pos k2]
    obtain ⟨r, i2, h2, e2, r0, r1, hc2⟩ := l1Byte hc1 h1
    rw [e2]
    simp only [Option.bind_some]
    rw [if_pos (by omega)]
    exact ⟨_, _, _, rfl, hb.append (Bytes.cons (by omega) Bytes.nil), by simp, hc2⟩
  · rw [if_neg k2]
    exact ⟨_, _, _, rfl, hb, by omega, hc1⟩
end Go.Proofs.YthkepmicdpgbbaaDoor.Fn

/- What the functions that draw configurations and records come to: whatever they draw is right. No memory is in sight here. -/
namespace Go.Proofs.YthkepmicdpgbbaaDoor.Fn
set_option linter.unusedVariables false
set_option linter.unusedSimpArgs false
open Go.RowKit Go.Proofs.YthkepmicdpgbbaaDoorW.PrintWords Go.Proofs.YthkepmicdpgbbaaDoor.P Go.Proofs.YthkepmicdpgbbaaDoor.Base

theorem l1IntM {l : List Int} {i : Int} (hc : Cur l i) (h : Int) (L : List Int) (h0 : L ≠ []) : ∃ r i' h', spec_l1Int.f l i h L = some (r, i', h') ∧ r ∈ L ∧ Cur l i' := by
  unfold spec_l1Int.f
  obtain ⟨r, i1, h1, e1, r0, r1, _, hc1⟩ := l1Below hc h L.length
  have hl : 0 < L.length := List.length_pos_iff.2 h0
  have hr := r1 (by omega)
  rw [e1]
  simp only [Option.bind_some]
  rw [if_pos r0, if_pos hr]
  refine ⟨_, _, _, rfl, ?_, hc1⟩
  unfold rd
  rw [List.getD_eq_getElem?_getD, List.getElem?_eq_getElem (by omega)]
  exact List.getElem_mem _
abbrev Apart (L : List Db) : Prop := L.Pairwise fun a b => a.f0.toList ≠ b.f0.toList
theorem noneAt_mk (l : List Db) (name : ByteArray) (e : Nat) : ∀ (j : Nat), (∀ q, j ≤ q → q < j + e → (rd_T55 l (q : Int)).f0.toList ≠ name.toList) → noneAt l name j e = true := by
  induction e with
  | zero => intro j _; rfl
  | succ e ih =>
    intro j hj
    unfold noneAt
    rw [ih (j + 1) (fun q h1 h2 => hj q (by omega) (by omega))]
    have := hj j (Nat.le_refl _) (by omega)
    simpa using this
theorem confFrom_mk (l : List Db) (h0 : 1 ≤ l.length ∧ l.length ≤ 3) (hok : ∀ x ∈ l, dbOk x = true) (hap : Apart l) (d : Nat) : ∀ (i : Nat), i + d = l.length → confFrom l i d = true := by
  induction d with
  | zero =>
    intro i hi
    unfold confFrom
    rw [decide_eq_true_eq]
    omega
  | succ d ih =>
    intro i hi
    have he : rd_T55 l (i : Int) = l[i] := getD_nat l _ (by omega)
    unfold confFrom
    rw [he, hok _ (List.getElem_mem _), ih (i + 1) (by omega), noneAt_mk l _ i 0 (fun q h1 h2 => ?_)]
    · rfl
    · have hq : rd_T55 l (q : Int) = l[q] := getD_nat l _ (by omega)
      rw [hq]
      exact (List.pairwise_iff_getElem.1 hap) q i (by omega) (by omega) (by omega)
theorem l3One {l : List Int} {i : Int} (hc : Cur l i) (h : Int) : ∃ (x : Db) (i' h' : Int), spec_l3One.f l i h = some (x.f0, x.f1, x.f2, x.f3, x.f4, i', h') ∧ dbOk x = true ∧ Cur l i' := by
  unfold spec_l3One.f
  obtain ⟨s, i1, h1, e1, hs, hc1⟩ := l1Str hc h [(⟨#[109, 97, 105, 110]⟩ : ByteArray), (⟨#[109, 97, 105, 110]⟩ : ByteArray), (⟨#[108, 111, 103, 115]⟩ : ByteArray), (⟨#[120]⟩ : ByteArray)] (by simp)
  obtain ⟨a, i2, h2, e2, a0, a1, _, hc2⟩ := l1Below hc1 h1 3
  obtain ⟨b, i3, h3, e3, b0, b1, _, hc3⟩ := l1Below hc2 h2 5
  obtain ⟨c, i4, h4, e4, c0, hc4⟩ := l1IntM hc3 h3 [1, 2, 5, 20] (by simp)
  obtain ⟨d, i5, h5, e5, d0, hc5⟩ := l1IntM hc4 h4 [1, 3, 20] (by simp)
  have a2 := a1 (by omega)
  have b2 := b1 (by omega)
  refine ⟨⟨s, 1 + a, b, c, d⟩, i5, h5, ?_, ?_, hc5⟩
  · simp only [e1, e2, e3, e4, e5, Option.bind_some, w64 (n := 1 + a) (by omega) (by omega)]
  · have hn : nameOk s = true := by
      rw [nameOk_iff]
      simp only [List.mem_cons, List.not_mem_nil, or_false] at hs
      rcases hs with rfl | rfl | rfl | rfl <;> decide
    simp only [List.mem_cons, List.not_mem_nil, or_false] at c0 d0
    unfold dbOk
    rw [hn]
    simp only [Bool.true_and, Bool.and_eq_true, decide_eq_true_eq]
    omega
theorem l3Draw_l0 {l : List Int} (d : Nat) : ∀ (i h : Int) (L : List Db), Cur l i → L.length + d ≤ 3 → (∀ x ∈ L, dbOk x = true) → Apart L → (L = [] → 1 ≤ d) →
    ∃ L' i' h', Ev (fun k => spec_l3Draw.l0 k L (d : Int) l i h) (L', i', h') ∧ (1 ≤ L'.length ∧ L'.length ≤ 3) ∧ (∀ x ∈ L', dbOk x = true) ∧ Apart L' ∧ Cur l i' := by
  induction d with
  | zero =>
    intro i h L hc hL hok hap h0
    refine ⟨L, i, h, Ev.step (fun k => spec_l3Draw.l0.eq_2 _ _ _ _ _ k) (Ev.neg (by omega) (Ev.done rfl)), ⟨?_, by omega⟩, hok, hap, hc⟩
    cases L with
    | nil => have := h0 rfl; omega
    | cons _ _ => simp
  | succ d ih =>
    intro i h L hc hL hok hap h0
    obtain ⟨x, i1, h1, e1, hx, hc1⟩ := l3One hc h
    have hw : wrap64 (((d + 1 : Nat) : Int) - 1) = (d : Int) := by rw [w64 (by omega) (by omega)]; omega
    cases hf : dbAt L x.f0 with
    | some y =>
      obtain ⟨L', i', h', e, r⟩ := ih i1 h1 L hc1 (by omega) hok hap (fun hn => by subst hn; simp [dbAt] at hf)
      refine ⟨L', i', h', Ev.step (fun k => spec_l3Draw.l0.eq_2 _ _ _ _ _ k) (Ev.pos (by omega) (Ev.then e1 (Ev.bind (spec_dbAt L x.f0 (by omega)) ?_))), r⟩
      rw [hf, hw]
      exact Ev.pos rfl e
    | none =>
      have hne : ∀ y ∈ L, y.f0.toList ≠ x.f0.toList := fun y hy => by
        have := List.find?_eq_none.1 hf y hy
        simpa using this
      obtain ⟨L', i', h', e, r⟩ := ih i1 h1 (L ++ [x]) hc1 (by simp; omega) (fun y hy => by
        rcases List.mem_append.1 hy with hy | hy
        · exact hok y hy
        · rw [List.mem_singleton.1 hy]; exact hx) (List.pairwise_append.2 ⟨hap, List.pairwise_singleton _ _, fun a ha b hb => by rw [List.mem_singleton.1 hb]; exact hne a ha⟩) (fun hn => by simp at hn)
      refine ⟨L', i', h', Ev.step (fun k => spec_l3Draw.l0.eq_2 _ _ _ _ _ k) (Ev.pos (by omega) (Ev.then e1 (Ev.bind (spec_dbAt L x.f0 (by omega)) ?_))), r⟩
      rw [hf, hw]
      exact Ev.neg (by decide) (Ev.pos (by omega) e)
theorem l3Draw {l : List Int} {i : Int} (hc : Cur l i) (h : Int) : ∃ L i' h', Ev (fun k => spec_l3Draw.f k l i h) (L, i', h') ∧ confFrom L 0 L.length = true ∧ (∀ x ∈ L, dbOk x = true) ∧ (1 ≤ L.length ∧ L.length ≤ 3) ∧ Cur l i' := by
  unfold spec_l3Draw.f
  obtain ⟨a, i1, h1, e1, a0, a1, _, hc1⟩ := l1Below hc h 3
  have a2 := a1 (by omega)
  obtain ⟨L, i', h', e, hl, hok, hap, hc'⟩ := l3Draw_l0 (1 + a).toNat i1 h1 [] hc1 (by simp; omega) (fun x hx => by cases hx) List.Pairwise.nil (fun _ => by omega)
  refine ⟨L, i', h', Ev.then e1 ?_, confFrom_mk L hl hok hap L.length 0 (by omega), hok, hl, hc'⟩
  rw [w64 (n := 1 + a) (by omega) (by omega)]
  rwa [Int.toNat_of_nonneg (by omega)] at e
theorem db_short {L : List Db} (hok : ∀ x ∈ L, dbOk x = true) : ∀ x ∈ L, x.f0.size ≤ 9223372036854775807 := fun x hx => by
  have := (dbOk_of (hok x hx)).1
  omega
theorem l3Text {l : List Int} {i : Int} (hc : Cur l i) (h : Int) : ∃ s i' h', Ev (fun k => spec_l3Text.f k l i h) (s, i', h') ∧ s.size ≤ 100 ∧ Cur l i' := by
  unfold spec_l3Text.f
  obtain ⟨o, i1, h1, e1, hc1⟩ := l1Once hc h 3
  cases o
  · obtain ⟨L, i2, h2, e2, hL, hok, hl, hc2⟩ := l3Draw hc1 h1
    exact ⟨_, i2, h2, Ev.then e1 (Ev.neg (by simp) (Ev.bind e2 (Ev.bind (spec_confText L (by omega) (db_short hok)) (Ev.done rfl)))), (confText_size hL).2, hc2⟩
  · obtain ⟨s, i2, h2, e2, hs, hc2⟩ := l1Str hc1 h1 [(⟨#[]⟩ : ByteArray), (⟨#[109, 97, 105, 110]⟩ : ByteArray), (⟨#[109, 97, 105, 110, 58, 49]⟩ : ByteArray), (⟨#[109, 97, 105, 110, 58, 49, 47, 50, 47, 51]⟩ : ByteArray), (⟨#[109, 97, 105, 110, 58, 48, 49, 47, 50, 47, 51, 47, 52]⟩ : ByteArray), (⟨#[109, 97, 105, 110, 58, 49, 47, 50, 47, 51, 47, 52, 59]⟩ : ByteArray), (⟨#[59, 109, 97, 105, 110, 58, 49, 47, 50, 47, 51, 47, 52]⟩ : ByteArray), (⟨#[109, 97, 105, 110, 58, 49, 47, 50, 47, 51, 47, 52, 59, 109, 97, 105, 110, 58, 49, 47, 49, 47, 49, 47, 49]⟩ : ByteArray), (⟨#[109, 97, 105, 110, 58, 49, 47, 50, 47, 51, 47, 52, 47, 53]⟩ : ByteArray), (⟨#[109, 97, 105, 110, 58, 52, 47, 50, 47, 51, 47, 52]⟩ : ByteArray), (⟨#[109, 97, 105, 110, 58, 49, 47, 53, 47, 51, 47, 52]⟩ : ByteArray), (⟨#[109, 97, 105, 110, 58, 49, 47, 50, 47, 48, 47, 52]⟩ : ByteArray), (⟨#[109, 97, 105, 110, 58, 49, 47, 50, 47, 51, 47, 49, 48, 48]⟩ : ByteArray), (⟨#[77, 97, 105, 110, 58, 49, 47, 50, 47, 51, 47, 52]⟩ : ByteArray), (⟨#[109, 97, 105, 110, 58, 49, 47, 50, 47, 51, 47, 52, 32]⟩ : ByteArray), (⟨#[58, 49, 47, 50, 47, 51, 47, 52]⟩ : ByteArray), (⟨#[97, 58, 49, 47, 48, 47, 49, 47, 49, 59, 98, 58, 49, 47, 48, 47, 49, 47, 49, 59, 99, 58, 49, 47, 48, 47, 49, 47, 49, 59, 100, 58, 49, 47, 48, 47, 49, 47, 49]⟩ : ByteArray), (⟨#[97, 58, 98, 58, 49, 47, 50, 47, 51, 47, 52]⟩ : ByteArray)] (by simp)
    refine ⟨s, i2, h2, Ev.then e1 (Ev.pos rfl (Ev.then e2 (Ev.done rfl))), ?_, hc2⟩
    simp only [List.mem_cons, List.not_mem_nil, or_false] at hs
    rcases hs with rfl | rfl | rfl | rfl | rfl | rfl | rfl | rfl | rfl | rfl | rfl | rfl | rfl | rfl | rfl | rfl | rfl | rfl <;> decide
end Go.Proofs.YthkepmicdpgbbaaDoor.Fn

/- What the printed functions that compare two configurations come to. -/
namespace Go.Proofs.YthkepmicdpgbbaaDoor.Fn
set_option linter.unusedVariables false
set_option linter.unusedSimpArgs false
open Go.RowKit Go.Proofs.YthkepmicdpgbbaaDoorW.PrintWords Go.Proofs.YthkepmicdpgbbaaDoor.P Go.Proofs.YthkepmicdpgbbaaDoor.Base

theorem neDb (x y : Db) : (!(x.f0.toList == y.f0.toList) || (!(x.f1 == y.f1) || (!(x.f2 == y.f2) || (!(x.f3 == y.f3) || (!(x.f4 == y.f4)))))) = !eqB x y := by
  by_cases h : x = y
  · subst h; simp [eqB_same]
  · rw [eqB_not h]
    simp only [Bool.or_eq_true, Bool.not_eq_true', beq_eq_false_iff_ne, Bool.not_false]
    by_cases h0 : x.f0.toList = y.f0.toList
    · by_cases h1 : x.f1 = y.f1
      · by_cases h2 : x.f2 = y.f2
        · by_cases h3 : x.f3 = y.f3
          · by_cases h4 : x.f4 = y.f4
            · exact absurd (db_eq (text_inj h0) h1 h2 h3 h4) h
            · simp [h4]
          · simp [h3]
        · simp [h2]
      · simp [h1]
    · simp [h0]
theorem spec_SameConf_l0 (l m : List Db) (hl : l.length ≤ 1048576) (hm : l.length = m.length) (d : Nat) : ∀ (i : Nat), i + d = l.length → Ev (fun k => spec_SameConf.l0 k l m (i : Int)) (eqB (l.drop i) (m.drop i)) := by
  induction d with
  | zero =>
    intro i hi
    refine Ev.step (fun k => spec_SameConf.l0.eq_2 _ _ _ k) (Ev.neg (by omega) (Ev.done ?_))
    rw [List.drop_of_length_le (by omega), List.drop_of_length_le (by omega), eqB_same]
  | succ d ih =>
    intro i hi
    refine Ev.step (fun k => spec_SameConf.l0.eq_2 _ _ _ k) (Ev.pos (by omega) (Ev.pos (by omega) (Ev.pos (by omega) ?_)))
    rw [drop_get l z55 (by omega), drop_get m z55 (by omega), w64 (n := (i : Int) + 1) (by omega) (by omega), cast_succ, eqB_cons, neDb]
    by_cases h : eqB (rd_T55 l (i : Int)) (rd_T55 m (i : Int)) = true
    · refine Ev.neg (by rw [h]; decide) (Ev.eq (ih (i + 1) (by omega)) ?_)
      unfold rd_T55 at h
      rw [h, Bool.true_and]
    · rw [Bool.not_eq_true] at h
      refine Ev.pos (by rw [h]; rfl) (Ev.done ?_)
      unfold rd_T55 at h
      rw [h, Bool.false_and]
theorem spec_sameConf (l m : List Db) (hl : l.length ≤ 1048576) : Ev (fun k => spec_SameConf.f k l m) (eqB l m) := by
  unfold spec_SameConf.f
  by_cases h : l.length = m.length
  · exact Ev.pos (by omega) (spec_SameConf_l0 l m hl h l.length 0 (by omega))
  · exact Ev.neg (by omega) (Ev.done (eqB_not (fun e => h (by rw [e]))).symm)
theorem impl_SameConf_l0 (l m : List Db) (hl : l.length ≤ 1048576) (hm : l.length = m.length) (d : Nat) : ∀ (i : Nat), i + d = l.length → Ev (fun k => impl_Db_75.l0 k l m (l.length : Int) (i : Int)) (eqB (l.drop i) (m.drop i)) := by
  induction d with
  | zero =>
    intro i hi
    refine Ev.step (fun k => impl_Db_75.l0.eq_2 _ _ _ _ k) (Ev.neg (by omega) (Ev.done ?_))
    rw [List.drop_of_length_le (by omega), List.drop_of_length_le (by omega), eqB_same]
  | succ d ih =>
    intro i hi
    refine Ev.step (fun k => impl_Db_75.l0.eq_2 _ _ _ _ k) (Ev.pos (by omega) (Ev.pos (by omega) (Ev.pos (by omega) (Ev.pos (by omega) ?_))))
    rw [drop_get l z55 (by omega), drop_get m z55 (by omega), w64 (n := (i : Int) + 1) (by omega) (by omega), cast_succ, eqB_cons, neDb]
    by_cases h : eqB (rd_T55 l (i : Int)) (rd_T55 m (i : Int)) = true
    · refine Ev.neg (by rw [h]; decide) (Ev.eq (ih (i + 1) (by omega)) ?_)
      unfold rd_T55 at h
      rw [h, Bool.true_and]
    · rw [Bool.not_eq_true] at h
      refine Ev.pos (by rw [h]; rfl) (Ev.done ?_)
      unfold rd_T55 at h
      rw [h, Bool.false_and]
theorem impl_sameConf (l m : List Db) (hl : l.length ≤ 1048576) : Ev (fun k => impl_SameConf.f k l m) (eqB l m) := by
  unfold impl_SameConf.f impl_Db_75.f
  refine Ev.bind (a := eqB l m) ?_ (Ev.done rfl)
  by_cases h : l.length = m.length
  · exact Ev.pos (by omega) (impl_SameConf_l0 l m hl h l.length 0 (by omega))
  · exact Ev.neg (by omega) (Ev.done (eqB_not (fun e => h (by rw [e]))).symm)
end Go.Proofs.YthkepmicdpgbbaaDoor.Fn
