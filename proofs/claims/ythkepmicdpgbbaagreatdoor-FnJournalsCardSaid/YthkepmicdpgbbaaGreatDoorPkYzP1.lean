/- Texts of this seat's claims, put together: Card, EvY0, Base, Crc, Bytes, Lists, Disk, DiskOk, TextOk, Sum, Word, ReadSec, DiskOps, DiskNew, Draw, DrawDisk, Conf, Frame, Dbs, NumText -/
import Derived.Test.YthkepmicdpgbbaaGreatDoorRows
import Derived.ChangeVars
import Derived.JoinedOf
import Derived.SizedLaws
import Derived.HandedShaped
import Derived.LaidLaws
import Derived.LaidHandle
import Derived.LaidSub
import Derived.MakeChecks
import Derived.Lay
import Derived.Lib.LaidTab
import Derived.WideShapes
import Derived.Laws.BitsLemmas
import Derived.Lib.ItoaLen
import Derived.Test.YthkepmicdpgbbaaGreatDoorPkYzB6
namespace Go.Proofs.YthkepmicdpgbbaaGreatDoor.Card
open Go
set_option linter.unusedVariables false
section
variable {H : Type} {enc : TypeId × Value → H}
theorem returns_both {a : Assume} {C : Checked} {os : Os} {f : FuncId} {fn : Func} {s : ChangeSpec} {conds : List PathCond} {apart fresh handsOn again : Bool} {X : World → Array Value → Prop}
  (hX : ∀ (w w' : World) (args : Array Value), w.heap = w'.heap → X w args → X w' args)
  (own : ownKnob C.prog.godebug = none) (started : os.Started) (noInit : C.prog.inits.idxOf? f = none) (hfn : C.prog.funcs[f]? = some fn)
  (witness : ∃ (w : World) (tape : Tape) (i : Input), w.os = os ∧ (w.forCall tape i).Shaped C.prog ∧ i.vars = [] ∧ Input.okWide C.prog (w.forCall tape i) .any w.heap.size f i ∧
   ((s.pre enc C.prog fn conds apart (w.forCall tape i).memory i.args ∧ X (w.forCall tape i).memory i.args) ∧ sizedMet enc C.prog fn (OpenSpec.ofChange s) apart (w.forCall tape i).memory i.args) ∧ a.holds C.prog (lone (Frame.enter C.prog f i.args .normal) [] (w.forCall tape i)))
  (contract : ∀ (W : World) (base : Nat) (args : Array Value) (ds gs : List (DataW H)) (before : List MemPlace),
   (∀ (j : Nat) t v, fn.params[j]? = some t → args[j]? = some v → Value.okWide C.prog W .any base t v) →
   DataW.Whole enc C.prog fn.params.toList s.vars apart W args.toList ds gs before →
   conds.all (PathCond.test C.prog ⟨fn.params.toList, ds, s.plain.varTypes C.prog, gs⟩) = true →
   (DataW.weightsEach C.prog (fn.params.toList ++ s.plain.varTypes C.prog) (ds ++ gs)).all (· ≤ reachBytes) = true → X W args → W.ShapedOpen C.prog →
   a.holds C.prog (lone (Frame.enter C.prog f args .normal) [] W) →
   Calls C.prog f args W fun e W' => ∃ v, e = .returned v ∧ s.post enc C.prog fn apart fresh handsOn again W args v W') :
  ReturnsInHanded a C os f .any (fun w args => (s.pre enc C.prog fn conds apart w args ∧ X w args) ∧ sizedMet enc C.prog fn (OpenSpec.ofChange s) apart w args) (s.post enc C.prog fn apart fresh handsOn again) := by
 refine returnsInHanded_of_calls own started noInit witness ?_
 intro w tape i _ hsh _ hok hpre hholds
 obtain ⟨_, _, _, fn', hfn', _, _, _, _, hval⟩ := hok
 have e : fn' = fn := Option.some.inj (hfn'.symm.trans hfn)
 subst e
 obtain ⟨⟨⟨ds, gs, before, hw, hc⟩, hx⟩, hz⟩ := hpre
 have hw' := DataW.Whole.of_heap (w' := w.forCall tape i) (by rfl) hw
 refine (contract (w.forCall tape i) w.heap.size i.args ds gs before hval hw' hc (hz.weights hw) (hX _ _ _ (by rfl) hx) hsh hholds).mono fun e W' ⟨v, he, hp⟩ => ?_
 subst he
 exact ChangeSpec.post_blind hp
end
theorem tabType : (Tryz.prog.globalNamed "internal/strconv.uint64pow10").bind (fun g => (Tryz.prog.globals[g]?).map (·.type)) = some 191 := by kernel_rfl
theorem tab_of_laid {l : List (String × DataW Unit)} {W : World} (h : laidMetH Tryz.prog l W) (hp : (l.all fun x => x.2.handleName?.isNone) = true)
  (hf : (l.filter fun x => x.1 == "internal/strconv.uint64pow10") = [("internal/strconv.uint64pow10", Lib.tabData .u64 Lib.pow10Tab)]) : Lib.TabIs Tryz.prog W "internal/strconv.uint64pow10" .u64 Lib.pow10Tab := by
 rw [MakeChecks.laidMetH_plain _ _ _ hp] at h
 have h2 := laidMet.filter (fun x => x.1 == "internal/strconv.uint64pow10") h
 rw [hf] at h2
 have hT := tabType
 cases hg : Tryz.prog.globalNamed "internal/strconv.uint64pow10" with
 | none => rw [hg] at hT; cases hT
 | some g =>
  rw [hg] at hT
  exact Lib.tabIs_of_head hg hT Tryz.underlying191 Tryz.underlying185 (by kernel_rfl) (by kernel_rfl) h2
theorem gw {l : List (String × DataW Unit)} {W : World} (h : laidMetH Tryz.prog l W) (hp : (l.all fun x => x.2.handleName?.isNone) = true)
  (hf : (l.filter fun x => x.1 == "internal/strconv.uint64pow10") = [("internal/strconv.uint64pow10", Lib.tabData .u64 Lib.pow10Tab)]) (hs : W.ShapedOpen Tryz.prog) : P.GW W :=
 ⟨tab_of_laid h hp hf, by
  obtain ⟨m, hm⟩ := Tryz.laysM145.s1_3 W hs
  exact ⟨m, 0, by kernel_rfl, hm, World.block_lt_of_cell? _ _ hm⟩⟩
end Go.Proofs.YthkepmicdpgbbaaGreatDoor.Card

namespace Go.Proofs.YthkepmicdpgbbaaGreatDoor.E
open Go Go.RowKit Go.Proofs.YthkepmicdpgbbaaGreatDoorW.PrintWords
set_option linter.unusedVariables false
set_option linter.unusedSimpArgs false
def G0 (w : World) : Gh := ⟨w.heap.size, fun _ => True, fun _ => none, fun _ => none, fun _ => True⟩
theorem G0_imm {w : World} (b : Nat) (hb : b < w.heap.size) : (G0 w).imm b := .inl ⟨hb, rfl, trivial⟩
theorem calls_of_spec {P : Program} {f : FuncId} {args : List PV} {r : Bool} (S : Spec P f args [] (.v (.b r)) []) {w : World} {vals : Array Value} (hgw : Go.Proofs.YthkepmicdpgbbaaGreatDoor.P.GW w) (ha : RepsL (G0 w) w args vals.toList) :
  Calls P f vals w fun e w' => e = .returned (.bool r) ∧ Below w.heap.size w w' := by
 have hi : Inv (G0 w) w := ⟨Nat.le_refl _, fun b id e => (by cases e), fun _ _ => trivial, ⟨w, hgw, Below.refl _ _, fun _ _ => rfl⟩⟩
 refine (S.2 (G0 w) w vals hi ha (fun id => ?_)).mono fun e w' hq => ?_
 ·simp only [nthB, RelB]
  exact ⟨rfl, fun b e => by cases e⟩
 ·obtain ⟨v, G', ids, rfl, X, hv, _⟩ := hq
  simp only [Reps, RepC] at hv
  subst hv
  exact ⟨rfl, X.os, X.tape, X.output, X.size, fun k hk => (X.nn k hk rfl).2⟩
theorem repC_of {α : Type} {d : Kd α} {f : α → List CV} {w : World} {I : Nat → Prop} (hI : ∀ b, b < w.heap.size → I b) (hs : ∀ x, (f x).length = d.sz) (h0 : 0 < d.sz) (hk : ∀ x cs, d.K w x cs → RepP I w (f x) cs) {A : Option Addr} {l : List α} {c : Nat}
  (h : d.C w A l.length l) (hc : l.length ≤ c) : RepC I w (.row (l.map f)) (.slice A l.length c) := by
 obtain ⟨_, hlen, hcell⟩ := h
 have hm : maxLen = 9223372036854775807 := by decide
 simp only [RepC, List.length_map]
 refine ⟨A, c, rfl, hc, by omega, ?_⟩
 by_cases hl : l = []
 ·exact .inl (by rw [hl]; rfl)
 refine .inr ?_
 have hpos := List.length_pos_iff.2 hl
 obtain ⟨ad, rfl, hc'⟩ := hcell hpos
 have hfirst : ∃ cs ty fr, w.heap[ad.block]? = some (.cells cs ty fr) ∧ ad.spot = none := by
  obtain ⟨cs, q1, q2, q3⟩ := hc' 0 _ (List.getElem?_eq_getElem hpos)
  have h1 : 0 < cs.length := by omega
  have h2 := q3 0 _ (List.getElem?_eq_getElem h1)
  rw [Nat.zero_mul] at h2
  have h3 : ad.add (0 + 0) = ad := by simp [Addr.add]
  rw [h3] at h2
  unfold World.cell? at h2
  split at h2
  ·rename_i cs ty fr hh
   refine ⟨cs, ty, fr, hh, ?_⟩
   split at h2
   ·cases h2
   ·rename_i hsp
    cases hq : ad.spot with
    | none => rfl
    | some _ => rw [hq] at hsp; exact absurd rfl hsp
  ·cases h2
 obtain ⟨cs, ty, fr, hh, hsp⟩ := hfirst
 obtain ⟨b, o, sp⟩ := ad
 obtain rfl : sp = none := hsp
 have hh : w.heap[b]? = some (.cells cs ty fr) := hh
 refine ⟨b, o, d.sz, cs, ty, fr, rfl, hI b (Array.getElem?_eq_some_iff.1 hh).1, hh, h0, RepE.mk fun e el he => ?_⟩
 rw [List.getElem?_map] at he
 obtain ⟨p, hp, rfl⟩ := Option.map_eq_some_iff.1 he
 refine ⟨hs p, ?_⟩
 obtain ⟨c0, q1, q2, q3⟩ := hc' e p hp
 have e1 : ((cs.toList.drop o).drop (e * d.sz)).take d.sz = c0 := by
  apply List.ext_getElem?
  intro i
  rw [List.getElem?_take]
  split
  ·rename_i hi
   have h2 := q3 i _ (List.getElem?_eq_getElem (by omega))
   rw [Addr.add_lit] at h2
   have h3 : cs[o + (e * d.sz + i)]? = some c0[i] := by simpa [World.cell?, hh] using h2
   rw [List.getElem?_eq_getElem (show i < c0.length by omega), ← h3, List.getElem?_drop, List.getElem?_drop]
   simp [Nat.add_assoc]
  ·rw [List.getElem?_eq_none (by omega)]
 exact RepP.of_take d.sz (by rw [e1]; exact hk p c0 q2)
section
variable {w : World} {I : Nat → Prop}
theorem hk_int {k : IntKind} (x : Int) (cs : List Value) (h : (Kd.int k).K w x cs) : RepP I w [.i k x] cs := by
 obtain rfl : cs = [Value.int k x] := h
 simp only [RepP, RepC]
 exact ⟨_, _, rfl, rfl, trivial⟩
theorem hk_row {α : Type} {d : Kd α} {f : α → List CV} {e : Nat} (hI : ∀ b, b < w.heap.size → I b) (hs : ∀ x, (f x).length = d.sz) (h0 : 0 < d.sz) (hk : ∀ x cs, d.K w x cs → RepP I w (f x) cs) (x : List α) (cs : List Value) (h : (Kd.slice e d).K w x cs) : RepP I w [.row (x.map f)] cs := by
 obtain ⟨A, c, rfl, hl, hC⟩ := h
 simp only [RepP]
 exact ⟨_, _, rfl, repC_of hI hs h0 hk hC hl, trivial⟩
theorem hk_pair {α β : Type} {a : Kd α} {b : Kd β} {fa : α → List CV} {fb : β → List CV} (la : ∀ x, (fa x).length = a.sz) (ha : ∀ x cs, a.K w x cs → RepP I w (fa x) cs) (hb : ∀ x cs, b.K w x cs → RepP I w (fb x) cs) (x : α × β) (cs : List Value) (h : (Kd.pair a b).K w x cs) :
  RepP I w (fa x.1 ++ fb x.2) cs := by
 obtain ⟨c0, c1, rfl, h0, h1⟩ := h
 exact RepP.append (ha _ _ h0) (by rw [a.K_len h0, la]) (hb _ _ h1)
end
end Go.Proofs.YthkepmicdpgbbaaGreatDoor.E

namespace Go.Proofs.YthkepmicdpgbbaaGreatDoor.Base
set_option linter.unusedVariables false
set_option linter.unusedSimpArgs false
open Go.RowKit Go.Proofs.YthkepmicdpgbbaaGreatDoorW.PrintWords
section
variable {α β : Type} {c : Prop} [Decidable c] {f g : Nat → Option α} {r : α}
theorem Ev.pos (h : c) (k : Ev f r) : Ev (fun n => if c then f n else g n) r := by
 obtain ⟨K, hK⟩ := k
 exact ⟨K, fun n hn => (if_pos h).trans (hK n hn)⟩
theorem Ev.neg (h : ¬ c) (k : Ev g r) : Ev (fun n => if c then f n else g n) r := by
 obtain ⟨K, hK⟩ := k
 exact ⟨K, fun n hn => (if_neg h).trans (hK n hn)⟩
theorem Ev.const {x : Option α} (h : x = some r) : Ev (fun _ => x) r := ⟨0, fun _ _ => h⟩
theorem Ev.done {a : α} (h : a = r) : Ev (fun _ => some a) r := ⟨0, fun _ _ => by rw [h]⟩
theorem Ev.then {x : Option β} {a : β} {h : Nat → β → Option α} (e : x = some a) (k : Ev (fun n => h n a) r) : Ev (fun n => x.bind (h n)) r := by
 subst e
 exact k
theorem Ev.uniq {a b : α} (h : Ev f a) (k : Ev f b) : a = b := by
 obtain ⟨K, hK⟩ := h
 obtain ⟨J, hJ⟩ := k
 have e := (hK (max K J) (Nat.le_max_left _ _)).symm.trans (hJ (max K J) (Nat.le_max_right _ _))
 exact Option.some.inj e
theorem Ev.all {k : Nat} (h : Ev f r) : ∃ n, k ≤ n ∧ f n = some r := by
 obtain ⟨K, hK⟩ := h
 exact ⟨max K k, Nat.le_max_right _ _, hK _ (Nat.le_max_left _ _)⟩
theorem Ev.eq {r' : α} (h : Ev f r) (e : r = r') : Ev f r' := e ▸ h
end
theorem w64 {n : Int} (h : -9223372036854775808 ≤ n) (h' : n ≤ 9223372036854775807) : wrap64 n = n := by unfold wrap64; omega
theorem wf_u8 {x : Int} (h : (Lit.int .u8 x).wf = true) : 0 ≤ x ∧ x ≤ 255 := by
 simpa [Lit.wf, IntKind.min, IntKind.max, IntKind.bits, IntKind.signed] using h
def Bytes (l : List Int) : Prop := ∀ x ∈ l, 0 ≤ x ∧ x ≤ 255
theorem Bytes.of_wf {l : List Int} (h : ∀ x ∈ l, (Lit.int .u8 x).wf = true) : Bytes l := fun x hx => wf_u8 (h x hx)
theorem Bytes.nil : Bytes [] := fun _ h => by cases h
theorem Bytes.append {l m : List Int} (h : Bytes l) (k : Bytes m) : Bytes (l ++ m) := fun x hx => (List.mem_append.1 hx).elim (h x) (k x)
theorem Bytes.cons {a : Int} {l : List Int} (ha : 0 ≤ a ∧ a ≤ 255) (h : Bytes l) : Bytes (a :: l) := fun x hx => (List.mem_cons.1 hx).elim (fun e => e ▸ ha) (h x)
theorem Bytes.take {l : List Int} (h : Bytes l) (n : Nat) : Bytes (l.take n) := fun x hx => h x (List.mem_of_mem_take hx)
theorem Bytes.drop {l : List Int} (h : Bytes l) (n : Nat) : Bytes (l.drop n) := fun x hx => h x (List.mem_of_mem_drop hx)
theorem rd_byte {l : List Int} (h : Bytes l) (i : Int) : 0 ≤ rd l i ∧ rd l i ≤ 255 := by
 unfold rd
 rw [List.getD_eq_getElem?_getD]
 by_cases hi : i.toNat < l.length
 ·rw [List.getElem?_eq_getElem hi]
  exact h _ (List.getElem_mem hi)
 ·rw [List.getElem?_eq_none (by omega)]
  exact ⟨by decide, by decide⟩
theorem w64_byte {l : List Int} (h : Bytes l) (i : Int) : wrap64 (rd l i) = rd l i := by
 obtain ⟨a, b⟩ := rd_byte h i
 exact w64 (by omega) (by omega)
theorem bt_byte (s : ByteArray) (i : Int) : 0 ≤ bt s i ∧ bt s i ≤ 255 := by
 unfold bt
 split
 ·rename_i h
  have := (s[i.toNat]'h).toNat_lt
  omega
 ·exact ⟨by decide, by decide⟩
noncomputable def eqB {α : Type} (x y : α) : Bool := @decide (x = y) (Classical.propDecidable _)
theorem eqB_iff {α : Type} {x y : α} : eqB x y = true ↔ x = y := by unfold eqB; simp
theorem eqB_same {α : Type} (x : α) : eqB x x = true := eqB_iff.2 rfl
theorem eqB_not {α : Type} {x y : α} (h : x ≠ y) : eqB x y = false := by rw [← Bool.not_eq_true, eqB_iff]; exact h
theorem text_inj {s t : ByteArray} (h : s.toList = t.toList) : s = t := by
 rw [ByteArray.toList_eq, ByteArray.toList_eq] at h
 exact WideShapes.bytes_inj h
theorem text_nil {s : ByteArray} : s.toList = [] ↔ s = ⟨#[]⟩ := ⟨fun h => text_inj (h.trans (by rw [ByteArray.toList_eq])), fun h => by rw [h, ByteArray.toList_eq]⟩
theorem cast_succ (i : Nat) : ((i : Int) + 1) = ((i + 1 : Nat) : Int) := rfl
theorem set_take {α : Type} {o t : List α} {i : Nat} {x : α} (ho : o.length = t.length) (hi : i < t.length) (ht : o.take i = t.take i) (hx : x = t[i]) : (o.set i x).take (i + 1) = t.take (i + 1) := by
 rw [List.take_succ_eq_append_getElem (by rw [List.length_set]; omega), List.take_succ_eq_append_getElem hi, List.getElem_set_self, hx, List.take_set_of_le (Nat.le_refl i), ht]
theorem take_all {α : Type} {o t : List α} {i : Nat} (ho : o.length = t.length) (hi : i = t.length) (ht : o.take i = t.take i) : o = t := by
 rw [List.take_of_length_le (by omega), List.take_of_length_le (by omega)] at ht
 exact ht
theorem getD_nat {α : Type} (l : List α) (d : α) {i : Nat} (h : i < l.length) : l.getD ((i : Int)).toNat d = l[i] := by
 rw [Int.toNat_natCast, List.getD_eq_getElem?_getD, List.getElem?_eq_getElem h]; rfl
theorem rd_getElem {l : List Int} {i : Nat} (h : i < l.length) : rd l (i : Int) = l[i] := getD_nat l 0 h
theorem drop_rd {l : List Int} {i : Nat} (h : i < l.length) : l.drop i = rd l (i : Int) :: l.drop (i + 1) := by
 rw [rd_getElem h]; exact List.drop_eq_getElem_cons h
theorem size_append (s t : ByteArray) : (s ++ t).size = s.size + t.size := by simp
theorem size_strOfNums (l : List Int) : (strOfNums l).size = l.length := by
 unfold strOfNums
 rw [ByteArray.size]
 simp
theorem bytesOf_strOfNums {l : List Int} (h : Bytes l) : bytesOf (strOfNums l) = l := by
 unfold bytesOf strOfNums
 simp only [List.map_map]
 refine (List.map_congr_left (g := id) fun x hx => ?_).trans (List.map_id _)
 have := h x hx
 simp only [Function.comp_apply, id_eq, UInt8.toNat_ofNat']
 omega
theorem strOfNums_inj {l m : List Int} (hl : Bytes l) (hm : Bytes m) : (strOfNums l).toList = (strOfNums m).toList ↔ l = m :=
 ⟨fun h => by rw [← bytesOf_strOfNums hl, ← bytesOf_strOfNums hm, text_inj h], fun h => by rw [h]⟩
theorem bytesOf_bytes (s : ByteArray) : Bytes (bytesOf s) := by
 intro x hx
 unfold bytesOf at hx
 obtain ⟨b, _, rfl⟩ := List.mem_map.1 hx
 have := b.toNat_lt
 omega
end Go.Proofs.YthkepmicdpgbbaaGreatDoor.Base

namespace Go.Proofs.YthkepmicdpgbbaaGreatDoor.Crc
set_option linter.unusedVariables false
set_option linter.unusedSimpArgs false
def bit (s : Nat) : Nat := if 2 * s > 65535 then (2 * s) ^^^ 69665 else 2 * s
def bits (s : Nat) : Nat → Nat
 | 0 => s
 | k + 1 => bits (bit s) k
@[irreducible] def byte (s x : Nat) : Nat := bits (s ^^^ (256 * x)) 8
def sum : Nat → List Int → Nat
 | s, [] => s
 | s, x :: xs => sum (byte s x.toNat) xs
theorem xor_cancel {a b c : Nat} (h : a ^^^ b = a ^^^ c) : b = c := by
 have := congrArg (a ^^^ ·) h
 simpa [← Nat.xor_assoc] using this
theorem xor_cancel' {a b c : Nat} (h : b ^^^ a = c ^^^ a) : b = c := by
 rw [Nat.xor_comm b, Nat.xor_comm c] at h
 exact xor_cancel h
theorem sum_cons (s : Nat) (x : Int) (xs : List Int) : sum s (x :: xs) = sum (byte s x.toNat) xs := by rw [sum]
theorem bit_lt {s : Nat} (h : s < 65536) : bit s < 65536 := by
 unfold bit
 split
 ·have e : ((2 * s) ^^^ 69665) / 2 ^ 16 = (2 * s) / 2 ^ 16 ^^^ 69665 / 2 ^ 16 := Nat.xor_div_two_pow
  have e1 : (2 * s) / 2 ^ 16 = 1 := by omega
  rw [e1] at e
  have e2 : (1 : Nat) ^^^ 69665 / 2 ^ 16 = 0 := by decide
  rw [e2] at e
  omega
 ·omega
theorem bit_mod (s : Nat) : bit s % 2 = if 2 * s > 65535 then 1 else 0 := by
 unfold bit
 split
 ·have e : ((2 * s) ^^^ 69665) % 2 ^ 1 = (2 * s) % 2 ^ 1 ^^^ 69665 % 2 ^ 1 := Nat.xor_mod_two_pow
  have e1 : (2 * s) % 2 ^ 1 = 0 := by omega
  rw [e1] at e
  have e2 : (0 : Nat) ^^^ 69665 % 2 ^ 1 = 1 := by decide
  rw [e2] at e
  omega
 ·omega
theorem bit_inj {s t : Nat} (h : bit s = bit t) : s = t := by
 have hm := congrArg (· % 2) h
 simp only [bit_mod] at hm
 unfold bit at h
 by_cases hs : 2 * s > 65535
 ·by_cases ht : 2 * t > 65535
  ·rw [if_pos hs, if_pos ht] at h
   have := xor_cancel' h
   omega
  ·rw [if_pos hs, if_neg ht] at hm
   omega
 ·by_cases ht : 2 * t > 65535
  ·rw [if_neg hs, if_pos ht] at hm
   omega
  ·rw [if_neg hs, if_neg ht] at h
   omega
theorem bits_lt {s : Nat} (h : s < 65536) (k : Nat) : bits s k < 65536 := by
 induction k generalizing s with
 | zero => exact h
 | succ k ih => exact ih (bit_lt h)
theorem bits_inj {s t : Nat} (k : Nat) (h : bits s k = bits t k) : s = t := by
 induction k generalizing s t with
 | zero => exact h
 | succ k ih => exact bit_inj (ih h)
theorem byte_def (s x : Nat) : bits (s ^^^ (256 * x)) 8 = byte s x := by unfold byte; rfl
theorem byte_lt {s x : Nat} (h : s < 65536) (hx : x ≤ 255) : byte s x < 65536 := by
 unfold byte
 have h2 : s ^^^ (256 * x) < 65536 := Nat.xor_lt_two_pow (n := 16) h (by omega)
 generalize s ^^^ (256 * x) = y at h2
 exact bits_lt h2 _
theorem byte_inj_left {s t x : Nat} (h : byte s x = byte t x) : s = t := by
 unfold byte at h
 generalize 8 = k at h
 exact xor_cancel' (bits_inj k h)
theorem byte_inj_right {s x y : Nat} (h : byte s x = byte s y) : x = y := by
 unfold byte at h
 generalize 8 = k at h
 have := xor_cancel (bits_inj k h)
 omega
theorem sum_inj (l : List Int) {s t : Nat} (h : sum s l = sum t l) : s = t := by
 induction l generalizing s t with
 | nil => exact h
 | cons x xs ih =>
  rw [sum_cons, sum_cons] at h
  exact byte_inj_left (ih h)
theorem sum_set (l : List Int) (s : Nat) (i : Nat) (hi : i < l.length) (y : Int) (hy : 0 ≤ y) (hx : 0 ≤ l[i]) (hne : y ≠ l[i]) : sum s (l.set i y) ≠ sum s l := by
 induction l generalizing s i with
 | nil => simp at hi
 | cons a as__ ih =>
  cases i with
  | zero =>
   intro h
   rw [List.set_cons_zero, sum_cons, sum_cons] at h
   have h2 := byte_inj_right (sum_inj as__ h)
   simp only [List.getElem_cons_zero] at hx hne
   omega
  | succ i =>
   simp only [List.getElem_cons_succ] at hx hne
   rw [List.set_cons_succ, sum_cons, sum_cons]
   exact ih (byte s a.toNat) i (by simpa using hi) hx hne
end Go.Proofs.YthkepmicdpgbbaaGreatDoor.Crc

namespace Go.Proofs.YthkepmicdpgbbaaGreatDoor.Fn
set_option linter.unusedVariables false
set_option linter.unusedSimpArgs false
open Go.RowKit Go.Proofs.YthkepmicdpgbbaaGreatDoorW.PrintWords Go.Proofs.YthkepmicdpgbbaaGreatDoor.P Go.Proofs.YthkepmicdpgbbaaGreatDoor.Base
theorem toByteS_l0 (l : List Int) (hl : l.length ≤ 140737488351232) (d : Nat) : ∀ (i : Nat) (o : List Int), i + d = l.length → o.length = l.length → o.take i = l.take i → Ev (fun k => laws_toByteS.l0 k l o (i : Int)) l := by
 induction d with
 | zero =>
  intro i o hi ho ht
  refine Ev.step (fun k => laws_toByteS.l0.eq_2 _ _ _ k) (Ev.neg (by omega) (Ev.done ?_))
  exact take_all ho (by omega) ht
 | succ d ih =>
  intro i o hi ho ht
  refine Ev.step (fun k => laws_toByteS.l0.eq_2 _ _ _ k) (Ev.pos (by omega) (Ev.pos (by omega) (Ev.pos (by omega) ?_)))
  rw [w64 (by omega) (by omega), cast_succ, Int.toNat_natCast]
  exact ih (i + 1) _ (by omega) (by rw [List.length_set]; exact ho) (set_take ho (by omega) ht (rd_getElem (by omega)))
theorem toByteS (l : List Int) (hl : l.length ≤ 140737488351232) : Ev (fun k => laws_toByteS.f k l) l := by
 unfold laws_toByteS.f
 refine Ev.pos (by omega) (Ev.pos (by omega) ?_)
 rw [Int.toNat_natCast]
 exact toByteS_l0 l hl l.length 0 _ (by omega) (by simp) (by simp)
theorem eqByteS_l0 (l m : List Int) (hl : l.length ≤ 140737488351232) (hm : l.length = m.length) (d : Nat) : ∀ (i : Nat), i + d = l.length → Ev (fun k => laws_eqByteS.l0 k l m (i : Int)) (decide (l.drop i = m.drop i)) := by
 induction d with
 | zero =>
  intro i hi
  refine Ev.step (fun k => laws_eqByteS.l0.eq_2 _ _ _ k) (Ev.neg (by omega) (Ev.done ?_))
  rw [List.drop_of_length_le (by omega), List.drop_of_length_le (by omega)]; simp
 | succ d ih =>
  intro i hi
  refine Ev.step (fun k => laws_eqByteS.l0.eq_2 _ _ _ k) (Ev.pos (by omega) (Ev.pos (by omega) (Ev.pos (by omega) ?_)))
  rw [drop_rd (by omega), drop_rd (l := m) (by omega), w64 (by omega) (by omega), cast_succ]
  by_cases h : rd l (i : Int) = rd m (i : Int)
  ·refine Ev.pos h (Ev.eq (ih (i + 1) (by omega)) ?_)
   simp [h]
  ·exact Ev.neg h (Ev.done (by simp [h]))
theorem eqByteS (l m : List Int) (hl : l.length ≤ 140737488351232) : Ev (fun k => laws_eqByteS.f k l m) (decide (l = m)) := by
 unfold laws_eqByteS.f
 by_cases h : l.length = m.length
 ·exact Ev.pos (by omega) (eqByteS_l0 l m hl h l.length 0 (by omega))
 ·exact Ev.neg (by omega) (Ev.done (by simp; intro e; exact h (by rw [e])))
def markB (k : Int) : Nat → List Int
 | 0 => []
 | n + 1 => k % 256 :: markB (k + 1) n
theorem markB_length (k : Int) (n : Nat) : (markB k n).length = n := by
 induction n generalizing k with
 | zero => rfl
 | succ n ih => simp [markB, ih]
theorem markB_get (k : Int) (n i : Nat) (h : i < n) : (markB k n)[i]'(by rw [markB_length]; exact h) = (k + i) % 256 := by
 induction n generalizing k i with
 | zero => omega
 | succ n ih =>
  cases i with
  | zero => simp [markB]
  | succ i =>
   simp only [markB, List.getElem_cons_succ]
   rw [ih (k + 1) i (by omega)]
   congr 1
   omega
theorem markByteS_l0 (n : Nat) (c : Int) (hc : 0 ≤ c) (hn : c + n ≤ 9223372036854775807) (d : Nat) : ∀ (i : Nat) (o : List Int), i + d = n → o.length = n → o.take i = (markB c n).take i → Ev (fun k => laws_markByteS.l0 k o (c + i) (i : Int)) (c + n, markB c n) := by
 induction d with
 | zero =>
  intro i o hi ho ht
  refine Ev.step (fun k => laws_markByteS.l0.eq_2 _ _ _ k) (Ev.neg (by omega) (Ev.done ?_))
  rw [take_all (by rw [markB_length]; exact ho) (by rw [markB_length]; omega) ht, show i = n by omega]
 | succ d ih =>
  intro i o hi ho ht
  refine Ev.step (fun k => laws_markByteS.l0.eq_2 _ _ _ k) (Ev.pos (by omega) (Ev.pos (by omega) ?_))
  rw [w64 (n := c + i + 1) (by omega) (by omega), w64 (by omega) (by omega), cast_succ, Int.toNat_natCast, show c + (i : Int) + 1 = c + ((i + 1 : Nat) : Int) by omega]
  exact ih (i + 1) _ (by omega) (by rw [List.length_set]; exact ho) (set_take (by rw [markB_length]; exact ho) (by rw [markB_length]; omega) ht (markB_get c n i (by omega)).symm)
theorem markByteS (l : List Int) (c : Int) (hc : 0 ≤ c) (hn : c + l.length ≤ 9223372036854775807) : Ev (fun k => laws_markByteS.f k l c) (c + l.length, markB c l.length) := by
 unfold laws_markByteS.f
 have h := markByteS_l0 l.length c hc hn l.length 0 l (by omega) rfl (by simp)
 rwa [show c + ((0 : Nat) : Int) = c by omega] at h
theorem heldByteS_l0 (n : Nat) (c : Int) (hc : 0 ≤ c) (hn : c + n ≤ 9223372036854775807) (d : Nat) : ∀ (i : Nat), i + d = n → Ev (fun k => laws_heldByteS.l0 k (markB c n) (c + i) (i : Int)) (c + n) := by
 induction d with
 | zero =>
  intro i hi
  refine Ev.step (fun k => laws_heldByteS.l0.eq_2 _ _ _ k) (Ev.neg (by rw [markB_length]; omega) (Ev.done ?_))
  rw [show i = n by omega]
 | succ d ih =>
  intro i hi
  refine Ev.step (fun k => laws_heldByteS.l0.eq_2 _ _ _ k) (Ev.pos (by rw [markB_length]; omega) (Ev.pos (by omega) (Ev.pos ?_ ?_)))
  ·rw [rd_getElem (by rw [markB_length]; omega), markB_get c n i (by omega)]
  ·rw [w64 (n := c + i + 1) (by omega) (by omega), w64 (by omega) (by omega), cast_succ, show c + (i : Int) + 1 = c + ((i + 1 : Nat) : Int) by omega]
   exact ih (i + 1) (by omega)
theorem heldByteS (n : Nat) (c : Int) (hc : 0 ≤ c) (hn : c + n ≤ 9223372036854775807) : Ev (fun k => laws_heldByteS.f k (markB c n) c) (c + n) := by
 unfold laws_heldByteS.f
 have h := heldByteS_l0 n c hc hn n 0 (by omega)
 rwa [show c + ((0 : Nat) : Int) = c by omega] at h
theorem isIn (a b c : Int) : impl_isIn.f a b c = some (decide (b ≤ a ∧ a ≤ c)) := by
 unfold impl_isIn.f
 by_cases h : b ≤ a
 ·rw [if_pos h]; simp [h]
 ·rw [if_neg h]; simp [h]
theorem l1In (a b c : Int) : spec_l1In.f a b c = some (decide (b ≤ a ∧ a ≤ c)) := by
 unfold spec_l1In.f
 by_cases h : a ≥ b
 ·rw [if_pos h]; simp; omega
 ·rw [if_neg h]; simp; omega
theorem wraps_i64 : ∀ n : Int, 0 ≤ n → n < 2 ^ 63 → IntKind.i64.wrap n = n := fun n h h' => by
 rw [IntKind.wrap_i64]; omega
theorem or_word {x y : Int} (hx : 0 ≤ x ∧ x ≤ 255) (hy : 0 ≤ y ∧ y ≤ 255) : Go.bits .or .i64 (x * 256) y = x * 256 + y :=
 Go.bits_join .i64 63 (by decide) wraps_i64 8 (x * 256) y (by omega) (by omega) (by omega) (by omega) (by omega) (by omega)
def word (l : List Int) (a : Int) : Int × Int × Bool := if a < 0 ∨ (l.length : Int) - 2 < a then (0, 0, false) else (rd l a * 256 + rd l (a + 1), a + 2, true)
theorem spec_getWord (l : List Int) (a : Int) (hb : Bytes l) (hl : l.length ≤ 140737488351232) : spec_GetWord.f l a = some (word l a) := by
 unfold spec_GetWord.f word
 by_cases h0 : a < 0
 ·rw [if_pos h0, if_pos (.inl h0)]
 rw [if_neg h0, w64 (n := (l.length : Int) - 2) (by omega) (by omega)]
 by_cases h1 : a > (l.length : Int) - 2
 ·rw [if_pos h1, if_pos (.inr h1)]
 have r0 := rd_byte hb a
 have r1 := rd_byte hb (a + 1)
 rw [if_neg h1, if_neg (show ¬ (a < 0 ∨ (l.length : Int) - 2 < a) by omega), if_pos (by omega), if_pos (by omega), w64 (n := a + 1) (by omega) (by omega), if_pos (by omega), if_pos (by omega), w64_byte hb, w64_byte hb, w64 (n := rd l a * 256) (by omega) (by omega), w64 (n := rd l a * 256 + rd l (a + 1)) (by omega) (by omega), w64 (by omega) (by omega)]
theorem impl_getWord (l : List Int) (a : Int) (hb : Bytes l) (hl : l.length ≤ 140737488351232) : impl_GetWord.f l a = some (word l a) := by
 unfold impl_GetWord.f word
 rw [isIn, w64 (n := (l.length : Int) - 2) (by omega) (by omega)]
 simp only [Option.bind_some, decide_eq_true_eq]
 by_cases h : 0 ≤ a ∧ a ≤ (l.length : Int) - 2
 ·have r0 := rd_byte hb a
  have r1 := rd_byte hb (a + 1)
  rw [if_pos h, if_neg (show ¬ (a < 0 ∨ (l.length : Int) - 2 < a) by omega), if_pos (by omega), if_pos (by omega), w64 (n := a + 1) (by omega) (by omega), if_pos (by omega), if_pos (by omega), w64_byte hb, w64_byte hb, w64 (n := rd l a * 256) (by omega) (by omega), or_word r0 r1, w64 (by omega) (by omega)]
 ·rw [if_neg h, if_pos (by omega)]
end Go.Proofs.YthkepmicdpgbbaaGreatDoor.Fn

namespace Go.Proofs.YthkepmicdpgbbaaGreatDoor.Fn
set_option linter.unusedVariables false
set_option linter.unusedSimpArgs false
open Go.RowKit Go.Proofs.YthkepmicdpgbbaaGreatDoorW.PrintWords Go.Proofs.YthkepmicdpgbbaaGreatDoor.Base
theorem drop_get {α : Type} (l : List α) (d : α) {i : Nat} (h : i < l.length) : l.drop i = l.getD ((i : Int)).toNat d :: l.drop (i + 1) := by
 rw [getD_nat l d h]; exact List.drop_eq_getElem_cons h
theorem eqB_cons {α : Type} (x y : α) (l m : List α) : eqB (x :: l) (y :: m) = (eqB x y && eqB l m) := by
 rw [Bool.eq_iff_iff, Bool.and_eq_true, eqB_iff, eqB_iff, eqB_iff, List.cons.injEq]
end Go.Proofs.YthkepmicdpgbbaaGreatDoor.Fn

namespace Go.Proofs.YthkepmicdpgbbaaGreatDoor.Fn
set_option linter.unusedVariables false
set_option linter.unusedSimpArgs false
open Go.RowKit Go.Proofs.YthkepmicdpgbbaaGreatDoorW.PrintWords Go.Proofs.YthkepmicdpgbbaaGreatDoor.P Go.Proofs.YthkepmicdpgbbaaGreatDoor.Base
abbrev LWr := S125
abbrev Wr := S109
def wrOf (x : LWr) : Wr := ⟨x.f0, x.f1⟩
structure Dk where
 secs : List (List Int)
 cache : List Wr
 fuse : Int
 down : Bool
theorem wr_eq {x y : Wr} (h0 : x.f0 = y.f0) (h1 : x.f1 = y.f1) : x = y := by cases x; cases y; simp_all
theorem szByteS (l : List Int) (left : Int) (hl : l.length ≤ maxLen) (h0 : 0 ≤ left) (h1 : left ≤ 1048576) : ∃ r, laws_szByteS.f l left = some r ∧ r ≤ left ∧ (0 ≤ r → (l.length : Int) ≤ left) := by
 unfold laws_szByteS.f
 have hm : maxLen = 9223372036854775807 := by decide
 rw [w64 (n := left - (l.length : Int)) (by omega) (by omega)]
 by_cases h : left - (l.length : Int) < 0
 ·rw [if_pos h]; exact ⟨-1, rfl, by omega, by omega⟩
 ·rw [if_neg h]; exact ⟨_, rfl, by omega, by omega⟩
theorem szByteSS_l0 (l : List (List Int)) (hl : l.length ≤ 1048576) (hg : ∀ x ∈ l, x.length ≤ maxLen) (d : Nat) : ∀ (i : Nat) (left : Int), i + d = l.length → 0 ≤ left → left ≤ 1048576 → ∃ r, Ev (fun k => laws_szByteSS.l0 k l left (i : Int)) r ∧ r ≤ left ∧ (0 ≤ r → ∀ x ∈ l.drop i, x.length ≤ 1048576) := by
 induction d with
 | zero =>
  intro i left hi h0 h1
  refine ⟨left, Ev.step (fun k => laws_szByteSS.l0.eq_2 _ _ _ k) (Ev.neg (by omega) (Ev.done rfl)), Int.le_refl _, fun _ x hx => ?_⟩
  rw [List.drop_of_length_le (by omega)] at hx
  cases hx
 | succ d ih =>
  intro i left hi h0 h1
  have he : rd_L6 l (i : Int) = l[i] := getD_nat l _ (by omega)
  obtain ⟨r, e, hr, hrl⟩ := szByteS l[i] left (hg _ (List.getElem_mem _)) h0 h1
  by_cases h : r < 0
  ·exact ⟨-1, Ev.step (fun k => laws_szByteSS.l0.eq_2 _ _ _ k) (Ev.pos (by omega) (Ev.pos (by omega) (by rw [he]; exact Ev.then e (Ev.pos h (Ev.done rfl))))), by omega, by omega⟩
  ·obtain ⟨q, e2, hq, hql⟩ := ih (i + 1) r (by omega) (by omega) (by omega)
   refine ⟨q, Ev.step (fun k => laws_szByteSS.l0.eq_2 _ _ _ k) (Ev.pos (by omega) (Ev.pos (by omega) ?_)), by omega, fun hq0 x hx => ?_⟩
   ·rw [he]
    refine Ev.then e (Ev.neg h ?_)
    rw [w64 (n := (i : Int) + 1) (by omega) (by omega), cast_succ]
    exact e2
   ·rw [List.drop_eq_getElem_cons (by omega)] at hx
    rcases List.mem_cons.1 hx with rfl | hx
    ·have := hrl (by omega); omega
    ·exact hql hq0 x hx
theorem szByteSS (l : List (List Int)) (left : Int) (hl : l.length ≤ maxLen) (hg : ∀ x ∈ l, x.length ≤ maxLen) (h0 : 0 ≤ left) (h1 : left ≤ 1048576) : ∃ r, Ev (fun k => laws_szByteSS.f k l left) r ∧ r ≤ left ∧ (0 ≤ r → l.length ≤ 1048576 ∧ ∀ x ∈ l, x.length ≤ 1048576) := by
 unfold laws_szByteSS.f
 have hm : maxLen = 9223372036854775807 := by decide
 rw [w64 (n := left - (l.length : Int)) (by omega) (by omega)]
 by_cases h : left - (l.length : Int) < 0
 ·exact ⟨-1, Ev.pos h (Ev.done rfl), by omega, by omega⟩
 ·obtain ⟨r, e, hr, hrl⟩ := szByteSS_l0 l (by omega) hg l.length 0 (left - l.length) (by omega) (by omega) (by omega)
  exact ⟨r, Ev.neg h e, by omega, fun hr0 => ⟨by omega, by simpa using hrl hr0⟩⟩
theorem szWr (x : LWr) (left : Int) (hl : x.f1.length ≤ maxLen) (h0 : 0 ≤ left) (h1 : left ≤ 1048576) : ∃ r, laws_szWr.f x.f0 x.f1 left = some r ∧ r ≤ left ∧ (0 ≤ r → (x.f1.length : Int) ≤ left) := by
 unfold laws_szWr.f
 obtain ⟨r, e, hr, hrl⟩ := szByteS x.f1 left hl h0 h1
 rw [e]
 simp only [Option.bind_some]
 by_cases h : r < 0
 ·rw [if_pos h]; exact ⟨-1, rfl, by omega, by omega⟩
 ·rw [if_neg h]; exact ⟨r, rfl, hr, hrl⟩
theorem szWrS_l0 (l : List LWr) (hl : l.length ≤ 1048576) (hg : ∀ x ∈ l, x.f1.length ≤ maxLen) (d : Nat) : ∀ (i : Nat) (left : Int), i + d = l.length → 0 ≤ left → left ≤ 1048576 → ∃ r, Ev (fun k => laws_szWrS.l0 k l left (i : Int)) r ∧ r ≤ left ∧ (0 ≤ r → ∀ x ∈ l.drop i, x.f1.length ≤ 1048576) := by
 induction d with
 | zero =>
  intro i left hi h0 h1
  refine ⟨left, Ev.step (fun k => laws_szWrS.l0.eq_2 _ _ _ k) (Ev.neg (by omega) (Ev.done rfl)), Int.le_refl _, fun _ x hx => ?_⟩
  rw [List.drop_of_length_le (by omega)] at hx
  cases hx
 | succ d ih =>
  intro i left hi h0 h1
  have he : rd_T125 l (i : Int) = l[i] := getD_nat l _ (by omega)
  obtain ⟨r, e, hr, hrl⟩ := szWr l[i] left (hg _ (List.getElem_mem _)) h0 h1
  by_cases h : r < 0
  ·exact ⟨-1, Ev.step (fun k => laws_szWrS.l0.eq_2 _ _ _ k) (Ev.pos (by omega) (Ev.pos (by omega) (by rw [he]; exact Ev.then e (Ev.pos h (Ev.done rfl))))), by omega, by omega⟩
  ·obtain ⟨q, e2, hq, hql⟩ := ih (i + 1) r (by omega) (by omega) (by omega)
   refine ⟨q, Ev.step (fun k => laws_szWrS.l0.eq_2 _ _ _ k) (Ev.pos (by omega) (Ev.pos (by omega) ?_)), by omega, fun hq0 x hx => ?_⟩
   ·rw [he]
    refine Ev.then e (Ev.neg h ?_)
    rw [w64 (n := (i : Int) + 1) (by omega) (by omega), cast_succ]
    exact e2
   ·rw [List.drop_eq_getElem_cons (by omega)] at hx
    rcases List.mem_cons.1 hx with rfl | hx
    ·have := hrl (by omega); omega
    ·exact hql hq0 x hx
theorem szWrS (l : List LWr) (left : Int) (hl : l.length ≤ maxLen) (hg : ∀ x ∈ l, x.f1.length ≤ maxLen) (h0 : 0 ≤ left) (h1 : left ≤ 1048576) : ∃ r, Ev (fun k => laws_szWrS.f k l left) r ∧ r ≤ left ∧ (0 ≤ r → l.length ≤ 1048576 ∧ ∀ x ∈ l, x.f1.length ≤ 1048576) := by
 unfold laws_szWrS.f
 have hm : maxLen = 9223372036854775807 := by decide
 rw [w64 (n := left - (l.length : Int)) (by omega) (by omega)]
 by_cases h : left - (l.length : Int) < 0
 ·exact ⟨-1, Ev.pos h (Ev.done rfl), by omega, by omega⟩
 ·obtain ⟨r, e, hr, hrl⟩ := szWrS_l0 l (by omega) hg l.length 0 (left - l.length) (by omega) (by omega) (by omega)
  exact ⟨r, Ev.neg h e, by omega, fun hr0 => ⟨by omega, by simpa using hrl hr0⟩⟩
def Fits (d : Dk) : Prop := d.secs.length ≤ 1048576 ∧ (∀ x ∈ d.secs, x.length ≤ 1048576 ∧ Bytes x) ∧ d.cache.length ≤ 1048576 ∧ ∀ x ∈ d.cache, x.f1.length ≤ 1048576 ∧ Bytes x.f1
theorem szDisk (secs : List (List Int)) (cache : List LWr) (fuse : Int) (down : Bool) (left : Int) (hs : secs.length ≤ maxLen ∧ ∀ x ∈ secs, x.length ≤ maxLen) (hc : cache.length ≤ maxLen ∧ ∀ x ∈ cache, x.f1.length ≤ maxLen) (h0 : 0 ≤ left) (h1 : left ≤ 1048576) :
  ∃ r, Ev (fun k => laws_szDisk.f k secs cache fuse down left) r ∧ r ≤ left ∧ (0 ≤ r → (secs.length ≤ 1048576 ∧ ∀ x ∈ secs, x.length ≤ 1048576) ∧ (cache.length ≤ 1048576 ∧ ∀ x ∈ cache, x.f1.length ≤ 1048576)) := by
 unfold laws_szDisk.f
 obtain ⟨r, e, hr, hrl⟩ := szByteSS secs left hs.1 hs.2 h0 h1
 by_cases h : r < 0
 ·exact ⟨-1, Ev.bind e (Ev.pos h (Ev.done rfl)), by omega, by omega⟩
 ·obtain ⟨q, e2, hq, hql⟩ := szWrS cache r hc.1 hc.2 (by omega) (by omega)
  by_cases h' : q < 0
  ·exact ⟨-1, Ev.bind e (Ev.neg h (Ev.bind e2 (Ev.pos h' (Ev.done rfl)))), by omega, by omega⟩
  ·exact ⟨q, Ev.bind e (Ev.neg h (Ev.bind e2 (Ev.neg h' (Ev.done rfl)))), by omega, fun hq0 => ⟨hrl (by omega), hql hq0⟩⟩
theorem toByteSS_l0 (l : List (List Int)) (hl : l.length ≤ 1048576) (hg : ∀ x ∈ l, x.length ≤ 1048576) (d : Nat) : ∀ (i : Nat) (o : List (List Int)), i + d = l.length → o.length = l.length → o.take i = l.take i → Ev (fun k => laws_toByteSS.l0 k l o (i : Int)) l := by
 induction d with
 | zero =>
  intro i o hi ho ht
  exact Ev.step (fun k => laws_toByteSS.l0.eq_2 _ _ _ k) (Ev.neg (by omega) (Ev.done (take_all ho (by omega) ht)))
 | succ d ih =>
  intro i o hi ho ht
  have he : rd_L6 l (i : Int) = l[i] := getD_nat l _ (by omega)
  have hx := hg l[i] (List.getElem_mem _)
  refine Ev.step (fun k => laws_toByteSS.l0.eq_2 _ _ _ k) (Ev.pos (by omega) (Ev.pos (by omega) ?_))
  rw [he]
  refine Ev.bind (toByteS l[i] (by omega)) (Ev.pos (by omega) ?_)
  rw [w64 (n := (i : Int) + 1) (by omega) (by omega), cast_succ, Int.toNat_natCast]
  exact ih (i + 1) _ (by omega) (by rw [List.length_set]; exact ho) (set_take ho (by omega) ht rfl)
theorem toByteSS (l : List (List Int)) (hl : l.length ≤ 1048576) (hg : ∀ x ∈ l, x.length ≤ 1048576) : Ev (fun k => laws_toByteSS.f k l) l := by
 unfold laws_toByteSS.f
 refine Ev.pos (by omega) (Ev.pos (by omega) ?_)
 rw [Int.toNat_natCast]
 exact toByteSS_l0 l hl hg l.length 0 _ (by omega) (by simp) (by simp)
theorem toWr (x : LWr) (hx : x.f1.length ≤ 1048576) : Ev (fun k => laws_toWr.f k x.f0 x.f1) (x.f0, x.f1) := by
 unfold laws_toWr.f
 exact Ev.bind (toByteS x.f1 (by omega)) (Ev.done rfl)
theorem toWrS_l0 (l : List LWr) (hl : l.length ≤ 1048576) (hg : ∀ x ∈ l, x.f1.length ≤ 1048576) (d : Nat) : ∀ (i : Nat) (o : List Wr), i + d = l.length → o.length = l.length → o.take i = (l.map wrOf).take i → Ev (fun k => laws_toWrS.l0 k l o (i : Int)) (l.map wrOf) := by
 induction d with
 | zero =>
  intro i o hi ho ht
  exact Ev.step (fun k => laws_toWrS.l0.eq_2 _ _ _ k) (Ev.neg (by omega) (Ev.done (take_all (by simpa using ho) (by simp; omega) ht)))
 | succ d ih =>
  intro i o hi ho ht
  have he : rd_T125 l (i : Int) = l[i] := getD_nat l _ (by omega)
  refine Ev.step (fun k => laws_toWrS.l0.eq_2 _ _ _ k) (Ev.pos (by omega) (Ev.pos (by omega) ?_))
  rw [he]
  refine Ev.bind (toWr l[i] (hg _ (List.getElem_mem _))) (Ev.pos (by omega) ?_)
  rw [w64 (n := (i : Int) + 1) (by omega) (by omega), cast_succ, Int.toNat_natCast]
  exact ih (i + 1) _ (by omega) (by rw [List.length_set]; exact ho) (set_take (by simpa using ho) (by simp; omega) ht (by rw [List.getElem_map]; rfl))
theorem toWrS (l : List LWr) (hl : l.length ≤ 1048576) (hg : ∀ x ∈ l, x.f1.length ≤ 1048576) : Ev (fun k => laws_toWrS.f k l) (l.map wrOf) := by
 unfold laws_toWrS.f
 refine Ev.pos (by omega) (Ev.pos (by omega) ?_)
 rw [Int.toNat_natCast]
 exact toWrS_l0 l hl hg l.length 0 _ (by omega) (by simp) (by simp)
def Dk.tuple (d : Dk) : List (List Int) × List Wr × Int × Bool := (d.secs, d.cache, d.fuse, d.down)
theorem toDisk (secs : List (List Int)) (cache : List LWr) (fuse : Int) (down : Bool) (hs : secs.length ≤ 1048576 ∧ ∀ x ∈ secs, x.length ≤ 1048576) (hc : cache.length ≤ 1048576 ∧ ∀ x ∈ cache, x.f1.length ≤ 1048576) :
  Ev (fun k => laws_toDisk.f k secs cache fuse down) (secs, cache.map wrOf, fuse, down) := by
 unfold laws_toDisk.f
 exact Ev.bind (toByteSS secs hs.1 hs.2) (Ev.bind (toWrS cache hc.1 hc.2) (Ev.done rfl))
theorem eqByteS' (l m : List Int) (hl : l.length ≤ 140737488351232) : Ev (fun k => laws_eqByteS.f k l m) (eqB l m) := by
 refine Ev.eq (eqByteS l m hl) ?_
 rw [Bool.eq_iff_iff, eqB_iff, decide_eq_true_eq]
theorem eqByteSS_l0 (l m : List (List Int)) (hl : l.length ≤ 1048576) (hg : ∀ x ∈ l, x.length ≤ 1048576) (hm : l.length = m.length) (d : Nat) : ∀ (i : Nat), i + d = l.length → Ev (fun k => laws_eqByteSS.l0 k l m (i : Int)) (eqB (l.drop i) (m.drop i)) := by
 induction d with
 | zero =>
  intro i hi
  refine Ev.step (fun k => laws_eqByteSS.l0.eq_2 _ _ _ k) (Ev.neg (by omega) (Ev.done ?_))
  rw [List.drop_of_length_le (by omega), List.drop_of_length_le (by omega), eqB_same]
 | succ d ih =>
  intro i hi
  have he : rd_L6 l (i : Int) = l[i] := getD_nat l _ (by omega)
  have he' : rd_L6 m (i : Int) = m[i] := getD_nat m _ (by omega)
  have hx := hg l[i] (List.getElem_mem _)
  refine Ev.step (fun k => laws_eqByteSS.l0.eq_2 _ _ _ k) (Ev.pos (by omega) (Ev.pos (by omega) (Ev.pos (by omega) ?_)))
  rw [he, he']
  refine Ev.bind (eqByteS' _ _ (by omega)) ?_
  rw [List.drop_eq_getElem_cons (show i < l.length by omega), List.drop_eq_getElem_cons (show i < m.length by omega), w64 (n := (i : Int) + 1) (by omega) (by omega), cast_succ, eqB_cons]
  by_cases h : eqB l[i] m[i] = true
  ·refine Ev.pos h (Ev.eq (ih (i + 1) (by omega)) (by rw [h, Bool.true_and]))
  ·refine Ev.neg h (Ev.done ?_)
   rw [Bool.not_eq_true] at h
   rw [h, Bool.false_and]
theorem eqByteSS (l m : List (List Int)) (hl : l.length ≤ 1048576) (hg : ∀ x ∈ l, x.length ≤ 1048576) : Ev (fun k => laws_eqByteSS.f k l m) (eqB l m) := by
 unfold laws_eqByteSS.f
 by_cases h : l.length = m.length
 ·exact Ev.pos (by omega) (eqByteSS_l0 l m hl hg h l.length 0 (by omega))
 ·exact Ev.neg (by omega) (Ev.done (eqB_not (fun e => h (by rw [e]))).symm)
theorem eqWr (x y : Wr) (hx : x.f1.length ≤ 1048576) : Ev (fun k => laws_eqWr.f k x.f0 x.f1 y.f0 y.f1) (eqB x y) := by
 unfold laws_eqWr.f
 by_cases h0 : x.f0 = y.f0
 ·refine Ev.pos h0 (Ev.bind (eqByteS' _ _ (by omega)) ?_)
  by_cases h1 : x.f1 = y.f1
  ·rw [wr_eq h0 h1]
   exact Ev.pos (eqB_same _) (Ev.done (eqB_same _).symm)
  ·exact Ev.neg (by rw [eqB_not h1]; decide) (Ev.done (eqB_not (fun e => h1 (by rw [e]))).symm)
 ·exact Ev.neg h0 (Ev.done (eqB_not (fun e => h0 (by rw [e]))).symm)
theorem eqWrS_l0 (l m : List Wr) (hl : l.length ≤ 1048576) (hg : ∀ x ∈ l, x.f1.length ≤ 1048576) (hm : l.length = m.length) (d : Nat) : ∀ (i : Nat), i + d = l.length → Ev (fun k => laws_eqWrS.l0 k l m (i : Int)) (eqB (l.drop i) (m.drop i)) := by
 induction d with
 | zero =>
  intro i hi
  refine Ev.step (fun k => laws_eqWrS.l0.eq_2 _ _ _ k) (Ev.neg (by omega) (Ev.done ?_))
  rw [List.drop_of_length_le (by omega), List.drop_of_length_le (by omega), eqB_same]
 | succ d ih =>
  intro i hi
  have he : rd_T109 l (i : Int) = l[i] := getD_nat l _ (by omega)
  have he' : rd_T109 m (i : Int) = m[i] := getD_nat m _ (by omega)
  have hx := hg l[i] (List.getElem_mem _)
  refine Ev.step (fun k => laws_eqWrS.l0.eq_2 _ _ _ k) (Ev.pos (by omega) (Ev.pos (by omega) (Ev.pos (by omega) ?_)))
  rw [he, he']
  refine Ev.bind (eqWr l[i] m[i] hx) ?_
  rw [List.drop_eq_getElem_cons (show i < l.length by omega), List.drop_eq_getElem_cons (show i < m.length by omega), w64 (n := (i : Int) + 1) (by omega) (by omega), cast_succ, eqB_cons]
  by_cases h : eqB l[i] m[i] = true
  ·refine Ev.pos h (Ev.eq (ih (i + 1) (by omega)) (by rw [h, Bool.true_and]))
  ·refine Ev.neg h (Ev.done ?_)
   rw [Bool.not_eq_true] at h
   rw [h, Bool.false_and]
theorem eqWrS (l m : List Wr) (hl : l.length ≤ 1048576) (hg : ∀ x ∈ l, x.f1.length ≤ 1048576) : Ev (fun k => laws_eqWrS.f k l m) (eqB l m) := by
 unfold laws_eqWrS.f
 by_cases h : l.length = m.length
 ·exact Ev.pos (by omega) (eqWrS_l0 l m hl hg h l.length 0 (by omega))
 ·exact Ev.neg (by omega) (Ev.done (eqB_not (fun e => h (by rw [e]))).symm)
theorem eqDisk_same (d : Dk) (hd : Fits d) : Ev (fun k => laws_eqDisk.f k d.secs d.cache d.fuse d.down d.secs d.cache d.fuse d.down) true := by
 obtain ⟨h1, h2, h3, h4⟩ := hd
 unfold laws_eqDisk.f
 refine Ev.bind (eqByteSS _ _ h1 (fun x hx => (h2 x hx).1)) (Ev.pos (eqB_same _) (Ev.bind (eqWrS _ _ h3 (fun x hx => (h4 x hx).1)) (Ev.pos (eqB_same _) (Ev.pos rfl (Ev.neg (by simp) (Ev.done rfl))))))
end Go.Proofs.YthkepmicdpgbbaaGreatDoor.Fn

namespace Go.Proofs.YthkepmicdpgbbaaGreatDoor.Fn
set_option linter.unusedVariables false
set_option linter.unusedSimpArgs false
open Go.RowKit Go.Proofs.YthkepmicdpgbbaaGreatDoorW.PrintWords Go.Proofs.YthkepmicdpgbbaaGreatDoor.P Go.Proofs.YthkepmicdpgbbaaGreatDoor.Base
def WrOk (n : Int) (x : Wr) : Prop := (0 ≤ x.f0 ∧ x.f0 ≤ n - 1) ∧ x.f1.length ≤ 160
def DiskOk (d : Dk) : Prop := (1 ≤ d.secs.length ∧ d.secs.length ≤ 40) ∧ d.cache.length ≤ 30 ∧ (-1 ≤ d.fuse ∧ d.fuse ≤ 1000) ∧ (∀ x ∈ d.secs, x.length ≤ 160) ∧ ∀ x ∈ d.cache, WrOk d.secs.length x
noncomputable def diskOk (d : Dk) : Bool := @decide (DiskOk d) (Classical.propDecidable _)
theorem diskOk_iff (d : Dk) : diskOk d = true ↔ DiskOk d := by unfold diskOk; simp
theorem diskOk_no {d : Dk} (h : ¬ DiskOk d) : diskOk d = false := by rw [← Bool.not_eq_true, diskOk_iff]; exact h
theorem Fits_of_ok {d : Dk} (h : DiskOk d) (hb : ∀ x ∈ d.secs, Bytes x) (hc : ∀ x ∈ d.cache, Bytes x.f1) : Fits d :=
 ⟨by have := h.1; omega, fun x hx => ⟨by have := h.2.2.2.1 x hx; omega, hb x hx⟩, by have := h.2.1; omega, fun x hx => ⟨by have := (h.2.2.2.2 x hx).2; omega, hc x hx⟩⟩
theorem drop_all {α : Type} {P : α → Prop} {l : List α} {i : Nat} (hi : i < l.length) (h : P l[i]) : (∀ x ∈ l.drop i, P x) ↔ ∀ x ∈ l.drop (i + 1), P x := by
 have e := List.drop_eq_getElem_cons hi
 constructor
 ·intro H x hx
  exact H x (by rw [e]; exact List.mem_cons_of_mem _ hx)
 ·intro H x hx
  rw [e] at hx
  rcases List.mem_cons.1 hx with rfl | hx
  ·exact h
  ·exact H x hx
theorem impl_DiskOk_l1 (d : Dk) (hs : d.secs.length ≤ 1048576) (hc : d.cache.length ≤ 1048576) (hpre : (1 ≤ d.secs.length ∧ d.secs.length ≤ 40) ∧ d.cache.length ≤ 30 ∧ (-1 ≤ d.fuse ∧ d.fuse ≤ 1000) ∧ (∀ x ∈ d.secs, x.length ≤ 160)) (n : Nat) :
  ∀ (i : Nat), i + n = d.cache.length → ((∀ x ∈ d.cache, WrOk d.secs.length x) ↔ ∀ x ∈ d.cache.drop i, WrOk d.secs.length x) → Ev (fun k => impl_DiskOk.l1 k d.cache (d.cache.length : Int) (i : Int) d.secs d.cache d.fuse d.down) (diskOk d) := by
 induction n with
 | zero =>
  intro i hi hiff
  refine Ev.step (fun k => impl_DiskOk.l1.eq_2 _ _ _ _ _ _ _ k) (Ev.neg (by omega) (Ev.done ?_))
  rw [List.drop_of_length_le (by omega)] at hiff
  exact ((diskOk_iff d).2 ⟨hpre.1, hpre.2.1, hpre.2.2.1, hpre.2.2.2, hiff.2 (fun x hx => by cases hx)⟩).symm
 | succ n ih =>
  intro i hi hiff
  have he : rd_T109 d.cache (i : Int) = d.cache[i] := getD_nat d.cache _ (by omega)
  have no : ¬ WrOk d.secs.length d.cache[i] → ¬ DiskOk d := fun h hd => h (hd.2.2.2.2 _ (List.getElem_mem _))
  refine Ev.step (fun k => impl_DiskOk.l1.eq_2 _ _ _ _ _ _ _ k) (Ev.pos (by omega) (Ev.pos (by omega) (Ev.pos (by omega) ?_)))
  rw [he, w64 (n := (d.secs.length : Int) - 1) (by omega) (by omega)]
  refine Ev.then (isIn _ _ _) ?_
  by_cases h1 : 0 ≤ d.cache[i].f0 ∧ d.cache[i].f0 ≤ (d.secs.length : Int) - 1
  ·refine Ev.pos (by simpa using h1) ?_
   by_cases h2 : (d.cache[i].f1.length : Int) > 160
   ·exact Ev.pos h2 (Ev.done (diskOk_no (no (fun h => by have := h.2; omega))).symm)
   ·refine Ev.neg h2 ?_
    rw [w64 (n := (i : Int) + 1) (by omega) (by omega), cast_succ]
    exact ih (i + 1) (by omega) (hiff.trans (drop_all (by omega) ⟨h1, by omega⟩))
  ·exact Ev.neg (by simpa using h1) (Ev.done (diskOk_no (no (fun h => h1 h.1))).symm)
theorem impl_DiskOk_l0 (d : Dk) (hs : d.secs.length ≤ 1048576) (hc : d.cache.length ≤ 1048576) (hpre : (1 ≤ d.secs.length ∧ d.secs.length ≤ 40) ∧ d.cache.length ≤ 30 ∧ (-1 ≤ d.fuse ∧ d.fuse ≤ 1000)) (n : Nat) :
  ∀ (i : Nat), i + n = d.secs.length → ((∀ x ∈ d.secs, x.length ≤ 160) ↔ ∀ x ∈ d.secs.drop i, x.length ≤ 160) → Ev (fun k => impl_DiskOk.l0 k d.secs (d.secs.length : Int) (i : Int) d.secs d.cache d.fuse d.down) (diskOk d) := by
 induction n with
 | zero =>
  intro i hi hiff
  rw [List.drop_of_length_le (by omega)] at hiff
  refine Ev.step (fun k => impl_DiskOk.l0.eq_2 _ _ _ _ _ _ _ k) (Ev.neg (by omega) ?_)
  exact impl_DiskOk_l1 d hs hc ⟨hpre.1, hpre.2.1, hpre.2.2, hiff.2 (fun x hx => by cases hx)⟩ d.cache.length 0 (by omega) (by simp)
 | succ n ih =>
  intro i hi hiff
  have he : rd_L6 d.secs (i : Int) = d.secs[i] := getD_nat d.secs _ (by omega)
  refine Ev.step (fun k => impl_DiskOk.l0.eq_2 _ _ _ _ _ _ _ k) (Ev.pos (by omega) (Ev.pos (by omega) (Ev.pos (by omega) ?_)))
  rw [he]
  by_cases h2 : (d.secs[i].length : Int) > 160
  ·exact Ev.pos h2 (Ev.done (diskOk_no (fun h => by have := h.2.2.2.1 _ (List.getElem_mem (show i < d.secs.length by omega)); omega)).symm)
  ·refine Ev.neg h2 ?_
   rw [w64 (n := (i : Int) + 1) (by omega) (by omega), cast_succ]
   exact ih (i + 1) (by omega) (hiff.trans (drop_all (by omega) (by omega)))
theorem impl_diskOk (d : Dk) (hs : d.secs.length ≤ 1048576) (hc : d.cache.length ≤ 1048576) : Ev (fun k => impl_DiskOk.f k d.secs d.cache d.fuse d.down) (diskOk d) := by
 unfold impl_DiskOk.f
 have bad : ¬ DiskOk d → ∀ b : Bool, b = true → Ev (fun k => impl_DiskOk.j0 k b d.secs d.cache d.fuse d.down) (diskOk d) := fun h b hb => Ev.step (fun k => impl_DiskOk.j0.eq_2 _ _ _ _ _ k) (Ev.pos hb (Ev.done (diskOk_no h).symm))
 refine Ev.then (isIn _ _ _) ?_
 by_cases h1 : 1 ≤ d.secs.length ∧ d.secs.length ≤ 40
 ·refine Ev.pos (by simp; omega) ?_
  by_cases h2 : (d.cache.length : Int) > 30
  ·exact Ev.pos h2 (bad (fun h => by have := h.2.1; omega) _ rfl)
  ·refine Ev.neg h2 (Ev.then (isIn _ _ _) ?_)
   by_cases h3 : -1 ≤ d.fuse ∧ d.fuse ≤ 1000
   ·refine Ev.step (fun k => impl_DiskOk.j0.eq_2 _ _ _ _ _ k) (Ev.neg (by simp; omega) ?_)
    exact impl_DiskOk_l0 d hs hc ⟨h1, by omega, h3⟩ d.secs.length 0 (by omega) (by simp)
   ·exact bad (fun h => h3 h.2.2.1) _ (by simp; omega)
 ·exact Ev.neg (by simp; omega) (bad (fun h => h1 h.1) _ rfl)
theorem spec_DiskOk_l1 (d : Dk) (hs : d.secs.length ≤ 1048576) (hc : d.cache.length ≤ 1048576) (hpre : ∀ x ∈ d.secs, x.length ≤ 160) (n : Nat) :
  ∀ (i : Nat), i + n = d.cache.length → ((∀ x ∈ d.cache, WrOk d.secs.length x) ↔ ∀ x ∈ d.cache.drop i, WrOk d.secs.length x) → Ev (fun k => spec_DiskOk.l1 k (i : Int) d.secs d.cache d.fuse d.down) (diskOk d) := by
 induction n with
 | zero =>
  intro i hi hiff
  rw [List.drop_of_length_le (by omega)] at hiff
  have hall := hiff.2 (fun x hx => by cases hx)
  refine Ev.step (fun k => spec_DiskOk.l1.eq_2 _ _ _ _ _ k) (Ev.neg (by omega) (Ev.then (l1In _ _ _) ?_))
  by_cases h1 : 1 ≤ d.secs.length ∧ d.secs.length ≤ 40
  ·refine Ev.pos (by simp; omega) ?_
   by_cases h2 : (d.cache.length : Int) ≤ 30
   ·refine Ev.pos h2 (Ev.then (l1In _ _ _) (Ev.done ?_))
    by_cases h3 : -1 ≤ d.fuse ∧ d.fuse ≤ 1000
    ·rw [(diskOk_iff d).2 ⟨h1, by omega, h3, hpre, hall⟩]; simpa using h3
    ·rw [diskOk_no (fun h => h3 h.2.2.1)]; simpa using h3
   ·exact Ev.neg h2 (Ev.done (diskOk_no (fun h => by have := h.2.1; omega)).symm)
  ·exact Ev.neg (by simp; omega) (Ev.done (diskOk_no (fun h => h1 h.1)).symm)
 | succ n ih =>
  intro i hi hiff
  have he : rd_T109 d.cache (i : Int) = d.cache[i] := getD_nat d.cache _ (by omega)
  have no : ¬ WrOk d.secs.length d.cache[i] → ¬ DiskOk d := fun h hd => h (hd.2.2.2.2 _ (List.getElem_mem _))
  refine Ev.step (fun k => spec_DiskOk.l1.eq_2 _ _ _ _ _ k) (Ev.pos (by omega) (Ev.pos (by omega) ?_))
  rw [he, w64 (n := (d.secs.length : Int) - 1) (by omega) (by omega)]
  refine Ev.then (l1In _ _ _) ?_
  by_cases h1 : 0 ≤ d.cache[i].f0 ∧ d.cache[i].f0 ≤ (d.secs.length : Int) - 1
  ·refine Ev.pos (by simpa using h1) ?_
   by_cases h2 : (d.cache[i].f1.length : Int) > 160
   ·exact Ev.pos h2 (Ev.done (diskOk_no (no (fun h => by have := h.2; omega))).symm)
   ·refine Ev.neg h2 ?_
    rw [w64 (n := (i : Int) + 1) (by omega) (by omega), cast_succ]
    exact ih (i + 1) (by omega) (hiff.trans (drop_all (by omega) ⟨h1, by omega⟩))
  ·exact Ev.neg (by simpa using h1) (Ev.done (diskOk_no (no (fun h => h1 h.1))).symm)
theorem spec_DiskOk_l0 (d : Dk) (hs : d.secs.length ≤ 1048576) (hc : d.cache.length ≤ 1048576) (n : Nat) :
  ∀ (i : Nat), i + n = d.secs.length → ((∀ x ∈ d.secs, x.length ≤ 160) ↔ ∀ x ∈ d.secs.drop i, x.length ≤ 160) → Ev (fun k => spec_DiskOk.l0 k (i : Int) d.secs d.cache d.fuse d.down) (diskOk d) := by
 induction n with
 | zero =>
  intro i hi hiff
  rw [List.drop_of_length_le (by omega)] at hiff
  refine Ev.step (fun k => spec_DiskOk.l0.eq_2 _ _ _ _ _ k) (Ev.neg (by omega) ?_)
  exact spec_DiskOk_l1 d hs hc (hiff.2 (fun x hx => by cases hx)) d.cache.length 0 (by omega) (by simp)
 | succ n ih =>
  intro i hi hiff
  have he : rd_L6 d.secs (i : Int) = d.secs[i] := getD_nat d.secs _ (by omega)
  refine Ev.step (fun k => spec_DiskOk.l0.eq_2 _ _ _ _ _ k) (Ev.pos (by omega) (Ev.pos (by omega) ?_))
  rw [he]
  by_cases h2 : (d.secs[i].length : Int) > 160
  ·exact Ev.pos h2 (Ev.done (diskOk_no (fun h => by have := h.2.2.2.1 _ (List.getElem_mem (show i < d.secs.length by omega)); omega)).symm)
  ·refine Ev.neg h2 ?_
   rw [w64 (n := (i : Int) + 1) (by omega) (by omega), cast_succ]
   exact ih (i + 1) (by omega) (hiff.trans (drop_all (by omega) (by omega)))
theorem spec_diskOk (d : Dk) (hs : d.secs.length ≤ 1048576) (hc : d.cache.length ≤ 1048576) : Ev (fun k => spec_DiskOk.f k d.secs d.cache d.fuse d.down) (diskOk d) := by
 unfold spec_DiskOk.f
 exact spec_DiskOk_l0 d hs hc d.secs.length 0 (by omega) (by simp)
theorem fits_of {secs : List (List Int)} {cache : List LWr} (fuse : Int) (down : Bool) (hs : ∀ x ∈ secs, (x.length ≤ maxLen ∧ ∀ y ∈ x, (Lit.int .u8 y).wf = true)) (hc : ∀ x ∈ cache, ((Lit.int .i64 x.f0).wf = true ∧ (x.f1.length ≤ maxLen ∧ ∀ y ∈ x.f1, (Lit.int .u8 y).wf = true)))
  (h : (secs.length ≤ 1048576 ∧ ∀ x ∈ secs, x.length ≤ 1048576) ∧ (cache.length ≤ 1048576 ∧ ∀ x ∈ cache, x.f1.length ≤ 1048576)) : Fits ⟨secs, cache.map wrOf, fuse, down⟩ := by
 refine ⟨h.1.1, fun x hx => ⟨h.1.2 x hx, Bytes.of_wf (hs x hx).2⟩, by simpa using h.2.1, fun x hx => ?_⟩
 obtain ⟨y, hy, rfl⟩ := List.mem_map.1 hx
 exact ⟨h.2.2 y hy, Bytes.of_wf (hc y hy).2.2⟩
end Go.Proofs.YthkepmicdpgbbaaGreatDoor.Fn

namespace Go.Proofs.YthkepmicdpgbbaaGreatDoor.Fn
set_option linter.unusedVariables false
set_option linter.unusedSimpArgs false
open Go.RowKit Go.Proofs.YthkepmicdpgbbaaGreatDoorW.PrintWords Go.Proofs.YthkepmicdpgbbaaGreatDoor.P Go.Proofs.YthkepmicdpgbbaaGreatDoor.Base
def textOk (s : ByteArray) : Bool := decide (s.size ≤ 100) && decide (∀ i : Nat, i < s.size → 32 ≤ bt s (i : Int) ∧ bt s (i : Int) ≤ 126)
theorem textOk_iff (s : ByteArray) : textOk s = true ↔ s.size ≤ 100 ∧ ∀ i : Nat, i < s.size → 32 ≤ bt s (i : Int) ∧ bt s (i : Int) ≤ 126 := by simp [textOk]
theorem textOk_false {s : ByteArray} {i : Nat} (hi : i < s.size) (h : bt s (i : Int) < 32 ∨ 126 < bt s (i : Int)) : textOk s = false := by
 rw [← Bool.not_eq_true, textOk_iff]
 rintro ⟨_, a⟩
 have := a i hi
 omega
theorem textOk_long {s : ByteArray} (h : 100 < s.size) : textOk s = false := by
 rw [← Bool.not_eq_true, textOk_iff]
 rintro ⟨a, _⟩
 omega
theorem textOk_all {s : ByteArray} (hp : ∀ j : Nat, j < s.size → 32 ≤ bt s (j : Int) ∧ bt s (j : Int) ≤ 126) : decide ((s.size : Int) ≤ 100) = textOk s := by
 rw [Bool.eq_iff_iff, textOk_iff, decide_eq_true_eq]
 exact ⟨fun h => ⟨by omega, hp⟩, fun h => by omega⟩
theorem impl_TextOk_l0 (s : ByteArray) (hs : s.size ≤ 9223372036854775807) (d : Nat) : ∀ (i : Nat), i + d = s.size → (∀ j : Nat, j < i → 32 ≤ bt s (j : Int) ∧ bt s (j : Int) ≤ 126) → Ev (fun k => impl_TextOk.l0 k s (s.size : Int) (i : Int)) (textOk s) := by
 induction d with
 | zero =>
  intro i hi hp
  obtain rfl : i = s.size := by omega
  exact Ev.step (fun k => impl_TextOk.l0.eq_2 _ _ _ k) (Ev.neg (by omega) (Ev.done (textOk_all hp)))
 | succ d ih =>
  intro i hi hp
  refine Ev.step (fun k => impl_TextOk.l0.eq_2 _ _ _ k) (Ev.pos (by omega) (Ev.pos (by omega) (Ev.pos (by omega) ?_)))
  by_cases h1 : bt s (i : Int) < 32
  ·exact Ev.pos h1 (Ev.done (textOk_false (by omega) (.inl h1)).symm)
  ·refine Ev.neg h1 ?_
   by_cases h2 : bt s (i : Int) > 126
   ·exact Ev.pos h2 (Ev.done (textOk_false (by omega) (.inr h2)).symm)
   ·refine Ev.neg h2 ?_
    rw [w64 (by omega) (by omega), cast_succ]
    refine ih (i + 1) (by omega) (fun j hj => ?_)
    rcases Nat.lt_or_ge j i with hj' | hj'
    ·exact hp j hj'
    ·obtain rfl : j = i := by omega
     omega
theorem impl_textOk (s : ByteArray) (hs : s.size ≤ 9223372036854775807) : Ev (fun k => impl_TextOk.f k s) (textOk s) := by
 unfold impl_TextOk.f
 exact impl_TextOk_l0 s hs s.size 0 (by omega) (fun j hj => by omega)
theorem spec_TextOk_l0 (s : ByteArray) (hs : s.size ≤ 9223372036854775807) (d : Nat) : ∀ (i : Nat), i + d = s.size → i ≤ 101 → (∀ j : Nat, j < i → 32 ≤ bt s (j : Int) ∧ bt s (j : Int) ≤ 126) → Ev (fun k => spec_TextOk.l0 k s (i : Int)) (textOk s) := by
 induction d with
 | zero =>
  intro i hi hm hp
  obtain rfl : i = s.size := by omega
  exact Ev.step (fun k => spec_TextOk.l0.eq_2 _ _ k) (Ev.neg (by omega) (Ev.step (fun k => spec_TextOk.j1.eq_2 _ _ _ k) (Ev.neg (by decide) (Ev.done (textOk_all hp)))))
 | succ d ih =>
  intro i hi hm hp
  refine Ev.step (fun k => spec_TextOk.l0.eq_2 _ _ k) (Ev.pos (by omega) (Ev.step (fun k => spec_TextOk.j1.eq_2 _ _ _ k) ?_))
  by_cases h0 : i = 101
  ·refine Ev.neg (by simp; omega) (Ev.done ?_)
   rw [textOk_long (by omega)]
   simp
   omega
  refine Ev.pos (by simp; omega) (Ev.pos (by omega) (Ev.pos (by omega) ?_))
  by_cases h1 : bt s (i : Int) < 32
  ·exact Ev.pos h1 (Ev.done (textOk_false (by omega) (.inl h1)).symm)
  ·refine Ev.neg h1 ?_
   by_cases h2 : bt s (i : Int) > 126
   ·exact Ev.pos h2 (Ev.done (textOk_false (by omega) (.inr h2)).symm)
   ·refine Ev.neg h2 ?_
    rw [w64 (by omega) (by omega), cast_succ]
    refine ih (i + 1) (by omega) (by omega) (fun j hj => ?_)
    rcases Nat.lt_or_ge j i with hj' | hj'
    ·exact hp j hj'
    ·obtain rfl : j = i := by omega
     omega
theorem spec_textOk (s : ByteArray) (hs : s.size ≤ 9223372036854775807) : Ev (fun k => spec_TextOk.f k s) (textOk s) := by
 unfold spec_TextOk.f
 exact spec_TextOk_l0 s hs s.size 0 (by omega) (by omega) (fun j hj => by omega)
end Go.Proofs.YthkepmicdpgbbaaGreatDoor.Fn

namespace Go.Proofs.YthkepmicdpgbbaaGreatDoor.Fn
set_option linter.unusedVariables false
set_option linter.unusedSimpArgs false
open Go.RowKit Go.Proofs.YthkepmicdpgbbaaGreatDoorW.PrintWords Go.Proofs.YthkepmicdpgbbaaGreatDoor.P Go.Proofs.YthkepmicdpgbbaaGreatDoor.Base
theorem bits_nat64 (a b : Nat) (ha : a < 2 ^ 63) (hb : b < 2 ^ 63) : Go.bits .and .i64 a b = ((a &&& b : Nat) : Int) := (Go.bits_nat .i64 63 (by decide) wraps_i64 a b ha hb).1
theorem xor_nat (a b : Nat) (ha : a < 2 ^ 63) (hb : b < 2 ^ 63) : Go.bits .xor .i64 a b = ((a ^^^ b : Nat) : Int) := by
 have hc : a ^^^ b < 2 ^ 63 := Nat.xor_lt_two_pow ha hb
 have hk : IntKind.i64.bits = 64 := rfl
 have ha' : a % 2 ^ IntKind.i64.bits = a := Nat.mod_eq_of_lt (by rw [hk]; omega)
 have hb' : b % 2 ^ IntKind.i64.bits = b := Nat.mod_eq_of_lt (by rw [hk]; omega)
 simp only [Go.bits, BitVec.ofInt_natCast, BitVec.toNat_xor, BitVec.toNat_ofNat, ha', hb']
 exact wraps_i64 _ (by omega) (by exact_mod_cast hc)
theorem and_mask (a : Nat) (ha : a < 65536) : Go.bits .and .i64 a 65535 = (a : Int) := by
 rw [show (65535 : Int) = ((65535 : Nat) : Int) from rfl, bits_nat64 a 65535 (by omega) (by omega), show (65535 : Nat) = 2 ^ 16 - 1 by decide, Nat.and_two_pow_sub_one_eq_mod, Nat.mod_eq_of_lt ha]
theorem bit_int {s : Nat} (h : s < 65536) : (if 65535 < wrap64 ((s : Int) * 2) then Go.bits .xor .i64 (wrap64 ((s : Int) * 2)) 69665 else wrap64 ((s : Int) * 2)) = (Crc.bit s : Int) := by
 unfold Crc.bit
 rw [w64 (by omega) (by omega)]
 by_cases hs : 2 * s > 65535
 ·rw [if_pos (by omega), if_pos hs, show (s : Int) * 2 = ((2 * s : Nat) : Int) by omega, show (69665 : Int) = ((69665 : Nat) : Int) from rfl, xor_nat _ _ (by omega) (by omega)]
 ·rw [if_neg (by omega), if_neg hs]; omega
theorem impl_Sum_l1 (l : List Int) (i : Nat) (r : Int) (s' : Nat) (d : Nat) : ∀ (j s : Nat), j + d = 8 → s < 65536 → Crc.bits s d = s' → Ev (fun k => impl_Sum.l0 k (s' : Int) l (l.length : Int) (wrap64 ((i : Int) + 1))) r → Ev (fun k => impl_Sum.l1 k (s : Int) l (l.length : Int) (i : Int) (j : Int)) r := by
 induction d with
 | zero =>
  intro j s hj hs he hk
  refine Ev.step (fun k => impl_Sum.l1.eq_2 _ _ _ _ _ k) (Ev.neg (by omega) ?_)
  rw [show s = s' from he]
  exact hk
 | succ d ih =>
  intro j s hj hs he hk
  refine Ev.step (fun k => impl_Sum.l1.eq_2 _ _ _ _ _ k) (Ev.pos (by omega) ?_)
  have hb := bit_int hs
  have hn := ih (j + 1) (Crc.bit s) (by omega) (Crc.bit_lt hs) he hk
  have hj1 : wrap64 ((j : Int) + 1) = ((j + 1 : Nat) : Int) := by rw [w64 (by omega) (by omega)]; rfl
  by_cases h : wrap64 ((s : Int) * 2) > 65535
  ·rw [if_pos h] at hb
   refine Ev.pos h ?_
   rw [hb, hj1]
   exact hn
  ·rw [if_neg h] at hb
   refine Ev.neg h ?_
   rw [hb, hj1]
   exact hn
theorem spec_Sum_l1 (l : List Int) (i : Nat) (r : Int) (s' : Nat) (d : Nat) : ∀ (j s : Nat), j + d = 8 → s < 65536 → Crc.bits s d = s' → Ev (fun k => spec_Sum.l0 k l (s' : Int) (wrap64 ((i : Int) + 1))) r → Ev (fun k => spec_Sum.l1 k l (s : Int) (i : Int) (j : Int)) r := by
 induction d with
 | zero =>
  intro j s hj hs he hk
  refine Ev.step (fun k => spec_Sum.l1.eq_2 _ _ _ _ k) (Ev.neg (by omega) ?_)
  rw [show s = s' from he]
  exact hk
 | succ d ih =>
  intro j s hj hs he hk
  refine Ev.step (fun k => spec_Sum.l1.eq_2 _ _ _ _ k) (Ev.pos (by omega) ?_)
  have hb := bit_int hs
  have hn := ih (j + 1) (Crc.bit s) (by omega) (Crc.bit_lt hs) he hk
  have hj1 : wrap64 ((j : Int) + 1) = ((j + 1 : Nat) : Int) := by rw [w64 (by omega) (by omega)]; rfl
  by_cases h : wrap64 ((s : Int) * 2) > 65535
  ·rw [if_pos h] at hb
   refine Ev.pos h ?_
   rw [hb, hj1]
   exact hn
  ·rw [if_neg h] at hb
   refine Ev.neg h ?_
   rw [hb, hj1]
   exact hn
theorem byte_int {s : Nat} {x : Int} (hs : s < 65536) (hx : 0 ≤ x ∧ x ≤ 255) : Go.bits .xor .i64 (s : Int) (wrap64 (x * 256)) = ((s ^^^ (256 * x.toNat) : Nat) : Int) := by
 rw [w64 (by omega) (by omega), show x * 256 = ((256 * x.toNat : Nat) : Int) by omega, xor_nat _ _ (by omega) (by omega)]
theorem impl_Sum_l0 (l : List Int) (hb : Bytes l) (hl : l.length ≤ 140737488351232) (d : Nat) : ∀ (i s : Nat), i + d = l.length → s < 65536 → Ev (fun k => impl_Sum.l0 k (s : Int) l (l.length : Int) (i : Int)) (Crc.sum s (l.drop i) : Int) := by
 induction d with
 | zero =>
  intro i s hi hs
  refine Ev.step (fun k => impl_Sum.l0.eq_2 _ _ _ _ k) (Ev.neg (by omega) (Ev.done ?_))
  rw [List.drop_of_length_le (by omega), and_mask s hs]; rfl
 | succ d ih =>
  intro i s hi hs
  have hr := rd_byte hb (i : Int)
  refine Ev.step (fun k => impl_Sum.l0.eq_2 _ _ _ _ k) (Ev.pos (by omega) (Ev.pos (by omega) (Ev.pos (by omega) ?_)))
  rw [drop_rd (by omega), Crc.sum_cons, w64_byte hb, Int.mul_comm 256, byte_int hs hr]
  refine impl_Sum_l1 l i _ _ 8 0 _ (by omega) (Nat.xor_lt_two_pow (n := 16) hs (by omega)) (Crc.byte_def _ _) ?_
  rw [w64 (by omega) (by omega), cast_succ]
  exact ih (i + 1) _ (by omega) (Crc.byte_lt hs (by omega))
theorem spec_Sum_l0 (l : List Int) (hb : Bytes l) (hl : l.length ≤ 140737488351232) (d : Nat) : ∀ (i s : Nat), i + d = l.length → s < 65536 → Ev (fun k => spec_Sum.l0 k l (s : Int) (i : Int)) (Crc.sum s (l.drop i) : Int) := by
 induction d with
 | zero =>
  intro i s hi hs
  refine Ev.step (fun k => spec_Sum.l0.eq_2 _ _ _ k) (Ev.neg (by omega) (Ev.done ?_))
  rw [List.drop_of_length_le (by omega), and_mask s hs]; rfl
 | succ d ih =>
  intro i s hi hs
  have hr := rd_byte hb (i : Int)
  refine Ev.step (fun k => spec_Sum.l0.eq_2 _ _ _ k) (Ev.pos (by omega) (Ev.pos (by omega) ?_))
  rw [drop_rd (by omega), Crc.sum_cons, w64_byte hb, byte_int hs hr]
  refine spec_Sum_l1 l i _ _ 8 0 _ (by omega) (Nat.xor_lt_two_pow (n := 16) hs (by omega)) (Crc.byte_def _ _) ?_
  rw [w64 (by omega) (by omega), cast_succ]
  exact ih (i + 1) _ (by omega) (Crc.byte_lt hs (by omega))
def crc (l : List Int) : Int := (Crc.sum 65535 l : Nat)
theorem impl_sum (l : List Int) (hb : Bytes l) (hl : l.length ≤ 140737488351232) : Ev (fun k => impl_Sum.f k l) (crc l) := by
 unfold impl_Sum.f
 exact impl_Sum_l0 l hb hl l.length 0 65535 (by omega) (by decide)
theorem spec_sum (l : List Int) (hb : Bytes l) (hl : l.length ≤ 140737488351232) : Ev (fun k => spec_Sum.f k l) (crc l) := by
 unfold spec_Sum.f
 exact spec_Sum_l0 l hb hl l.length 0 65535 (by omega) (by decide)
end Go.Proofs.YthkepmicdpgbbaaGreatDoor.Fn

namespace Go.Proofs.YthkepmicdpgbbaaGreatDoor.Fn
set_option linter.unusedVariables false
set_option linter.unusedSimpArgs false
open Go.RowKit Go.Proofs.YthkepmicdpgbbaaGreatDoorW.PrintWords Go.Proofs.YthkepmicdpgbbaaGreatDoor.P Go.Proofs.YthkepmicdpgbbaaGreatDoor.Base
theorem clone (l : List Int) (hl : l.length < 140737488355328) : slices_Clone_byte_byte.f l = some l := by
 unfold slices_Clone_byte_byte.f
 simp only [Option.bind_some, List.nil_append, List.length_nil, Nat.zero_add]
 rw [if_pos hl]
theorem and255_mod (x : Int) : Go.bits .and .i64 x 255 = x % 256 := by
 have hk : IntKind.i64.bits = 64 := rfl
 have h255 : (255 : Nat) % 2 ^ IntKind.i64.bits = 255 := by decide
 rw [show (255 : Int) = ((255 : Nat) : Int) from rfl]
 simp only [Go.bits, BitVec.ofInt_natCast, BitVec.toNat_and, BitVec.toNat_ofNat, h255]
 rw [show (255 : Nat) = 2 ^ 8 - 1 by decide, Nat.and_two_pow_sub_one_eq_mod, BitVec.toNat_ofInt, hk, wraps_i64 _ (by omega) (by omega)]
 omega
def wordBytes (n : Int) : List Int := [n / 256 % 256, n % 256]
theorem wordBytes_bytes (n : Int) : Bytes (wordBytes n) := Bytes.cons (by omega) (Bytes.cons (by omega) Bytes.nil)
theorem wordBytes_length (n : Int) : (wordBytes n).length = 2 := rfl
theorem spec_putWord (l : List Int) (n : Int) (hl : l.length < 140737488355326) : spec_PutWord.f l n = some (l ++ wordBytes n) := by
 unfold spec_PutWord.f wordBytes
 simp only [Option.bind_some, List.nil_append, List.length_nil, Nat.zero_add, List.length_cons]
 rw [if_pos (by omega), if_pos (by omega), and255_mod, and255_mod]
 simp
theorem impl_putWord (l : List Int) (n : Int) (hl : l.length < 140737488355326) : impl_PutWord.f l n = some (l ++ wordBytes n) := by
 unfold impl_PutWord.f wordBytes
 rw [clone l (by omega)]
 simp only [Option.bind_some, List.length_cons, List.length_nil]
 rw [if_pos (by omega)]
def putText (l : List Int) (s : ByteArray) : List Int := if textOk s = true then l ++ [(s.size : Int)] ++ bytesOf s else l
theorem textOk_size {s : ByteArray} (h : textOk s = true) : s.size ≤ 100 := ((textOk_iff s).1 h).1
theorem spec_putText (l : List Int) (s : ByteArray) (hl : l.length < 140737488355000) (hs : s.size ≤ 9223372036854775807) : Ev (fun k => spec_PutText.f k l s) (putText l s) := by
 unfold spec_PutText.f putText
 simp only [Option.bind_some, List.nil_append, List.length_nil, Nat.zero_add]
 refine Ev.pos (by omega) (Ev.bind (spec_textOk s hs) ?_)
 by_cases h : textOk s = true
 ·have := textOk_size h
  refine Ev.pos h (Ev.pos (by omega) (Ev.pos (by simp; omega) (Ev.done ?_)))
  rw [if_pos h, Int.emod_eq_of_lt (by omega) (by omega)]
 ·exact Ev.neg h (Ev.done (if_neg h).symm)
theorem impl_putText (l : List Int) (s : ByteArray) (hl : l.length < 140737488355000) (hs : s.size ≤ 9223372036854775807) : Ev (fun k => impl_PutText.f k l s) (putText l s) := by
 unfold impl_PutText.f putText
 rw [clone l (by omega)]
 simp only [Option.bind_some]
 refine Ev.bind (impl_textOk s hs) ?_
 by_cases h : textOk s = true
 ·have := textOk_size h
  refine Ev.pos h (Ev.pos (by omega) (Ev.pos (by simp; omega) (Ev.done ?_)))
  rw [if_pos h, Int.emod_eq_of_lt (by omega) (by omega)]
 ·exact Ev.neg h (Ev.done (if_neg h).symm)
theorem putText_bytes {l : List Int} (h : Bytes l) (s : ByteArray) : Bytes (putText l s) := by
 unfold putText
 split
 ·rename_i ht
  have := textOk_size ht
  exact (h.append (Bytes.cons (by omega) Bytes.nil)).append (bytesOf_bytes s)
 ·exact h
theorem putText_length (l : List Int) (s : ByteArray) : (putText l s).length ≤ l.length + 101 := by
 unfold putText
 split
 ·rename_i ht
  have := textOk_size ht
  simp [bytesOf_length]; omega
 ·omega
end Go.Proofs.YthkepmicdpgbbaaGreatDoor.Fn

namespace Go.Proofs.YthkepmicdpgbbaaGreatDoor.Fn
set_option linter.unusedVariables false
set_option linter.unusedSimpArgs false
open Go.RowKit Go.Proofs.YthkepmicdpgbbaaGreatDoorW.PrintWords Go.Proofs.YthkepmicdpgbbaaGreatDoor.P Go.Proofs.YthkepmicdpgbbaaGreatDoor.Base
def lookB (n : Int) : List Wr → List Int → List Int
 | [], b => b
 | x :: xs, b => lookB n xs (if x.f0 = n then x.f1 else b)
theorem lookB_snoc (n : Int) (xs : List Wr) (x : Wr) : ∀ b, lookB n (xs ++ [x]) b = if x.f0 = n then x.f1 else lookB n xs b := by
 induction xs with
 | nil => intro b; rfl
 | cons y ys ih => intro b; exact ih _
theorem lookB_all {P : List Int → Prop} (n : Int) (xs : List Wr) (hx : ∀ x ∈ xs, P x.f1) : ∀ b, P b → P (lookB n xs b) := by
 induction xs with
 | nil => intro b hb; exact hb
 | cons y ys ih =>
  intro b hb
  refine ih (fun x h => hx x (List.mem_cons_of_mem _ h)) _ ?_
  split
  ·exact hx y (List.mem_cons_self ..)
  ·exact hb
noncomputable def readSec (d : Dk) (n : Int) : List Int :=
 @ite _ (DiskOk d ∧ 0 ≤ n ∧ n ≤ (d.secs.length : Int) - 1) (Classical.propDecidable _) (lookB n d.cache (d.secs.getD n.toNat [])) []
theorem readSec_yes {d : Dk} {n : Int} (h : DiskOk d ∧ 0 ≤ n ∧ n ≤ (d.secs.length : Int) - 1) : readSec d n = lookB n d.cache (d.secs.getD n.toNat []) := if_pos h
theorem readSec_no {d : Dk} {n : Int} (h : ¬ (DiskOk d ∧ 0 ≤ n ∧ n ≤ (d.secs.length : Int) - 1)) : readSec d n = [] := if_neg h
theorem readSec_all {P : List Int → Prop} (h0 : P []) (d : Dk) (n : Int) (hs : ∀ x ∈ d.secs, P x) (hc : ∀ x ∈ d.cache, P x.f1) : P (readSec d n) := by
 by_cases h : DiskOk d ∧ 0 ≤ n ∧ n ≤ (d.secs.length : Int) - 1
 ·rw [readSec_yes h]
  refine lookB_all n d.cache hc _ ?_
  rw [List.getD_eq_getElem?_getD, List.getElem?_eq_getElem (by omega)]
  exact hs _ (List.getElem_mem _)
 ·rw [readSec_no h]; exact h0
theorem readSec_bytes {d : Dk} (hd : Fits d) (n : Int) : Bytes (readSec d n) := readSec_all Bytes.nil d n (fun x hx => (hd.2.1 x hx).2) (fun x hx => (hd.2.2.2 x hx).2)
theorem readSec_length {d : Dk} (hd : Fits d) (n : Int) : (readSec d n).length ≤ 1048576 := readSec_all (P := fun l => l.length ≤ 1048576) (by simp) d n (fun x hx => (hd.2.1 x hx).1) (fun x hx => (hd.2.2.2 x hx).1)
theorem spec_ReadSec_l0 (d : Dk) (hd : Fits d) (n : Int) (m : Nat) : ∀ (i : Nat) (b : List Int), i + m = d.cache.length → b.length ≤ 1048576 → Ev (fun k => spec_ReadSec.l0 k n b (i : Int) d.secs d.cache d.fuse d.down) (lookB n (d.cache.drop i) b) := by
 induction m with
 | zero =>
  intro i b hi hb
  rw [List.drop_of_length_le (by omega)]
  exact Ev.step (fun k => spec_ReadSec.l0.eq_2 _ _ _ _ _ _ _ k) (Ev.neg (by omega) (Ev.then rfl (Ev.pos (by simp; omega) (Ev.done rfl))))
 | succ m ih =>
  intro i b hi hb
  have hlt : i < d.cache.length := by omega
  have he : rd_T109 d.cache (i : Int) = d.cache[i] := getD_nat d.cache _ hlt
  have hcl := hd.2.2.1
  rw [List.drop_eq_getElem_cons hlt, lookB]
  refine Ev.step (fun k => spec_ReadSec.l0.eq_2 _ _ _ _ _ _ _ k) (Ev.pos (by omega) (Ev.pos (by omega) ?_))
  rw [he, w64 (n := (i : Int) + 1) (by omega) (by omega), cast_succ]
  by_cases h : d.cache[i].f0 = n
  ·rw [if_pos h]
   exact Ev.pos h (ih (i + 1) _ (by omega) (hd.2.2.2 _ (List.getElem_mem hlt)).1)
  ·rw [if_neg h]
   exact Ev.neg h (ih (i + 1) _ (by omega) hb)
theorem spec_readSec (d : Dk) (hd : Fits d) (n : Int) : Ev (fun k => spec_ReadSec.f k d.secs d.cache d.fuse d.down n) (readSec d n) := by
 unfold spec_ReadSec.f
 have hsl := hd.1
 have bad : ¬ (DiskOk d ∧ 0 ≤ n ∧ n ≤ (d.secs.length : Int) - 1) → ∀ b : Bool, b = true → Ev (fun k => spec_ReadSec.j0 k n b d.secs d.cache d.fuse d.down) (readSec d n) := fun hn b hb => Ev.step (fun k => spec_ReadSec.j0.eq_2 _ _ _ _ _ _ k) (Ev.pos hb (Ev.done (readSec_no hn).symm))
 refine Ev.bind (spec_diskOk d hd.1 hd.2.2.1) ?_
 by_cases h1 : DiskOk d
 case neg =>
  rw [diskOk_no h1]
  exact Ev.neg (by decide) (bad (fun h => h1 h.1) _ rfl)
 rw [(diskOk_iff d).2 h1, w64 (n := (d.secs.length : Int) - 1) (by omega) (by omega)]
 refine Ev.pos rfl (Ev.then (l1In _ _ _) ?_)
 by_cases h2 : 0 ≤ n ∧ n ≤ (d.secs.length : Int) - 1
 case neg => exact bad (fun h => h2 h.2) _ (by rw [decide_eq_false h2]; rfl)
 rw [readSec_yes ⟨h1, h2⟩]
 obtain ⟨i, rfl⟩ := Int.eq_ofNat_of_zero_le h2.1
 have hlt : i < d.secs.length := by omega
 have he : rd_L6 d.secs (i : Int) = d.secs[i] := getD_nat d.secs _ hlt
 refine Ev.step (fun k => spec_ReadSec.j0.eq_2 _ _ _ _ _ _ k) (Ev.neg (by rw [decide_eq_true h2]; decide) (Ev.pos (by omega) (Ev.pos (by omega) ?_)))
 rw [he, getD_nat d.secs [] hlt]
 exact spec_ReadSec_l0 d hd _ d.cache.length 0 _ (by omega) (hd.2.1 _ (List.getElem_mem hlt)).1
theorem impl_ReadSec_l0 (d : Dk) (hd : Fits d) (n : Nat) (hn : n < d.secs.length) : ∀ (i : Nat), i ≤ d.cache.length → Ev (fun k => impl_ReadSec.l0 k (n : Int) ((i : Int) - 1) d.secs d.cache d.fuse d.down) (lookB (n : Int) (d.cache.take i) d.secs[n]) := by
 intro i
 have hsn := (hd.2.1 _ (List.getElem_mem hn)).1
 induction i with
 | zero =>
  intro _
  have he : rd_L6 d.secs (n : Int) = d.secs[n] := getD_nat d.secs _ hn
  refine Ev.step (fun k => impl_ReadSec.l0.eq_2 _ _ _ _ _ _ k) (Ev.neg (by omega) (Ev.pos (by omega) (Ev.pos (by omega) ?_)))
  rw [he]
  exact Ev.then (clone _ (by omega)) (Ev.done rfl)
 | succ i ih =>
  intro hi
  have hlt : i < d.cache.length := by omega
  have hcl := hd.2.2.1
  have he : rd_T109 d.cache (i : Int) = d.cache[i] := getD_nat d.cache _ hlt
  have hci := (hd.2.2.2 _ (List.getElem_mem hlt)).1
  rw [show (((i + 1 : Nat) : Int) - 1) = (i : Int) by omega, List.take_succ_eq_append_getElem hlt, lookB_snoc]
  refine Ev.step (fun k => impl_ReadSec.l0.eq_2 _ _ _ _ _ _ k) (Ev.pos (by omega) (Ev.pos (by omega) (Ev.pos (by omega) ?_)))
  rw [he]
  by_cases h : d.cache[i].f0 = (n : Int)
  ·rw [if_pos h]
   exact Ev.pos h (Ev.then (clone _ (by omega)) (Ev.done rfl))
  ·rw [if_neg h, w64 (n := (i : Int) - 1) (by omega) (by omega)]
   exact Ev.neg h (ih (by omega))
theorem impl_readSec (d : Dk) (hd : Fits d) (n : Int) : Ev (fun k => impl_ReadSec.f k d.secs d.cache d.fuse d.down n) (readSec d n) := by
 unfold impl_ReadSec.f
 have hsl := hd.1
 have hcl := hd.2.2.1
 have bad : ¬ (DiskOk d ∧ 0 ≤ n ∧ n ≤ (d.secs.length : Int) - 1) → ∀ b : Bool, b = true → Ev (fun k => impl_ReadSec.j0 k n b d.secs d.cache d.fuse d.down) (readSec d n) := fun hn b hb => Ev.step (fun k => impl_ReadSec.j0.eq_2 _ _ _ _ _ _ k) (Ev.pos hb (Ev.done (readSec_no hn).symm))
 refine Ev.bind (impl_diskOk d hd.1 hd.2.2.1) ?_
 by_cases h1 : DiskOk d
 case neg =>
  rw [diskOk_no h1]
  exact Ev.neg (by decide) (bad (fun h => h1 h.1) _ rfl)
 rw [(diskOk_iff d).2 h1, w64 (n := (d.secs.length : Int) - 1) (by omega) (by omega)]
 refine Ev.pos rfl (Ev.then (isIn _ _ _) ?_)
 by_cases h2 : 0 ≤ n ∧ n ≤ (d.secs.length : Int) - 1
 case neg => exact bad (fun h => h2 h.2) _ (by rw [decide_eq_false h2]; rfl)
 rw [readSec_yes ⟨h1, h2⟩]
 obtain ⟨i, rfl⟩ := Int.eq_ofNat_of_zero_le h2.1
 have hlt : i < d.secs.length := by omega
 refine Ev.step (fun k => impl_ReadSec.j0.eq_2 _ _ _ _ _ _ k) (Ev.neg (by rw [decide_eq_true h2]; decide) ?_)
 rw [getD_nat d.secs [] hlt, w64 (n := (d.cache.length : Int) - 1) (by omega) (by omega)]
 have := impl_ReadSec_l0 d hd i hlt d.cache.length (Nat.le_refl _)
 rwa [List.take_length] at this
end Go.Proofs.YthkepmicdpgbbaaGreatDoor.Fn

namespace Go.Proofs.YthkepmicdpgbbaaGreatDoor.Fn
set_option linter.unusedVariables false
set_option linter.unusedSimpArgs false
open Go.RowKit Go.Proofs.YthkepmicdpgbbaaGreatDoorW.PrintWords Go.Proofs.YthkepmicdpgbbaaGreatDoor.P Go.Proofs.YthkepmicdpgbbaaGreatDoor.Base
theorem take_snoc {α : Type} {l : List α} {i : Nat} (h : i < l.length) : l.take i ++ [l[i]] = l.take (i + 1) := (List.take_succ_eq_append_getElem h).symm
theorem impl_diskCopy_l1 (d : Dk) (hd : Fits d) (s : List (List Int)) (m : Nat) : ∀ (i : Nat), i + m = d.cache.length → Ev (fun k => impl_diskCopy.l1 k s (d.cache.take i) d.cache (d.cache.length : Int) (i : Int) d.secs d.cache d.fuse d.down) (s, d.cache, d.fuse, d.down) := by
 induction m with
 | zero =>
  intro i hi
  rw [List.take_of_length_le (by omega)]
  exact Ev.step (fun k => impl_diskCopy.l1.eq_2 _ _ _ _ _ _ _ _ _ k) (Ev.neg (by omega) (Ev.done rfl))
 | succ m ih =>
  intro i hi
  have hc := hd.2.2.1
  have he : rd_T109 d.cache (i : Int) = d.cache[i] := getD_nat d.cache _ (by omega)
  have hx := (hd.2.2.2 _ (List.getElem_mem (show i < d.cache.length by omega))).1
  refine Ev.step (fun k => impl_diskCopy.l1.eq_2 _ _ _ _ _ _ _ _ _ k) (Ev.pos (by omega) (Ev.pos (by omega) (Ev.pos (by omega) ?_)))
  rw [he, w64 (n := (i : Int) + 1) (by omega) (by omega), cast_succ]
  refine Ev.then (clone _ (by omega)) (Ev.pos (by rw [List.length_take]; omega) ?_)
  rw [show (⟨d.cache[i].f0, d.cache[i].f1⟩ : Wr) = d.cache[i] from rfl, take_snoc]
  exact ih (i + 1) (by omega)
theorem impl_diskCopy_l0 (d : Dk) (hd : Fits d) (m : Nat) : ∀ (i : Nat), i + m = d.secs.length → Ev (fun k => impl_diskCopy.l0 k (d.secs.take i) ([] : List Wr) d.secs (d.secs.length : Int) (i : Int) d.secs d.cache d.fuse d.down) d.tuple := by
 induction m with
 | zero =>
  intro i hi
  rw [List.take_of_length_le (by omega)]
  exact Ev.step (fun k => impl_diskCopy.l0.eq_2 _ _ _ _ _ _ _ _ _ k) (Ev.neg (by omega) (impl_diskCopy_l1 d hd d.secs d.cache.length 0 (by omega)))
 | succ m ih =>
  intro i hi
  have hc := hd.1
  have he : rd_L6 d.secs (i : Int) = d.secs[i] := getD_nat d.secs _ (by omega)
  have hx := (hd.2.1 _ (List.getElem_mem (show i < d.secs.length by omega))).1
  refine Ev.step (fun k => impl_diskCopy.l0.eq_2 _ _ _ _ _ _ _ _ _ k) (Ev.pos (by omega) (Ev.pos (by omega) (Ev.pos (by omega) ?_)))
  rw [he, w64 (n := (i : Int) + 1) (by omega) (by omega), cast_succ]
  refine Ev.then (clone _ (by omega)) (Ev.pos (by rw [List.length_take]; omega) ?_)
  rw [take_snoc]
  exact ih (i + 1) (by omega)
theorem impl_diskCopy (d : Dk) (hd : Fits d) : Ev (fun k => impl_diskCopy.f k d.secs d.cache d.fuse d.down) d.tuple := by
 unfold impl_diskCopy.f
 have := impl_diskCopy_l0 d hd d.secs.length 0 (by omega)
 simpa using this
theorem spec_l2Copy_l1 (d : Dk) (hd : Fits d) (s : List (List Int)) (f : Int) (b : Bool) (m : Nat) : ∀ (i : Nat), i + m = d.cache.length → Ev (fun k => spec_l2Copy.l1 k (i : Int) d.secs d.cache d.fuse d.down s (d.cache.take i) f b) (s, d.cache, f, b) := by
 induction m with
 | zero =>
  intro i hi
  rw [List.take_of_length_le (by omega)]
  exact Ev.step (fun k => spec_l2Copy.l1.eq_2 _ _ _ _ _ _ _ _ _ k) (Ev.neg (by omega) (Ev.done rfl))
 | succ m ih =>
  intro i hi
  have hc := hd.2.2.1
  have he : rd_T109 d.cache (i : Int) = d.cache[i] := getD_nat d.cache _ (by omega)
  have hx := (hd.2.2.2 _ (List.getElem_mem (show i < d.cache.length by omega))).1
  refine Ev.step (fun k => spec_l2Copy.l1.eq_2 _ _ _ _ _ _ _ _ _ k) (Ev.pos (by omega) (Ev.pos (by omega) (Ev.then rfl ?_)))
  rw [he, w64 (n := (i : Int) + 1) (by omega) (by omega), cast_succ]
  refine Ev.pos (by simp; omega) (Ev.pos (by rw [List.length_take]; omega) ?_)
  rw [List.nil_append, show (⟨d.cache[i].f0, d.cache[i].f1⟩ : Wr) = d.cache[i] from rfl, take_snoc]
  exact ih (i + 1) (by omega)
theorem spec_l2Copy_l0 (d : Dk) (hd : Fits d) (f : Int) (b : Bool) (m : Nat) : ∀ (i : Nat), i + m = d.secs.length → Ev (fun k => spec_l2Copy.l0 k (i : Int) d.secs d.cache d.fuse d.down (d.secs.take i) f b) (d.secs, d.cache, f, b) := by
 induction m with
 | zero =>
  intro i hi
  rw [List.take_of_length_le (by omega)]
  exact Ev.step (fun k => spec_l2Copy.l0.eq_2 _ _ _ _ _ _ _ _ k) (Ev.neg (by omega) (spec_l2Copy_l1 d hd d.secs f b d.cache.length 0 (by omega)))
 | succ m ih =>
  intro i hi
  have hc := hd.1
  have he : rd_L6 d.secs (i : Int) = d.secs[i] := getD_nat d.secs _ (by omega)
  have hx := (hd.2.1 _ (List.getElem_mem (show i < d.secs.length by omega))).1
  refine Ev.step (fun k => spec_l2Copy.l0.eq_2 _ _ _ _ _ _ _ _ k) (Ev.pos (by omega) (Ev.then rfl (Ev.pos (by omega) ?_)))
  rw [he, w64 (n := (i : Int) + 1) (by omega) (by omega), cast_succ]
  refine Ev.pos (by simp; omega) (Ev.pos (by rw [List.length_take]; omega) ?_)
  rw [List.nil_append, take_snoc]
  exact ih (i + 1) (by omega)
theorem spec_l2Copy (d : Dk) (hd : Fits d) : Ev (fun k => spec_l2Copy.f k d.secs d.cache d.fuse d.down) d.tuple := by
 unfold spec_l2Copy.f
 have h0 : Ev (fun k => spec_l2Copy.l0 k 0 d.secs d.cache d.fuse d.down [] d.fuse d.down) (d.secs, d.cache, d.fuse, d.down) := by
  have := spec_l2Copy_l0 d hd d.fuse d.down d.secs.length 0 (by omega)
  simpa using this
 exact h0
def fuseOf (f : Int) : Int := if f = 0 then -1 else if f > 0 then f - 1 else f
def downOf (f : Int) (b : Bool) : Bool := if f = 0 then true else b
theorem impl_powered (s : List (List Int)) (c : List Wr) (f : Int) (b : Bool) (hf : -1 ≤ f ∧ f ≤ 1000) : impl_powered.f s c f b = some (s, c, fuseOf f, downOf f b, decide (f ≠ 0)) := by
 unfold impl_powered.f fuseOf downOf
 by_cases h0 : f = 0
 ·rw [if_pos h0, if_pos h0, if_pos h0]
  simp [h0]
 ·rw [if_neg h0, if_neg h0, if_neg h0]
  by_cases h1 : f > 0
  ·rw [if_pos h1, if_pos h1, w64 (by omega) (by omega)]
   simp [h0]
  ·rw [if_neg h1, if_neg h1]
   simp [h0]
theorem spec_l2Fuse (s : List (List Int)) (c : List Wr) (f : Int) (b : Bool) (hf : -1 ≤ f ∧ f ≤ 1000) : spec_l2Fuse.f s c f b = some (decide (f ≠ 0), fuseOf f, downOf f b) := by
 unfold spec_l2Fuse.f fuseOf downOf
 by_cases h0 : f = 0
 ·rw [if_pos h0, if_pos h0, if_pos h0]
  simp [h0]
 ·rw [if_neg h0, if_neg h0, if_neg h0]
  by_cases h1 : f > 0
  ·rw [if_pos h1, if_pos h1, w64 (by omega) (by omega)]
   simp [h0]
  ·rw [if_neg h1, if_neg h1]
   simp [h0]
def CanWrite (d : Dk) (n : Int) (b : List Int) : Prop := DiskOk d ∧ d.down = false ∧ (0 ≤ n ∧ n ≤ (d.secs.length : Int) - 1) ∧ b.length ≤ 160 ∧ d.cache.length ≠ 30
def wroteD (d : Dk) (n : Int) (b : List Int) : Dk := ⟨d.secs, if d.fuse = 0 then d.cache else d.cache ++ [⟨n, b⟩], fuseOf d.fuse, downOf d.fuse d.down⟩
noncomputable def writeSec (d : Dk) (n : Int) (b : List Int) : Dk := @ite _ (CanWrite d n b) (Classical.propDecidable _) (wroteD d n b) d
theorem writeSec_yes {d : Dk} {n : Int} {b : List Int} (h : CanWrite d n b) : writeSec d n b = wroteD d n b := if_pos h
theorem writeSec_no {d : Dk} {n : Int} {b : List Int} (h : ¬ CanWrite d n b) : writeSec d n b = d := if_neg h
theorem impl_writeSec (d : Dk) (hd : Fits d) (n : Int) (b : List Int) (hb : b.length ≤ 1048576) : Ev (fun k => impl_WriteSec.f k d.secs d.cache d.fuse d.down n b) (writeSec d n b).tuple := by
 unfold impl_WriteSec.f
 have hs1 := hd.1
 refine Ev.bind (impl_diskCopy d hd) (Ev.bind (impl_diskOk d hd.1 hd.2.2.1) ?_)
 by_cases h1 : DiskOk d
 case neg => rw [diskOk_no h1, writeSec_no (fun q => h1 q.1)]; exact Ev.neg (by decide) (Ev.done rfl)
 rw [(diskOk_iff d).2 h1]
 refine Ev.pos rfl ?_
 by_cases h2 : d.down = true
 ·rw [writeSec_no (fun q => by rw [q.2.1] at h2; cases h2)]; exact Ev.pos h2 (Ev.done rfl)
 refine Ev.neg h2 (Ev.then (isIn _ _ _) ?_)
 rw [w64 (n := (d.secs.length : Int) - 1) (by omega) (by omega)]
 by_cases h3 : 0 ≤ n ∧ n ≤ (d.secs.length : Int) - 1
 case neg => rw [writeSec_no (fun q => h3 q.2.2.1)]; exact Ev.neg (by simpa using h3) (Ev.done rfl)
 refine Ev.pos (by simpa using h3) ?_
 by_cases h4 : (b.length : Int) > 160
 ·rw [writeSec_no (fun q => by have := q.2.2.2.1; omega)]; exact Ev.pos h4 (Ev.done rfl)
 refine Ev.neg h4 ?_
 by_cases h5 : (d.cache.length : Int) = 30
 ·rw [writeSec_no (fun q => by have := q.2.2.2.2; omega)]; exact Ev.pos h5 (Ev.done rfl)
 refine Ev.neg h5 (Ev.then (impl_powered d.secs d.cache d.fuse d.down h1.2.2.1) ?_)
 rw [writeSec_yes ⟨h1, by simpa using h2, h3, by omega, by omega⟩]
 unfold wroteD Dk.tuple
 by_cases h6 : d.fuse = 0
 ·exact Ev.neg (by simp [h6]) (Ev.done (by simp [h6]))
 ·refine Ev.pos (by simp [h6]) (Ev.then (clone b (by omega)) (Ev.pos (by have := h1.2.1; simp only []; omega) (Ev.done (by simp [h6]))))
theorem spec_writeSec (d : Dk) (hd : Fits d) (n : Int) (b : List Int) (hb : b.length ≤ 1048576) : Ev (fun k => spec_WriteSec.f k d.secs d.cache d.fuse d.down n b) (writeSec d n b).tuple := by
 unfold spec_WriteSec.f
 have hs1 := hd.1
 refine Ev.bind (spec_l2Copy d hd) (Ev.bind (spec_diskOk d hd.1 hd.2.2.1) ?_)
 by_cases h1 : DiskOk d
 case neg => rw [diskOk_no h1, writeSec_no (fun q => h1 q.1)]; exact Ev.neg (by decide) (Ev.done rfl)
 rw [(diskOk_iff d).2 h1]
 refine Ev.pos rfl ?_
 by_cases h2 : d.down = true
 ·rw [writeSec_no (fun q => by rw [q.2.1] at h2; cases h2)]; exact Ev.pos h2 (Ev.done rfl)
 refine Ev.neg h2 (Ev.then (l1In _ _ _) ?_)
 rw [w64 (n := (d.secs.length : Int) - 1) (by omega) (by omega)]
 by_cases h3 : 0 ≤ n ∧ n ≤ (d.secs.length : Int) - 1
 case neg => rw [writeSec_no (fun q => h3 q.2.2.1)]; exact Ev.neg (by simpa using h3) (Ev.done rfl)
 refine Ev.pos (by simpa using h3) ?_
 by_cases h4 : (b.length : Int) > 160
 ·rw [writeSec_no (fun q => by have := q.2.2.2.1; omega)]; exact Ev.pos h4 (Ev.done rfl)
 refine Ev.neg h4 ?_
 by_cases h5 : (d.cache.length : Int) = 30
 ·rw [writeSec_no (fun q => by have := q.2.2.2.2; omega)]; exact Ev.pos h5 (Ev.done rfl)
 refine Ev.neg h5 (Ev.then (spec_l2Fuse d.secs d.cache d.fuse d.down h1.2.2.1) ?_)
 rw [writeSec_yes ⟨h1, by simpa using h2, h3, by omega, by omega⟩]
 unfold wroteD Dk.tuple
 by_cases h6 : d.fuse = 0
 ·exact Ev.neg (by simp [h6]) (Ev.done (by simp [h6]))
 ·refine Ev.pos (by simp [h6]) (Ev.then rfl (Ev.pos (by simp; omega) (Ev.pos (by have := h1.2.1; simp only []; omega) (Ev.done (by simp [h6])))))
def ap (s : List (List Int)) : List Wr → List (List Int)
 | [] => s
 | w :: ws => ap (s.set w.f0.toNat w.f1) ws
theorem ap_length (c : List Wr) : ∀ s, (ap s c).length = s.length := by
 induction c with
 | nil => intro s; rfl
 | cons w ws ih => intro s; rw [ap, ih, List.length_set]
theorem ap_all {P : List Int → Prop} (c : List Wr) (hc : ∀ x ∈ c, P x.f1) : ∀ s, (∀ x ∈ s, P x) → ∀ x ∈ ap s c, P x := by
 induction c with
 | nil => intro s hs; exact hs
 | cons w ws ih =>
  intro s hs
  refine ih (fun x hx => hc x (List.mem_cons_of_mem _ hx)) _ fun x hx => ?_
  rcases List.mem_or_eq_of_mem_set hx with hx | rfl
  ·exact hs x hx
  ·exact hc w List.mem_cons_self
noncomputable def syncDisk (d : Dk) : Dk := @ite _ (DiskOk d ∧ d.down = false) (Classical.propDecidable _) (if d.fuse = 0 then ⟨d.secs, d.cache, -1, true⟩ else ⟨ap d.secs d.cache, [], fuseOf d.fuse, d.down⟩) d
theorem syncDisk_yes {d : Dk} (h : DiskOk d ∧ d.down = false) : syncDisk d = if d.fuse = 0 then ⟨d.secs, d.cache, -1, true⟩ else ⟨ap d.secs d.cache, [], fuseOf d.fuse, d.down⟩ := if_pos h
theorem syncDisk_no {d : Dk} (h : ¬ (DiskOk d ∧ d.down = false)) : syncDisk d = d := if_neg h
theorem fits_ap {s : List (List Int)} {c : List Wr} {f : Int} {b : Bool} (hs : s.length ≤ 1048576 ∧ ∀ x ∈ s, x.length ≤ 1048576 ∧ Bytes x) : Fits ⟨s, [], f, b⟩ := ⟨hs.1, hs.2, by simp, fun x hx => by cases hx⟩
theorem impl_SyncDisk_l0 (d : Dk) (hd : Fits d) (hok : ∀ x ∈ d.cache, WrOk d.secs.length x) (f : Int) (b : Bool) (m : Nat) : ∀ (i : Nat) (s : List (List Int)), i + m = d.cache.length → s.length = d.secs.length → (∀ x ∈ s, x.length ≤ 1048576 ∧ Bytes x) →
  Ev (fun k => impl_SyncDisk.l0 k d.cache (d.cache.length : Int) (i : Int) d.secs d.cache d.fuse d.down s f b) (ap s (d.cache.drop i), [], f, b) := by
 induction m with
 | zero =>
  intro i s hi hl hs
  rw [List.drop_of_length_le (by omega)]
  exact Ev.step (fun k => impl_SyncDisk.l0.eq_2 _ _ _ _ _ _ _ _ _ _ k) (Ev.neg (by omega) (impl_diskCopy ⟨s, [], f, b⟩ (fits_ap (c := []) ⟨by have := hd.1; omega, hs⟩)))
 | succ m ih =>
  intro i s hi hl hs
  have hc := hd.2.2.1
  have hlt : i < d.cache.length := by omega
  have he : rd_T109 d.cache (i : Int) = d.cache[i] := getD_nat d.cache _ hlt
  obtain ⟨ho, _⟩ := hok _ (List.getElem_mem hlt)
  refine Ev.step (fun k => impl_SyncDisk.l0.eq_2 _ _ _ _ _ _ _ _ _ _ k) (Ev.pos (by omega) (Ev.pos (by omega) (Ev.pos (by omega) ?_)))
  rw [he, w64 (n := (i : Int) + 1) (by omega) (by omega), cast_succ, List.drop_eq_getElem_cons hlt, ap]
  refine Ev.pos ho.1 (Ev.pos (by omega) (ih (i + 1) _ (by omega) (by rw [List.length_set]; exact hl) fun x hx => ?_))
  rcases List.mem_or_eq_of_mem_set hx with hx | rfl
  ·exact hs x hx
  ·exact hd.2.2.2 _ (List.getElem_mem hlt)
theorem impl_syncDisk (d : Dk) (hd : Fits d) : Ev (fun k => impl_SyncDisk.f k d.secs d.cache d.fuse d.down) (syncDisk d).tuple := by
 unfold impl_SyncDisk.f
 refine Ev.bind (impl_diskCopy d hd) (Ev.bind (impl_diskOk d hd.1 hd.2.2.1) ?_)
 by_cases h1 : DiskOk d
 case neg => rw [diskOk_no h1, syncDisk_no (fun q => h1 q.1)]; exact Ev.neg (by decide) (Ev.done rfl)
 rw [(diskOk_iff d).2 h1]
 refine Ev.pos rfl ?_
 by_cases h2 : d.down = true
 ·rw [syncDisk_no (fun q => by rw [q.2] at h2; cases h2)]; exact Ev.pos h2 (Ev.done rfl)
 refine Ev.neg h2 (Ev.then (impl_powered d.secs d.cache d.fuse d.down h1.2.2.1) ?_)
 rw [syncDisk_yes ⟨h1, by simpa using h2⟩]
 by_cases h6 : d.fuse = 0
 ·rw [if_pos h6]
  refine Ev.neg (by simp [h6]) ?_
  have e1 : fuseOf d.fuse = -1 := by unfold fuseOf; rw [if_pos h6]
  have e2 : downOf d.fuse d.down = true := by unfold downOf; rw [if_pos h6]
  simp only [e1, e2]
  exact impl_diskCopy ⟨d.secs, d.cache, -1, true⟩ hd
 ·rw [if_neg h6]
  have e2 : downOf d.fuse d.down = d.down := by unfold downOf; rw [if_neg h6]
  simp only [e2]
  exact Ev.pos (by simp [h6]) (impl_SyncDisk_l0 d hd h1.2.2.2.2 (fuseOf d.fuse) d.down d.cache.length 0 d.secs (by omega) rfl hd.2.1)
theorem spec_SyncDisk_l0 (d : Dk) (hd : Fits d) (hok : ∀ x ∈ d.cache, WrOk d.secs.length x) (f : Int) (b : Bool) (m : Nat) : ∀ (i : Nat) (s : List (List Int)), i + m = d.cache.length → s.length = d.secs.length →
  Ev (fun k => spec_SyncDisk.l0 k (i : Int) d.secs d.cache d.fuse d.down s d.cache f b) (ap s (d.cache.drop i), [], f, b) := by
 induction m with
 | zero =>
  intro i s hi hl
  rw [List.drop_of_length_le (by omega)]
  exact Ev.step (fun k => spec_SyncDisk.l0.eq_2 _ _ _ _ _ _ _ _ _ k) (Ev.neg (by omega) (Ev.done rfl))
 | succ m ih =>
  intro i s hi hl
  have hc := hd.2.2.1
  have hlt : i < d.cache.length := by omega
  have he : rd_T109 d.cache (i : Int) = d.cache[i] := getD_nat d.cache _ hlt
  obtain ⟨ho, _⟩ := hok _ (List.getElem_mem hlt)
  refine Ev.step (fun k => spec_SyncDisk.l0.eq_2 _ _ _ _ _ _ _ _ _ k) (Ev.pos (by omega) (Ev.pos (by omega) ?_))
  rw [he, w64 (n := (i : Int) + 1) (by omega) (by omega), cast_succ, List.drop_eq_getElem_cons hlt, ap]
  exact Ev.pos ho.1 (Ev.pos (by omega) (ih (i + 1) _ (by omega) (by rw [List.length_set]; exact hl)))
theorem spec_syncDisk (d : Dk) (hd : Fits d) : Ev (fun k => spec_SyncDisk.f k d.secs d.cache d.fuse d.down) (syncDisk d).tuple := by
 unfold spec_SyncDisk.f
 refine Ev.bind (spec_l2Copy d hd) (Ev.bind (spec_diskOk d hd.1 hd.2.2.1) ?_)
 by_cases h1 : DiskOk d
 case neg => rw [diskOk_no h1, syncDisk_no (fun q => h1 q.1)]; exact Ev.neg (by decide) (Ev.done rfl)
 rw [(diskOk_iff d).2 h1]
 refine Ev.pos rfl ?_
 by_cases h2 : d.down = true
 ·rw [syncDisk_no (fun q => by rw [q.2] at h2; cases h2)]; exact Ev.pos h2 (Ev.done rfl)
 refine Ev.neg h2 (Ev.then (spec_l2Fuse d.secs d.cache d.fuse d.down h1.2.2.1) ?_)
 rw [syncDisk_yes ⟨h1, by simpa using h2⟩]
 by_cases h6 : d.fuse = 0
 ·rw [if_pos h6]
  have e1 : fuseOf d.fuse = -1 := by unfold fuseOf; rw [if_pos h6]
  have e2 : downOf d.fuse d.down = true := by unfold downOf; rw [if_pos h6]
  simp only [e1, e2]
  exact Ev.neg (by simp [h6]) (Ev.done rfl)
 ·rw [if_neg h6]
  have e2 : downOf d.fuse d.down = d.down := by unfold downOf; rw [if_neg h6]
  simp only [e2]
  exact Ev.pos (by simp [h6]) (spec_SyncDisk_l0 d hd h1.2.2.2.2 (fuseOf d.fuse) d.down d.cache.length 0 d.secs (by omega) rfl)
abbrev Kept (k : Int) (i : Nat) : Prop := (Go.bits .and .i64 (k / ((2 ^ ((i : Int)).toNat : Nat) : Int)) 1) = 1
def apb (k : Int) : Nat → List (List Int) → List Wr → List (List Int)
 | _, s, [] => s
 | i, s, w :: ws => apb k (i + 1) (if Kept k i then s.set w.f0.toNat w.f1 else s) ws
def keepOf (k : Int) : Int := if 0 ≤ k ∧ k ≤ 1073741823 then k else 0
noncomputable def fallDisk (d : Dk) (k : Int) : Dk := @ite _ (DiskOk d) (Classical.propDecidable _) ⟨apb (keepOf k) 0 d.secs d.cache, [], -1, false⟩ d
theorem fallDisk_yes {d : Dk} {k : Int} (h : DiskOk d) : fallDisk d k = ⟨apb (keepOf k) 0 d.secs d.cache, [], -1, false⟩ := if_pos h
theorem fallDisk_no {d : Dk} {k : Int} (h : ¬ DiskOk d) : fallDisk d k = d := if_neg h
theorem impl_FallDisk_l0 (d : Dk) (hd : Fits d) (h30 : d.cache.length ≤ 30) (hok : ∀ x ∈ d.cache, WrOk d.secs.length x) (kp : Int) (f : Int) (b : Bool) (m : Nat) : ∀ (i : Nat) (s : List (List Int)), i + m = d.cache.length → s.length = d.secs.length → (∀ x ∈ s, x.length ≤ 1048576 ∧ Bytes x) →
  Ev (fun k => impl_FallDisk.l0 k kp d.cache (d.cache.length : Int) (i : Int) d.secs d.cache d.fuse d.down s f b) (apb kp i s (d.cache.drop i), [], -1, false) := by
 induction m with
 | zero =>
  intro i s hi hl hs
  rw [List.drop_of_length_le (by omega)]
  exact Ev.step (fun k => impl_FallDisk.l0.eq_2 _ _ _ _ _ _ _ _ _ _ _ k) (Ev.neg (by omega) (impl_diskCopy ⟨s, [], -1, false⟩ (fits_ap (c := []) ⟨by have := hd.1; omega, hs⟩)))
 | succ m ih =>
  intro i s hi hl hs
  have hlt : i < d.cache.length := by omega
  have he : rd_T109 d.cache (i : Int) = d.cache[i] := getD_nat d.cache _ hlt
  obtain ⟨ho, _⟩ := hok _ (List.getElem_mem hlt)
  refine Ev.step (fun k => impl_FallDisk.l0.eq_2 _ _ _ _ _ _ _ _ _ _ _ k) (Ev.pos (by omega) (Ev.pos (by omega) (Ev.pos (by omega) (Ev.pos (by omega) ?_))))
  rw [he, w64 (n := (i : Int) + 1) (by omega) (by omega), cast_succ, List.drop_eq_getElem_cons hlt, apb]
  by_cases hk : Kept kp i
  ·rw [if_pos hk]
   refine Ev.pos hk (Ev.pos ho.1 (Ev.pos (by omega) (ih (i + 1) _ (by omega) (by rw [List.length_set]; exact hl) fun x hx => ?_)))
   rcases List.mem_or_eq_of_mem_set hx with hx | rfl
   ·exact hs x hx
   ·exact hd.2.2.2 _ (List.getElem_mem hlt)
  ·rw [if_neg hk]
   exact Ev.neg hk (ih (i + 1) s (by omega) hl hs)
theorem impl_fallDisk (d : Dk) (hd : Fits d) (kp : Int) : Ev (fun k => impl_FallDisk.f k d.secs d.cache d.fuse d.down kp) (fallDisk d kp).tuple := by
 unfold impl_FallDisk.f
 refine Ev.bind (impl_diskCopy d hd) (Ev.bind (impl_diskOk d hd.1 hd.2.2.1) ?_)
 by_cases h1 : DiskOk d
 case neg => rw [diskOk_no h1, fallDisk_no h1]; exact Ev.neg (by decide) (Ev.done rfl)
 rw [(diskOk_iff d).2 h1, fallDisk_yes h1]
 refine Ev.pos rfl (Ev.then (isIn _ _ _) ?_)
 unfold keepOf
 by_cases h : 0 ≤ kp ∧ kp ≤ 1073741823
 ·rw [if_pos h]
  exact Ev.pos (by simpa using h) (impl_FallDisk_l0 d hd h1.2.1 h1.2.2.2.2 kp d.fuse d.down d.cache.length 0 d.secs (by omega) rfl hd.2.1)
 ·rw [if_neg h]
  exact Ev.neg (by simpa using h) (impl_FallDisk_l0 d hd h1.2.1 h1.2.2.2.2 0 d.fuse d.down d.cache.length 0 d.secs (by omega) rfl hd.2.1)
end Go.Proofs.YthkepmicdpgbbaaGreatDoor.Fn

namespace Go.Proofs.YthkepmicdpgbbaaGreatDoor.Fn
set_option linter.unusedVariables false
set_option linter.unusedSimpArgs false
open Go.RowKit Go.Proofs.YthkepmicdpgbbaaGreatDoorW.PrintWords Go.Proofs.YthkepmicdpgbbaaGreatDoor.P Go.Proofs.YthkepmicdpgbbaaGreatDoor.Base
def newDisk (n : Int) : Dk := if 1 ≤ n ∧ n ≤ 40 then ⟨List.replicate n.toNat [], [], -1, false⟩ else ⟨[], [], 0, false⟩
theorem newDisk_blank (n : Int) : (newDisk n).secs.length ≤ 40 ∧ (∀ x ∈ (newDisk n).secs, x = []) ∧ (newDisk n).cache = [] := by
 unfold newDisk
 split
 ·refine ⟨by simp; omega, fun x hx => (List.mem_replicate.1 hx).2, rfl⟩
 ·exact ⟨by simp, fun x hx => (by cases hx), rfl⟩
theorem newDisk_fits (n : Int) : Fits (newDisk n) := by
 obtain ⟨h1, h2, h3⟩ := newDisk_blank n
 refine ⟨by omega, fun x hx => ?_, by rw [h3]; simp, fun x hx => ?_⟩
 ·rw [h2 x hx]; exact ⟨by simp, Bytes.nil⟩
 ·rw [h3] at hx; cases hx
theorem spec_DiskNew_l0 (n : Int) (hn : 1 ≤ n ∧ n ≤ 40) (d : Nat) : ∀ (i : Nat), (i : Int) + d = n → Ev (fun k => spec_DiskNew.l0 k n (i : Int) (List.replicate i []) (-1) false) (newDisk n).tuple := by
 induction d with
 | zero =>
  intro i hi
  refine Ev.step (fun k => spec_DiskNew.l0.eq_2 _ _ _ _ _ k) (Ev.neg (by omega) (Ev.done ?_))
  unfold newDisk
  rw [if_pos hn, show n.toNat = i by omega]
  rfl
 | succ d ih =>
  intro i hi
  refine Ev.step (fun k => spec_DiskNew.l0.eq_2 _ _ _ _ _ k) (Ev.pos (by omega) (Ev.pos (by rw [List.length_replicate]; omega) ?_))
  rw [w64 (n := (i : Int) + 1) (by omega) (by omega), cast_succ, show List.replicate i ([] : List Int) ++ [([] : List Int)] = List.replicate (i + 1) [] from List.replicate_succ'.symm]
  exact ih (i + 1) (by omega)
theorem spec_diskNew (n : Int) : Ev (fun k => spec_DiskNew.f k n) (newDisk n).tuple := by
 unfold spec_DiskNew.f
 refine Ev.then (l1In _ _ _) ?_
 by_cases h : 1 ≤ n ∧ n ≤ 40
 ·exact Ev.pos (by simpa using h) (spec_DiskNew_l0 n h n.toNat 0 (by omega))
 ·refine Ev.neg (by simpa using h) (Ev.done ?_)
  unfold newDisk
  rw [if_neg h]
  rfl
theorem impl_diskNew (n : Int) : impl_DiskNew.f n = some (newDisk n).tuple := by
 unfold impl_DiskNew.f newDisk
 rw [isIn, Option.bind_some]
 by_cases h : 1 ≤ n ∧ n ≤ 40
 ·rw [if_pos (by simpa using h), if_pos (by omega), if_pos (by omega), if_pos h]
  rfl
 ·rw [if_neg (by simpa using h), if_neg h]
  rfl
end Go.Proofs.YthkepmicdpgbbaaGreatDoor.Fn

namespace Go.Proofs.YthkepmicdpgbbaaGreatDoor.Fn
set_option linter.unusedVariables false
set_option linter.unusedSimpArgs false
open Go.RowKit Go.Proofs.YthkepmicdpgbbaaGreatDoorW.PrintWords Go.Proofs.YthkepmicdpgbbaaGreatDoor.P Go.Proofs.YthkepmicdpgbbaaGreatDoor.Base
def Cur (l : List Int) (i : Int) : Prop := 0 ≤ i ∧ i ≤ l.length ∧ l.length ≤ 140737488351232
theorem and_range (x : Int) (m : Nat) (hm : m < 2 ^ 63) : 0 ≤ Go.bits .and .i64 x m ∧ Go.bits .and .i64 x m ≤ m := by
 have hk : IntKind.i64.bits = 64 := rfl
 have hm' : m % 2 ^ IntKind.i64.bits = m := Nat.mod_eq_of_lt (by rw [hk]; omega)
 have hle : (BitVec.ofInt IntKind.i64.bits x).toNat &&& m ≤ m := Nat.and_le_right
 simp only [Go.bits, BitVec.ofInt_natCast, BitVec.toNat_and, BitVec.toNat_ofNat, hm']
 rw [wraps_i64 _ (by omega) (by omega)]
 omega
theorem and255 (x : Int) : 0 ≤ Go.bits .and .i64 x 255 ∧ Go.bits .and .i64 x 255 ≤ 255 := and_range x 255 (by decide)
theorem l1New_l0 (l : List Int) (hl : l.length ≤ 140737488351232) (d : Nat) : ∀ (i : Nat) (h : Int), i + d = l.length → ∃ h', Ev (fun k => spec_l1New.l0 k l h (i : Int)) (l, 0, h') := by
 induction d with
 | zero =>
  intro i h hi
  exact ⟨h, Ev.step (fun k => spec_l1New.l0.eq_2 _ _ _ k) (Ev.neg (by omega) (Ev.done rfl))⟩
 | succ d ih =>
  intro i h hi
  by_cases h4 : (i : Int) < 4000
  ·obtain ⟨h', hh⟩ := ih (i + 1) (Go.bits .and .i64 (wrap64 ((wrap64 ((wrap64 (h * 137)) + (wrap64 (rd l i)))) + 11)) 1073741823) (by omega)
   refine ⟨h', Ev.step (fun k => spec_l1New.l0.eq_2 _ _ _ k) (Ev.pos (by omega) (Ev.pos h4 (Ev.pos (by omega) ?_)))⟩
   rw [w64 (n := (i : Int) + 1) (by omega) (by omega), cast_succ]
   exact hh
  ·exact ⟨h, Ev.step (fun k => spec_l1New.l0.eq_2 _ _ _ k) (Ev.pos (by omega) (Ev.neg h4 (Ev.done rfl)))⟩
theorem l1New (l : List Int) (hl : l.length ≤ 140737488351232) : ∃ h, Ev (fun k => spec_l1New.f k l) (l, 0, h) := by
 unfold spec_l1New.f
 exact l1New_l0 l hl l.length 0 _ (by omega)
theorem Cur.zero {l : List Int} (hl : l.length ≤ 140737488351232) : Cur l 0 := ⟨by omega, by omega, hl⟩
theorem l1Byte {l : List Int} {i : Int} (hc : Cur l i) (h : Int) : ∃ r i' h', spec_l1Byte.f l i h = some (r, i', h') ∧ 0 ≤ r ∧ r ≤ 255 ∧ Cur l i' := by
 obtain ⟨h0, h1, h2⟩ := hc
 unfold spec_l1Byte.f
 by_cases hi : i < (l.length : Int)
 ·rw [if_pos hi, if_pos h0, w64 (n := i + 1) (by omega) (by omega)]
  exact ⟨_, _, _, rfl, (and255 _).1, (and255 _).2, by omega, by omega, h2⟩
 ·rw [if_neg hi]
  exact ⟨_, _, _, rfl, (and255 _).1, (and255 _).2, h0, h1, h2⟩
theorem tmod_range {x n : Int} (hx : 0 ≤ x) (hn : 0 < n) : 0 ≤ Int.tmod x n ∧ Int.tmod x n < n := by
 rw [Int.tmod_eq_emod_of_nonneg hx]
 exact ⟨Int.emod_nonneg _ (by omega), Int.emod_lt_of_pos _ hn⟩
theorem l1Below {l : List Int} {i : Int} (hc : Cur l i) (h n : Int) : ∃ r i' h', spec_l1Below.f l i h n = some (r, i', h') ∧ 0 ≤ r ∧ (0 < n → r < n) ∧ (n ≤ 0 → r = 0) ∧ Cur l i' := by
 unfold spec_l1Below.f
 by_cases h0 : n ≤ 0
 ·rw [if_pos h0]; exact ⟨0, i, h, rfl, by omega, by omega, fun _ => rfl, hc⟩
 rw [if_neg h0]
 by_cases h1 : n ≤ 256
 ·rw [if_pos h1]
  obtain ⟨r, i1, h1', e1, r0, r1, hc1⟩ := l1Byte hc h
  rw [e1]
  simp only [Option.bind_some]
  rw [if_neg (by omega)]
  have := tmod_range r0 (show 0 < n by omega)
  exact ⟨_, _, _, rfl, this.1, fun _ => this.2, by omega, hc1⟩
 ·rw [if_neg h1]
  obtain ⟨x, i1, h1', e1, x0, x1, hc1⟩ := l1Byte hc h
  obtain ⟨y, i2, h2', e2, y0, y1, hc2⟩ := l1Byte hc1 h1'
  obtain ⟨z, i3, h3', e3, z0, z1, hc3⟩ := l1Byte hc2 h2'
  simp only [e1, e2, e3, Option.bind_some]
  rw [if_neg (by omega), w64 (n := x * 65536) (by omega) (by omega), w64 (n := y * 256) (by omega) (by omega), w64 (n := x * 65536 + y * 256) (by omega) (by omega), w64 (by omega) (by omega)]
  have := tmod_range (show 0 ≤ x * 65536 + y * 256 + z by omega) (show 0 < n by omega)
  exact ⟨_, _, _, rfl, this.1, fun _ => this.2, by omega, hc3⟩
theorem l1Bytes_l0 {l : List Int} (n : Int) (hn : n ≤ 140737488351232) (d : Nat) : ∀ (i h : Int) (j : Nat) (o : List Int), Cur l i → (j : Int) + d = n → o.length = j → Bytes o → ∃ r i' h', Ev (fun k => spec_l1Bytes.l0 k n o (j : Int) l i h) (r, i', h') ∧ (r.length : Int) = n ∧ Bytes r ∧ Cur l i' := by
 induction d with
 | zero =>
  intro i h j o hc hj ho hb
  exact ⟨o, i, h, Ev.step (fun k => spec_l1Bytes.l0.eq_2 _ _ _ _ _ _ k) (Ev.neg (by omega) (Ev.done rfl)), by omega, hb, hc⟩
 | succ d ih =>
  intro i h j o hc hj ho hb
  obtain ⟨r, i1, h1, e1, r0, r1, hc1⟩ := l1Byte hc h
  obtain ⟨q, i2, h2, hev, hq⟩ := ih i1 h1 (j + 1) (o ++ [r % 256]) hc1 (by omega) (by simp [ho]) (hb.append (Bytes.cons (by omega) Bytes.nil))
  refine ⟨q, i2, h2, Ev.step (fun k => spec_l1Bytes.l0.eq_2 _ _ _ _ _ _ k) (Ev.pos (by omega) (Ev.then e1 (Ev.pos (by omega) ?_))), hq⟩
  rw [w64 (n := (j : Int) + 1) (by omega) (by omega), cast_succ]
  exact hev
theorem l1Bytes {l : List Int} {i : Int} (hc : Cur l i) (h n : Int) (hn : n ≤ 140737488351232) : ∃ r i' h', Ev (fun k => spec_l1Bytes.f k l i h n) (r, i', h') ∧ (0 ≤ n → (r.length : Int) = n) ∧ (n < 0 → r = []) ∧ Bytes r ∧ Cur l i' := by
 unfold spec_l1Bytes.f
 by_cases h0 : 0 ≤ n
 ·obtain ⟨r, i', h', hev, hl, hb, hc'⟩ := l1Bytes_l0 n hn n.toNat i h 0 [] hc (by omega) rfl Bytes.nil
  exact ⟨r, i', h', hev, fun _ => hl, by omega, hb, hc'⟩
 ·exact ⟨[], i, h, Ev.step (fun k => spec_l1Bytes.l0.eq_2 _ _ _ _ _ _ k) (Ev.neg (by omega) (Ev.done rfl)), by omega, fun _ => rfl, Bytes.nil, hc⟩
theorem big (l : List Int) : laws_big.f l = some (decide ((l.length : Int) > 1048576)) := rfl
theorem at_ (l : List Int) (hb : Bytes l) (hl : l.length ≤ 1048576) (i : Int) (h0 : 0 ≤ i) (h1 : i ≤ 100) : ∃ r, laws_at.f l i = some r ∧ 0 ≤ r ∧ r ≤ 255 := by
 unfold laws_at.f
 by_cases h : i < (l.length : Int)
 ·rw [if_pos h, if_pos h0, w64_byte hb]
  have := rd_byte hb i
  exact ⟨_, rfl, this⟩
 ·rw [if_neg h, w64 (n := i * 31) (by omega) (by omega), w64 (n := (l.length : Int) * 7) (by omega) (by omega), w64 (by omega) (by omega)]
  have := tmod_range (x := i * 31 + (l.length : Int) * 7) (n := 256) (by omega) (by omega)
  exact ⟨_, rfl, this.1, by omega⟩
def Turned (b x : List Int) : Prop := b = [] ∧ x = [] ∨ ∃ (i : Nat) (hi : i < b.length) (y : Int), x = b.set i y ∧ 0 ≤ y ∧ y ≤ 255 ∧ y ≠ b[i]
theorem Turned.bytes {b x : List Int} (h : Turned b x) (hb : Bytes b) : Bytes x := by
 rcases h with ⟨rfl, rfl⟩ | ⟨i, hi, y, rfl, h0, h1, _⟩
 ·exact hb
 ·intro z hz
  rcases List.mem_or_eq_of_mem_set hz with hz | rfl
  ·exact hb z hz
  ·exact ⟨h0, h1⟩
theorem Turned.length {b x : List Int} (h : Turned b x) : x.length = b.length := by
 rcases h with ⟨rfl, rfl⟩ | ⟨i, hi, y, rfl, _⟩
 ·rfl
 ·rw [List.length_set]
theorem Turned.crc {b x : List Int} (h : Turned b x) (hb : Bytes b) (h0 : 0 < b.length) : crc x ≠ crc b := by
 rcases h with ⟨rfl, rfl⟩ | ⟨i, hi, y, rfl, h1, _, h3⟩
 ·simp at h0
 ·intro he
  unfold Fn.crc at he
  have hx := hb _ (List.getElem_mem hi)
  exact Crc.sum_set b 65535 i hi y h1 hx.1 h3 (by exact_mod_cast he)
theorem l1Once {l : List Int} {i : Int} (hc : Cur l i) (h n : Int) : ∃ r i' h', spec_l1Once.f l i h n = some (r, i', h') ∧ Cur l i' := by
 unfold spec_l1Once.f
 obtain ⟨r, i1, h1, e1, _, _, _, hc1⟩ := l1Below hc h n
 rw [e1]
 exact ⟨_, _, _, rfl, hc1⟩
theorem l1Str {l : List Int} {i : Int} (hc : Cur l i) (h : Int) (L : List ByteArray) (h0 : L ≠ []) : ∃ r i' h', spec_l1Str.f l i h L = some (r, i', h') ∧ r ∈ L ∧ Cur l i' := by
 unfold spec_l1Str.f
 obtain ⟨r, i1, h1, e1, r0, r1, _, hc1⟩ := l1Below hc h L.length
 have hl : 0 < L.length := List.length_pos_iff.2 h0
 have hr := r1 (by omega)
 rw [e1]
 simp only [Option.bind_some]
 rw [if_pos r0, if_pos hr]
 refine ⟨_, _, _, rfl, ?_, hc1⟩
 unfold rdOf
 rw [List.getD_eq_getElem?_getD, List.getElem?_eq_getElem (by omega)]
 exact List.getElem_mem _
theorem l1Int {l : List Int} {i : Int} (hc : Cur l i) (h : Int) (L : List Int) (h0 : L ≠ []) : ∃ r i' h', spec_l1Int.f l i h L = some (r, i', h') ∧ Cur l i' := by
 unfold spec_l1Int.f
 obtain ⟨r, i1, h1, e1, r0, r1, _, hc1⟩ := l1Below hc h L.length
 have hl : 0 < L.length := List.length_pos_iff.2 h0
 have hr := r1 (by omega)
 rw [e1]
 simp only [Option.bind_some]
 rw [if_pos r0, if_pos hr]
 exact ⟨_, _, _, rfl, hc1⟩
end Go.Proofs.YthkepmicdpgbbaaGreatDoor.Fn

namespace Go.Proofs.YthkepmicdpgbbaaGreatDoor.Fn
set_option linter.unusedVariables false
set_option linter.unusedSimpArgs false
open Go.RowKit Go.Proofs.YthkepmicdpgbbaaGreatDoorW.PrintWords Go.Proofs.YthkepmicdpgbbaaGreatDoor.P Go.Proofs.YthkepmicdpgbbaaGreatDoor.Base
theorem l1IntIn {l : List Int} {i : Int} (hc : Cur l i) (h : Int) (L : List Int) (h0 : L ≠ []) : ∃ r i' h', spec_l1Int.f l i h L = some (r, i', h') ∧ r ∈ L ∧ Cur l i' := by
 unfold spec_l1Int.f
 obtain ⟨r, i1, h1, e1, r0, r1, _, hc1⟩ := l1Below hc h L.length
 have hl : 0 < L.length := List.length_pos_iff.2 h0
 have hr := r1 (by omega)
 rw [e1]
 simp only [Option.bind_some]
 rw [if_pos r0, if_pos hr]
 refine ⟨_, _, _, rfl, ?_, hc1⟩
 obtain ⟨j, rfl⟩ := Int.eq_ofNat_of_zero_le r0
 rw [rd_getElem (by omega)]
 exact List.getElem_mem _
structure Up (d : Dk) : Prop where
 ok : DiskOk d
 bs : ∀ x ∈ d.secs, Bytes x
 bc : ∀ x ∈ d.cache, Bytes x.f1
 up : d.down = false
theorem Up.fits {d : Dk} (h : Up d) : Fits d := Fits_of_ok h.ok h.bs h.bc
theorem fuseOf_in {f : Int} (h : -1 ≤ f ∧ f ≤ 1000) : -1 ≤ fuseOf f ∧ fuseOf f ≤ 1000 := by
 unfold fuseOf
 by_cases h0 : f = 0
 ·rw [if_pos h0]; omega
 ·rw [if_neg h0]
  by_cases h1 : f > 0
  ·rw [if_pos h1]; omega
  ·rw [if_neg h1]; omega
theorem wroteD_ok {d : Dk} {n : Int} {b : List Int} (h : DiskOk d) (hn : 0 ≤ n ∧ n ≤ (d.secs.length : Int) - 1) (hb : b.length ≤ 160) (h30 : d.cache.length ≠ 30) : DiskOk (wroteD d n b) := by
 obtain ⟨h1, h2, h3, h4, h5⟩ := h
 unfold wroteD
 refine ⟨h1, ?_, fuseOf_in h3, h4, ?_⟩
 ·by_cases h0 : d.fuse = 0
  ·simp only [h0, if_true]; exact h2
  ·simp only [h0, if_false, List.length_append, List.length_singleton]; omega
 ·by_cases h0 : d.fuse = 0
  ·simp only [h0, if_true]; exact h5
  ·simp only [h0, if_false]
   intro x hx
   rcases List.mem_append.1 hx with hx | hx
   ·exact h5 x hx
   ·rw [List.mem_singleton.1 hx]; exact ⟨hn, hb⟩
theorem writeSec_ok {d : Dk} {n : Int} {b : List Int} (h : DiskOk d) : DiskOk (writeSec d n b) := by
 by_cases hc : CanWrite d n b
 ·rw [writeSec_yes hc]; exact wroteD_ok h hc.2.2.1 hc.2.2.2.1 hc.2.2.2.2
 ·rw [writeSec_no hc]; exact h
theorem writeSec_secs (d : Dk) (n : Int) (b : List Int) : (writeSec d n b).secs = d.secs := by
 by_cases hc : CanWrite d n b
 ·rw [writeSec_yes hc]; rfl
 ·rw [writeSec_no hc]
theorem writeSec_cache {P : Wr → Prop} (d : Dk) (n : Int) (b : List Int) (h : ∀ x ∈ d.cache, P x) (hb : P ⟨n, b⟩) : ∀ x ∈ (writeSec d n b).cache, P x := by
 by_cases hc : CanWrite d n b
 ·rw [writeSec_yes hc]
  unfold wroteD
  by_cases h0 : d.fuse = 0
  ·simp only [h0, if_true]; exact h
  ·simp only [h0, if_false]
   intro x hx
   rcases List.mem_append.1 hx with hx | hx
   ·exact h x hx
   ·rw [List.mem_singleton.1 hx]; exact hb
 ·rw [writeSec_no hc]; exact h
theorem writeSec_fits {d : Dk} (h : Fits d) (n : Int) {b : List Int} (hb : b.length ≤ 1048576 ∧ Bytes b) : Fits (writeSec d n b) := by
 refine ⟨by rw [writeSec_secs]; exact h.1, by rw [writeSec_secs]; exact h.2.1, ?_, writeSec_cache d n b h.2.2.2 hb⟩
 by_cases hc : CanWrite d n b
 ·rw [writeSec_yes hc]
  have := hc.1.2.1
  unfold wroteD
  by_cases h0 : d.fuse = 0
  ·simp only [h0, if_true]; omega
  ·simp only [h0, if_false, List.length_append, List.length_singleton]; omega
 ·rw [writeSec_no hc]; exact h.2.2.1
theorem ap_ok {n : Nat} (c : List Wr) (hc : ∀ x ∈ c, x.f1.length ≤ 160) (s : List (List Int)) (hs : ∀ x ∈ s, x.length ≤ 160) : ∀ x ∈ ap s c, x.length ≤ 160 := ap_all (P := fun l => l.length ≤ 160) c hc s hs
theorem syncDisk_ok {d : Dk} (h : DiskOk d) : DiskOk (syncDisk d) := by
 by_cases hc : DiskOk d ∧ d.down = false
 ·rw [syncDisk_yes hc]
  obtain ⟨h1, h2, h3, h4, h5⟩ := h
  by_cases h0 : d.fuse = 0
  ·rw [if_pos h0]; exact ⟨h1, h2, by simp, h4, h5⟩
  ·rw [if_neg h0]
   refine ⟨by simp only [ap_length]; exact h1, by simp, fuseOf_in h3, ap_ok (n := 0) d.cache (fun x hx => (h5 x hx).2) d.secs h4, fun x hx => by cases hx⟩
 ·rw [syncDisk_no hc]; exact h
theorem syncDisk_fits {d : Dk} (h : Fits d) : Fits (syncDisk d) := by
 by_cases hc : DiskOk d ∧ d.down = false
 ·rw [syncDisk_yes hc]
  by_cases h0 : d.fuse = 0
  ·rw [if_pos h0]; exact h
  ·rw [if_neg h0]
   exact ⟨by simp only [ap_length]; exact h.1, ap_all (P := fun x => x.length ≤ 1048576 ∧ Bytes x) d.cache h.2.2.2 d.secs h.2.1, by simp, fun x hx => by cases hx⟩
 ·rw [syncDisk_no hc]; exact h
theorem syncDisk_len (d : Dk) : (syncDisk d).secs.length = d.secs.length := by
 by_cases hc : DiskOk d ∧ d.down = false
 ·rw [syncDisk_yes hc]
  by_cases h0 : d.fuse = 0
  ·rw [if_pos h0]
  ·rw [if_neg h0]; exact ap_length _ _
 ·rw [syncDisk_no hc]
theorem writeSec_up {d : Dk} (h : Up d) (hf : d.fuse = -1) (n : Int) {b : List Int} (hb : Bytes b) : Up (writeSec d n b) ∧ (writeSec d n b).fuse = -1 := by
 refine ⟨⟨writeSec_ok h.ok, by rw [writeSec_secs]; exact h.bs, writeSec_cache (P := fun x => Bytes x.f1) d n b h.bc hb, ?_⟩, ?_⟩
 ·by_cases hc : CanWrite d n b
  ·rw [writeSec_yes hc]
   show downOf d.fuse d.down = false
   rw [hf]; exact h.up
  ·rw [writeSec_no hc]; exact h.up
 ·by_cases hc : CanWrite d n b
  ·rw [writeSec_yes hc]
   show fuseOf d.fuse = -1
   rw [hf]; rfl
  ·rw [writeSec_no hc]; exact hf
theorem syncDisk_up {d : Dk} (h : Up d) (hf : d.fuse = -1) : Up (syncDisk d) ∧ (syncDisk d).fuse = -1 := by
 have e : syncDisk d = ⟨ap d.secs d.cache, [], fuseOf d.fuse, d.down⟩ := by rw [syncDisk_yes ⟨h.ok, h.up⟩, if_neg (by omega)]
 refine ⟨⟨syncDisk_ok h.ok, ?_, ?_, by rw [e]; exact h.up⟩, by rw [e]; show fuseOf d.fuse = -1; rw [hf]; rfl⟩
 ·rw [e]; exact ap_all (P := Bytes) d.cache h.bc d.secs h.bs
 ·rw [e]; intro x hx; cases hx
theorem spec_l2Draw_l0 {l : List Int} (m : Nat) : m ≤ 100 → ∀ (i h : Int) (d : Dk), Cur l i → Up d → d.fuse = -1 → ∃ d' i' h', Ev (fun k => spec_l2Draw.l0 k (m : Int) l i h d.secs d.cache d.fuse d.down) (d'.secs, d'.cache, d'.fuse, d'.down, i', h') ∧ Up d' ∧ d'.secs.length = d.secs.length ∧ d'.fuse ≤ 2 ∧ Cur l i' := by
 induction m with
 | zero =>
  intro _ i h d hc hu hf
  obtain ⟨f, i1, h1, e1, hfm, hc1⟩ := l1IntIn hc h [(-1), (-1), 0, 1, 2] (by simp)
  have hfr : -1 ≤ f ∧ f ≤ 2 := by
   simp only [List.mem_cons, List.not_mem_nil, or_false] at hfm
   omega
  refine ⟨⟨d.secs, d.cache, f, d.down⟩, i1, h1, Ev.step (fun k => spec_l2Draw.l0.eq_2 _ _ _ _ _ _ _ _ k) (Ev.neg (by omega) (Ev.then e1 (Ev.done rfl))), ⟨?_, hu.bs, hu.bc, hu.up⟩, rfl, hfr.2, hc1⟩
  exact ⟨hu.ok.1, hu.ok.2.1, ⟨hfr.1, by show f ≤ 1000; omega⟩, hu.ok.2.2.2⟩
 | succ m ih =>
  intro hm100 i h d hc hu hf
  obtain ⟨n, i1, h1, e1, n0, n1, _, hc1⟩ := l1Below hc h d.secs.length
  obtain ⟨q, i2, h2, e2, q0, q1, _, hc2⟩ := l1Below hc1 h1 5
  have q2 := q1 (by omega)
  obtain ⟨b, i3, h3, e3, b1, _, hb, hc3⟩ := l1Bytes hc2 h2 q (by omega)
  have hbl := b1 q0
  obtain ⟨o, i4, h4, e4, hc4⟩ := l1Once hc3 h3 4
  obtain ⟨hu', hf'⟩ := writeSec_up hu hf n hb
  have ew := spec_writeSec d hu.fits n b (by omega)
  have hm : wrap64 (((m + 1 : Nat) : Int) - 1) = (m : Int) := by unfold wrap64; omega
  have hne : ((m + 1 : Nat) : Int) > 0 := by omega
  cases o with
  | false =>
   obtain ⟨d', i', h', e', a1, a2, a3, a4⟩   := ih (by omega) i4 h4 (writeSec d n b) hc4 hu' hf'
   refine ⟨d', i', h', Ev.step (fun k => spec_l2Draw.l0.eq_2 _ _ _ _ _ _ _ _ k) (Ev.pos hne (Ev.then e1 (Ev.then e2 (Ev.bind e3 (Ev.bind ew (Ev.then e4 (Ev.neg (by simp) ?_))))))), a1, by rw [a2, writeSec_secs], a3, a4⟩
   rw [hm]
   exact e'
  | true =>
   obtain ⟨hu2, hf2⟩ := syncDisk_up hu' hf'
   obtain ⟨d', i', h', e', a1, a2, a3, a4⟩   := ih (by omega) i4 h4 (syncDisk (writeSec d n b)) hc4 hu2 hf2
   refine ⟨d', i', h', Ev.step (fun k => spec_l2Draw.l0.eq_2 _ _ _ _ _ _ _ _ k) (Ev.pos hne (Ev.then e1 (Ev.then e2 (Ev.bind e3 (Ev.bind ew (Ev.then e4 (Ev.pos rfl (Ev.bind (spec_syncDisk _ hu'.fits) ?_)))))))), a1, by rw [a2, syncDisk_len, writeSec_secs], a3, a4⟩
   rw [hm]
   exact e'
theorem newDisk_up {n : Int} (h : 1 ≤ n ∧ n ≤ 40) : Up (newDisk n) ∧ (newDisk n).fuse = -1 ∧ (newDisk n).secs.length = n.toNat := by
 unfold newDisk
 rw [if_pos h]
 refine ⟨⟨⟨by simp; omega, by simp, by simp, fun x hx => by rw [(List.mem_replicate.1 hx).2]; simp, fun x hx => by cases hx⟩, fun x hx => by rw [(List.mem_replicate.1 hx).2]; exact Bytes.nil, fun x hx => (by cases hx), rfl⟩, rfl, by simp⟩
theorem l2Draw {l : List Int} {i : Int} (hc : Cur l i) (h : Int) : ∃ d i' h', Ev (fun k => spec_l2Draw.f k l i h) (d.secs, d.cache, d.fuse, d.down, i', h') ∧ Up d ∧ d.secs.length ≤ 5 ∧ d.fuse ≤ 2 ∧ Cur l i' := by
 unfold spec_l2Draw.f
 obtain ⟨n, i1, h1, e1, n0, n1, _, hc1⟩ := l1Below hc h 5
 have n2 := n1 (by omega)
 obtain ⟨m, i2, h2, e2, m0, m1, _, hc2⟩ := l1Below hc1 h1 8
 have m2 := m1 (by omega)
 obtain ⟨hu, hf, hl⟩ := newDisk_up (n := 1 + n) (by omega)
 obtain ⟨j, rfl⟩ := Int.eq_ofNat_of_zero_le m0
 obtain ⟨d, i', h', e', a1, a2, a3, a4⟩ := spec_l2Draw_l0 j (by omega) i2 h2 (newDisk (1 + n)) hc2 hu hf
 refine ⟨d, i', h', Ev.then e1 ?_, a1, by rw [a2, hl]; omega, a3, a4⟩
 have hw : wrap64 (1 + n) = 1 + n := by unfold wrap64; omega
 dsimp only
 rw [hw]
 exact Ev.bind (spec_diskNew (1 + n)) (Ev.then e2 e')
theorem spec_l2Any_l0 {l : List Int} (m : Nat) : ∀ (i h : Int) (d : Dk), Cur l i → Fits d → d.cache.length + m = 40 → d.cache.length ≤ 31 → ∃ d' i' h', Ev (fun k => spec_l2Any.l0 k l i h d.secs d.cache d.fuse d.down) (d'.secs, d'.cache, d'.fuse, d'.down, i', h') ∧ Fits d' ∧ Cur l i' := by
 induction m with
 | zero => intro i h d _ _ h1 h2; omega
 | succ m ih =>
  intro i h d hc hd hm h31
  obtain ⟨f, i1, h1, e1, hfm, hc1⟩ := l1IntIn hc h [29, 30, 31] (by simp)
  have hfr : 29 ≤ f ∧ f ≤ 31 := by
   simp only [List.mem_cons, List.not_mem_nil, or_false] at hfm
   omega
  by_cases hlt : (d.cache.length : Int) < f
  ·have hd' : Fits ⟨d.secs, d.cache ++ [⟨0, []⟩], d.fuse, d.down⟩ := ⟨hd.1, hd.2.1, by simp only [List.length_append, List.length_singleton]; omega, fun x hx => by
    rcases List.mem_append.1 hx with hx | hx
    ·exact hd.2.2.2 x hx
    ·rw [List.mem_singleton.1 hx]; exact ⟨by simp, Bytes.nil⟩⟩
   obtain ⟨d', i', h', e', a1, a2⟩ := ih i1 h1 ⟨d.secs, d.cache ++ [⟨0, []⟩], d.fuse, d.down⟩ hc1 hd' (by simp only [List.length_append, List.length_singleton]; omega) (by simp only [List.length_append, List.length_singleton]; omega)
   exact ⟨d', i', h', Ev.step (fun k => spec_l2Any.l0.eq_2 _ _ _ _ _ _ _ k) (Ev.then e1 (Ev.pos hlt (Ev.pos (by omega) e'))), a1, a2⟩
  ·exact ⟨d, i1, h1, Ev.step (fun k => spec_l2Any.l0.eq_2 _ _ _ _ _ _ _ k) (Ev.then e1 (Ev.neg hlt (Ev.done rfl))), hd, hc1⟩
theorem l2Any {l : List Int} {i : Int} (hc : Cur l i) (h : Int) : ∃ d i' h', Ev (fun k => spec_l2Any.f k l i h) (d.secs, d.cache, d.fuse, d.down, i', h') ∧ Fits d ∧ Cur l i' := by
 unfold spec_l2Any.f
 obtain ⟨d, i1, h1, e1, hu, hl5, hf2, hc1⟩ := l2Draw hc h
 obtain ⟨a, i2, h2, e2, a0, a1, _, hc2⟩ := l1Below hc1 h1 12
 have hd := hu.fits
 have hpos := hu.ok.1.1
 have h30 := hu.ok.2.1
 by_cases k0 : a = 0
 ·obtain ⟨f, i3, h3, e3, hc3⟩ := l1Int hc2 h2 [(-2), 1000, 1001] (by simp)
  exact ⟨⟨d.secs, d.cache, f, d.down⟩, i3, h3, Ev.bind e1 (Ev.then e2 (Ev.pos k0 (Ev.then e3 (Ev.done rfl)))), hd, hc3⟩
 by_cases k1 : a = 1
 ·exact ⟨⟨d.secs, d.cache, d.fuse, true⟩, i2, h2, Ev.bind e1 (Ev.then e2 (Ev.neg k0 (Ev.pos k1 (Ev.done rfl)))), hd, hc2⟩
 by_cases k2 : a = 2
 ·obtain ⟨n, i3, h3, e3, hn, hc3⟩ := l1IntIn hc2 h2 [160, 161] (by simp)
  have hnr : 160 ≤ n ∧ n ≤ 161 := by
   simp only [List.mem_cons, List.not_mem_nil, or_false] at hn
   omega
  obtain ⟨b, i4, h4, e4, b1, _, hb, hc4⟩ := l1Bytes hc3 h3 n (by omega)
  have hbl := b1 (by omega)
  refine ⟨⟨d.secs.set 0 b, d.cache, d.fuse, d.down⟩, i4, h4, Ev.bind e1 (Ev.then e2 (Ev.neg k0 (Ev.neg k1 (Ev.pos k2 (Ev.then e3 (Ev.bind e4 (Ev.pos (by dsimp only; omega) (Ev.done rfl)))))))), ⟨by simp only [List.length_set]; exact hd.1, fun x hx => ?_, hd.2.2⟩, hc4⟩
  rcases List.mem_or_eq_of_mem_set hx with hx | rfl
  ·exact hd.2.1 x hx
  ·exact ⟨by omega, hb⟩
 by_cases k3 : a = 3
 ·obtain ⟨n, i3, h3, e3, hc3⟩ := l1Int hc2 h2 [(-1), 9, 0] (by simp)
  refine ⟨⟨d.secs, d.cache ++ [⟨n, []⟩], d.fuse, d.down⟩, i3, h3, Ev.bind e1 (Ev.then e2 (Ev.neg k0 (Ev.neg k1 (Ev.neg k2 (Ev.pos k3 (Ev.then e3 (Ev.pos (by dsimp only; omega) (Ev.done rfl)))))))), ⟨hd.1, hd.2.1, by simp only [List.length_append, List.length_singleton]; omega, fun x hx => ?_⟩, hc3⟩
  rcases List.mem_append.1 hx with hx | hx
  ·exact hd.2.2.2 x hx
  ·rw [List.mem_singleton.1 hx]; exact ⟨by simp, Bytes.nil⟩
 by_cases k4 : a = 4
 ·obtain ⟨d', i', h', e', a1, a2⟩ := spec_l2Any_l0 (40 - d.cache.length) i2 h2 d hc2 hd (by omega) (by omega)
  exact ⟨d', i', h', Ev.bind e1 (Ev.then e2 (Ev.neg k0 (Ev.neg k1 (Ev.neg k2 (Ev.neg k3 (Ev.pos k4 e')))))), a1, a2⟩
 by_cases k5 : a = 5
 ·exact ⟨⟨[], d.cache, d.fuse, d.down⟩, i2, h2, Ev.bind e1 (Ev.then e2 (Ev.neg k0 (Ev.neg k1 (Ev.neg k2 (Ev.neg k3 (Ev.neg k4 (Ev.pos k5 (Ev.done rfl)))))))), ⟨by simp, fun x hx => (by cases hx), hd.2.2⟩, hc2⟩
 ·exact ⟨d, i2, h2, Ev.bind e1 (Ev.then e2 (Ev.neg k0 (Ev.neg k1 (Ev.neg k2 (Ev.neg k3 (Ev.neg k4 (Ev.neg k5 (Ev.done rfl)))))))), hd, hc2⟩
end Go.Proofs.YthkepmicdpgbbaaGreatDoor.Fn

namespace Go.Proofs.YthkepmicdpgbbaaGreatDoor.Fn
set_option linter.unusedVariables false
set_option linter.unusedSimpArgs false
open Go.RowKit Go.Proofs.YthkepmicdpgbbaaGreatDoorW.PrintWords Go.Proofs.YthkepmicdpgbbaaGreatDoor.P Go.Proofs.YthkepmicdpgbbaaGreatDoor.Base
abbrev Db := S138
end Go.Proofs.YthkepmicdpgbbaaGreatDoor.Fn

namespace Go.Proofs.YthkepmicdpgbbaaGreatDoor.Fn
set_option linter.unusedVariables false
set_option linter.unusedSimpArgs false
open Go.RowKit Go.Proofs.YthkepmicdpgbbaaGreatDoorW.PrintWords Go.Proofs.YthkepmicdpgbbaaGreatDoor.P Go.Proofs.YthkepmicdpgbbaaGreatDoor.Base
def nameOk (s : ByteArray) : Bool := decide (1 ≤ s.size ∧ s.size ≤ 8) && decide (∀ i : Nat, i < s.size → 97 ≤ bt s (i : Int) ∧ bt s (i : Int) ≤ 122)
theorem nameOk_iff (s : ByteArray) : nameOk s = true ↔ (1 ≤ s.size ∧ s.size ≤ 8) ∧ ∀ i : Nat, i < s.size → 97 ≤ bt s (i : Int) ∧ bt s (i : Int) ≤ 122 := by simp [nameOk]
theorem nameOk_false {s : ByteArray} {i : Nat} (hi : i < s.size) (h : bt s (i : Int) < 97 ∨ 122 < bt s (i : Int)) : nameOk s = false := by
 rw [← Bool.not_eq_true, nameOk_iff]
 rintro ⟨_, a⟩
 have := a i hi
 omega
theorem nameOk_all {s : ByteArray} (hp : ∀ j : Nat, j < s.size → 97 ≤ bt s (j : Int) ∧ bt s (j : Int) ≤ 122) : decide ((1 : Int) ≤ (s.size : Int) ∧ (s.size : Int) ≤ 8) = nameOk s := by
 rw [Bool.eq_iff_iff, nameOk_iff, decide_eq_true_eq]
 exact ⟨fun h => ⟨by omega, hp⟩, fun h => by omega⟩
theorem impl_nameOk_l0 (s : ByteArray) (hs : s.size ≤ 9223372036854775807) (d : Nat) : ∀ (i : Nat), i + d = s.size → (∀ j : Nat, j < i → 97 ≤ bt s (j : Int) ∧ bt s (j : Int) ≤ 122) → Ev (fun k => impl_nameOk.l0 k s (s.size : Int) (i : Int)) (nameOk s) := by
 induction d with
 | zero =>
  intro i hi hp
  obtain rfl : i = s.size := by omega
  exact Ev.step (fun k => impl_nameOk.l0.eq_2 _ _ _ k) (Ev.neg (by omega) (Ev.then (isIn _ _ _) (Ev.done (nameOk_all hp))))
 | succ d ih =>
  intro i hi hp
  refine Ev.step (fun k => impl_nameOk.l0.eq_2 _ _ _ k) (Ev.pos (by omega) (Ev.pos (by omega) (Ev.pos (by omega) ?_)))
  by_cases h1 : bt s (i : Int) < 97
  ·exact Ev.pos h1 (Ev.done (nameOk_false (by omega) (.inl h1)).symm)
  ·refine Ev.neg h1 ?_
   by_cases h2 : bt s (i : Int) > 122
   ·exact Ev.pos h2 (Ev.done (nameOk_false (by omega) (.inr h2)).symm)
   ·refine Ev.neg h2 ?_
    rw [w64 (by omega) (by omega), cast_succ]
    refine ih (i + 1) (by omega) (fun j hj => ?_)
    rcases Nat.lt_or_ge j i with hj' | hj'
    ·exact hp j hj'
    ·obtain rfl : j = i := by omega
     omega
theorem impl_nameOk (s : ByteArray) (hs : s.size ≤ 9223372036854775807) : Ev (fun k => impl_nameOk.f k s) (nameOk s) := by
 unfold impl_nameOk.f
 exact impl_nameOk_l0 s hs s.size 0 (by omega) (fun j hj => by omega)
theorem spec_l1Name_l0 (s : ByteArray) (hs : s.size ≤ 9223372036854775807) (d : Nat) : ∀ (i : Nat), i + d = s.size → (∀ j : Nat, j < i → 97 ≤ bt s (j : Int) ∧ bt s (j : Int) ≤ 122) → Ev (fun k => spec_l1Name.l0 k s (i : Int)) (nameOk s) := by
 induction d with
 | zero =>
  intro i hi hp
  obtain rfl : i = s.size := by omega
  exact Ev.step (fun k => spec_l1Name.l0.eq_2 _ _ k) (Ev.neg (by omega) (Ev.then (l1In _ _ _) (Ev.done (nameOk_all hp))))
 | succ d ih =>
  intro i hi hp
  refine Ev.step (fun k => spec_l1Name.l0.eq_2 _ _ k) (Ev.pos (by omega) (Ev.pos (by omega) ?_))
  by_cases h1 : bt s (i : Int) < 97
  ·exact Ev.pos h1 (Ev.done (nameOk_false (by omega) (.inl h1)).symm)
  ·refine Ev.neg h1 ?_
   by_cases h2 : bt s (i : Int) > 122
   ·exact Ev.pos h2 (Ev.done (nameOk_false (by omega) (.inr h2)).symm)
   ·refine Ev.neg h2 ?_
    rw [w64 (by omega) (by omega), cast_succ]
    refine ih (i + 1) (by omega) (fun j hj => ?_)
    rcases Nat.lt_or_ge j i with hj' | hj'
    ·exact hp j hj'
    ·obtain rfl : j = i := by omega
     omega
theorem l1Name (s : ByteArray) (hs : s.size ≤ 9223372036854775807) : Ev (fun k => spec_l1Name.f k s) (nameOk s) := by
 unfold spec_l1Name.f
 exact spec_l1Name_l0 s hs s.size 0 (by omega) (fun j hj => by omega)
end Go.Proofs.YthkepmicdpgbbaaGreatDoor.Fn

namespace Go.Proofs.YthkepmicdpgbbaaGreatDoor.Fn
set_option linter.unusedVariables false
set_option linter.unusedSimpArgs false
open Go.RowKit Go.Proofs.YthkepmicdpgbbaaGreatDoorW.PrintWords Go.Proofs.YthkepmicdpgbbaaGreatDoor.P Go.Proofs.YthkepmicdpgbbaaGreatDoor.Base
def dbAt (l : List Db) (name : ByteArray) : Option Db := l.find? (fun x => x.f0.toList == name.toList)
def dbAns : Option Db → ByteArray × Int × Int × Int × Int × Bool
 | none => ((⟨#[]⟩ : ByteArray), 0, 0, 0, 0, false)
 | some x => (x.f0, x.f1, x.f2, x.f3, x.f4, true)
theorem spec_DbAt_l0 (l : List Db) (name : ByteArray) (hl : l.length ≤ 9223372036854775807) (d : Nat) : ∀ (i : Nat), i + d = l.length → Ev (fun k => spec_DbAt.l0 k l name (i : Int)) (dbAns (dbAt (l.drop i) name)) := by
 induction d with
 | zero =>
  intro i hi
  refine Ev.step (fun k => spec_DbAt.l0.eq_2 _ _ _ k) (Ev.neg (by omega) (Ev.done ?_))
  rw [List.drop_of_length_le (by omega)]
  rfl
 | succ d ih =>
  intro i hi
  have he : rd_T138 l (i : Int) = l[i] := getD_nat l _ (by omega)
  refine Ev.step (fun k => spec_DbAt.l0.eq_2 _ _ _ k) (Ev.pos (by omega) (Ev.pos (by omega) ?_))
  rw [he, List.drop_eq_getElem_cons (by omega), dbAt, List.find?_cons]
  by_cases h : (l[i]).f0.toList = name.toList
  ·refine Ev.pos h (Ev.done ?_)
   simp [h, dbAns]
  ·refine Ev.neg h ?_
   rw [w64 (n := (i : Int) + 1) (by omega) (by omega), cast_succ]
   refine Ev.eq (ih (i + 1) (by omega)) ?_
   have hb : ((l[i]).f0.toList == name.toList) = false := by simpa using h
   simp only [hb]
   rfl
theorem spec_dbAt (l : List Db) (name : ByteArray) (hl : l.length ≤ 9223372036854775807) : Ev (fun k => spec_DbAt.f k l name) (dbAns (dbAt l name)) := spec_DbAt_l0 l name hl l.length 0 (by omega)
def noneAt (l : List Db) (name : ByteArray) : Nat → Nat → Bool
 | _, 0 => true
 | j, e + 1 => !((rd_T138 l (j : Int)).f0.toList == name.toList) && noneAt l name (j + 1) e
def dbOk (x : Db) : Bool := nameOk x.f0 && (decide (1 ≤ x.f1 ∧ x.f1 ≤ 3) && (decide (0 ≤ x.f2 ∧ x.f2 ≤ 4) && (decide (1 ≤ x.f3 ∧ x.f3 ≤ 20) && decide (1 ≤ x.f4 ∧ x.f4 ≤ 20))))
def confFrom (l : List Db) : Nat → Nat → Bool
 | _, 0 => decide ((1 : Int) ≤ (l.length : Int) ∧ (l.length : Int) ≤ 3)
 | i, d + 1 => dbOk (rd_T138 l (i : Int)) && (noneAt l (rd_T138 l (i : Int)).f0 0 i && confFrom l (i + 1) d)
theorem spec_l3Db (x : Db) (hx : x.f0.size ≤ 9223372036854775807) : Ev (fun k => spec_l3Db.f k x.f0 x.f1 x.f2 x.f3 x.f4) (dbOk x) := by
 unfold spec_l3Db.f dbOk
 refine Ev.bind (l1Name _ hx) ?_
 cases nameOk x.f0
 ·exact Ev.neg (by decide) (Ev.done rfl)
 ·refine Ev.pos rfl (Ev.then (l1In _ _ _) ?_)
  generalize decide (1 ≤ x.f1 ∧ x.f1 ≤ 3) = b1
  cases b1
  ·exact Ev.neg (by decide) (Ev.done rfl)
  ·refine Ev.pos rfl (Ev.then (l1In _ _ _) ?_)
   generalize decide (0 ≤ x.f2 ∧ x.f2 ≤ 4) = b2
   cases b2
   ·exact Ev.neg (by decide) (Ev.done rfl)
   ·refine Ev.pos rfl (Ev.then (l1In _ _ _) ?_)
    generalize decide (1 ≤ x.f3 ∧ x.f3 ≤ 20) = b3
    cases b3
    ·exact Ev.neg (by decide) (Ev.done rfl)
    ·exact Ev.pos rfl (Ev.then (l1In _ _ _) (Ev.done (by simp)))
theorem spec_ConfOk_l1 (l : List Db) (hl : l.length ≤ 1048577) (i : Nat) (hi : i < l.length) (b : Bool) (hb : Ev (fun k => spec_ConfOk.l0 k l ((i + 1 : Nat) : Int)) b) (e : Nat) : ∀ (j : Nat), j + e = i →
  Ev (fun k => spec_ConfOk.l1 k l (i : Int) (j : Int)) (noneAt l (rd_T138 l (i : Int)).f0 j e && b) := by
 induction e with
 | zero =>
  intro j hj
  refine Ev.step (fun k => spec_ConfOk.l1.eq_2 _ _ _ k) (Ev.neg (by omega) ?_)
  rw [w64 (n := (i : Int) + 1) (by omega) (by omega), cast_succ]
  exact Ev.eq hb (by simp [noneAt])
 | succ e ih =>
  intro j hj
  refine Ev.step (fun k => spec_ConfOk.l1.eq_2 _ _ _ k) (Ev.pos (by omega) (Ev.pos (by omega) (Ev.pos (by omega) (Ev.pos (by omega) (Ev.pos (by omega) ?_)))))
  rw [noneAt]
  by_cases h : (rd_T138 l (j : Int)).f0.toList = (rd_T138 l (i : Int)).f0.toList
  ·exact Ev.pos h (Ev.done (by rw [beq_iff_eq.2 h]; rfl))
  ·refine Ev.neg h ?_
   rw [w64 (n := (j : Int) + 1) (by omega) (by omega), cast_succ]
   refine Ev.eq (ih (j + 1) (by omega)) ?_
   rw [beq_eq_false_iff_ne.2 h]
   rfl
theorem spec_ConfOk_l0 (l : List Db) (hl : l.length ≤ 1048577) (hg : ∀ x ∈ l, x.f0.size ≤ 9223372036854775807) (d : Nat) : ∀ (i : Nat), i + d = l.length → Ev (fun k => spec_ConfOk.l0 k l (i : Int)) (confFrom l i d) := by
 induction d with
 | zero =>
  intro i hi
  exact Ev.step (fun k => spec_ConfOk.l0.eq_2 _ _ k) (Ev.neg (by omega) (Ev.then (l1In _ _ _) (Ev.done rfl)))
 | succ d ih =>
  intro i hi
  have he : rd_T138 l (i : Int) = l[i] := getD_nat l _ (by omega)
  refine Ev.step (fun k => spec_ConfOk.l0.eq_2 _ _ k) (Ev.pos (by omega) (Ev.pos (by omega) (Ev.bind (spec_l3Db _ (by rw [he]; exact hg _ (List.getElem_mem _))) ?_)))
  rw [confFrom]
  cases dbOk (rd_T138 l (i : Int))
  ·exact Ev.neg (by decide) (Ev.done rfl)
  ·refine Ev.pos rfl ?_
   rw [Bool.true_and]
   exact spec_ConfOk_l1 l hl i (by omega) _ (ih (i + 1) (by omega)) i 0 (by omega)
theorem spec_confOk (l : List Db) (hl : l.length ≤ 1048577) (hg : ∀ x ∈ l, x.f0.size ≤ 9223372036854775807) : Ev (fun k => spec_ConfOk.f k l) (confFrom l 0 l.length) := spec_ConfOk_l0 l hl hg l.length 0 (by omega)
theorem place_none (l : List Db) (i : Nat) (hi : i < l.length) (e : Nat) : ∀ (j : Nat), j + e = i →
  decide (impl_dbPlace.l0 (l.drop j) (rd_T138 l (i : Int)).f0 (j : Int) = (i : Int)) = noneAt l (rd_T138 l (i : Int)).f0 j e := by
 induction e with
 | zero =>
  intro j hj
  obtain rfl : j = i := by omega
  rw [drop_get l z138 hi, impl_dbPlace.l0]
  unfold rd_T138
  rw [if_pos rfl]
  simp [noneAt]
 | succ e ih =>
  intro j hj
  rw [drop_get l z138 (show j < l.length by omega), impl_dbPlace.l0, noneAt]
  by_cases h : (rd_T138 l (j : Int)).f0.toList = (rd_T138 l (i : Int)).f0.toList
  ·rw [if_pos (by unfold rd_T138 at h ⊢; exact h), beq_iff_eq.2 h]
   simp; omega
  ·rw [if_neg (by unfold rd_T138 at h ⊢; exact h), beq_eq_false_iff_ne.2 h, cast_succ, ih (j + 1) (by omega)]
   rfl
theorem impl_ConfOk_l0 (l : List Db) (hl : l.length ≤ 1048577) (hg : ∀ x ∈ l, x.f0.size ≤ 9223372036854775807) (d : Nat) : ∀ (i : Nat), i + d = l.length → Ev (fun k => impl_ConfOk.l0 k l l (l.length : Int) (i : Int)) (confFrom l i d) := by
 induction d with
 | zero =>
  intro i hi
  exact Ev.step (fun k => impl_ConfOk.l0.eq_2 _ _ _ _ k) (Ev.neg (by omega) (Ev.then (isIn _ _ _) (Ev.done rfl)))
 | succ d ih =>
  intro i hi
  have he : rd_T138 l (i : Int) = l[i] := getD_nat l _ (by omega)
  have hp := place_none l i (by omega) i 0 (by omega)
  refine Ev.step (fun k => impl_ConfOk.l0.eq_2 _ _ _ _ k) (Ev.pos (by omega) (Ev.pos (by omega) (Ev.pos (by omega) (Ev.bind (impl_nameOk _ (by rw [he]; exact hg _ (List.getElem_mem _))) ?_))))
  rw [confFrom, dbOk]
  cases nameOk (rd_T138 l (i : Int)).f0
  ·exact Ev.neg (by decide) (Ev.done rfl)
  refine Ev.pos rfl (Ev.then rfl ?_)
  rw [← hp]
  by_cases h : impl_dbPlace.l0 l (rd_T138 l (i : Int)).f0 0 = (i : Int)
  ·refine Ev.pos h (Ev.then (isIn _ _ _) ?_)
   rw [show decide (impl_dbPlace.l0 (List.drop 0 l) (rd_T138 l (i : Int)).f0 ((0 : Nat) : Int) = (i : Int)) = true from decide_eq_true h]
   generalize decide (1 ≤ (rd_T138 l (i : Int)).f1 ∧ (rd_T138 l (i : Int)).f1 ≤ 3) = b1
   cases b1
   ·exact Ev.neg (by decide) (Ev.done rfl)
   refine Ev.pos rfl (Ev.then (isIn _ _ _) ?_)
   generalize decide (0 ≤ (rd_T138 l (i : Int)).f2 ∧ (rd_T138 l (i : Int)).f2 ≤ 4) = b2
   cases b2
   ·exact Ev.neg (by decide) (Ev.done rfl)
   refine Ev.pos rfl (Ev.then (isIn _ _ _) ?_)
   generalize decide (1 ≤ (rd_T138 l (i : Int)).f3 ∧ (rd_T138 l (i : Int)).f3 ≤ 20) = b3
   cases b3
   ·exact Ev.neg (by decide) (Ev.done rfl)
   refine Ev.pos rfl (Ev.then (isIn _ _ _) ?_)
   generalize decide (1 ≤ (rd_T138 l (i : Int)).f4 ∧ (rd_T138 l (i : Int)).f4 ≤ 20) = b4
   cases b4
   ·exact Ev.neg (by decide) (Ev.done rfl)
   refine Ev.pos rfl ?_
   rw [w64 (n := (i : Int) + 1) (by omega) (by omega), cast_succ]
   exact Ev.eq (ih (i + 1) (by omega)) (by simp)
  ·refine Ev.neg h (Ev.done ?_)
   rw [show decide (impl_dbPlace.l0 (List.drop 0 l) (rd_T138 l (i : Int)).f0 ((0 : Nat) : Int) = (i : Int)) = false from decide_eq_false h]
   simp
theorem impl_confOk (l : List Db) (hl : l.length ≤ 1048577) (hg : ∀ x ∈ l, x.f0.size ≤ 9223372036854775807) : Ev (fun k => impl_ConfOk.f k l) (confFrom l 0 l.length) := impl_ConfOk_l0 l hl hg l.length 0 (by omega)
end Go.Proofs.YthkepmicdpgbbaaGreatDoor.Fn

namespace Go.Proofs.YthkepmicdpgbbaaGreatDoor.Fn
set_option linter.unusedVariables false
set_option linter.unusedSimpArgs false
open Go.RowKit Go.Proofs.YthkepmicdpgbbaaGreatDoorW.PrintWords Go.Proofs.YthkepmicdpgbbaaGreatDoor.P Go.Proofs.YthkepmicdpgbbaaGreatDoor.Base
def ba (l : List UInt8) : ByteArray := ⟨l.toArray⟩
theorem ba_size (l : List UInt8) : (ba l).size = l.length := by simp [ba, ByteArray.size]
theorem ba_append (l m : List UInt8) : ba l ++ ba m = ba (l ++ m) := by
 apply ByteArray.ext
 simp [ba]
theorem ba_of (s : ByteArray) : s = ba s.data.toList := by
 apply ByteArray.ext
 simp [ba]
theorem ba_one (n : Nat) (h : n < 10) : strOfNums [(wrap64 (48 + (n : Int))) % 256] = ba [UInt8.ofNat (48 + n)] := by
 rw [w64 (by omega) (by omega), show (48 + (n : Int)) % 256 = ((48 + n : Nat) : Int) by omega]
 rfl
def numFin (n : Int) (s : ByteArray) : ByteArray := if n < 0 then ba [45] ++ s else s
theorem tmod_pos (m : Nat) : Int.tmod (m : Int) 10 = ((m % 10 : Nat) : Int) := by rw [Int.tmod_eq_emod_of_nonneg (by omega)]; omega
theorem tdiv_pos (m : Nat) : Int.tdiv (m : Int) 10 = ((m / 10 : Nat) : Int) := by rw [Int.tdiv_eq_ediv_of_nonneg (by omega)]; omega
theorem tmod_neg (m : Nat) : Int.tmod (-(m : Int)) 10 = -((m % 10 : Nat) : Int) := by rw [Int.neg_tmod, tmod_pos]
theorem tdiv_neg (m : Nat) : Int.tdiv (-(m : Int)) 10 = -((m / 10 : Nat) : Int) := by rw [Int.neg_tdiv, tdiv_pos]
theorem digits_step (m : Nat) (h : m ≠ 0) (s : ByteArray) : (if m / 10 = 0 then (ba [UInt8.ofNat (48 + m % 10)] ++ s) else ba (Lib.decDigits (m / 10)) ++ (ba [UInt8.ofNat (48 + m % 10)] ++ s)) = ba (Lib.decDigits m) ++ s := by
 by_cases h10 : m < 10
 ·conv => rhs; rw [Lib.decDigits, dif_pos h10]
  rw [if_pos (by omega), Nat.mod_eq_of_lt h10]
 ·conv => rhs; rw [Lib.decDigits, dif_neg h10]
  rw [if_neg (by omega), ba_of s, ba_append, ba_append, ba_append, List.append_assoc]
theorem spec_NumText_l0 (n : Int) (d : Nat) : ∀ (m : Nat) (x : Int) (s : ByteArray), x = (m : Int) ∨ x = -(m : Int) → m < 10 ^ d → d ≤ 20 → m ≤ 9223372036854775808 → s.size + d ≤ 1000 →
  Ev (fun k => spec_NumText.l0 k n s x) (numFin n (if m = 0 then s else ba (Lib.decDigits m) ++ s)) := by
 have fin : ∀ s : ByteArray, s.size ≤ 1000 → Ev (fun k => spec_NumText.l0 k n s 0) (numFin n s) := by
  intro s hs
  refine Ev.step (fun k => spec_NumText.l0.eq_2 _ _ _ k) (Ev.pos rfl ?_)
  by_cases hn : n < 0
  ·exact Ev.pos hn (Ev.pos (by omega) (Ev.done (if_pos hn).symm))
  ·exact Ev.neg hn (Ev.done (if_neg hn).symm)
 induction d with
 | zero =>
  intro m x s hx hm _ _ hs
  obtain rfl : m = 0 := by simpa using hm
  obtain rfl : x = 0 := by omega
  rw [if_pos rfl]
  exact fin s (by omega)
 | succ d ih =>
  intro m x s hx hm hd hM hs
  by_cases h0 : m = 0
  ·subst h0
   obtain rfl : x = 0 := by omega
   rw [if_pos rfl]
   exact fin s (by omega)
  rw [if_neg h0, ← digits_step m h0 s]
  have hm' : m / 10 < 10 ^ d := by
   rw [Nat.pow_succ] at hm
   omega
  have hx0 : ¬ x = 0 := by omega
  have hmod : m % 10 < 10 := Nat.mod_lt _ (by decide)
  have next : ∀ y : Int, y = ((m / 10 : Nat) : Int) ∨ y = -((m / 10 : Nat) : Int) → Ev (fun k => spec_NumText.l0 k n (strOfNums [(wrap64 (48 + ((m % 10 : Nat) : Int))) % 256] ++ s) (wrap64 y)) (numFin n (if m / 10 = 0 then (ba [UInt8.ofNat (48 + m % 10)] ++ s) else ba (Lib.decDigits (m / 10)) ++ (ba [UInt8.ofNat (48 + m % 10)] ++ s))) := by
   intro y hy
   rw [ba_one _ hmod, w64 (by omega) (by omega)]
   exact ih (m / 10) y _ hy hm' (by omega) (by omega) (by rw [size_append, ba_size]; simp; omega)
  have sz : (strOfNums [(wrap64 (48 + ((m % 10 : Nat) : Int))) % 256]).size + s.size ≤ 9223372036854775807 := by rw [size_strOfNums]; simp; omega
  refine Ev.step (fun k => spec_NumText.l0.eq_2 _ _ _ k) (Ev.neg hx0 ?_)
  rcases hx with rfl | rfl
  ·rw [tmod_pos, tdiv_pos]
   exact Ev.neg (by omega) (Ev.then rfl (Ev.pos sz (next _ (.inl rfl))))
  ·rw [tmod_neg, tdiv_neg]
   by_cases hz : m % 10 = 0
   ·rw [hz] at sz next ⊢
    exact Ev.neg (by omega) (Ev.then rfl (Ev.pos sz (next _ (.inr rfl))))
   ·refine Ev.pos (by omega) ?_
    rw [Int.neg_neg, w64 (n := ((m % 10 : Nat) : Int)) (by omega) (by omega)]
    exact Ev.then rfl (Ev.pos sz (next _ (.inr rfl)))
theorem spec_numText (n : Int) (h0 : -9223372036854775808 ≤ n) (h1 : n ≤ 9223372036854775807) : Ev (fun k => spec_NumText.f k n) (ba (Lib.itoa n)) := by
 unfold spec_NumText.f
 by_cases hn : n = 0
 ·subst hn
  exact Ev.pos rfl (Ev.done (by rw [Lib.itoa, if_neg (by decide), Lib.decDigits, dif_pos (by decide)]; rfl))
 refine Ev.neg hn (Ev.eq (spec_NumText_l0 n 19 n.natAbs n _ (by omega) (by have h10 : (10 : Nat) ^ 19 = 10000000000000000000 := (by decide); rw [h10]; omega) (by omega) (by omega) (by decide)) ?_)
 rw [if_neg (by omega), Lib.itoa, numFin]
 have he : ∀ l : List UInt8, ba l ++ (⟨#[]⟩ : ByteArray) = ba l := by
  intro l
  rw [show (⟨#[]⟩ : ByteArray) = ba [] from rfl, ba_append, List.append_nil]
 rw [he]
 by_cases hneg : n < 0
 ·rw [if_pos hneg, if_pos hneg, ba_append]; rfl
 ·rw [if_neg hneg, if_neg hneg, show n.natAbs = n.toNat by omega]
theorem impl_numText (n : Int) (h0 : -9223372036854775808 ≤ n) (h1 : n ≤ 9223372036854775807) : impl_NumText.f n = some (ba (Lib.itoa n)) := by
 unfold impl_NumText.f strconv_Itoa_152.f
 rw [if_pos ⟨h0, h1⟩]
 rfl
end Go.Proofs.YthkepmicdpgbbaaGreatDoor.Fn
