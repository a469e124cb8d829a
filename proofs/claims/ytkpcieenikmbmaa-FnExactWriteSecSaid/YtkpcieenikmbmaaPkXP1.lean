/- Texts of this seat's claims, put together: EvY0, Open, Base, Crc, Bytes, Lists, Disk, DiskOk, Sum, Word, ReadSec, DiskOps, DiskMarks, PureFnExactReadSec, DiskNew, Draw, DrawDisk, SameDisk, PureFnExactWriteSec, PureFnExactSyncDisk, PureFnExactFallDisk, Head, Format, PureFnExactFormat -/
import Derived.Deep.Slices
import Derived.ChangeArms
import Derived.WideShapes
import Derived.Laws.BitsLemmas
import Derived.Laws.StructEq
import Derived.Test.YtkpcieenikmbmaaPkXB5
/- From what a law is handed, in the elder words, to what is told of its code. -/
namespace Go.Proofs.Ytkpcieenikmbmaa.E
open Go Go.RowKit Go.Proofs.YtkpcieenikmbmaaW.PrintWords
set_option linter.unusedVariables false
set_option linter.unusedSimpArgs false

def G0 (w : World) : Gh := ⟨w.heap.size, fun _ => True, fun _ => none, fun _ => none, fun _ => True⟩
theorem G0_imm {w : World} (b : Nat) (hb : b < w.heap.size) : (G0 w).imm b := .inl ⟨hb, rfl, trivial⟩
theorem calls_of_spec {P : Program} {f : FuncId} {args : List PV} {r : Bool} (S : Spec P f args [] (.v (.b r)) []) {w : World} {vals : Array Value} (hgw : Go.Proofs.Ytkpcieenikmbmaa.P.GW w) (ha : RepsL (G0 w) w args vals.toList) :
    Calls P f vals w fun e w' => e = .returned (.bool r) ∧ Below w.heap.size w w' := by
  have hi : Inv (G0 w) w := ⟨Nat.le_refl _, fun b id e => (by cases e), fun _ _ => trivial, ⟨w, hgw, Below.refl _ _, fun _ _ => rfl⟩⟩
  refine (S.2 (G0 w) w vals hi ha (fun id => ?_)).mono fun e w' hq => ?_
  · simp only [nthB, RelB]
    exact ⟨rfl, fun b e => by cases e⟩
  · obtain ⟨v, G', ids, rfl, X, hv, _⟩ := hq
    simp only [Reps, RepC] at hv
    subst hv
    exact ⟨rfl, X.os, X.tape, X.output, X.size, fun k hk => (X.nn k hk rfl).2⟩
theorem repC_of {α : Type} {d : Kd α} {f : α → List CV} {w : World} {I : Nat → Prop} (hI : ∀ b, b < w.heap.size → I b) (hs : ∀ x, (f x).length = d.sz) (h0 : 0 < d.sz) (hk : ∀ x cs, d.K w x cs → RepP I w (f x) cs) {A : Option Addr} {l : List α} {c : Nat}
    (h : d.C w A l.length l) (hc : l.length ≤ c) : RepC I w (.row (l.map f)) (.slice A l.length c) := by
  obtain ⟨_, hlen, hcell⟩ := h
  have hm : maxLen = 9223372036854775807 := by decide
  simp only [RepC, List.length_map]
  refine ⟨A, c, rfl, hc, by omega, ?_⟩
  by_cases hl : l = []
  · exact .inl (by rw [hl]; rfl)
  refine .inr ?_
  have hpos := List.length_pos_iff.2 hl
  obtain ⟨ad, rfl, hc'⟩ := hcell hpos
  have hfirst : ∃ cs ty fr, w.heap[ad.block]? = some (.cells cs ty fr) ∧ ad.spot = none := by
    obtain ⟨cs, q1, q2, q3⟩ := hc' 0 _ (List.getElem?_eq_getElem hpos)
    have h1 : 0 < cs.length := by omega
    have h2 := q3 0 _ (List.getElem?_eq_getElem h1)
    rw [Nat.zero_mul] at h2
    have h3 : ad.add (0 + 0) = ad := by simp [Addr.add]
    rw [h3] at h2
    unfold World.cell? at h2
    split at h2
    · rename_i cs ty fr hh
      refine ⟨cs, ty, fr, hh, ?_⟩
      split at h2
      · cases h2
      · rename_i hsp
        cases hq : ad.spot with
        | none => rfl
        | some _ => rw [hq] at hsp; exact absurd rfl hsp
    · cases h2
  obtain ⟨cs, ty, fr, hh, hsp⟩ := hfirst
  obtain ⟨b, o, sp⟩ := ad
  obtain rfl : sp = none := hsp
  have hh : w.heap[b]? = some (.cells cs ty fr) := hh
  refine ⟨b, o, d.sz, cs, ty, fr, rfl, hI b (Array.getElem?_eq_some_iff.1 hh).1, hh, h0, RepE.mk fun e el he => ?_⟩
  rw [List.getElem?_map] at he
  obtain ⟨p, hp, rfl⟩ := Option.map_eq_some_iff.1 he
  refine ⟨hs p, ?_⟩
  obtain ⟨c0, q1, q2, q3⟩ := hc' e p hp
  have e1 : ((cs.toList.drop o).drop (e * d.sz)).take d.sz = c0 := by
    apply List.ext_getElem?
    intro i
    rw [List.getElem?_take]
    split
    · rename_i hi
      have h2 := q3 i _ (List.getElem?_eq_getElem (by omega))
      rw [Addr.add_lit] at h2
      have h3 : cs[o + (e * d.sz + i)]? = some c0[i] := by simpa [World.cell?, hh] using h2
      rw [List.getElem?_eq_getElem (show i < c0.length by omega), ← h3, List.getElem?_drop, List.getElem?_drop]
      simp [Nat.add_assoc]
    · rw [List.getElem?_eq_none (by omega)]
  exact RepP.of_take d.sz (by rw [e1]; exact hk p c0 q2)
section
variable {w : World} {I : Nat → Prop}
theorem hk_int {k : IntKind} (x : Int) (cs : List Value) (h : (Kd.int k).K w x cs) : RepP I w [.i k x] cs := by
  obtain rfl : cs = [Value.int k x] := h
  simp only [RepP, RepC]
  exact ⟨_, _, rfl, rfl, trivial⟩
theorem hk_row {α : Type} {d : Kd α} {f : α → List CV} {e : Nat} (hI : ∀ b, b < w.heap.size → I b) (hs : ∀ x, (f x).length = d.sz) (h0 : 0 < d.sz) (hk : ∀ x cs, d.K w x cs → RepP I w (f x) cs) (x : List α) (cs : List Value) (h : (Kd.slice e d).K w x cs) : RepP I w [.row (x.map f)] cs := by
  obtain ⟨A, c, rfl, hl, hC⟩ := h
  simp only [RepP]
  exact ⟨_, _, rfl, repC_of hI hs h0 hk hC hl, trivial⟩
theorem hk_pair {α β : Type} {a : Kd α} {b : Kd β} {fa : α → List CV} {fb : β → List CV} (la : ∀ x, (fa x).length = a.sz) (ha : ∀ x cs, a.K w x cs → RepP I w (fa x) cs) (hb : ∀ x cs, b.K w x cs → RepP I w (fb x) cs) (x : α × β) (cs : List Value) (h : (Kd.pair a b).K w x cs) :
    RepP I w (fa x.1 ++ fb x.2) cs := by
  obtain ⟨c0, c1, rfl, h0, h1⟩ := h
  exact RepP.append (ha _ _ h0) (by rw [a.K_len h0, la]) (hb _ _ h1)
end
end Go.Proofs.Ytkpcieenikmbmaa.E

/- How an argument that reads as data is opened, whatever its type (numbers, bools, texts, slices and structs of these): it is a value of the print's kind. No function of the program is in sight here. -/
namespace Go.Proofs.Ytkpcieenikmbmaa.Open
set_option linter.unusedVariables false
set_option linter.unusedSimpArgs false
open Go.RowKit Go.Proofs.YtkpcieenikmbmaaW.PrintWords Go.ChangeShapes Go.WideShapes Go.Deep

/-- What reads as data of type t is a value of the kind d, of which 'good' holds. -/
def Opens {α : Type} (P : Program) (t : TypeId) (d : Kd α) (good : α → Prop) : Prop :=
  ∀ {H : Type} (enc : TypeId × Value → H) (w : World) (base : Nat) (spare : Nat → Bool) (held : Bool) (fuel : Nat) (cs : List Value) (x : DataW H × List MemPlace), DataW.trod enc P w base spare held fuel t cs = some x → ∃ y, d.K w y cs ∧ good y
def FieldsOpen {α : Type} (P : Program) (off : Nat) (fs : List Field) (d : Kd α) (good : α → Prop) : Prop :=
  ∀ {H : Type} (enc : TypeId × Value → H) (w : World) (base : Nat) (spare : Nat → Bool) (held : Bool) (n : Nat) (cs : List Value), (∀ f ∈ fs, ∃ y, DataW.trod enc P w base spare held n f.type ((cs.drop f.offset).take (P.cellsOf f.type)) = some y) → cs.length = off + d.sz → ∃ y, d.K w y (cs.drop off) ∧ good y
section
variable {P : Program} {t e : TypeId} {α β : Type}
theorem Opens.int {k : IntKind} (ht : P.underlying t = some (.int k)) : Opens P t (Kd.int k) (fun n => (Lit.int k n).wf = true) := by
  intro H enc w base spare held fuel cs x h
  obtain ⟨n, rfl, rfl, hw⟩ := DataW.trod_int ht h
  exact ⟨n, rfl, hw⟩
theorem Opens.string (ht : P.underlying t = some .string) : Opens P t Kd.string (fun s => s.size ≤ maxLen) := by
  intro H enc w base spare held fuel cs x h
  obtain ⟨s, rfl, rfl, hw⟩ := DataW.trod_string ht h
  exact ⟨s, rfl, hw⟩
theorem Opens.bool (ht : P.underlying t = some .bool) : Opens P t Kd.bool (fun _ => True) := by
  intro H enc w base spare held fuel cs x h
  obtain ⟨b, rfl, rfl⟩ := DataW.trod_bool ht h
  exact ⟨b, rfl, trivial⟩
theorem Opens.slice {d : Kd α} {good : α → Prop} (e' : Nat) (ht : P.underlying t = some (.slice e)) (hc : P.cellsOf e = d.sz) (he : Opens P e d good) : Opens P t (Kd.slice e' d) (fun l => l.length ≤ maxLen ∧ ∀ x ∈ l, good x) := by
  intro H enc w base spare held fuel cs x h
  rcases open_slice ht h with ⟨rfl, rfl⟩ | ⟨a, len, cap, m, n, D, Pl, rfl, hb, hl, hm, hmm, rfl, hx⟩
  · exact ⟨[], ⟨none, 0, rfl, Nat.le_refl _, ⟨rfl, by simp, fun h => by simp at h⟩⟩, by simp, fun x hx => by cases hx⟩
  · have hlm : len ≤ m := by rw [hmm]; split <;> omega
    have each : ∀ i, i < len → ∃ p : α × List Value, (w.cells? base (a.add (i * P.cellsOf e)) (P.cellsOf e)) = some p.2 ∧ d.K w p.1 p.2 ∧ good p.1 := by
      intro i hi
      obtain ⟨c, h1, h2⟩ := hx i (by omega)
      obtain ⟨y, hy, hg⟩ := he enc w base spare held n c _ h2
      exact ⟨(y, c), h1, hy, hg⟩
    have hml : maxLen = 9223372036854775807 := by decide
    rcases Nat.eq_zero_or_pos len with h0 | h0
    · subst h0
      exact ⟨[], ⟨some a, cap, rfl, Nat.zero_le _, ⟨rfl, by simp, fun h => by simp at h⟩⟩, by simp, fun x hx => by cases hx⟩
    obtain ⟨q0, _⟩ := each 0 h0
    have : Inhabited (α × List Value) := ⟨q0⟩
    obtain ⟨p, hp⟩ := choose_lt each
    have hlen : ((List.range len).map fun i => (p i).1).length = len := by simp
    refine ⟨(List.range len).map fun i => (p i).1, ⟨some a, cap, by rw [hlen], by rw [hlen]; exact hl, ?_⟩, by rw [hlen]; omega, ?_⟩
    · refine ⟨rfl, by rw [hlen]; omega, fun _ => ⟨a, rfl, fun j q hj => ?_⟩⟩
      have hjl : j < len := by have := (List.getElem?_eq_some_iff.1 hj).1; rwa [hlen] at this
      obtain ⟨h1, h2, h3⟩ := hp j hjl
      have hq : (p j).1 = q := by
        rw [List.getElem?_map, List.getElem?_range hjl] at hj
        simpa using hj
      subst hq
      have hk := World.cells?_some h1
      refine ⟨(p j).2, by rw [hk.2.1, hc], h2, fun i u hu => ?_⟩
      have hi : i < P.cellsOf e := by rw [← hk.2.1]; exact (List.getElem?_eq_some_iff.1 hu).1
      have := hk.2.2 i hi
      rw [hu, hc, Addr.add_add] at this
      exact this
    · intro y hy
      obtain ⟨i, hi, rfl⟩ := List.mem_map.1 hy
      exact (hp i (List.mem_range.1 hi)).2.2
theorem FieldsOpen.one {a : Kd α} {ga : α → Prop} {f : Field} {off : Nat} (hf : Opens P f.type a ga) (ho : f.offset = off) (hc : P.cellsOf f.type = a.sz) : FieldsOpen P off [f] a ga := by
  intro H enc w base spare held n cs h hl
  obtain ⟨y, hy⟩ := h f (List.mem_singleton.2 rfl)
  rw [ho, hc, List.take_of_length_le (by rw [List.length_drop]; omega)] at hy
  exact hf enc w base spare held n _ _ hy
theorem FieldsOpen.cons {a : Kd α} {b : Kd β} {ga : α → Prop} {gb : β → Prop} {f : Field} {fs : List Field} {off : Nat} (hf : Opens P f.type a ga) (ho : f.offset = off) (hc : P.cellsOf f.type = a.sz) (hfs : FieldsOpen P (off + a.sz) fs b gb) :
    FieldsOpen P off (f :: fs) (Kd.pair a b) (fun x => ga x.1 ∧ gb x.2) := by
  intro H enc w base spare held n cs h hl
  have hl' : cs.length = off + (a.sz + b.sz) := hl
  obtain ⟨y, hy⟩ := h f (List.mem_cons_self ..)
  rw [ho, hc] at hy
  obtain ⟨u, hu, gu⟩ := hf enc w base spare held n _ _ hy
  obtain ⟨v, hv, gv⟩ := hfs enc w base spare held n cs (fun g hg => h g (List.mem_cons_of_mem _ hg)) (by omega)
  refine ⟨(u, v), ⟨(cs.drop off).take a.sz, cs.drop (off + a.sz), ?_, hu, hv⟩, gu, gv⟩
  rw [← List.drop_drop, List.take_append_drop]
theorem Opens.struct {d : Kd α} {good : α → Prop} {fs : Array Field} (f : β → α) (g : α → β) (hg : ∀ y, f (g y) = y) (ht : P.underlying t = some (.struct fs)) (hC : P.cellsOf t = d.sz) (h : FieldsOpen P 0 fs.toList d good) :
    Opens P t (Kd.iso d f) (fun x => good (f x)) := by
  intro H enc w base spare held fuel cs x hx
  obtain ⟨xs, n, _, rfl, hl, hlen, hf⟩ := DataW.trod_struct ht hx
  obtain ⟨y, hy, gy⟩ := h enc w base spare held n cs (fun q hq => by
    obtain ⟨i, hi⟩ := List.getElem?_of_mem hq
    rw [Array.getElem?_toList] at hi
    have hil : i < xs.length := by rw [hlen]; exact (Array.getElem?_eq_some_iff.1 hi).1
    exact ⟨xs[i], by rw [hf i q hi, List.getElem?_eq_getElem hil]⟩) (by omega)
  refine ⟨g y, ?_, by show good (f (g y)); rw [hg]; exact gy⟩
  show d.K w (f (g y)) cs
  rw [hg]
  exact hy
end
end Go.Proofs.Ytkpcieenikmbmaa.Open

/- Plain words that all further texts of this seat use: rounds of printed functions ('Ev'), whole numbers without wrap, bytes. No program is in sight here. -/
namespace Go.Proofs.Ytkpcieenikmbmaa.Base
set_option linter.unusedVariables false
set_option linter.unusedSimpArgs false
open Go.RowKit Go.Proofs.YtkpcieenikmbmaaW.PrintWords

/-! ### rounds -/
section
variable {α β : Type} {c : Prop} [Decidable c] {f g : Nat → Option α} {r : α}
theorem Ev.pos (h : c) (k : Ev f r) : Ev (fun n => if c then f n else g n) r := by
  obtain ⟨K, hK⟩ := k
  exact ⟨K, fun n hn => (if_pos h).trans (hK n hn)⟩
theorem Ev.neg (h : ¬ c) (k : Ev g r) : Ev (fun n => if c then f n else g n) r := by
  obtain ⟨K, hK⟩ := k
  exact ⟨K, fun n hn => (if_neg h).trans (hK n hn)⟩
theorem Ev.const {x : Option α} (h : x = some r) : Ev (fun _ => x) r := ⟨0, fun _ _ => h⟩
theorem Ev.done {a : α} (h : a = r) : Ev (fun _ => some a) r := ⟨0, fun _ _ => by rw [h]⟩
theorem Ev.then {x : Option β} {a : β} {h : Nat → β → Option α} (e : x = some a) (k : Ev (fun n => h n a) r) : Ev (fun n => x.bind (h n)) r := by
  subst e
  exact k
theorem Ev.uniq {a b : α} (h : Ev f a) (k : Ev f b) : a = b := by
  obtain ⟨K, hK⟩ := h
  obtain ⟨J, hJ⟩ := k
  have e := (hK (max K J) (Nat.le_max_left _ _)).symm.trans (hJ (max K J) (Nat.le_max_right _ _))
  exact Option.some.inj e
theorem Ev.all {k : Nat} (h : Ev f r) : ∃ n, k ≤ n ∧ f n = some r := by
  obtain ⟨K, hK⟩ := h
  exact ⟨max K k, Nat.le_max_right _ _, hK _ (Nat.le_max_left _ _)⟩
theorem Ev.eq {r' : α} (h : Ev f r) (e : r = r') : Ev f r' := e ▸ h
end

/-! ### whole numbers -/
theorem w64 {n : Int} (h : -9223372036854775808 ≤ n) (h' : n ≤ 9223372036854775807) : wrap64 n = n := by unfold wrap64; omega
theorem wf_u8 {x : Int} (h : (Lit.int .u8 x).wf = true) : 0 ≤ x ∧ x ≤ 255 := by
  simpa [Lit.wf, IntKind.min, IntKind.max, IntKind.bits, IntKind.signed] using h

/-! ### bytes -/
def Bytes (l : List Int) : Prop := ∀ x ∈ l, 0 ≤ x ∧ x ≤ 255
theorem Bytes.of_wf {l : List Int} (h : ∀ x ∈ l, (Lit.int .u8 x).wf = true) : Bytes l := fun x hx => wf_u8 (h x hx)
theorem Bytes.nil : Bytes [] := fun _ h => by cases h
theorem Bytes.append {l m : List Int} (h : Bytes l) (k : Bytes m) : Bytes (l ++ m) := fun x hx => (List.mem_append.1 hx).elim (h x) (k x)
theorem Bytes.cons {a : Int} {l : List Int} (ha : 0 ≤ a ∧ a ≤ 255) (h : Bytes l) : Bytes (a :: l) := fun x hx => (List.mem_cons.1 hx).elim (fun e => e ▸ ha) (h x)
theorem Bytes.take {l : List Int} (h : Bytes l) (n : Nat) : Bytes (l.take n) := fun x hx => h x (List.mem_of_mem_take hx)
theorem Bytes.drop {l : List Int} (h : Bytes l) (n : Nat) : Bytes (l.drop n) := fun x hx => h x (List.mem_of_mem_drop hx)
theorem rd_byte {l : List Int} (h : Bytes l) (i : Int) : 0 ≤ rd l i ∧ rd l i ≤ 255 := by
  unfold rd
  rw [List.getD_eq_getElem?_getD]
  by_cases hi : i.toNat < l.length
  · rw [List.getElem?_eq_getElem hi]
    exact h _ (List.getElem_mem hi)
  · rw [List.getElem?_eq_none (by omega)]
    exact ⟨by decide, by decide⟩
theorem w64_byte {l : List Int} (h : Bytes l) (i : Int) : wrap64 (rd l i) = rd l i := by
  obtain ⟨a, b⟩ := rd_byte h i
  exact w64 (by omega) (by omega)

/-! ### equality, and lists by their elements -/
noncomputable def eqB {α : Type} (x y : α) : Bool := @decide (x = y) (Classical.propDecidable _)
theorem eqB_iff {α : Type} {x y : α} : eqB x y = true ↔ x = y := by unfold eqB; simp
theorem eqB_same {α : Type} (x : α) : eqB x x = true := eqB_iff.2 rfl
theorem eqB_not {α : Type} {x y : α} (h : x ≠ y) : eqB x y = false := by rw [← Bool.not_eq_true, eqB_iff]; exact h
theorem cast_succ (i : Nat) : ((i : Int) + 1) = ((i + 1 : Nat) : Int) := rfl
theorem set_take {α : Type} {o t : List α} {i : Nat} {x : α} (ho : o.length = t.length) (hi : i < t.length) (ht : o.take i = t.take i) (hx : x = t[i]) : (o.set i x).take (i + 1) = t.take (i + 1) := by
  rw [List.take_succ_eq_append_getElem (by rw [List.length_set]; omega), List.take_succ_eq_append_getElem hi, List.getElem_set_self, hx, List.take_set_of_le (Nat.le_refl i), ht]
theorem take_all {α : Type} {o t : List α} {i : Nat} (ho : o.length = t.length) (hi : i = t.length) (ht : o.take i = t.take i) : o = t := by
  rw [List.take_of_length_le (by omega), List.take_of_length_le (by omega)] at ht
  exact ht
theorem getD_nat {α : Type} (l : List α) (d : α) {i : Nat} (h : i < l.length) : l.getD ((i : Int)).toNat d = l[i] := by
  rw [Int.toNat_natCast, List.getD_eq_getElem?_getD, List.getElem?_eq_getElem h]; rfl
theorem rd_getElem {l : List Int} {i : Nat} (h : i < l.length) : rd l (i : Int) = l[i] := getD_nat l 0 h
theorem drop_rd {l : List Int} {i : Nat} (h : i < l.length) : l.drop i = rd l (i : Int) :: l.drop (i + 1) := by
  rw [rd_getElem h]; exact List.drop_eq_getElem_cons h
theorem size_append (s t : ByteArray) : (s ++ t).size = s.size + t.size := by simp
end Go.Proofs.Ytkpcieenikmbmaa.Base

/- The checksum as a function on natural numbers, and that a changed byte changes it. Plain arithmetic: no program is in sight here. -/
namespace Go.Proofs.Ytkpcieenikmbmaa.Crc
set_option linter.unusedVariables false
set_option linter.unusedSimpArgs false

def bit (s : Nat) : Nat := if 2 * s > 65535 then (2 * s) ^^^ 69665 else 2 * s
def bits (s : Nat) : Nat → Nat
  | 0 => s
  | k + 1 => bits (bit s) k
@[irreducible] def byte (s x : Nat) : Nat := bits (s ^^^ (256 * x)) 8
def sum : Nat → List Int → Nat
  | s, [] => s
  | s, x :: xs => sum (byte s x.toNat) xs

theorem xor_cancel {a b c : Nat} (h : a ^^^ b = a ^^^ c) : b = c := by
  have := congrArg (a ^^^ ·) h
  simpa [← Nat.xor_assoc] using this
theorem xor_cancel' {a b c : Nat} (h : b ^^^ a = c ^^^ a) : b = c := by
  rw [Nat.xor_comm b, Nat.xor_comm c] at h
  exact xor_cancel h
theorem sum_cons (s : Nat) (x : Int) (xs : List Int) : sum s (x :: xs) = sum (byte s x.toNat) xs := by rw [sum]
theorem bit_lt {s : Nat} (h : s < 65536) : bit s < 65536 := by
  unfold bit
  split
  · have e : ((2 * s) ^^^ 69665) / 2 ^ 16 = (2 * s) / 2 ^ 16 ^^^ 69665 / 2 ^ 16 := Nat.xor_div_two_pow
    have e1 : (2 * s) / 2 ^ 16 = 1 := by omega
    rw [e1] at e
    have e2 : (1 : Nat) ^^^ 69665 / 2 ^ 16 = 0 := by decide
    rw [e2] at e
    omega
  · omega
theorem bit_mod (s : Nat) : bit s % 2 = if 2 * s > 65535 then 1 else 0 := by
  unfold bit
  split
  · have e : ((2 * s) ^^^ 69665) % 2 ^ 1 = (2 * s) % 2 ^ 1 ^^^ 69665 % 2 ^ 1 := Nat.xor_mod_two_pow
    have e1 : (2 * s) % 2 ^ 1 = 0 := by omega
    rw [e1] at e
    have e2 : (0 : Nat) ^^^ 69665 % 2 ^ 1 = 1 := by decide
    rw [e2] at e
    omega
  · omega
theorem bit_inj {s t : Nat} (h : bit s = bit t) : s = t := by
  have hm := congrArg (· % 2) h
  simp only [bit_mod] at hm
  unfold bit at h
  by_cases hs : 2 * s > 65535
  · by_cases ht : 2 * t > 65535
    · rw [if_pos hs, if_pos ht] at h
      have := xor_cancel' h
      omega
    · rw [if_pos hs, if_neg ht] at hm
      omega
  · by_cases ht : 2 * t > 65535
    · rw [if_neg hs, if_pos ht] at hm
      omega
    · rw [if_neg hs, if_neg ht] at h
      omega
theorem bits_lt {s : Nat} (h : s < 65536) (k : Nat) : bits s k < 65536 := by
  induction k generalizing s with
  | zero => exact h
  | succ k ih => exact ih (bit_lt h)
theorem bits_inj {s t : Nat} (k : Nat) (h : bits s k = bits t k) : s = t := by
  induction k generalizing s t with
  | zero => exact h
  | succ k ih => exact bit_inj (ih h)
theorem byte_def (s x : Nat) : bits (s ^^^ (256 * x)) 8 = byte s x := by unfold byte; rfl
theorem byte_lt {s x : Nat} (h : s < 65536) (hx : x ≤ 255) : byte s x < 65536 := by
  unfold byte
  have h2 : s ^^^ (256 * x) < 65536 := Nat.xor_lt_two_pow (n := 16) h (by omega)
  generalize s ^^^ (256 * x) = y at h2
  exact bits_lt h2 _
theorem byte_inj_left {s t x : Nat} (h : byte s x = byte t x) : s = t := by
  unfold byte at h
  generalize 8 = k at h
  exact xor_cancel' (bits_inj k h)
theorem byte_inj_right {s x y : Nat} (h : byte s x = byte s y) : x = y := by
  unfold byte at h
  generalize 8 = k at h
  have := xor_cancel (bits_inj k h)
  omega
theorem sum_inj (l : List Int) {s t : Nat} (h : sum s l = sum t l) : s = t := by
  induction l generalizing s t with
  | nil => exact h
  | cons x xs ih =>
    rw [sum_cons, sum_cons] at h
    exact byte_inj_left (ih h)
/-- A changed byte changes the sum. -/
theorem sum_set (l : List Int) (s : Nat) (i : Nat) (hi : i < l.length) (y : Int) (hy : 0 ≤ y) (hx : 0 ≤ l[i]) (hne : y ≠ l[i]) : sum s (l.set i y) ≠ sum s l := by
  induction l generalizing s i with
  | nil => simp at hi
  | cons a as__ ih =>
    cases i with
    | zero =>
      intro h
      rw [List.set_cons_zero, sum_cons, sum_cons] at h
      have h2 := byte_inj_right (sum_inj as__ h)
      simp only [List.getElem_cons_zero] at hx hne
      omega
    | succ i =>
      simp only [List.getElem_cons_succ] at hx hne
      rw [List.set_cons_succ, sum_cons, sum_cons]
      exact ih (byte s a.toNat) i (by simpa using hi) hx hne
end Go.Proofs.Ytkpcieenikmbmaa.Crc

/- What the printed functions on bytes, words and texts come to: the laws' own copies, marks and comparisons, and the functions of the first chapter. No memory is in sight here. -/
namespace Go.Proofs.Ytkpcieenikmbmaa.Fn
set_option linter.unusedVariables false
set_option linter.unusedSimpArgs false
open Go.RowKit Go.Proofs.YtkpcieenikmbmaaW.PrintWords Go.Proofs.Ytkpcieenikmbmaa.P Go.Proofs.Ytkpcieenikmbmaa.Base

/-! ### copies -/
theorem toByteS_l0 (l : List Int) (hl : l.length ≤ 140737488351232) (d : Nat) : ∀ (i : Nat) (o : List Int), i + d = l.length → o.length = l.length → o.take i = l.take i → Ev (fun k => laws_toByteS.l0 k l o (i : Int)) l := by
  induction d with
  | zero =>
    intro i o hi ho ht
    refine Ev.step (fun k => laws_toByteS.l0.eq_2 _ _ _ k) (Ev.neg (by omega) (Ev.done ?_))
    exact take_all ho (by omega) ht
  | succ d ih =>
    intro i o hi ho ht
    refine Ev.step (fun k => laws_toByteS.l0.eq_2 _ _ _ k) (Ev.pos (by omega) (Ev.pos (by omega) (Ev.pos (by omega) ?_)))
    rw [w64 (by omega) (by omega), cast_succ, Int.toNat_natCast]
    exact ih (i + 1) _ (by omega) (by rw [List.length_set]; exact ho) (set_take ho (by omega) ht (rd_getElem (by omega)))
theorem toByteS (l : List Int) (hl : l.length ≤ 140737488351232) : Ev (fun k => laws_toByteS.f k l) l := by
  unfold laws_toByteS.f
  refine Ev.pos (by omega) (Ev.pos (by omega) ?_)
  rw [Int.toNat_natCast]
  exact toByteS_l0 l hl l.length 0 _ (by omega) (by simp) (by simp)

/-! ### comparisons -/
theorem eqByteS_l0 (l m : List Int) (hl : l.length ≤ 140737488351232) (hm : l.length = m.length) (d : Nat) : ∀ (i : Nat), i + d = l.length → Ev (fun k => laws_eqByteS.l0 k l m (i : Int)) (decide (l.drop i = m.drop i)) := by
  induction d with
  | zero =>
    intro i hi
    refine Ev.step (fun k => laws_eqByteS.l0.eq_2 _ _ _ k) (Ev.neg (by omega) (Ev.done ?_))
    rw [List.drop_of_length_le (by omega), List.drop_of_length_le (by omega)]; simp
  | succ d ih =>
    intro i hi
    refine Ev.step (fun k => laws_eqByteS.l0.eq_2 _ _ _ k) (Ev.pos (by omega) (Ev.pos (by omega) (Ev.pos (by omega) ?_)))
    rw [drop_rd (by omega), drop_rd (l := m) (by omega), w64 (by omega) (by omega), cast_succ]
    by_cases h : rd l (i : Int) = rd m (i : Int)
    · refine Ev.pos h (Ev.eq (ih (i + 1) (by omega)) ?_)
      simp [h]
    · exact Ev.neg h (Ev.done (by simp [h]))
theorem eqByteS (l m : List Int) (hl : l.length ≤ 140737488351232) : Ev (fun k => laws_eqByteS.f k l m) (decide (l = m)) := by
  unfold laws_eqByteS.f
  by_cases h : l.length = m.length
  · exact Ev.pos (by omega) (eqByteS_l0 l m hl h l.length 0 (by omega))
  · exact Ev.neg (by omega) (Ev.done (by simp; intro e; exact h (by rw [e])))
theorem eqByteS_same (l : List Int) (hl : l.length ≤ 140737488351232) : Ev (fun k => laws_eqByteS.f k l l) true := Ev.eq (eqByteS l l hl) (by simp)

/-! ### marks -/
def markB (k : Int) : Nat → List Int
  | 0 => []
  | n + 1 => k % 256 :: markB (k + 1) n
theorem markB_length (k : Int) (n : Nat) : (markB k n).length = n := by
  induction n generalizing k with
  | zero => rfl
  | succ n ih => simp [markB, ih]
theorem markB_get (k : Int) (n i : Nat) (h : i < n) : (markB k n)[i]'(by rw [markB_length]; exact h) = (k + i) % 256 := by
  induction n generalizing k i with
  | zero => omega
  | succ n ih =>
    cases i with
    | zero => simp [markB]
    | succ i =>
      simp only [markB, List.getElem_cons_succ]
      rw [ih (k + 1) i (by omega)]
      congr 1
      omega
theorem markByteS_l0 (n : Nat) (c : Int) (hc : 0 ≤ c) (hn : c + n ≤ 9223372036854775807) (d : Nat) : ∀ (i : Nat) (o : List Int), i + d = n → o.length = n → o.take i = (markB c n).take i → Ev (fun k => laws_markByteS.l0 k o (c + i) (i : Int)) (c + n, markB c n) := by
  induction d with
  | zero =>
    intro i o hi ho ht
    refine Ev.step (fun k => laws_markByteS.l0.eq_2 _ _ _ k) (Ev.neg (by omega) (Ev.done ?_))
    rw [take_all (by rw [markB_length]; exact ho) (by rw [markB_length]; omega) ht, show i = n by omega]
  | succ d ih =>
    intro i o hi ho ht
    refine Ev.step (fun k => laws_markByteS.l0.eq_2 _ _ _ k) (Ev.pos (by omega) (Ev.pos (by omega) ?_))
    rw [w64 (n := c + i + 1) (by omega) (by omega), w64 (by omega) (by omega), cast_succ, Int.toNat_natCast, show c + (i : Int) + 1 = c + ((i + 1 : Nat) : Int) by omega]
    exact ih (i + 1) _ (by omega) (by rw [List.length_set]; exact ho) (set_take (by rw [markB_length]; exact ho) (by rw [markB_length]; omega) ht (markB_get c n i (by omega)).symm)
theorem markByteS (l : List Int) (c : Int) (hc : 0 ≤ c) (hn : c + l.length ≤ 9223372036854775807) : Ev (fun k => laws_markByteS.f k l c) (c + l.length, markB c l.length) := by
  unfold laws_markByteS.f
  have h := markByteS_l0 l.length c hc hn l.length 0 l (by omega) rfl (by simp)
  rwa [show c + ((0 : Nat) : Int) = c by omega] at h
theorem heldByteS_l0 (n : Nat) (c : Int) (hc : 0 ≤ c) (hn : c + n ≤ 9223372036854775807) (d : Nat) : ∀ (i : Nat), i + d = n → Ev (fun k => laws_heldByteS.l0 k (markB c n) (c + i) (i : Int)) (c + n) := by
  induction d with
  | zero =>
    intro i hi
    refine Ev.step (fun k => laws_heldByteS.l0.eq_2 _ _ _ k) (Ev.neg (by rw [markB_length]; omega) (Ev.done ?_))
    rw [show i = n by omega]
  | succ d ih =>
    intro i hi
    refine Ev.step (fun k => laws_heldByteS.l0.eq_2 _ _ _ k) (Ev.pos (by rw [markB_length]; omega) (Ev.pos (by omega) (Ev.pos ?_ ?_)))
    · rw [rd_getElem (by rw [markB_length]; omega), markB_get c n i (by omega)]
    · rw [w64 (n := c + i + 1) (by omega) (by omega), w64 (by omega) (by omega), cast_succ, show c + (i : Int) + 1 = c + ((i + 1 : Nat) : Int) by omega]
      exact ih (i + 1) (by omega)
theorem heldByteS (n : Nat) (c : Int) (hc : 0 ≤ c) (hn : c + n ≤ 9223372036854775807) : Ev (fun k => laws_heldByteS.f k (markB c n) c) (c + n) := by
  unfold laws_heldByteS.f
  have h := heldByteS_l0 n c hc hn n 0 (by omega)
  rwa [show c + ((0 : Nat) : Int) = c by omega] at h

/-! ### ranges and words -/
theorem isIn (a b c : Int) : impl_isIn.f a b c = some (decide (b ≤ a ∧ a ≤ c)) := by
  unfold impl_isIn.f
  by_cases h : b ≤ a
  · rw [if_pos h]; simp [h]
  · rw [if_neg h]; simp [h]
theorem l1In (a b c : Int) : spec_l1In.f a b c = some (decide (b ≤ a ∧ a ≤ c)) := by
  unfold spec_l1In.f
  by_cases h : a ≥ b
  · rw [if_pos h]; simp; omega
  · rw [if_neg h]; simp; omega
theorem wraps_i64 : ∀ n : Int, 0 ≤ n → n < 2 ^ 63 → IntKind.i64.wrap n = n := fun n h h' => by
  rw [IntKind.wrap_i64]; omega
end Go.Proofs.Ytkpcieenikmbmaa.Fn

/- Plain words on lists by their elements. No program is in sight here. -/
namespace Go.Proofs.Ytkpcieenikmbmaa.Fn
set_option linter.unusedVariables false
set_option linter.unusedSimpArgs false
open Go.RowKit Go.Proofs.YtkpcieenikmbmaaW.PrintWords Go.Proofs.Ytkpcieenikmbmaa.Base

theorem eqB_cons {α : Type} (x y : α) (l m : List α) : eqB (x :: l) (y :: m) = (eqB x y && eqB l m) := by
  rw [Bool.eq_iff_iff, Bool.and_eq_true, eqB_iff, eqB_iff, eqB_iff, List.cons.injEq]
end Go.Proofs.Ytkpcieenikmbmaa.Fn

/- What the printed functions that size, copy, compare and test disks come to. No memory is in sight here. -/
namespace Go.Proofs.Ytkpcieenikmbmaa.Fn
set_option linter.unusedVariables false
set_option linter.unusedSimpArgs false
open Go.RowKit Go.Proofs.YtkpcieenikmbmaaW.PrintWords Go.Proofs.Ytkpcieenikmbmaa.P Go.Proofs.Ytkpcieenikmbmaa.Base

abbrev LWr := S77
abbrev Wr := S54
def wrOf (x : LWr) : Wr := ⟨x.f0, x.f1⟩
/-- A disk, as the printed functions hand it. -/
structure Dk where
  secs : List (List Int)
  cache : List Wr
  fuse : Int
  down : Bool
theorem wr_eq {x y : Wr} (h0 : x.f0 = y.f0) (h1 : x.f1 = y.f1) : x = y := by cases x; cases y; simp_all
/-! ### sizes -/
theorem szByteS (l : List Int) (left : Int) (hl : l.length ≤ maxLen) (h0 : 0 ≤ left) (h1 : left ≤ 1048576) : ∃ r, laws_szByteS.f l left = some r ∧ r ≤ left ∧ (0 ≤ r → (l.length : Int) ≤ left) := by
  unfold laws_szByteS.f
  have hm : maxLen = 9223372036854775807 := by decide
  rw [w64 (n := left - (l.length : Int)) (by omega) (by omega)]
  by_cases h : left - (l.length : Int) < 0
  · rw [if_pos h]; exact ⟨-1, rfl, by omega, by omega⟩
  · rw [if_neg h]; exact ⟨_, rfl, by omega, by omega⟩
theorem szByteSS_l0 (l : List (List Int)) (hl : l.length ≤ 1048576) (hg : ∀ x ∈ l, x.length ≤ maxLen) (d : Nat) : ∀ (i : Nat) (left : Int), i + d = l.length → 0 ≤ left → left ≤ 1048576 → ∃ r, Ev (fun k => laws_szByteSS.l0 k l left (i : Int)) r ∧ r ≤ left ∧ (0 ≤ r → ∀ x ∈ l.drop i, x.length ≤ 1048576) := by
  induction d with
  | zero =>
    intro i left hi h0 h1
    refine ⟨left, Ev.step (fun k => laws_szByteSS.l0.eq_2 _ _ _ k) (Ev.neg (by omega) (Ev.done rfl)), Int.le_refl _, fun _ x hx => ?_⟩
    rw [List.drop_of_length_le (by omega)] at hx
    cases hx
  | succ d ih =>
    intro i left hi h0 h1
    have he : rd_L1 l (i : Int) = l[i] := getD_nat l _ (by omega)
    obtain ⟨r, e, hr, hrl⟩ := szByteS l[i] left (hg _ (List.getElem_mem _)) h0 h1
    by_cases h : r < 0
    · exact ⟨-1, Ev.step (fun k => laws_szByteSS.l0.eq_2 _ _ _ k) (Ev.pos (by omega) (Ev.pos (by omega) (by rw [he]; exact Ev.then e (Ev.pos h (Ev.done rfl))))), by omega, by omega⟩
    · obtain ⟨q, e2, hq, hql⟩ := ih (i + 1) r (by omega) (by omega) (by omega)
      refine ⟨q, Ev.step (fun k => laws_szByteSS.l0.eq_2 _ _ _ k) (Ev.pos (by omega) (Ev.pos (by omega) ?_)), by omega, fun hq0 x hx => ?_⟩
      · rw [he]
        refine Ev.then e (Ev.neg h ?_)
        rw [w64 (n := (i : Int) + 1) (by omega) (by omega), cast_succ]
        exact e2
      · rw [List.drop_eq_getElem_cons (by omega)] at hx
        rcases List.mem_cons.1 hx with rfl | hx
        · have := hrl (by omega); omega
        · exact hql hq0 x hx
theorem szByteSS (l : List (List Int)) (left : Int) (hl : l.length ≤ maxLen) (hg : ∀ x ∈ l, x.length ≤ maxLen) (h0 : 0 ≤ left) (h1 : left ≤ 1048576) : ∃ r, Ev (fun k => laws_szByteSS.f k l left) r ∧ r ≤ left ∧ (0 ≤ r → l.length ≤ 1048576 ∧ ∀ x ∈ l, x.length ≤ 1048576) := by
  unfold laws_szByteSS.f
  have hm : maxLen = 9223372036854775807 := by decide
  rw [w64 (n := left - (l.length : Int)) (by omega) (by omega)]
  by_cases h : left - (l.length : Int) < 0
  · exact ⟨-1, Ev.pos h (Ev.done rfl), by omega, by omega⟩
  · obtain ⟨r, e, hr, hrl⟩ := szByteSS_l0 l (by omega) hg l.length 0 (left - l.length) (by omega) (by omega) (by omega)
    exact ⟨r, Ev.neg h e, by omega, fun hr0 => ⟨by omega, by simpa using hrl hr0⟩⟩
theorem szWr (x : LWr) (left : Int) (hl : x.f1.length ≤ maxLen) (h0 : 0 ≤ left) (h1 : left ≤ 1048576) : ∃ r, laws_szWr.f x.f0 x.f1 left = some r ∧ r ≤ left ∧ (0 ≤ r → (x.f1.length : Int) ≤ left) := by
  unfold laws_szWr.f
  obtain ⟨r, e, hr, hrl⟩ := szByteS x.f1 left hl h0 h1
  rw [e]
  simp only [Option.bind_some]
  by_cases h : r < 0
  · rw [if_pos h]; exact ⟨-1, rfl, by omega, by omega⟩
  · rw [if_neg h]; exact ⟨r, rfl, hr, hrl⟩
theorem szWrS_l0 (l : List LWr) (hl : l.length ≤ 1048576) (hg : ∀ x ∈ l, x.f1.length ≤ maxLen) (d : Nat) : ∀ (i : Nat) (left : Int), i + d = l.length → 0 ≤ left → left ≤ 1048576 → ∃ r, Ev (fun k => laws_szWrS.l0 k l left (i : Int)) r ∧ r ≤ left ∧ (0 ≤ r → ∀ x ∈ l.drop i, x.f1.length ≤ 1048576) := by
  induction d with
  | zero =>
    intro i left hi h0 h1
    refine ⟨left, Ev.step (fun k => laws_szWrS.l0.eq_2 _ _ _ k) (Ev.neg (by omega) (Ev.done rfl)), Int.le_refl _, fun _ x hx => ?_⟩
    rw [List.drop_of_length_le (by omega)] at hx
    cases hx
  | succ d ih =>
    intro i left hi h0 h1
    have he : rd_T77 l (i : Int) = l[i] := getD_nat l _ (by omega)
    obtain ⟨r, e, hr, hrl⟩ := szWr l[i] left (hg _ (List.getElem_mem _)) h0 h1
    by_cases h : r < 0
    · exact ⟨-1, Ev.step (fun k => laws_szWrS.l0.eq_2 _ _ _ k) (Ev.pos (by omega) (Ev.pos (by omega) (by rw [he]; exact Ev.then e (Ev.pos h (Ev.done rfl))))), by omega, by omega⟩
    · obtain ⟨q, e2, hq, hql⟩ := ih (i + 1) r (by omega) (by omega) (by omega)
      refine ⟨q, Ev.step (fun k => laws_szWrS.l0.eq_2 _ _ _ k) (Ev.pos (by omega) (Ev.pos (by omega) ?_)), by omega, fun hq0 x hx => ?_⟩
      · rw [he]
        refine Ev.then e (Ev.neg h ?_)
        rw [w64 (n := (i : Int) + 1) (by omega) (by omega), cast_succ]
        exact e2
      · rw [List.drop_eq_getElem_cons (by omega)] at hx
        rcases List.mem_cons.1 hx with rfl | hx
        · have := hrl (by omega); omega
        · exact hql hq0 x hx
theorem szWrS (l : List LWr) (left : Int) (hl : l.length ≤ maxLen) (hg : ∀ x ∈ l, x.f1.length ≤ maxLen) (h0 : 0 ≤ left) (h1 : left ≤ 1048576) : ∃ r, Ev (fun k => laws_szWrS.f k l left) r ∧ r ≤ left ∧ (0 ≤ r → l.length ≤ 1048576 ∧ ∀ x ∈ l, x.f1.length ≤ 1048576) := by
  unfold laws_szWrS.f
  have hm : maxLen = 9223372036854775807 := by decide
  rw [w64 (n := left - (l.length : Int)) (by omega) (by omega)]
  by_cases h : left - (l.length : Int) < 0
  · exact ⟨-1, Ev.pos h (Ev.done rfl), by omega, by omega⟩
  · obtain ⟨r, e, hr, hrl⟩ := szWrS_l0 l (by omega) hg l.length 0 (left - l.length) (by omega) (by omega) (by omega)
    exact ⟨r, Ev.neg h e, by omega, fun hr0 => ⟨by omega, by simpa using hrl hr0⟩⟩
/-- What a disk is known to be where its size is not above the bound. -/
def Fits (d : Dk) : Prop := d.secs.length ≤ 1048576 ∧ (∀ x ∈ d.secs, x.length ≤ 1048576 ∧ Bytes x) ∧ d.cache.length ≤ 1048576 ∧ ∀ x ∈ d.cache, x.f1.length ≤ 1048576 ∧ Bytes x.f1
theorem szDisk (secs : List (List Int)) (cache : List LWr) (fuse : Int) (down : Bool) (left : Int) (hs : secs.length ≤ maxLen ∧ ∀ x ∈ secs, x.length ≤ maxLen) (hc : cache.length ≤ maxLen ∧ ∀ x ∈ cache, x.f1.length ≤ maxLen) (h0 : 0 ≤ left) (h1 : left ≤ 1048576) :
    ∃ r, Ev (fun k => laws_szDisk.f k secs cache fuse down left) r ∧ r ≤ left ∧ (0 ≤ r → (secs.length ≤ 1048576 ∧ ∀ x ∈ secs, x.length ≤ 1048576) ∧ (cache.length ≤ 1048576 ∧ ∀ x ∈ cache, x.f1.length ≤ 1048576)) := by
  unfold laws_szDisk.f
  obtain ⟨r, e, hr, hrl⟩ := szByteSS secs left hs.1 hs.2 h0 h1
  by_cases h : r < 0
  · exact ⟨-1, Ev.bind e (Ev.pos h (Ev.done rfl)), by omega, by omega⟩
  · obtain ⟨q, e2, hq, hql⟩ := szWrS cache r hc.1 hc.2 (by omega) (by omega)
    by_cases h' : q < 0
    · exact ⟨-1, Ev.bind e (Ev.neg h (Ev.bind e2 (Ev.pos h' (Ev.done rfl)))), by omega, by omega⟩
    · exact ⟨q, Ev.bind e (Ev.neg h (Ev.bind e2 (Ev.neg h' (Ev.done rfl)))), by omega, fun hq0 => ⟨hrl (by omega), hql hq0⟩⟩
/-! ### copies -/
theorem toByteSS_l0 (l : List (List Int)) (hl : l.length ≤ 1048576) (hg : ∀ x ∈ l, x.length ≤ 1048576) (d : Nat) : ∀ (i : Nat) (o : List (List Int)), i + d = l.length → o.length = l.length → o.take i = l.take i → Ev (fun k => laws_toByteSS.l0 k l o (i : Int)) l := by
  induction d with
  | zero =>
    intro i o hi ho ht
    exact Ev.step (fun k => laws_toByteSS.l0.eq_2 _ _ _ k) (Ev.neg (by omega) (Ev.done (take_all ho (by omega) ht)))
  | succ d ih =>
    intro i o hi ho ht
    have he : rd_L1 l (i : Int) = l[i] := getD_nat l _ (by omega)
    have hx := hg l[i] (List.getElem_mem _)
    refine Ev.step (fun k => laws_toByteSS.l0.eq_2 _ _ _ k) (Ev.pos (by omega) (Ev.pos (by omega) ?_))
    rw [he]
    refine Ev.bind (toByteS l[i] (by omega)) (Ev.pos (by omega) ?_)
    rw [w64 (n := (i : Int) + 1) (by omega) (by omega), cast_succ, Int.toNat_natCast]
    exact ih (i + 1) _ (by omega) (by rw [List.length_set]; exact ho) (set_take ho (by omega) ht rfl)
theorem toByteSS (l : List (List Int)) (hl : l.length ≤ 1048576) (hg : ∀ x ∈ l, x.length ≤ 1048576) : Ev (fun k => laws_toByteSS.f k l) l := by
  unfold laws_toByteSS.f
  refine Ev.pos (by omega) (Ev.pos (by omega) ?_)
  rw [Int.toNat_natCast]
  exact toByteSS_l0 l hl hg l.length 0 _ (by omega) (by simp) (by simp)
theorem toWr (x : LWr) (hx : x.f1.length ≤ 1048576) : Ev (fun k => laws_toWr.f k x.f0 x.f1) (x.f0, x.f1) := by
  unfold laws_toWr.f
  exact Ev.bind (toByteS x.f1 (by omega)) (Ev.done rfl)
theorem toWrS_l0 (l : List LWr) (hl : l.length ≤ 1048576) (hg : ∀ x ∈ l, x.f1.length ≤ 1048576) (d : Nat) : ∀ (i : Nat) (o : List Wr), i + d = l.length → o.length = l.length → o.take i = (l.map wrOf).take i → Ev (fun k => laws_toWrS.l0 k l o (i : Int)) (l.map wrOf) := by
  induction d with
  | zero =>
    intro i o hi ho ht
    exact Ev.step (fun k => laws_toWrS.l0.eq_2 _ _ _ k) (Ev.neg (by omega) (Ev.done (take_all (by simpa using ho) (by simp; omega) ht)))
  | succ d ih =>
    intro i o hi ho ht
    have he : rd_T77 l (i : Int) = l[i] := getD_nat l _ (by omega)
    refine Ev.step (fun k => laws_toWrS.l0.eq_2 _ _ _ k) (Ev.pos (by omega) (Ev.pos (by omega) ?_))
    rw [he]
    refine Ev.bind (toWr l[i] (hg _ (List.getElem_mem _))) (Ev.pos (by omega) ?_)
    rw [w64 (n := (i : Int) + 1) (by omega) (by omega), cast_succ, Int.toNat_natCast]
    exact ih (i + 1) _ (by omega) (by rw [List.length_set]; exact ho) (set_take (by simpa using ho) (by simp; omega) ht (by rw [List.getElem_map]; rfl))
theorem toWrS (l : List LWr) (hl : l.length ≤ 1048576) (hg : ∀ x ∈ l, x.f1.length ≤ 1048576) : Ev (fun k => laws_toWrS.f k l) (l.map wrOf) := by
  unfold laws_toWrS.f
  refine Ev.pos (by omega) (Ev.pos (by omega) ?_)
  rw [Int.toNat_natCast]
  exact toWrS_l0 l hl hg l.length 0 _ (by omega) (by simp) (by simp)
def Dk.tuple (d : Dk) : List (List Int) × List Wr × Int × Bool := (d.secs, d.cache, d.fuse, d.down)
theorem toDisk (secs : List (List Int)) (cache : List LWr) (fuse : Int) (down : Bool) (hs : secs.length ≤ 1048576 ∧ ∀ x ∈ secs, x.length ≤ 1048576) (hc : cache.length ≤ 1048576 ∧ ∀ x ∈ cache, x.f1.length ≤ 1048576) :
    Ev (fun k => laws_toDisk.f k secs cache fuse down) (secs, cache.map wrOf, fuse, down) := by
  unfold laws_toDisk.f
  exact Ev.bind (toByteSS secs hs.1 hs.2) (Ev.bind (toWrS cache hc.1 hc.2) (Ev.done rfl))
/-! ### comparisons -/
theorem eqByteS' (l m : List Int) (hl : l.length ≤ 140737488351232) : Ev (fun k => laws_eqByteS.f k l m) (eqB l m) := by
  refine Ev.eq (eqByteS l m hl) ?_
  rw [Bool.eq_iff_iff, eqB_iff, decide_eq_true_eq]
theorem eqByteSS_l0 (l m : List (List Int)) (hl : l.length ≤ 1048576) (hg : ∀ x ∈ l, x.length ≤ 1048576) (hm : l.length = m.length) (d : Nat) : ∀ (i : Nat), i + d = l.length → Ev (fun k => laws_eqByteSS.l0 k l m (i : Int)) (eqB (l.drop i) (m.drop i)) := by
  induction d with
  | zero =>
    intro i hi
    refine Ev.step (fun k => laws_eqByteSS.l0.eq_2 _ _ _ k) (Ev.neg (by omega) (Ev.done ?_))
    rw [List.drop_of_length_le (by omega), List.drop_of_length_le (by omega), eqB_same]
  | succ d ih =>
    intro i hi
    have he : rd_L1 l (i : Int) = l[i] := getD_nat l _ (by omega)
    have he' : rd_L1 m (i : Int) = m[i] := getD_nat m _ (by omega)
    have hx := hg l[i] (List.getElem_mem _)
    refine Ev.step (fun k => laws_eqByteSS.l0.eq_2 _ _ _ k) (Ev.pos (by omega) (Ev.pos (by omega) (Ev.pos (by omega) ?_)))
    rw [he, he']
    refine Ev.bind (eqByteS' _ _ (by omega)) ?_
    rw [List.drop_eq_getElem_cons (show i < l.length by omega), List.drop_eq_getElem_cons (show i < m.length by omega), w64 (n := (i : Int) + 1) (by omega) (by omega), cast_succ, eqB_cons]
    by_cases h : eqB l[i] m[i] = true
    · refine Ev.pos h (Ev.eq (ih (i + 1) (by omega)) (by rw [h, Bool.true_and]))
    · refine Ev.neg h (Ev.done ?_)
      rw [Bool.not_eq_true] at h
      rw [h, Bool.false_and]
theorem eqByteSS (l m : List (List Int)) (hl : l.length ≤ 1048576) (hg : ∀ x ∈ l, x.length ≤ 1048576) : Ev (fun k => laws_eqByteSS.f k l m) (eqB l m) := by
  unfold laws_eqByteSS.f
  by_cases h : l.length = m.length
  · exact Ev.pos (by omega) (eqByteSS_l0 l m hl hg h l.length 0 (by omega))
  · exact Ev.neg (by omega) (Ev.done (eqB_not (fun e => h (by rw [e]))).symm)
theorem eqWr (x y : Wr) (hx : x.f1.length ≤ 1048576) : Ev (fun k => laws_eqWr.f k x.f0 x.f1 y.f0 y.f1) (eqB x y) := by
  unfold laws_eqWr.f
  by_cases h0 : x.f0 = y.f0
  · refine Ev.pos h0 (Ev.bind (eqByteS' _ _ (by omega)) ?_)
    by_cases h1 : x.f1 = y.f1
    · rw [wr_eq h0 h1]
      exact Ev.pos (eqB_same _) (Ev.done (eqB_same _).symm)
    · exact Ev.neg (by rw [eqB_not h1]; decide) (Ev.done (eqB_not (fun e => h1 (by rw [e]))).symm)
  · exact Ev.neg h0 (Ev.done (eqB_not (fun e => h0 (by rw [e]))).symm)
theorem eqWrS_l0 (l m : List Wr) (hl : l.length ≤ 1048576) (hg : ∀ x ∈ l, x.f1.length ≤ 1048576) (hm : l.length = m.length) (d : Nat) : ∀ (i : Nat), i + d = l.length → Ev (fun k => laws_eqWrS.l0 k l m (i : Int)) (eqB (l.drop i) (m.drop i)) := by
  induction d with
  | zero =>
    intro i hi
    refine Ev.step (fun k => laws_eqWrS.l0.eq_2 _ _ _ k) (Ev.neg (by omega) (Ev.done ?_))
    rw [List.drop_of_length_le (by omega), List.drop_of_length_le (by omega), eqB_same]
  | succ d ih =>
    intro i hi
    have he : rd_T54 l (i : Int) = l[i] := getD_nat l _ (by omega)
    have he' : rd_T54 m (i : Int) = m[i] := getD_nat m _ (by omega)
    have hx := hg l[i] (List.getElem_mem _)
    refine Ev.step (fun k => laws_eqWrS.l0.eq_2 _ _ _ k) (Ev.pos (by omega) (Ev.pos (by omega) (Ev.pos (by omega) ?_)))
    rw [he, he']
    refine Ev.bind (eqWr l[i] m[i] hx) ?_
    rw [List.drop_eq_getElem_cons (show i < l.length by omega), List.drop_eq_getElem_cons (show i < m.length by omega), w64 (n := (i : Int) + 1) (by omega) (by omega), cast_succ, eqB_cons]
    by_cases h : eqB l[i] m[i] = true
    · refine Ev.pos h (Ev.eq (ih (i + 1) (by omega)) (by rw [h, Bool.true_and]))
    · refine Ev.neg h (Ev.done ?_)
      rw [Bool.not_eq_true] at h
      rw [h, Bool.false_and]
theorem eqWrS (l m : List Wr) (hl : l.length ≤ 1048576) (hg : ∀ x ∈ l, x.f1.length ≤ 1048576) : Ev (fun k => laws_eqWrS.f k l m) (eqB l m) := by
  unfold laws_eqWrS.f
  by_cases h : l.length = m.length
  · exact Ev.pos (by omega) (eqWrS_l0 l m hl hg h l.length 0 (by omega))
  · exact Ev.neg (by omega) (Ev.done (eqB_not (fun e => h (by rw [e]))).symm)
theorem eqDisk_same (d : Dk) (hd : Fits d) : Ev (fun k => laws_eqDisk.f k d.secs d.cache d.fuse d.down d.secs d.cache d.fuse d.down) true := by
  obtain ⟨h1, h2, h3, h4⟩ := hd
  unfold laws_eqDisk.f
  refine Ev.bind (eqByteSS _ _ h1 (fun x hx => (h2 x hx).1)) (Ev.pos (eqB_same _) (Ev.bind (eqWrS _ _ h3 (fun x hx => (h4 x hx).1)) (Ev.pos (eqB_same _) (Ev.pos rfl (Ev.neg (by simp) (Ev.done rfl))))))
end Go.Proofs.Ytkpcieenikmbmaa.Fn

/- What the printed functions that test disks come to. No memory is in sight here. -/
namespace Go.Proofs.Ytkpcieenikmbmaa.Fn
set_option linter.unusedVariables false
set_option linter.unusedSimpArgs false
open Go.RowKit Go.Proofs.YtkpcieenikmbmaaW.PrintWords Go.Proofs.Ytkpcieenikmbmaa.P Go.Proofs.Ytkpcieenikmbmaa.Base

def WrOk (n : Int) (x : Wr) : Prop := (0 ≤ x.f0 ∧ x.f0 ≤ n - 1) ∧ x.f1.length ≤ 160
def DiskOk (d : Dk) : Prop := (1 ≤ d.secs.length ∧ d.secs.length ≤ 40) ∧ d.cache.length ≤ 30 ∧ (-1 ≤ d.fuse ∧ d.fuse ≤ 1000) ∧ (∀ x ∈ d.secs, x.length ≤ 160) ∧ ∀ x ∈ d.cache, WrOk d.secs.length x
noncomputable def diskOk (d : Dk) : Bool := @decide (DiskOk d) (Classical.propDecidable _)
theorem diskOk_iff (d : Dk) : diskOk d = true ↔ DiskOk d := by unfold diskOk; simp
theorem diskOk_no {d : Dk} (h : ¬ DiskOk d) : diskOk d = false := by rw [← Bool.not_eq_true, diskOk_iff]; exact h
theorem drop_all {α : Type} {P : α → Prop} {l : List α} {i : Nat} (hi : i < l.length) (h : P l[i]) : (∀ x ∈ l.drop i, P x) ↔ ∀ x ∈ l.drop (i + 1), P x := by
  have e := List.drop_eq_getElem_cons hi
  constructor
  · intro H x hx
    exact H x (by rw [e]; exact List.mem_cons_of_mem _ hx)
  · intro H x hx
    rw [e] at hx
    rcases List.mem_cons.1 hx with rfl | hx
    · exact h
    · exact H x hx
theorem impl_DiskOk_l1 (d : Dk) (hs : d.secs.length ≤ 1048576) (hc : d.cache.length ≤ 1048576) (hpre : (1 ≤ d.secs.length ∧ d.secs.length ≤ 40) ∧ d.cache.length ≤ 30 ∧ (-1 ≤ d.fuse ∧ d.fuse ≤ 1000) ∧ (∀ x ∈ d.secs, x.length ≤ 160)) (n : Nat) :
    ∀ (i : Nat), i + n = d.cache.length → ((∀ x ∈ d.cache, WrOk d.secs.length x) ↔ ∀ x ∈ d.cache.drop i, WrOk d.secs.length x) → Ev (fun k => impl_DiskOk.l1 k d.cache (d.cache.length : Int) (i : Int) d.secs d.cache d.fuse d.down) (diskOk d) := by
  induction n with
  | zero =>
    intro i hi hiff
    refine Ev.step (fun k => impl_DiskOk.l1.eq_2 _ _ _ _ _ _ _ k) (Ev.neg (by omega) (Ev.done ?_))
    rw [List.drop_of_length_le (by omega)] at hiff
    exact ((diskOk_iff d).2 ⟨hpre.1, hpre.2.1, hpre.2.2.1, hpre.2.2.2, hiff.2 (fun x hx => by cases hx)⟩).symm
  | succ n ih =>
    intro i hi hiff
    have he : rd_T54 d.cache (i : Int) = d.cache[i] := getD_nat d.cache _ (by omega)
    have no : ¬ WrOk d.secs.length d.cache[i] → ¬ DiskOk d := fun h hd => h (hd.2.2.2.2 _ (List.getElem_mem _))
    refine Ev.step (fun k => impl_DiskOk.l1.eq_2 _ _ _ _ _ _ _ k) (Ev.pos (by omega) (Ev.pos (by omega) (Ev.pos (by omega) ?_)))
    rw [he, w64 (n := (d.secs.length : Int) - 1) (by omega) (by omega)]
    refine Ev.then (isIn _ _ _) ?_
    by_cases h1 : 0 ≤ d.cache[i].f0 ∧ d.cache[i].f0 ≤ (d.secs.length : Int) - 1
    · refine Ev.pos (by simpa using h1) ?_
      by_cases h2 : (d.cache[i].f1.length : Int) > 160
      · exact Ev.pos h2 (Ev.done (diskOk_no (no (fun h => by have := h.2; omega))).symm)
      · refine Ev.neg h2 ?_
        rw [w64 (n := (i : Int) + 1) (by omega) (by omega), cast_succ]
        exact ih (i + 1) (by omega) (hiff.trans (drop_all (by omega) ⟨h1, by omega⟩))
    · exact Ev.neg (by simpa using h1) (Ev.done (diskOk_no (no (fun h => h1 h.1))).symm)
theorem impl_DiskOk_l0 (d : Dk) (hs : d.secs.length ≤ 1048576) (hc : d.cache.length ≤ 1048576) (hpre : (1 ≤ d.secs.length ∧ d.secs.length ≤ 40) ∧ d.cache.length ≤ 30 ∧ (-1 ≤ d.fuse ∧ d.fuse ≤ 1000)) (n : Nat) :
    ∀ (i : Nat), i + n = d.secs.length → ((∀ x ∈ d.secs, x.length ≤ 160) ↔ ∀ x ∈ d.secs.drop i, x.length ≤ 160) → Ev (fun k => impl_DiskOk.l0 k d.secs (d.secs.length : Int) (i : Int) d.secs d.cache d.fuse d.down) (diskOk d) := by
  induction n with
  | zero =>
    intro i hi hiff
    rw [List.drop_of_length_le (by omega)] at hiff
    refine Ev.step (fun k => impl_DiskOk.l0.eq_2 _ _ _ _ _ _ _ k) (Ev.neg (by omega) ?_)
    exact impl_DiskOk_l1 d hs hc ⟨hpre.1, hpre.2.1, hpre.2.2, hiff.2 (fun x hx => by cases hx)⟩ d.cache.length 0 (by omega) (by simp)
  | succ n ih =>
    intro i hi hiff
    have he : rd_L1 d.secs (i : Int) = d.secs[i] := getD_nat d.secs _ (by omega)
    refine Ev.step (fun k => impl_DiskOk.l0.eq_2 _ _ _ _ _ _ _ k) (Ev.pos (by omega) (Ev.pos (by omega) (Ev.pos (by omega) ?_)))
    rw [he]
    by_cases h2 : (d.secs[i].length : Int) > 160
    · exact Ev.pos h2 (Ev.done (diskOk_no (fun h => by have := h.2.2.2.1 _ (List.getElem_mem (show i < d.secs.length by omega)); omega)).symm)
    · refine Ev.neg h2 ?_
      rw [w64 (n := (i : Int) + 1) (by omega) (by omega), cast_succ]
      exact ih (i + 1) (by omega) (hiff.trans (drop_all (by omega) (by omega)))
theorem impl_diskOk (d : Dk) (hs : d.secs.length ≤ 1048576) (hc : d.cache.length ≤ 1048576) : Ev (fun k => impl_DiskOk.f k d.secs d.cache d.fuse d.down) (diskOk d) := by
  unfold impl_DiskOk.f
  have bad : ¬ DiskOk d → ∀ b : Bool, b = true → Ev (fun k => impl_DiskOk.j0 k b d.secs d.cache d.fuse d.down) (diskOk d) := fun h b hb => Ev.step (fun k => impl_DiskOk.j0.eq_2 _ _ _ _ _ k) (Ev.pos hb (Ev.done (diskOk_no h).symm))
  refine Ev.then (isIn _ _ _) ?_
  by_cases h1 : 1 ≤ d.secs.length ∧ d.secs.length ≤ 40
  · refine Ev.pos (by simp; omega) ?_
    by_cases h2 : (d.cache.length : Int) > 30
    · exact Ev.pos h2 (bad (fun h => by have := h.2.1; omega) _ rfl)
    · refine Ev.neg h2 (Ev.then (isIn _ _ _) ?_)
      by_cases h3 : -1 ≤ d.fuse ∧ d.fuse ≤ 1000
      · refine Ev.step (fun k => impl_DiskOk.j0.eq_2 _ _ _ _ _ k) (Ev.neg (by simp; omega) ?_)
        exact impl_DiskOk_l0 d hs hc ⟨h1, by omega, h3⟩ d.secs.length 0 (by omega) (by simp)
      · exact bad (fun h => h3 h.2.2.1) _ (by simp; omega)
  · exact Ev.neg (by simp; omega) (bad (fun h => h1 h.1) _ rfl)
theorem spec_DiskOk_l1 (d : Dk) (hs : d.secs.length ≤ 1048576) (hc : d.cache.length ≤ 1048576) (hpre : ∀ x ∈ d.secs, x.length ≤ 160) (n : Nat) :
    ∀ (i : Nat), i + n = d.cache.length → ((∀ x ∈ d.cache, WrOk d.secs.length x) ↔ ∀ x ∈ d.cache.drop i, WrOk d.secs.length x) → Ev (fun k => spec_DiskOk.l1 k (i : Int) d.secs d.cache d.fuse d.down) (diskOk d) := by
  induction n with
  | zero =>
    intro i hi hiff
    rw [List.drop_of_length_le (by omega)] at hiff
    have hall := hiff.2 (fun x hx => by cases hx)
    refine Ev.step (fun k => spec_DiskOk.l1.eq_2 _ _ _ _ _ k) (Ev.neg (by omega) (Ev.then (l1In _ _ _) ?_))
    by_cases h1 : 1 ≤ d.secs.length ∧ d.secs.length ≤ 40
    · refine Ev.pos (by simp; omega) ?_
      by_cases h2 : (d.cache.length : Int) ≤ 30
      · refine Ev.pos h2 (Ev.then (l1In _ _ _) (Ev.done ?_))
        by_cases h3 : -1 ≤ d.fuse ∧ d.fuse ≤ 1000
        · rw [(diskOk_iff d).2 ⟨h1, by omega, h3, hpre, hall⟩]; simpa using h3
        · rw [diskOk_no (fun h => h3 h.2.2.1)]; simpa using h3
      · exact Ev.neg h2 (Ev.done (diskOk_no (fun h => by have := h.2.1; omega)).symm)
    · exact Ev.neg (by simp; omega) (Ev.done (diskOk_no (fun h => h1 h.1)).symm)
  | succ n ih =>
    intro i hi hiff
    have he : rd_T54 d.cache (i : Int) = d.cache[i] := getD_nat d.cache _ (by omega)
    have no : ¬ WrOk d.secs.length d.cache[i] → ¬ DiskOk d := fun h hd => h (hd.2.2.2.2 _ (List.getElem_mem _))
    refine Ev.step (fun k => spec_DiskOk.l1.eq_2 _ _ _ _ _ k) (Ev.pos (by omega) (Ev.pos (by omega) ?_))
    rw [he, w64 (n := (d.secs.length : Int) - 1) (by omega) (by omega)]
    refine Ev.then (l1In _ _ _) ?_
    by_cases h1 : 0 ≤ d.cache[i].f0 ∧ d.cache[i].f0 ≤ (d.secs.length : Int) - 1
    · refine Ev.pos (by simpa using h1) ?_
      by_cases h2 : (d.cache[i].f1.length : Int) > 160
      · exact Ev.pos h2 (Ev.done (diskOk_no (no (fun h => by have := h.2; omega))).symm)
      · refine Ev.neg h2 ?_
        rw [w64 (n := (i : Int) + 1) (by omega) (by omega), cast_succ]
        exact ih (i + 1) (by omega) (hiff.trans (drop_all (by omega) ⟨h1, by omega⟩))
    · exact Ev.neg (by simpa using h1) (Ev.done (diskOk_no (no (fun h => h1 h.1))).symm)
theorem spec_DiskOk_l0 (d : Dk) (hs : d.secs.length ≤ 1048576) (hc : d.cache.length ≤ 1048576) (n : Nat) :
    ∀ (i : Nat), i + n = d.secs.length → ((∀ x ∈ d.secs, x.length ≤ 160) ↔ ∀ x ∈ d.secs.drop i, x.length ≤ 160) → Ev (fun k => spec_DiskOk.l0 k (i : Int) d.secs d.cache d.fuse d.down) (diskOk d) := by
  induction n with
  | zero =>
    intro i hi hiff
    rw [List.drop_of_length_le (by omega)] at hiff
    refine Ev.step (fun k => spec_DiskOk.l0.eq_2 _ _ _ _ _ k) (Ev.neg (by omega) ?_)
    exact spec_DiskOk_l1 d hs hc (hiff.2 (fun x hx => by cases hx)) d.cache.length 0 (by omega) (by simp)
  | succ n ih =>
    intro i hi hiff
    have he : rd_L1 d.secs (i : Int) = d.secs[i] := getD_nat d.secs _ (by omega)
    refine Ev.step (fun k => spec_DiskOk.l0.eq_2 _ _ _ _ _ k) (Ev.pos (by omega) (Ev.pos (by omega) ?_))
    rw [he]
    by_cases h2 : (d.secs[i].length : Int) > 160
    · exact Ev.pos h2 (Ev.done (diskOk_no (fun h => by have := h.2.2.2.1 _ (List.getElem_mem (show i < d.secs.length by omega)); omega)).symm)
    · refine Ev.neg h2 ?_
      rw [w64 (n := (i : Int) + 1) (by omega) (by omega), cast_succ]
      exact ih (i + 1) (by omega) (hiff.trans (drop_all (by omega) (by omega)))
theorem spec_diskOk (d : Dk) (hs : d.secs.length ≤ 1048576) (hc : d.cache.length ≤ 1048576) : Ev (fun k => spec_DiskOk.f k d.secs d.cache d.fuse d.down) (diskOk d) := by
  unfold spec_DiskOk.f
  exact spec_DiskOk_l0 d hs hc d.secs.length 0 (by omega) (by simp)
/-- What a law's disk is: the one that came in, copied, and what is known of it where its size is not above the bound. -/
theorem fits_of {secs : List (List Int)} {cache : List LWr} (fuse : Int) (down : Bool) (hs : ∀ x ∈ secs, (x.length ≤ maxLen ∧ ∀ y ∈ x, (Lit.int .u8 y).wf = true)) (hc : ∀ x ∈ cache, ((Lit.int .i64 x.f0).wf = true ∧ (x.f1.length ≤ maxLen ∧ ∀ y ∈ x.f1, (Lit.int .u8 y).wf = true)))
    (h : (secs.length ≤ 1048576 ∧ ∀ x ∈ secs, x.length ≤ 1048576) ∧ (cache.length ≤ 1048576 ∧ ∀ x ∈ cache, x.f1.length ≤ 1048576)) : Fits ⟨secs, cache.map wrOf, fuse, down⟩ := by
  refine ⟨h.1.1, fun x hx => ⟨h.1.2 x hx, Bytes.of_wf (hs x hx).2⟩, by simpa using h.2.1, fun x hx => ?_⟩
  obtain ⟨y, hy, rfl⟩ := List.mem_map.1 hx
  exact ⟨h.2.2 y hy, Bytes.of_wf (hc y hy).2.2⟩
end Go.Proofs.Ytkpcieenikmbmaa.Fn

/- What the printed functions that make a checksum come to. No memory is in sight here. -/
namespace Go.Proofs.Ytkpcieenikmbmaa.Fn
set_option linter.unusedVariables false
set_option linter.unusedSimpArgs false
open Go.RowKit Go.Proofs.YtkpcieenikmbmaaW.PrintWords Go.Proofs.Ytkpcieenikmbmaa.P Go.Proofs.Ytkpcieenikmbmaa.Base

/-! ### the checksum -/
theorem bits_nat64 (a b : Nat) (ha : a < 2 ^ 63) (hb : b < 2 ^ 63) : Go.bits .and .i64 a b = ((a &&& b : Nat) : Int) := (Go.bits_nat .i64 63 (by decide) wraps_i64 a b ha hb).1
theorem xor_nat (a b : Nat) (ha : a < 2 ^ 63) (hb : b < 2 ^ 63) : Go.bits .xor .i64 a b = ((a ^^^ b : Nat) : Int) := by
  have hc : a ^^^ b < 2 ^ 63 := Nat.xor_lt_two_pow ha hb
  have hk : IntKind.i64.bits = 64 := rfl
  have ha' : a % 2 ^ IntKind.i64.bits = a := Nat.mod_eq_of_lt (by rw [hk]; omega)
  have hb' : b % 2 ^ IntKind.i64.bits = b := Nat.mod_eq_of_lt (by rw [hk]; omega)
  simp only [Go.bits, BitVec.ofInt_natCast, BitVec.toNat_xor, BitVec.toNat_ofNat, ha', hb']
  exact wraps_i64 _ (by omega) (by exact_mod_cast hc)
theorem and_mask (a : Nat) (ha : a < 65536) : Go.bits .and .i64 a 65535 = (a : Int) := by
  rw [show (65535 : Int) = ((65535 : Nat) : Int) from rfl, bits_nat64 a 65535 (by omega) (by omega), show (65535 : Nat) = 2 ^ 16 - 1 by decide, Nat.and_two_pow_sub_one_eq_mod, Nat.mod_eq_of_lt ha]
theorem bit_int {s : Nat} (h : s < 65536) : (if 65535 < wrap64 ((s : Int) * 2) then Go.bits .xor .i64 (wrap64 ((s : Int) * 2)) 69665 else wrap64 ((s : Int) * 2)) = (Crc.bit s : Int) := by
  unfold Crc.bit
  rw [w64 (by omega) (by omega)]
  by_cases hs : 2 * s > 65535
  · rw [if_pos (by omega), if_pos hs, show (s : Int) * 2 = ((2 * s : Nat) : Int) by omega, show (69665 : Int) = ((69665 : Nat) : Int) from rfl, xor_nat _ _ (by omega) (by omega)]
  · rw [if_neg (by omega), if_neg hs]; omega
theorem impl_Sum_l1 (l : List Int) (i : Nat) (r : Int) (s' : Nat) (d : Nat) : ∀ (j s : Nat), j + d = 8 → s < 65536 → Crc.bits s d = s' → Ev (fun k => impl_Sum.l0 k (s' : Int) l (l.length : Int) (wrap64 ((i : Int) + 1))) r → Ev (fun k => impl_Sum.l1 k (s : Int) l (l.length : Int) (i : Int) (j : Int)) r := by
  induction d with
  | zero =>
    intro j s hj hs he hk
    refine Ev.step (fun k => impl_Sum.l1.eq_2 _ _ _ _ _ k) (Ev.neg (by omega) ?_)
    rw [show s = s' from he]
    exact hk
  | succ d ih =>
    intro j s hj hs he hk
    refine Ev.step (fun k => impl_Sum.l1.eq_2 _ _ _ _ _ k) (Ev.pos (by omega) ?_)
    have hb := bit_int hs
    have hn := ih (j + 1) (Crc.bit s) (by omega) (Crc.bit_lt hs) he hk
    have hj1 : wrap64 ((j : Int) + 1) = ((j + 1 : Nat) : Int) := by rw [w64 (by omega) (by omega)]; rfl
    by_cases h : wrap64 ((s : Int) * 2) > 65535
    · rw [if_pos h] at hb
      refine Ev.pos h ?_
      rw [hb, hj1]
      exact hn
    · rw [if_neg h] at hb
      refine Ev.neg h ?_
      rw [hb, hj1]
      exact hn
theorem spec_Sum_l1 (l : List Int) (i : Nat) (r : Int) (s' : Nat) (d : Nat) : ∀ (j s : Nat), j + d = 8 → s < 65536 → Crc.bits s d = s' → Ev (fun k => spec_Sum.l0 k l (s' : Int) (wrap64 ((i : Int) + 1))) r → Ev (fun k => spec_Sum.l1 k l (s : Int) (i : Int) (j : Int)) r := by
  induction d with
  | zero =>
    intro j s hj hs he hk
    refine Ev.step (fun k => spec_Sum.l1.eq_2 _ _ _ _ k) (Ev.neg (by omega) ?_)
    rw [show s = s' from he]
    exact hk
  | succ d ih =>
    intro j s hj hs he hk
    refine Ev.step (fun k => spec_Sum.l1.eq_2 _ _ _ _ k) (Ev.pos (by omega) ?_)
    have hb := bit_int hs
    have hn := ih (j + 1) (Crc.bit s) (by omega) (Crc.bit_lt hs) he hk
    have hj1 : wrap64 ((j : Int) + 1) = ((j + 1 : Nat) : Int) := by rw [w64 (by omega) (by omega)]; rfl
    by_cases h : wrap64 ((s : Int) * 2) > 65535
    · rw [if_pos h] at hb
      refine Ev.pos h ?_
      rw [hb, hj1]
      exact hn
    · rw [if_neg h] at hb
      refine Ev.neg h ?_
      rw [hb, hj1]
      exact hn
theorem byte_int {s : Nat} {x : Int} (hs : s < 65536) (hx : 0 ≤ x ∧ x ≤ 255) : Go.bits .xor .i64 (s : Int) (wrap64 (x * 256)) = ((s ^^^ (256 * x.toNat) : Nat) : Int) := by
  rw [w64 (by omega) (by omega), show x * 256 = ((256 * x.toNat : Nat) : Int) by omega, xor_nat _ _ (by omega) (by omega)]
theorem impl_Sum_l0 (l : List Int) (hb : Bytes l) (hl : l.length ≤ 140737488351232) (d : Nat) : ∀ (i s : Nat), i + d = l.length → s < 65536 → Ev (fun k => impl_Sum.l0 k (s : Int) l (l.length : Int) (i : Int)) (Crc.sum s (l.drop i) : Int) := by
  induction d with
  | zero =>
    intro i s hi hs
    refine Ev.step (fun k => impl_Sum.l0.eq_2 _ _ _ _ k) (Ev.neg (by omega) (Ev.done ?_))
    rw [List.drop_of_length_le (by omega), and_mask s hs]; rfl
  | succ d ih =>
    intro i s hi hs
    have hr := rd_byte hb (i : Int)
    refine Ev.step (fun k => impl_Sum.l0.eq_2 _ _ _ _ k) (Ev.pos (by omega) (Ev.pos (by omega) (Ev.pos (by omega) ?_)))
    rw [drop_rd (by omega), Crc.sum_cons, w64_byte hb, Int.mul_comm 256, byte_int hs hr]
    refine impl_Sum_l1 l i _ _ 8 0 _ (by omega) (Nat.xor_lt_two_pow (n := 16) hs (by omega)) (Crc.byte_def _ _) ?_
    rw [w64 (by omega) (by omega), cast_succ]
    exact ih (i + 1) _ (by omega) (Crc.byte_lt hs (by omega))
theorem spec_Sum_l0 (l : List Int) (hb : Bytes l) (hl : l.length ≤ 140737488351232) (d : Nat) : ∀ (i s : Nat), i + d = l.length → s < 65536 → Ev (fun k => spec_Sum.l0 k l (s : Int) (i : Int)) (Crc.sum s (l.drop i) : Int) := by
  induction d with
  | zero =>
    intro i s hi hs
    refine Ev.step (fun k => spec_Sum.l0.eq_2 _ _ _ k) (Ev.neg (by omega) (Ev.done ?_))
    rw [List.drop_of_length_le (by omega), and_mask s hs]; rfl
  | succ d ih =>
    intro i s hi hs
    have hr := rd_byte hb (i : Int)
    refine Ev.step (fun k => spec_Sum.l0.eq_2 _ _ _ k) (Ev.pos (by omega) (Ev.pos (by omega) ?_))
    rw [drop_rd (by omega), Crc.sum_cons, w64_byte hb, byte_int hs hr]
    refine spec_Sum_l1 l i _ _ 8 0 _ (by omega) (Nat.xor_lt_two_pow (n := 16) hs (by omega)) (Crc.byte_def _ _) ?_
    rw [w64 (by omega) (by omega), cast_succ]
    exact ih (i + 1) _ (by omega) (Crc.byte_lt hs (by omega))
def crc (l : List Int) : Int := (Crc.sum 65535 l : Nat)
theorem impl_sum (l : List Int) (hb : Bytes l) (hl : l.length ≤ 140737488351232) : Ev (fun k => impl_Sum.f k l) (crc l) := by
  unfold impl_Sum.f
  exact impl_Sum_l0 l hb hl l.length 0 65535 (by omega) (by decide)
theorem spec_sum (l : List Int) (hb : Bytes l) (hl : l.length ≤ 140737488351232) : Ev (fun k => spec_Sum.f k l) (crc l) := by
  unfold spec_Sum.f
  exact spec_Sum_l0 l hb hl l.length 0 65535 (by omega) (by decide)
end Go.Proofs.Ytkpcieenikmbmaa.Fn

/- What the printed functions that write words and texts come to. No memory is in sight here. -/
namespace Go.Proofs.Ytkpcieenikmbmaa.Fn
set_option linter.unusedVariables false
set_option linter.unusedSimpArgs false
open Go.RowKit Go.Proofs.YtkpcieenikmbmaaW.PrintWords Go.Proofs.Ytkpcieenikmbmaa.P Go.Proofs.Ytkpcieenikmbmaa.Base

theorem clone (l : List Int) (hl : l.length < 140737488355328) : slices_Clone_byte_byte.f l = some l := by
  unfold slices_Clone_byte_byte.f
  simp only [Option.bind_some, List.nil_append, List.length_nil, Nat.zero_add]
  rw [if_pos hl]
theorem and255_mod (x : Int) : Go.bits .and .i64 x 255 = x % 256 := by
  have hk : IntKind.i64.bits = 64 := rfl
  have h255 : (255 : Nat) % 2 ^ IntKind.i64.bits = 255 := by decide
  rw [show (255 : Int) = ((255 : Nat) : Int) from rfl]
  simp only [Go.bits, BitVec.ofInt_natCast, BitVec.toNat_and, BitVec.toNat_ofNat, h255]
  rw [show (255 : Nat) = 2 ^ 8 - 1 by decide, Nat.and_two_pow_sub_one_eq_mod, BitVec.toNat_ofInt, hk, wraps_i64 _ (by omega) (by omega)]
  omega
/-- The two bytes of a word. -/
def wordBytes (n : Int) : List Int := [n / 256 % 256, n % 256]
theorem wordBytes_bytes (n : Int) : Bytes (wordBytes n) := Bytes.cons (by omega) (Bytes.cons (by omega) Bytes.nil)
theorem spec_putWord (l : List Int) (n : Int) (hl : l.length < 140737488355326) : spec_PutWord.f l n = some (l ++ wordBytes n) := by
  unfold spec_PutWord.f wordBytes
  simp only [Option.bind_some, List.nil_append, List.length_nil, Nat.zero_add, List.length_cons]
  rw [if_pos (by omega), if_pos (by omega), and255_mod, and255_mod]
  simp
theorem impl_putWord (l : List Int) (n : Int) (hl : l.length < 140737488355326) : impl_PutWord.f l n = some (l ++ wordBytes n) := by
  unfold impl_PutWord.f wordBytes
  rw [clone l (by omega)]
  simp only [Option.bind_some, List.length_cons, List.length_nil]
  rw [if_pos (by omega)]
end Go.Proofs.Ytkpcieenikmbmaa.Fn

/- What the printed functions that read a sector come to. -/
namespace Go.Proofs.Ytkpcieenikmbmaa.Fn
set_option linter.unusedVariables false
set_option linter.unusedSimpArgs false
open Go.RowKit Go.Proofs.YtkpcieenikmbmaaW.PrintWords Go.Proofs.Ytkpcieenikmbmaa.P Go.Proofs.Ytkpcieenikmbmaa.Base

/-- The last of the writes to sector n, or what stood there. -/
def lookB (n : Int) : List Wr → List Int → List Int
  | [], b => b
  | x :: xs, b => lookB n xs (if x.f0 = n then x.f1 else b)
theorem lookB_snoc (n : Int) (xs : List Wr) (x : Wr) : ∀ b, lookB n (xs ++ [x]) b = if x.f0 = n then x.f1 else lookB n xs b := by
  induction xs with
  | nil => intro b; rfl
  | cons y ys ih => intro b; exact ih _
theorem lookB_all {P : List Int → Prop} (n : Int) (xs : List Wr) (hx : ∀ x ∈ xs, P x.f1) : ∀ b, P b → P (lookB n xs b) := by
  induction xs with
  | nil => intro b hb; exact hb
  | cons y ys ih =>
    intro b hb
    refine ih (fun x h => hx x (List.mem_cons_of_mem _ h)) _ ?_
    split
    · exact hx y (List.mem_cons_self ..)
    · exact hb
noncomputable def readSec (d : Dk) (n : Int) : List Int :=
  @ite _ (DiskOk d ∧ 0 ≤ n ∧ n ≤ (d.secs.length : Int) - 1) (Classical.propDecidable _) (lookB n d.cache (d.secs.getD n.toNat [])) []
theorem readSec_yes {d : Dk} {n : Int} (h : DiskOk d ∧ 0 ≤ n ∧ n ≤ (d.secs.length : Int) - 1) : readSec d n = lookB n d.cache (d.secs.getD n.toNat []) := if_pos h
theorem readSec_no {d : Dk} {n : Int} (h : ¬ (DiskOk d ∧ 0 ≤ n ∧ n ≤ (d.secs.length : Int) - 1)) : readSec d n = [] := if_neg h
theorem readSec_all {P : List Int → Prop} (h0 : P []) (d : Dk) (n : Int) (hs : ∀ x ∈ d.secs, P x) (hc : ∀ x ∈ d.cache, P x.f1) : P (readSec d n) := by
  by_cases h : DiskOk d ∧ 0 ≤ n ∧ n ≤ (d.secs.length : Int) - 1
  · rw [readSec_yes h]
    refine lookB_all n d.cache hc _ ?_
    rw [List.getD_eq_getElem?_getD, List.getElem?_eq_getElem (by omega)]
    exact hs _ (List.getElem_mem _)
  · rw [readSec_no h]; exact h0
theorem readSec_length {d : Dk} (hd : Fits d) (n : Int) : (readSec d n).length ≤ 1048576 := readSec_all (P := fun l => l.length ≤ 1048576) (by simp) d n (fun x hx => (hd.2.1 x hx).1) (fun x hx => (hd.2.2.2 x hx).1)
theorem spec_ReadSec_l0 (d : Dk) (hd : Fits d) (n : Int) (m : Nat) : ∀ (i : Nat) (b : List Int), i + m = d.cache.length → b.length ≤ 1048576 → Ev (fun k => spec_ReadSec.l0 k n b (i : Int) d.secs d.cache d.fuse d.down) (lookB n (d.cache.drop i) b) := by
  induction m with
  | zero =>
    intro i b hi hb
    rw [List.drop_of_length_le (by omega)]
    exact Ev.step (fun k => spec_ReadSec.l0.eq_2 _ _ _ _ _ _ _ k) (Ev.neg (by omega) (Ev.then rfl (Ev.pos (by simp; omega) (Ev.done rfl))))
  | succ m ih =>
    intro i b hi hb
    have hlt : i < d.cache.length := by omega
    have he : rd_T54 d.cache (i : Int) = d.cache[i] := getD_nat d.cache _ hlt
    have hcl := hd.2.2.1
    rw [List.drop_eq_getElem_cons hlt, lookB]
    refine Ev.step (fun k => spec_ReadSec.l0.eq_2 _ _ _ _ _ _ _ k) (Ev.pos (by omega) (Ev.pos (by omega) ?_))
    rw [he, w64 (n := (i : Int) + 1) (by omega) (by omega), cast_succ]
    by_cases h : d.cache[i].f0 = n
    · rw [if_pos h]
      exact Ev.pos h (ih (i + 1) _ (by omega) (hd.2.2.2 _ (List.getElem_mem hlt)).1)
    · rw [if_neg h]
      exact Ev.neg h (ih (i + 1) _ (by omega) hb)
theorem spec_readSec (d : Dk) (hd : Fits d) (n : Int) : Ev (fun k => spec_ReadSec.f k d.secs d.cache d.fuse d.down n) (readSec d n) := by
  unfold spec_ReadSec.f
  have hsl := hd.1
  have bad : ¬ (DiskOk d ∧ 0 ≤ n ∧ n ≤ (d.secs.length : Int) - 1) → ∀ b : Bool, b = true → Ev (fun k => spec_ReadSec.j0 k n b d.secs d.cache d.fuse d.down) (readSec d n) := fun hn b hb => Ev.step (fun k => spec_ReadSec.j0.eq_2 _ _ _ _ _ _ k) (Ev.pos hb (Ev.done (readSec_no hn).symm))
  refine Ev.bind (spec_diskOk d hd.1 hd.2.2.1) ?_
  by_cases h1 : DiskOk d
  case neg =>
    rw [diskOk_no h1]
    exact Ev.neg (by decide) (bad (fun h => h1 h.1) _ rfl)
  rw [(diskOk_iff d).2 h1, w64 (n := (d.secs.length : Int) - 1) (by omega) (by omega)]
  refine Ev.pos rfl (Ev.then (l1In _ _ _) ?_)
  by_cases h2 : 0 ≤ n ∧ n ≤ (d.secs.length : Int) - 1
  case neg => exact bad (fun h => h2 h.2) _ (by rw [decide_eq_false h2]; rfl)
  rw [readSec_yes ⟨h1, h2⟩]
  obtain ⟨i, rfl⟩ := Int.eq_ofNat_of_zero_le h2.1
  have hlt : i < d.secs.length := by omega
  have he : rd_L1 d.secs (i : Int) = d.secs[i] := getD_nat d.secs _ hlt
  refine Ev.step (fun k => spec_ReadSec.j0.eq_2 _ _ _ _ _ _ k) (Ev.neg (by rw [decide_eq_true h2]; decide) (Ev.pos (by omega) (Ev.pos (by omega) ?_)))
  rw [he, getD_nat d.secs [] hlt]
  exact spec_ReadSec_l0 d hd _ d.cache.length 0 _ (by omega) (hd.2.1 _ (List.getElem_mem hlt)).1
theorem impl_ReadSec_l0 (d : Dk) (hd : Fits d) (n : Nat) (hn : n < d.secs.length) : ∀ (i : Nat), i ≤ d.cache.length → Ev (fun k => impl_ReadSec.l0 k (n : Int) ((i : Int) - 1) d.secs d.cache d.fuse d.down) (lookB (n : Int) (d.cache.take i) d.secs[n]) := by
  intro i
  have hsn := (hd.2.1 _ (List.getElem_mem hn)).1
  induction i with
  | zero =>
    intro _
    have he : rd_L1 d.secs (n : Int) = d.secs[n] := getD_nat d.secs _ hn
    refine Ev.step (fun k => impl_ReadSec.l0.eq_2 _ _ _ _ _ _ k) (Ev.neg (by omega) (Ev.pos (by omega) (Ev.pos (by omega) ?_)))
    rw [he]
    exact Ev.then (clone _ (by omega)) (Ev.done rfl)
  | succ i ih =>
    intro hi
    have hlt : i < d.cache.length := by omega
    have hcl := hd.2.2.1
    have he : rd_T54 d.cache (i : Int) = d.cache[i] := getD_nat d.cache _ hlt
    have hci := (hd.2.2.2 _ (List.getElem_mem hlt)).1
    rw [show (((i + 1 : Nat) : Int) - 1) = (i : Int) by omega, List.take_succ_eq_append_getElem hlt, lookB_snoc]
    refine Ev.step (fun k => impl_ReadSec.l0.eq_2 _ _ _ _ _ _ k) (Ev.pos (by omega) (Ev.pos (by omega) (Ev.pos (by omega) ?_)))
    rw [he]
    by_cases h : d.cache[i].f0 = (n : Int)
    · rw [if_pos h]
      exact Ev.pos h (Ev.then (clone _ (by omega)) (Ev.done rfl))
    · rw [if_neg h, w64 (n := (i : Int) - 1) (by omega) (by omega)]
      exact Ev.neg h (ih (by omega))
theorem impl_readSec (d : Dk) (hd : Fits d) (n : Int) : Ev (fun k => impl_ReadSec.f k d.secs d.cache d.fuse d.down n) (readSec d n) := by
  unfold impl_ReadSec.f
  have hsl := hd.1
  have hcl := hd.2.2.1
  have bad : ¬ (DiskOk d ∧ 0 ≤ n ∧ n ≤ (d.secs.length : Int) - 1) → ∀ b : Bool, b = true → Ev (fun k => impl_ReadSec.j0 k n b d.secs d.cache d.fuse d.down) (readSec d n) := fun hn b hb => Ev.step (fun k => impl_ReadSec.j0.eq_2 _ _ _ _ _ _ k) (Ev.pos hb (Ev.done (readSec_no hn).symm))
  refine Ev.bind (impl_diskOk d hd.1 hd.2.2.1) ?_
  by_cases h1 : DiskOk d
  case neg =>
    rw [diskOk_no h1]
    exact Ev.neg (by decide) (bad (fun h => h1 h.1) _ rfl)
  rw [(diskOk_iff d).2 h1, w64 (n := (d.secs.length : Int) - 1) (by omega) (by omega)]
  refine Ev.pos rfl (Ev.then (isIn _ _ _) ?_)
  by_cases h2 : 0 ≤ n ∧ n ≤ (d.secs.length : Int) - 1
  case neg => exact bad (fun h => h2 h.2) _ (by rw [decide_eq_false h2]; rfl)
  rw [readSec_yes ⟨h1, h2⟩]
  obtain ⟨i, rfl⟩ := Int.eq_ofNat_of_zero_le h2.1
  have hlt : i < d.secs.length := by omega
  refine Ev.step (fun k => impl_ReadSec.j0.eq_2 _ _ _ _ _ _ k) (Ev.neg (by rw [decide_eq_true h2]; decide) ?_)
  rw [getD_nat d.secs [] hlt, w64 (n := (d.cache.length : Int) - 1) (by omega) (by omega)]
  have := impl_ReadSec_l0 d hd i hlt d.cache.length (Nat.le_refl _)
  rwa [List.take_length] at this
end Go.Proofs.Ytkpcieenikmbmaa.Fn

/- What the functions that copy, write, sync and fell a disk come to. No memory is in sight here. -/
namespace Go.Proofs.Ytkpcieenikmbmaa.Fn
set_option linter.unusedVariables false
set_option linter.unusedSimpArgs false
open Go.RowKit Go.Proofs.YtkpcieenikmbmaaW.PrintWords Go.Proofs.Ytkpcieenikmbmaa.P Go.Proofs.Ytkpcieenikmbmaa.Base

theorem take_snoc {α : Type} {l : List α} {i : Nat} (h : i < l.length) : l.take i ++ [l[i]] = l.take (i + 1) := (List.take_succ_eq_append_getElem h).symm
/-! ### copies -/
theorem impl_diskCopy_l1 (d : Dk) (hd : Fits d) (s : List (List Int)) (m : Nat) : ∀ (i : Nat), i + m = d.cache.length → Ev (fun k => impl_diskCopy.l1 k s (d.cache.take i) d.cache (d.cache.length : Int) (i : Int) d.secs d.cache d.fuse d.down) (s, d.cache, d.fuse, d.down) := by
  induction m with
  | zero =>
    intro i hi
    rw [List.take_of_length_le (by omega)]
    exact Ev.step (fun k => impl_diskCopy.l1.eq_2 _ _ _ _ _ _ _ _ _ k) (Ev.neg (by omega) (Ev.done rfl))
  | succ m ih =>
    intro i hi
    have hc := hd.2.2.1
    have he : rd_T54 d.cache (i : Int) = d.cache[i] := getD_nat d.cache _ (by omega)
    have hx := (hd.2.2.2 _ (List.getElem_mem (show i < d.cache.length by omega))).1
    refine Ev.step (fun k => impl_diskCopy.l1.eq_2 _ _ _ _ _ _ _ _ _ k) (Ev.pos (by omega) (Ev.pos (by omega) (Ev.pos (by omega) ?_)))
    rw [he, w64 (n := (i : Int) + 1) (by omega) (by omega), cast_succ]
    refine Ev.then (clone _ (by omega)) (Ev.pos (by rw [List.length_take]; omega) ?_)
    rw [show (⟨d.cache[i].f0, d.cache[i].f1⟩ : Wr) = d.cache[i] from rfl, take_snoc]
    exact ih (i + 1) (by omega)
theorem impl_diskCopy_l0 (d : Dk) (hd : Fits d) (m : Nat) : ∀ (i : Nat), i + m = d.secs.length → Ev (fun k => impl_diskCopy.l0 k (d.secs.take i) ([] : List Wr) d.secs (d.secs.length : Int) (i : Int) d.secs d.cache d.fuse d.down) d.tuple := by
  induction m with
  | zero =>
    intro i hi
    rw [List.take_of_length_le (by omega)]
    exact Ev.step (fun k => impl_diskCopy.l0.eq_2 _ _ _ _ _ _ _ _ _ k) (Ev.neg (by omega) (impl_diskCopy_l1 d hd d.secs d.cache.length 0 (by omega)))
  | succ m ih =>
    intro i hi
    have hc := hd.1
    have he : rd_L1 d.secs (i : Int) = d.secs[i] := getD_nat d.secs _ (by omega)
    have hx := (hd.2.1 _ (List.getElem_mem (show i < d.secs.length by omega))).1
    refine Ev.step (fun k => impl_diskCopy.l0.eq_2 _ _ _ _ _ _ _ _ _ k) (Ev.pos (by omega) (Ev.pos (by omega) (Ev.pos (by omega) ?_)))
    rw [he, w64 (n := (i : Int) + 1) (by omega) (by omega), cast_succ]
    refine Ev.then (clone _ (by omega)) (Ev.pos (by rw [List.length_take]; omega) ?_)
    rw [take_snoc]
    exact ih (i + 1) (by omega)
theorem impl_diskCopy (d : Dk) (hd : Fits d) : Ev (fun k => impl_diskCopy.f k d.secs d.cache d.fuse d.down) d.tuple := by
  unfold impl_diskCopy.f
  have := impl_diskCopy_l0 d hd d.secs.length 0 (by omega)
  simpa using this
theorem spec_l2Copy_l1 (d : Dk) (hd : Fits d) (s : List (List Int)) (f : Int) (b : Bool) (m : Nat) : ∀ (i : Nat), i + m = d.cache.length → Ev (fun k => spec_l2Copy.l1 k (i : Int) d.secs d.cache d.fuse d.down s (d.cache.take i) f b) (s, d.cache, f, b) := by
  induction m with
  | zero =>
    intro i hi
    rw [List.take_of_length_le (by omega)]
    exact Ev.step (fun k => spec_l2Copy.l1.eq_2 _ _ _ _ _ _ _ _ _ k) (Ev.neg (by omega) (Ev.done rfl))
  | succ m ih =>
    intro i hi
    have hc := hd.2.2.1
    have he : rd_T54 d.cache (i : Int) = d.cache[i] := getD_nat d.cache _ (by omega)
    have hx := (hd.2.2.2 _ (List.getElem_mem (show i < d.cache.length by omega))).1
    refine Ev.step (fun k => spec_l2Copy.l1.eq_2 _ _ _ _ _ _ _ _ _ k) (Ev.pos (by omega) (Ev.pos (by omega) (Ev.then rfl ?_)))
    rw [he, w64 (n := (i : Int) + 1) (by omega) (by omega), cast_succ]
    refine Ev.pos (by simp; omega) (Ev.pos (by rw [List.length_take]; omega) ?_)
    rw [List.nil_append, show (⟨d.cache[i].f0, d.cache[i].f1⟩ : Wr) = d.cache[i] from rfl, take_snoc]
    exact ih (i + 1) (by omega)
theorem spec_l2Copy_l0 (d : Dk) (hd : Fits d) (f : Int) (b : Bool) (m : Nat) : ∀ (i : Nat), i + m = d.secs.length → Ev (fun k => spec_l2Copy.l0 k (i : Int) d.secs d.cache d.fuse d.down (d.secs.take i) f b) (d.secs, d.cache, f, b) := by
  induction m with
  | zero =>
    intro i hi
    rw [List.take_of_length_le (by omega)]
    exact Ev.step (fun k => spec_l2Copy.l0.eq_2 _ _ _ _ _ _ _ _ k) (Ev.neg (by omega) (spec_l2Copy_l1 d hd d.secs f b d.cache.length 0 (by omega)))
  | succ m ih =>
    intro i hi
    have hc := hd.1
    have he : rd_L1 d.secs (i : Int) = d.secs[i] := getD_nat d.secs _ (by omega)
    have hx := (hd.2.1 _ (List.getElem_mem (show i < d.secs.length by omega))).1
    refine Ev.step (fun k => spec_l2Copy.l0.eq_2 _ _ _ _ _ _ _ _ k) (Ev.pos (by omega) (Ev.then rfl (Ev.pos (by omega) ?_)))
    rw [he, w64 (n := (i : Int) + 1) (by omega) (by omega), cast_succ]
    refine Ev.pos (by simp; omega) (Ev.pos (by rw [List.length_take]; omega) ?_)
    rw [List.nil_append, take_snoc]
    exact ih (i + 1) (by omega)
theorem spec_l2Copy (d : Dk) (hd : Fits d) : Ev (fun k => spec_l2Copy.f k d.secs d.cache d.fuse d.down) d.tuple := by
  unfold spec_l2Copy.f
  have h0 : Ev (fun k => spec_l2Copy.l0 k 0 d.secs d.cache d.fuse d.down [] d.fuse d.down) (d.secs, d.cache, d.fuse, d.down) := by
    have := spec_l2Copy_l0 d hd d.fuse d.down d.secs.length 0 (by omega)
    simpa using this
  exact h0
/-! ### power -/
def fuseOf (f : Int) : Int := if f = 0 then -1 else if f > 0 then f - 1 else f
def downOf (f : Int) (b : Bool) : Bool := if f = 0 then true else b
theorem impl_powered (s : List (List Int)) (c : List Wr) (f : Int) (b : Bool) (hf : -1 ≤ f ∧ f ≤ 1000) : impl_powered.f s c f b = some (s, c, fuseOf f, downOf f b, decide (f ≠ 0)) := by
  unfold impl_powered.f fuseOf downOf
  by_cases h0 : f = 0
  · rw [if_pos h0, if_pos h0, if_pos h0]
    simp [h0]
  · rw [if_neg h0, if_neg h0, if_neg h0]
    by_cases h1 : f > 0
    · rw [if_pos h1, if_pos h1, w64 (by omega) (by omega)]
      simp [h0]
    · rw [if_neg h1, if_neg h1]
      simp [h0]
theorem spec_l2Fuse (s : List (List Int)) (c : List Wr) (f : Int) (b : Bool) (hf : -1 ≤ f ∧ f ≤ 1000) : spec_l2Fuse.f s c f b = some (decide (f ≠ 0), fuseOf f, downOf f b) := by
  unfold spec_l2Fuse.f fuseOf downOf
  by_cases h0 : f = 0
  · rw [if_pos h0, if_pos h0, if_pos h0]
    simp [h0]
  · rw [if_neg h0, if_neg h0, if_neg h0]
    by_cases h1 : f > 0
    · rw [if_pos h1, if_pos h1, w64 (by omega) (by omega)]
      simp [h0]
    · rw [if_neg h1, if_neg h1]
      simp [h0]
/-! ### a write -/
def CanWrite (d : Dk) (n : Int) (b : List Int) : Prop := DiskOk d ∧ d.down = false ∧ (0 ≤ n ∧ n ≤ (d.secs.length : Int) - 1) ∧ b.length ≤ 160 ∧ d.cache.length ≠ 30
def wroteD (d : Dk) (n : Int) (b : List Int) : Dk := ⟨d.secs, if d.fuse = 0 then d.cache else d.cache ++ [⟨n, b⟩], fuseOf d.fuse, downOf d.fuse d.down⟩
noncomputable def writeSec (d : Dk) (n : Int) (b : List Int) : Dk := @ite _ (CanWrite d n b) (Classical.propDecidable _) (wroteD d n b) d
theorem writeSec_yes {d : Dk} {n : Int} {b : List Int} (h : CanWrite d n b) : writeSec d n b = wroteD d n b := if_pos h
theorem writeSec_no {d : Dk} {n : Int} {b : List Int} (h : ¬ CanWrite d n b) : writeSec d n b = d := if_neg h
theorem impl_writeSec (d : Dk) (hd : Fits d) (n : Int) (b : List Int) (hb : b.length ≤ 1048576) : Ev (fun k => impl_WriteSec.f k d.secs d.cache d.fuse d.down n b) (writeSec d n b).tuple := by
  unfold impl_WriteSec.f
  have hs1 := hd.1
  refine Ev.bind (impl_diskCopy d hd) (Ev.bind (impl_diskOk d hd.1 hd.2.2.1) ?_)
  by_cases h1 : DiskOk d
  case neg => rw [diskOk_no h1, writeSec_no (fun q => h1 q.1)]; exact Ev.neg (by decide) (Ev.done rfl)
  rw [(diskOk_iff d).2 h1]
  refine Ev.pos rfl ?_
  by_cases h2 : d.down = true
  · rw [writeSec_no (fun q => by rw [q.2.1] at h2; cases h2)]; exact Ev.pos h2 (Ev.done rfl)
  refine Ev.neg h2 (Ev.then (isIn _ _ _) ?_)
  rw [w64 (n := (d.secs.length : Int) - 1) (by omega) (by omega)]
  by_cases h3 : 0 ≤ n ∧ n ≤ (d.secs.length : Int) - 1
  case neg => rw [writeSec_no (fun q => h3 q.2.2.1)]; exact Ev.neg (by simpa using h3) (Ev.done rfl)
  refine Ev.pos (by simpa using h3) ?_
  by_cases h4 : (b.length : Int) > 160
  · rw [writeSec_no (fun q => by have := q.2.2.2.1; omega)]; exact Ev.pos h4 (Ev.done rfl)
  refine Ev.neg h4 ?_
  by_cases h5 : (d.cache.length : Int) = 30
  · rw [writeSec_no (fun q => by have := q.2.2.2.2; omega)]; exact Ev.pos h5 (Ev.done rfl)
  refine Ev.neg h5 (Ev.then (impl_powered d.secs d.cache d.fuse d.down h1.2.2.1) ?_)
  rw [writeSec_yes ⟨h1, by simpa using h2, h3, by omega, by omega⟩]
  unfold wroteD Dk.tuple
  by_cases h6 : d.fuse = 0
  · exact Ev.neg (by simp [h6]) (Ev.done (by simp [h6]))
  · refine Ev.pos (by simp [h6]) (Ev.then (clone b (by omega)) (Ev.pos (by have := h1.2.1; simp only []; omega) (Ev.done (by simp [h6]))))
theorem spec_writeSec (d : Dk) (hd : Fits d) (n : Int) (b : List Int) (hb : b.length ≤ 1048576) : Ev (fun k => spec_WriteSec.f k d.secs d.cache d.fuse d.down n b) (writeSec d n b).tuple := by
  unfold spec_WriteSec.f
  have hs1 := hd.1
  refine Ev.bind (spec_l2Copy d hd) (Ev.bind (spec_diskOk d hd.1 hd.2.2.1) ?_)
  by_cases h1 : DiskOk d
  case neg => rw [diskOk_no h1, writeSec_no (fun q => h1 q.1)]; exact Ev.neg (by decide) (Ev.done rfl)
  rw [(diskOk_iff d).2 h1]
  refine Ev.pos rfl ?_
  by_cases h2 : d.down = true
  · rw [writeSec_no (fun q => by rw [q.2.1] at h2; cases h2)]; exact Ev.pos h2 (Ev.done rfl)
  refine Ev.neg h2 (Ev.then (l1In _ _ _) ?_)
  rw [w64 (n := (d.secs.length : Int) - 1) (by omega) (by omega)]
  by_cases h3 : 0 ≤ n ∧ n ≤ (d.secs.length : Int) - 1
  case neg => rw [writeSec_no (fun q => h3 q.2.2.1)]; exact Ev.neg (by simpa using h3) (Ev.done rfl)
  refine Ev.pos (by simpa using h3) ?_
  by_cases h4 : (b.length : Int) > 160
  · rw [writeSec_no (fun q => by have := q.2.2.2.1; omega)]; exact Ev.pos h4 (Ev.done rfl)
  refine Ev.neg h4 ?_
  by_cases h5 : (d.cache.length : Int) = 30
  · rw [writeSec_no (fun q => by have := q.2.2.2.2; omega)]; exact Ev.pos h5 (Ev.done rfl)
  refine Ev.neg h5 (Ev.then (spec_l2Fuse d.secs d.cache d.fuse d.down h1.2.2.1) ?_)
  rw [writeSec_yes ⟨h1, by simpa using h2, h3, by omega, by omega⟩]
  unfold wroteD Dk.tuple
  by_cases h6 : d.fuse = 0
  · exact Ev.neg (by simp [h6]) (Ev.done (by simp [h6]))
  · refine Ev.pos (by simp [h6]) (Ev.then rfl (Ev.pos (by simp; omega) (Ev.pos (by have := h1.2.1; simp only []; omega) (Ev.done (by simp [h6])))))
/-! ### what is cached comes to the sectors -/
def ap (s : List (List Int)) : List Wr → List (List Int)
  | [] => s
  | w :: ws => ap (s.set w.f0.toNat w.f1) ws
theorem ap_length (c : List Wr) : ∀ s, (ap s c).length = s.length := by
  induction c with
  | nil => intro s; rfl
  | cons w ws ih => intro s; rw [ap, ih, List.length_set]
theorem ap_all {P : List Int → Prop} (c : List Wr) (hc : ∀ x ∈ c, P x.f1) : ∀ s, (∀ x ∈ s, P x) → ∀ x ∈ ap s c, P x := by
  induction c with
  | nil => intro s hs; exact hs
  | cons w ws ih =>
    intro s hs
    refine ih (fun x hx => hc x (List.mem_cons_of_mem _ hx)) _ fun x hx => ?_
    rcases List.mem_or_eq_of_mem_set hx with hx | rfl
    · exact hs x hx
    · exact hc w List.mem_cons_self
noncomputable def syncDisk (d : Dk) : Dk := @ite _ (DiskOk d ∧ d.down = false) (Classical.propDecidable _) (if d.fuse = 0 then ⟨d.secs, d.cache, -1, true⟩ else ⟨ap d.secs d.cache, [], fuseOf d.fuse, d.down⟩) d
theorem syncDisk_yes {d : Dk} (h : DiskOk d ∧ d.down = false) : syncDisk d = if d.fuse = 0 then ⟨d.secs, d.cache, -1, true⟩ else ⟨ap d.secs d.cache, [], fuseOf d.fuse, d.down⟩ := if_pos h
theorem syncDisk_no {d : Dk} (h : ¬ (DiskOk d ∧ d.down = false)) : syncDisk d = d := if_neg h
theorem fits_ap {s : List (List Int)} {c : List Wr} {f : Int} {b : Bool} (hs : s.length ≤ 1048576 ∧ ∀ x ∈ s, x.length ≤ 1048576 ∧ Bytes x) : Fits ⟨s, [], f, b⟩ := ⟨hs.1, hs.2, by simp, fun x hx => by cases hx⟩
theorem impl_SyncDisk_l0 (d : Dk) (hd : Fits d) (hok : ∀ x ∈ d.cache, WrOk d.secs.length x) (f : Int) (b : Bool) (m : Nat) : ∀ (i : Nat) (s : List (List Int)), i + m = d.cache.length → s.length = d.secs.length → (∀ x ∈ s, x.length ≤ 1048576 ∧ Bytes x) →
    Ev (fun k => impl_SyncDisk.l0 k d.cache (d.cache.length : Int) (i : Int) d.secs d.cache d.fuse d.down s f b) (ap s (d.cache.drop i), [], f, b) := by
  induction m with
  | zero =>
    intro i s hi hl hs
    rw [List.drop_of_length_le (by omega)]
    exact Ev.step (fun k => impl_SyncDisk.l0.eq_2 _ _ _ _ _ _ _ _ _ _ k) (Ev.neg (by omega) (impl_diskCopy ⟨s, [], f, b⟩ (fits_ap (c := []) ⟨by have := hd.1; omega, hs⟩)))
  | succ m ih =>
    intro i s hi hl hs
    have hc := hd.2.2.1
    have hlt : i < d.cache.length := by omega
    have he : rd_T54 d.cache (i : Int) = d.cache[i] := getD_nat d.cache _ hlt
    obtain ⟨ho, _⟩ := hok _ (List.getElem_mem hlt)
    refine Ev.step (fun k => impl_SyncDisk.l0.eq_2 _ _ _ _ _ _ _ _ _ _ k) (Ev.pos (by omega) (Ev.pos (by omega) (Ev.pos (by omega) ?_)))
    rw [he, w64 (n := (i : Int) + 1) (by omega) (by omega), cast_succ, List.drop_eq_getElem_cons hlt, ap]
    refine Ev.pos ho.1 (Ev.pos (by omega) (ih (i + 1) _ (by omega) (by rw [List.length_set]; exact hl) fun x hx => ?_))
    rcases List.mem_or_eq_of_mem_set hx with hx | rfl
    · exact hs x hx
    · exact hd.2.2.2 _ (List.getElem_mem hlt)
theorem impl_syncDisk (d : Dk) (hd : Fits d) : Ev (fun k => impl_SyncDisk.f k d.secs d.cache d.fuse d.down) (syncDisk d).tuple := by
  unfold impl_SyncDisk.f
  refine Ev.bind (impl_diskCopy d hd) (Ev.bind (impl_diskOk d hd.1 hd.2.2.1) ?_)
  by_cases h1 : DiskOk d
  case neg => rw [diskOk_no h1, syncDisk_no (fun q => h1 q.1)]; exact Ev.neg (by decide) (Ev.done rfl)
  rw [(diskOk_iff d).2 h1]
  refine Ev.pos rfl ?_
  by_cases h2 : d.down = true
  · rw [syncDisk_no (fun q => by rw [q.2] at h2; cases h2)]; exact Ev.pos h2 (Ev.done rfl)
  refine Ev.neg h2 (Ev.then (impl_powered d.secs d.cache d.fuse d.down h1.2.2.1) ?_)
  rw [syncDisk_yes ⟨h1, by simpa using h2⟩]
  by_cases h6 : d.fuse = 0
  · rw [if_pos h6]
    refine Ev.neg (by simp [h6]) ?_
    have e1 : fuseOf d.fuse = -1 := by unfold fuseOf; rw [if_pos h6]
    have e2 : downOf d.fuse d.down = true := by unfold downOf; rw [if_pos h6]
    simp only [e1, e2]
    exact impl_diskCopy ⟨d.secs, d.cache, -1, true⟩ hd
  · rw [if_neg h6]
    have e2 : downOf d.fuse d.down = d.down := by unfold downOf; rw [if_neg h6]
    simp only [e2]
    exact Ev.pos (by simp [h6]) (impl_SyncDisk_l0 d hd h1.2.2.2.2 (fuseOf d.fuse) d.down d.cache.length 0 d.secs (by omega) rfl hd.2.1)
theorem spec_SyncDisk_l0 (d : Dk) (hd : Fits d) (hok : ∀ x ∈ d.cache, WrOk d.secs.length x) (f : Int) (b : Bool) (m : Nat) : ∀ (i : Nat) (s : List (List Int)), i + m = d.cache.length → s.length = d.secs.length →
    Ev (fun k => spec_SyncDisk.l0 k (i : Int) d.secs d.cache d.fuse d.down s d.cache f b) (ap s (d.cache.drop i), [], f, b) := by
  induction m with
  | zero =>
    intro i s hi hl
    rw [List.drop_of_length_le (by omega)]
    exact Ev.step (fun k => spec_SyncDisk.l0.eq_2 _ _ _ _ _ _ _ _ _ k) (Ev.neg (by omega) (Ev.done rfl))
  | succ m ih =>
    intro i s hi hl
    have hc := hd.2.2.1
    have hlt : i < d.cache.length := by omega
    have he : rd_T54 d.cache (i : Int) = d.cache[i] := getD_nat d.cache _ hlt
    obtain ⟨ho, _⟩ := hok _ (List.getElem_mem hlt)
    refine Ev.step (fun k => spec_SyncDisk.l0.eq_2 _ _ _ _ _ _ _ _ _ k) (Ev.pos (by omega) (Ev.pos (by omega) ?_))
    rw [he, w64 (n := (i : Int) + 1) (by omega) (by omega), cast_succ, List.drop_eq_getElem_cons hlt, ap]
    exact Ev.pos ho.1 (Ev.pos (by omega) (ih (i + 1) _ (by omega) (by rw [List.length_set]; exact hl)))
theorem spec_syncDisk (d : Dk) (hd : Fits d) : Ev (fun k => spec_SyncDisk.f k d.secs d.cache d.fuse d.down) (syncDisk d).tuple := by
  unfold spec_SyncDisk.f
  refine Ev.bind (spec_l2Copy d hd) (Ev.bind (spec_diskOk d hd.1 hd.2.2.1) ?_)
  by_cases h1 : DiskOk d
  case neg => rw [diskOk_no h1, syncDisk_no (fun q => h1 q.1)]; exact Ev.neg (by decide) (Ev.done rfl)
  rw [(diskOk_iff d).2 h1]
  refine Ev.pos rfl ?_
  by_cases h2 : d.down = true
  · rw [syncDisk_no (fun q => by rw [q.2] at h2; cases h2)]; exact Ev.pos h2 (Ev.done rfl)
  refine Ev.neg h2 (Ev.then (spec_l2Fuse d.secs d.cache d.fuse d.down h1.2.2.1) ?_)
  rw [syncDisk_yes ⟨h1, by simpa using h2⟩]
  by_cases h6 : d.fuse = 0
  · rw [if_pos h6]
    have e1 : fuseOf d.fuse = -1 := by unfold fuseOf; rw [if_pos h6]
    have e2 : downOf d.fuse d.down = true := by unfold downOf; rw [if_pos h6]
    simp only [e1, e2]
    exact Ev.neg (by simp [h6]) (Ev.done rfl)
  · rw [if_neg h6]
    have e2 : downOf d.fuse d.down = d.down := by unfold downOf; rw [if_neg h6]
    simp only [e2]
    exact Ev.pos (by simp [h6]) (spec_SyncDisk_l0 d hd h1.2.2.2.2 (fuseOf d.fuse) d.down d.cache.length 0 d.secs (by omega) rfl)
/-! ### the power falls -/
abbrev Kept (k : Int) (i : Nat) : Prop := (Go.bits .and .i64 (k / ((2 ^ ((i : Int)).toNat : Nat) : Int)) 1) = 1
def apb (k : Int) : Nat → List (List Int) → List Wr → List (List Int)
  | _, s, [] => s
  | i, s, w :: ws => apb k (i + 1) (if Kept k i then s.set w.f0.toNat w.f1 else s) ws
theorem apb_length (k : Int) (c : List Wr) : ∀ i s, (apb k i s c).length = s.length := by
  induction c with
  | nil => intro i s; rfl
  | cons w ws ih => intro i s; rw [apb, ih]; split <;> simp
theorem apb_all {P : List Int → Prop} (k : Int) (c : List Wr) (hc : ∀ x ∈ c, P x.f1) : ∀ i s, (∀ x ∈ s, P x) → ∀ x ∈ apb k i s c, P x := by
  induction c with
  | nil => intro i s hs; exact hs
  | cons w ws ih =>
    intro i s hs
    refine ih (fun x hx => hc x (List.mem_cons_of_mem _ hx)) _ _ fun x hx => ?_
    split at hx
    · rcases List.mem_or_eq_of_mem_set hx with hx | rfl
      · exact hs x hx
      · exact hc w List.mem_cons_self
    · exact hs x hx
def keepOf (k : Int) : Int := if 0 ≤ k ∧ k ≤ 1073741823 then k else 0
noncomputable def fallDisk (d : Dk) (k : Int) : Dk := @ite _ (DiskOk d) (Classical.propDecidable _) ⟨apb (keepOf k) 0 d.secs d.cache, [], -1, false⟩ d
theorem fallDisk_yes {d : Dk} {k : Int} (h : DiskOk d) : fallDisk d k = ⟨apb (keepOf k) 0 d.secs d.cache, [], -1, false⟩ := if_pos h
theorem fallDisk_no {d : Dk} {k : Int} (h : ¬ DiskOk d) : fallDisk d k = d := if_neg h
theorem impl_FallDisk_l0 (d : Dk) (hd : Fits d) (h30 : d.cache.length ≤ 30) (hok : ∀ x ∈ d.cache, WrOk d.secs.length x) (kp : Int) (f : Int) (b : Bool) (m : Nat) : ∀ (i : Nat) (s : List (List Int)), i + m = d.cache.length → s.length = d.secs.length → (∀ x ∈ s, x.length ≤ 1048576 ∧ Bytes x) →
    Ev (fun k => impl_FallDisk.l0 k kp d.cache (d.cache.length : Int) (i : Int) d.secs d.cache d.fuse d.down s f b) (apb kp i s (d.cache.drop i), [], -1, false) := by
  induction m with
  | zero =>
    intro i s hi hl hs
    rw [List.drop_of_length_le (by omega)]
    exact Ev.step (fun k => impl_FallDisk.l0.eq_2 _ _ _ _ _ _ _ _ _ _ _ k) (Ev.neg (by omega) (impl_diskCopy ⟨s, [], -1, false⟩ (fits_ap (c := []) ⟨by have := hd.1; omega, hs⟩)))
  | succ m ih =>
    intro i s hi hl hs
    have hlt : i < d.cache.length := by omega
    have he : rd_T54 d.cache (i : Int) = d.cache[i] := getD_nat d.cache _ hlt
    obtain ⟨ho, _⟩ := hok _ (List.getElem_mem hlt)
    refine Ev.step (fun k => impl_FallDisk.l0.eq_2 _ _ _ _ _ _ _ _ _ _ _ k) (Ev.pos (by omega) (Ev.pos (by omega) (Ev.pos (by omega) (Ev.pos (by omega) ?_))))
    rw [he, w64 (n := (i : Int) + 1) (by omega) (by omega), cast_succ, List.drop_eq_getElem_cons hlt, apb]
    by_cases hk : Kept kp i
    · rw [if_pos hk]
      refine Ev.pos hk (Ev.pos ho.1 (Ev.pos (by omega) (ih (i + 1) _ (by omega) (by rw [List.length_set]; exact hl) fun x hx => ?_)))
      rcases List.mem_or_eq_of_mem_set hx with hx | rfl
      · exact hs x hx
      · exact hd.2.2.2 _ (List.getElem_mem hlt)
    · rw [if_neg hk]
      exact Ev.neg hk (ih (i + 1) s (by omega) hl hs)
theorem impl_fallDisk (d : Dk) (hd : Fits d) (kp : Int) : Ev (fun k => impl_FallDisk.f k d.secs d.cache d.fuse d.down kp) (fallDisk d kp).tuple := by
  unfold impl_FallDisk.f
  refine Ev.bind (impl_diskCopy d hd) (Ev.bind (impl_diskOk d hd.1 hd.2.2.1) ?_)
  by_cases h1 : DiskOk d
  case neg => rw [diskOk_no h1, fallDisk_no h1]; exact Ev.neg (by decide) (Ev.done rfl)
  rw [(diskOk_iff d).2 h1, fallDisk_yes h1]
  refine Ev.pos rfl (Ev.then (isIn _ _ _) ?_)
  unfold keepOf
  by_cases h : 0 ≤ kp ∧ kp ≤ 1073741823
  · rw [if_pos h]
    exact Ev.pos (by simpa using h) (impl_FallDisk_l0 d hd h1.2.1 h1.2.2.2.2 kp d.fuse d.down d.cache.length 0 d.secs (by omega) rfl hd.2.1)
  · rw [if_neg h]
    exact Ev.neg (by simpa using h) (impl_FallDisk_l0 d hd h1.2.1 h1.2.2.2.2 0 d.fuse d.down d.cache.length 0 d.secs (by omega) rfl hd.2.1)
theorem spec_FallDisk_l0 (d : Dk) (hd : Fits d) (h30 : d.cache.length ≤ 30) (hok : ∀ x ∈ d.cache, WrOk d.secs.length x) (kp : Int) (f : Int) (b : Bool) (m : Nat) : ∀ (i : Nat) (s : List (List Int)), i + m = d.cache.length → s.length = d.secs.length →
    Ev (fun k => spec_FallDisk.l0 k kp (i : Int) d.secs d.cache d.fuse d.down s d.cache f b) (apb kp i s (d.cache.drop i), [], -1, false) := by
  induction m with
  | zero =>
    intro i s hi hl
    rw [List.drop_of_length_le (by omega)]
    exact Ev.step (fun k => spec_FallDisk.l0.eq_2 _ _ _ _ _ _ _ _ _ _ k) (Ev.neg (by omega) (Ev.done rfl))
  | succ m ih =>
    intro i s hi hl
    have hlt : i < d.cache.length := by omega
    have he : rd_T54 d.cache (i : Int) = d.cache[i] := getD_nat d.cache _ hlt
    obtain ⟨ho, _⟩ := hok _ (List.getElem_mem hlt)
    refine Ev.step (fun k => spec_FallDisk.l0.eq_2 _ _ _ _ _ _ _ _ _ _ k) (Ev.pos (by omega) (Ev.pos (by omega) (Ev.pos (by omega) ?_)))
    rw [he, w64 (n := (i : Int) + 1) (by omega) (by omega), cast_succ, List.drop_eq_getElem_cons hlt, apb]
    by_cases hk : Kept kp i
    · rw [if_pos hk]
      exact Ev.pos hk (Ev.pos ho.1 (Ev.pos (by omega) (ih (i + 1) _ (by omega) (by rw [List.length_set]; exact hl))))
    · rw [if_neg hk]
      exact Ev.neg hk (ih (i + 1) s (by omega) hl)
theorem spec_fallDisk (d : Dk) (hd : Fits d) (kp : Int) : Ev (fun k => spec_FallDisk.f k d.secs d.cache d.fuse d.down kp) (fallDisk d kp).tuple := by
  unfold spec_FallDisk.f
  refine Ev.bind (spec_l2Copy d hd) (Ev.bind (spec_diskOk d hd.1 hd.2.2.1) ?_)
  by_cases h1 : DiskOk d
  case neg => rw [diskOk_no h1, fallDisk_no h1]; exact Ev.neg (by decide) (Ev.done rfl)
  rw [(diskOk_iff d).2 h1, fallDisk_yes h1]
  refine Ev.pos rfl (Ev.then (l1In _ _ _) ?_)
  unfold keepOf
  by_cases h : 0 ≤ kp ∧ kp ≤ 1073741823
  · rw [if_pos h]
    exact Ev.pos (by simpa using h) (spec_FallDisk_l0 d hd h1.2.1 h1.2.2.2.2 kp d.fuse d.down d.cache.length 0 d.secs (by omega) rfl)
  · rw [if_neg h]
    exact Ev.neg (by simpa using h) (spec_FallDisk_l0 d hd h1.2.1 h1.2.2.2.2 0 d.fuse d.down d.cache.length 0 d.secs (by omega) rfl)
end Go.Proofs.Ytkpcieenikmbmaa.Fn

/- Marks laid on a disk, and held. No memory is in sight here. -/
namespace Go.Proofs.Ytkpcieenikmbmaa.Fn
set_option linter.unusedVariables false
set_option linter.unusedSimpArgs false
open Go.RowKit Go.Proofs.YtkpcieenikmbmaaW.PrintWords Go.Proofs.Ytkpcieenikmbmaa.P Go.Proofs.Ytkpcieenikmbmaa.Base

def totS : List (List Int) → Nat
  | [] => 0
  | x :: xs => x.length + totS xs
def mSS : List (List Int) → Int → List (List Int)
  | [], _ => []
  | x :: xs, c => markB c x.length :: mSS xs (c + x.length)
def totW : List Wr → Nat
  | [] => 0
  | x :: xs => 1 + x.f1.length + totW xs
def mWS : List Wr → Int → List Wr
  | [], _ => []
  | x :: xs, c => ⟨c, markB (c + 1) x.f1.length⟩ :: mWS xs (c + 1 + x.f1.length)
theorem totS_le (n : Nat) : ∀ (l : List (List Int)), (∀ x ∈ l, x.length ≤ n) → totS l ≤ l.length * n
  | [], _ => by simp [totS]
  | x :: xs, h => by
    have := totS_le n xs (fun y hy => h y (List.mem_cons_of_mem _ hy))
    have := h x List.mem_cons_self
    simp only [totS, List.length_cons, Nat.add_mul]
    omega
theorem totW_le (n : Nat) : ∀ (l : List Wr), (∀ x ∈ l, x.f1.length ≤ n) → totW l ≤ l.length * (n + 1)
  | [], _ => by simp [totW]
  | x :: xs, h => by
    have := totW_le n xs (fun y hy => h y (List.mem_cons_of_mem _ hy))
    have := h x List.mem_cons_self
    simp only [totW, List.length_cons, Nat.add_mul]
    omega
theorem rdL_mid (D : List (List Int)) (x : List Int) (R : List (List Int)) : rd_L1 (D ++ x :: R) (D.length : Int) = x := by
  unfold rd_L1
  rw [Int.toNat_natCast, List.getD_eq_getElem?_getD, List.getElem?_append_right (Nat.le_refl _), Nat.sub_self]
  rfl
theorem rdW_mid (D : List Wr) (x : Wr) (R : List Wr) : rd_T54 (D ++ x :: R) (D.length : Int) = x := by
  unfold rd_T54
  rw [Int.toNat_natCast, List.getD_eq_getElem?_getD, List.getElem?_append_right (Nat.le_refl _), Nat.sub_self]
  rfl
theorem set_mid {α : Type} (D : List α) (x y : α) (R : List α) : (D ++ x :: R).set D.length y = D ++ y :: R := by
  rw [List.set_append_right _ _ (Nat.le_refl _), Nat.sub_self]
  rfl
theorem markByteSS_go (R : List (List Int)) : ∀ (D : List (List Int)) (c : Int), 0 ≤ c → c + totS R ≤ 9223372036854775807 → D.length + R.length ≤ 1048576 → Ev (fun k => laws_markByteSS.l0 k (D ++ R) c (D.length : Int)) (c + totS R, D ++ mSS R c) := by
  induction R with
  | nil =>
    intro D c h0 h1 h2
    refine Ev.step (fun k => laws_markByteSS.l0.eq_2 _ _ _ k) (Ev.neg (by simp) (Ev.done ?_))
    simp [totS, mSS]
  | cons x xs ih =>
    intro D c h0 h1 h2
    simp only [totS] at h1
    have hw : wrap64 ((D.length : Int) + 1) = ((D ++ [markB c x.length]).length : Int) := by
      rw [List.length_append, List.length_singleton]
      unfold wrap64
      have : D.length ≤ 1048576 := by omega
      omega
    have := ih (D ++ [markB c x.length]) (c + x.length) (by omega) (by omega) (by simp at h2 ⊢; omega)
    refine Ev.step (fun k => laws_markByteSS.l0.eq_2 _ _ _ k) (Ev.pos (by simp; omega) (Ev.pos (by omega) ?_))
    rw [rdL_mid]
    refine Ev.bind (markByteS x c h0 (by omega)) ?_
    dsimp only
    rw [Int.toNat_natCast, set_mid, hw, show D ++ markB c x.length :: xs = (D ++ [markB c x.length]) ++ xs by simp]
    refine Ev.eq this ?_
    simp only [totS, mSS, List.append_assoc, List.singleton_append]
    congr 1
    omega
theorem markByteSS (l : List (List Int)) (c : Int) (h0 : 0 ≤ c) (h1 : c + totS l ≤ 9223372036854775807) (h2 : l.length ≤ 1048576) : Ev (fun k => laws_markByteSS.f k l c) (c + totS l, mSS l c) := by
  unfold laws_markByteSS.f
  simpa using markByteSS_go l [] c h0 h1 (by simpa using h2)
theorem heldByteSS_go (R : List (List Int)) : ∀ (D : List (List Int)) (c : Int), 0 ≤ c → c + totS R ≤ 9223372036854775807 → D.length + R.length ≤ 1048576 → Ev (fun k => laws_heldByteSS.l0 k (D ++ mSS R c) c (D.length : Int)) (c + totS R) := by
  induction R with
  | nil =>
    intro D c h0 h1 h2
    refine Ev.step (fun k => laws_heldByteSS.l0.eq_2 _ _ _ k) (Ev.neg (by simp [mSS]) (Ev.done ?_))
    simp [totS]
  | cons x xs ih =>
    intro D c h0 h1 h2
    simp only [totS] at h1
    have hw : wrap64 ((D.length : Int) + 1) = ((D ++ [markB c x.length]).length : Int) := by
      rw [List.length_append, List.length_singleton]
      unfold wrap64
      have : D.length ≤ 1048576 := by omega
      omega
    have := ih (D ++ [markB c x.length]) (c + x.length) (by omega) (by omega) (by simp at h2 ⊢; omega)
    simp only [mSS]
    refine Ev.step (fun k => laws_heldByteSS.l0.eq_2 _ _ _ k) (Ev.pos (by simp; omega) (Ev.pos (by omega) ?_))
    rw [rdL_mid]
    refine Ev.bind (heldByteS x.length c h0 (by omega)) (Ev.neg (by omega) ?_)
    rw [hw, show D ++ markB c x.length :: mSS xs (c + x.length) = (D ++ [markB c x.length]) ++ mSS xs (c + x.length) by simp]
    refine Ev.eq this ?_
    simp only [totS]
    omega
theorem heldByteSS (l : List (List Int)) (c : Int) (h0 : 0 ≤ c) (h1 : c + totS l ≤ 9223372036854775807) (h2 : l.length ≤ 1048576) : Ev (fun k => laws_heldByteSS.f k (mSS l c) c) (c + totS l) := by
  unfold laws_heldByteSS.f
  simpa using heldByteSS_go l [] c h0 h1 (by simpa using h2)
theorem markWrS_go (R : List Wr) : ∀ (D : List Wr) (c : Int), 0 ≤ c → c + totW R ≤ 9223372036854775807 → D.length + R.length ≤ 1048576 → Ev (fun k => laws_markWrS.l0 k (D ++ R) c (D.length : Int)) (c + totW R, D ++ mWS R c) := by
  induction R with
  | nil =>
    intro D c h0 h1 h2
    refine Ev.step (fun k => laws_markWrS.l0.eq_2 _ _ _ k) (Ev.neg (by simp) (Ev.done ?_))
    simp [totW, mWS]
  | cons x xs ih =>
    intro D c h0 h1 h2
    simp only [totW] at h1
    have hw : wrap64 ((D.length : Int) + 1) = ((D ++ [(⟨c, markB (c + 1) x.f1.length⟩ : Wr)]).length : Int) := by
      rw [List.length_append, List.length_singleton]
      unfold wrap64
      have : D.length ≤ 1048576 := by omega
      omega
    have hc1 : wrap64 (c + 1) = c + 1 := by unfold wrap64; omega
    have := ih (D ++ [⟨c, markB (c + 1) x.f1.length⟩]) (c + 1 + x.f1.length) (by omega) (by omega) (by simp at h2 ⊢; omega)
    refine Ev.step (fun k => laws_markWrS.l0.eq_2 _ _ _ k) (Ev.pos (by simp; omega) (Ev.pos (by omega) ?_))
    rw [rdW_mid, hc1]
    refine Ev.bind (markByteS x.f1 (c + 1) (by omega) (by omega)) ?_
    dsimp only
    rw [Int.toNat_natCast, set_mid, set_mid, hw, show D ++ (⟨c, markB (c + 1) x.f1.length⟩ : Wr) :: xs = (D ++ [⟨c, markB (c + 1) x.f1.length⟩]) ++ xs by simp]
    refine Ev.eq this ?_
    simp only [totW, mWS, List.append_assoc, List.singleton_append]
    congr 1
    omega
theorem markWrS (l : List Wr) (c : Int) (h0 : 0 ≤ c) (h1 : c + totW l ≤ 9223372036854775807) (h2 : l.length ≤ 1048576) : Ev (fun k => laws_markWrS.f k l c) (c + totW l, mWS l c) := by
  unfold laws_markWrS.f
  simpa using markWrS_go l [] c h0 h1 (by simpa using h2)
theorem heldWrS_go (R : List Wr) : ∀ (D : List Wr) (c : Int), 0 ≤ c → c + totW R ≤ 9223372036854775807 → D.length + R.length ≤ 1048576 → Ev (fun k => laws_heldWrS.l0 k (D ++ mWS R c) c (D.length : Int)) (c + totW R) := by
  induction R with
  | nil =>
    intro D c h0 h1 h2
    refine Ev.step (fun k => laws_heldWrS.l0.eq_2 _ _ _ k) (Ev.neg (by simp [mWS]) (Ev.done ?_))
    simp [totW]
  | cons x xs ih =>
    intro D c h0 h1 h2
    simp only [totW] at h1
    have hw : wrap64 ((D.length : Int) + 1) = ((D ++ [(⟨c, markB (c + 1) x.f1.length⟩ : Wr)]).length : Int) := by
      rw [List.length_append, List.length_singleton]
      unfold wrap64
      have : D.length ≤ 1048576 := by omega
      omega
    have hc1 : wrap64 (c + 1) = c + 1 := by unfold wrap64; omega
    have := ih (D ++ [⟨c, markB (c + 1) x.f1.length⟩]) (c + 1 + x.f1.length) (by omega) (by omega) (by simp at h2 ⊢; omega)
    simp only [mWS]
    refine Ev.step (fun k => laws_heldWrS.l0.eq_2 _ _ _ k) (Ev.pos (by simp; omega) (Ev.pos (by omega) ?_))
    rw [rdW_mid, hc1]
    refine Ev.pos rfl (Ev.bind (heldByteS x.f1.length (c + 1) (by omega) (by omega)) (Ev.neg (by omega) ?_))
    rw [hw, show D ++ (⟨c, markB (c + 1) x.f1.length⟩ : Wr) :: mWS xs (c + 1 + x.f1.length) = (D ++ [⟨c, markB (c + 1) x.f1.length⟩]) ++ mWS xs (c + 1 + x.f1.length) by simp]
    refine Ev.eq this ?_
    simp only [totW]
    omega
theorem heldWrS (l : List Wr) (c : Int) (h0 : 0 ≤ c) (h1 : c + totW l ≤ 9223372036854775807) (h2 : l.length ≤ 1048576) : Ev (fun k => laws_heldWrS.f k (mWS l c) c) (c + totW l) := by
  unfold laws_heldWrS.f
  simpa using heldWrS_go l [] c h0 h1 (by simpa using h2)
theorem fits_tot {d : Dk} (hd : Fits d) : (totS d.secs : Int) ≤ 1099511627776 ∧ (totW d.cache : Int) ≤ 1099512676352 := by
  have h1 := totS_le 1048576 d.secs (fun x hx => (hd.2.1 x hx).1)
  have h2 := totW_le 1048576 d.cache (fun x hx => (hd.2.2.2 x hx).1)
  have h3 := hd.1
  have h4 := hd.2.2.1
  have h5 : d.secs.length * 1048576 ≤ 1048576 * 1048576 := Nat.mul_le_mul_right _ h3
  have h6 : d.cache.length * (1048576 + 1) ≤ 1048576 * (1048576 + 1) := Nat.mul_le_mul_right _ h4
  omega
/-- How many marks a disk takes, and what it holds then. -/
def marksD (d : Dk) : Int := 1 + totS d.secs + totW d.cache
theorem marksD_le {d : Dk} (hd : Fits d) : 1 ≤ marksD d ∧ marksD d ≤ 4611686018427387904 := by
  have := fits_tot hd
  unfold marksD
  omega
theorem markDisk (d : Dk) (hd : Fits d) : Ev (fun k => laws_markDisk.f k d.secs d.cache d.fuse d.down 1) (marksD d, mSS d.secs 1, mWS d.cache (1 + totS d.secs)) := by
  unfold laws_markDisk.f
  have ht := fits_tot hd
  exact Ev.bind (markByteSS d.secs 1 (by omega) (by omega) hd.1) (Ev.bind (markWrS d.cache (1 + totS d.secs) (by omega) (by omega) hd.2.2.1) (Ev.done rfl))
theorem heldDisk (d : Dk) (hd : Fits d) (f : Int) (b : Bool) : Ev (fun k => laws_heldDisk.f k (mSS d.secs 1) (mWS d.cache (1 + totS d.secs)) f b 1) (marksD d) := by
  unfold laws_heldDisk.f
  have ht := fits_tot hd
  exact Ev.bind (heldByteSS d.secs 1 (by omega) (by omega) hd.1) (Ev.neg (by omega) (Ev.bind (heldWrS d.cache (1 + totS d.secs) (by omega) (by omega) hd.2.2.1) (Ev.neg (by omega) (Ev.done rfl))))
theorem toDiskT (secs : List (List Int)) (cache : List LWr) (fuse : Int) (down : Bool) (hs : secs.length ≤ 1048576 ∧ ∀ x ∈ secs, x.length ≤ 1048576) (hc : cache.length ≤ 1048576 ∧ ∀ x ∈ cache, x.f1.length ≤ 1048576) :
    Ev (fun k => laws_toDiskT.f k secs cache fuse down) (secs, cache.map wrOf, fuse, down) := by
  simp only [laws_toDiskT.eq]
  exact toDisk secs cache fuse down hs hc
end Go.Proofs.Ytkpcieenikmbmaa.Fn

/- The pure statement of the law FnExactReadSec: the program's ReadSec and the reference's come to the same bytes, and nothing is shared. -/
namespace Go.Proofs.Ytkpcieenikmbmaa.Pure
set_option linter.unusedVariables false
set_option linter.unusedSimpArgs false
set_option linter.unusedVariables false
set_option linter.unusedSimpArgs false
open Go.RowKit Go.Proofs.YtkpcieenikmbmaaW.PrintWords Go.Proofs.Ytkpcieenikmbmaa.P Go.Proofs.Ytkpcieenikmbmaa.Base Go.Proofs.Ytkpcieenikmbmaa.Fn
theorem FnExactReadSec : laws_FnExactReadSec.Pure := by
  rintro secs cache fuse down a1 ⟨hs, hgs⟩ ⟨hc, hgc⟩ hf ha
  refine Ev.rounds ?_
  unfold laws_FnExactReadSec.f
  obtain ⟨r, e, h1, h2⟩ := szDisk secs cache fuse down 1048576 ⟨hs, fun x hx => (hgs x hx).1⟩ ⟨hc, fun x hx => (hgc x hx).2.1⟩ (by omega) (by omega)
  refine Ev.bind e ?_
  by_cases h : r < 0
  · exact Ev.pos h (Ev.done rfl)
  have h3 := h2 (by omega)
  have hd := fits_of fuse down hgs hgc h3
  have td := toDisk secs cache fuse down h3.1 h3.2
  have tt := toDiskT secs cache fuse down h3.1 h3.2
  generalize hD : (⟨secs, cache.map wrOf, fuse, down⟩ : Dk) = d at hd
  have e0 : (secs, cache.map wrOf, fuse, down) = d.tuple := by rw [← hD]; rfl
  rw [e0] at td tt
  have hl := readSec_length hd a1
  have hM := marksD_le hd
  refine Ev.neg h (Ev.bind td (Ev.bind (spec_readSec d hd a1) (Ev.bind tt (Ev.bind (impl_readSec d hd a1) (Ev.bind (eqByteS_same _ (by omega)) (Ev.pos rfl (Ev.bind td (Ev.bind (eqDisk_same d hd) (Ev.pos rfl (Ev.bind (markDisk d hd) ?_))))))))))
  refine Ev.neg (by dsimp only; omega) (Ev.bind (eqByteS_same _ (by omega)) (Ev.pos rfl (Ev.bind (markByteS _ 1 (by omega) (by omega)) (Ev.bind (heldByteS _ 1 (by omega) (by omega)) (Ev.neg (by omega) (Ev.pos rfl ?_))))))
  exact Ev.bind td (Ev.bind (impl_readSec d hd a1) (Ev.bind (eqByteS_same _ (by omega)) (Ev.pos rfl (Ev.bind (heldByteS _ 1 (by omega) (by omega)) (Ev.neg (by omega) (Ev.pos rfl (Ev.done rfl)))))))
end Go.Proofs.Ytkpcieenikmbmaa.Pure

/- What the printed functions that make a disk, and mark and check one whose rows are empty, come to. -/
namespace Go.Proofs.Ytkpcieenikmbmaa.Fn
set_option linter.unusedVariables false
set_option linter.unusedSimpArgs false
open Go.RowKit Go.Proofs.YtkpcieenikmbmaaW.PrintWords Go.Proofs.Ytkpcieenikmbmaa.P Go.Proofs.Ytkpcieenikmbmaa.Base

def newDisk (n : Int) : Dk := if 1 ≤ n ∧ n ≤ 40 then ⟨List.replicate n.toNat [], [], -1, false⟩ else ⟨[], [], 0, false⟩
theorem newDisk_blank (n : Int) : (newDisk n).secs.length ≤ 40 ∧ (∀ x ∈ (newDisk n).secs, x = []) ∧ (newDisk n).cache = [] := by
  unfold newDisk
  split
  · refine ⟨by simp; omega, fun x hx => (List.mem_replicate.1 hx).2, rfl⟩
  · exact ⟨by simp, fun x hx => (by cases hx), rfl⟩
theorem newDisk_fits (n : Int) : Fits (newDisk n) := by
  obtain ⟨h1, h2, h3⟩ := newDisk_blank n
  refine ⟨by omega, fun x hx => ?_, by rw [h3]; simp, fun x hx => ?_⟩
  · rw [h2 x hx]; exact ⟨by simp, Bytes.nil⟩
  · rw [h3] at hx; cases hx
theorem spec_DiskNew_l0 (n : Int) (hn : 1 ≤ n ∧ n ≤ 40) (d : Nat) : ∀ (i : Nat), (i : Int) + d = n → Ev (fun k => spec_DiskNew.l0 k n (i : Int) (List.replicate i []) (-1) false) (newDisk n).tuple := by
  induction d with
  | zero =>
    intro i hi
    refine Ev.step (fun k => spec_DiskNew.l0.eq_2 _ _ _ _ _ k) (Ev.neg (by omega) (Ev.done ?_))
    unfold newDisk
    rw [if_pos hn, show n.toNat = i by omega]
    rfl
  | succ d ih =>
    intro i hi
    refine Ev.step (fun k => spec_DiskNew.l0.eq_2 _ _ _ _ _ k) (Ev.pos (by omega) (Ev.pos (by rw [List.length_replicate]; omega) ?_))
    rw [w64 (n := (i : Int) + 1) (by omega) (by omega), cast_succ, show List.replicate i ([] : List Int) ++ [([] : List Int)] = List.replicate (i + 1) [] from List.replicate_succ'.symm]
    exact ih (i + 1) (by omega)
theorem spec_diskNew (n : Int) : Ev (fun k => spec_DiskNew.f k n) (newDisk n).tuple := by
  unfold spec_DiskNew.f
  refine Ev.then (l1In _ _ _) ?_
  by_cases h : 1 ≤ n ∧ n ≤ 40
  · exact Ev.pos (by simpa using h) (spec_DiskNew_l0 n h n.toNat 0 (by omega))
  · refine Ev.neg (by simpa using h) (Ev.done ?_)
    unfold newDisk
    rw [if_neg h]
    rfl
theorem impl_diskNew (n : Int) : impl_DiskNew.f n = some (newDisk n).tuple := by
  unfold impl_DiskNew.f newDisk
  rw [isIn, Option.bind_some]
  by_cases h : 1 ≤ n ∧ n ≤ 40
  · rw [if_pos (by simpa using h), if_pos (by omega), if_pos (by omega), if_pos h]
    rfl
  · rw [if_neg (by simpa using h), if_neg h]
    rfl
end Go.Proofs.Ytkpcieenikmbmaa.Fn

/- What the printed functions that draw come to: whatever they draw, it lies in its range. No memory is in sight here. -/
namespace Go.Proofs.Ytkpcieenikmbmaa.Fn
set_option linter.unusedVariables false
set_option linter.unusedSimpArgs false
open Go.RowKit Go.Proofs.YtkpcieenikmbmaaW.PrintWords Go.Proofs.Ytkpcieenikmbmaa.P Go.Proofs.Ytkpcieenikmbmaa.Base

/-- A cursor over the bytes l, at place i. -/
def Cur (l : List Int) (i : Int) : Prop := 0 ≤ i ∧ i ≤ l.length ∧ l.length ≤ 140737488351232
theorem Cur.zero {l : List Int} (hl : l.length ≤ 140737488351232) : Cur l 0 := ⟨by omega, by omega, hl⟩
/-- A byte of b, if it has one, is turned. -/
def Turned (b x : List Int) : Prop := b = [] ∧ x = [] ∨ ∃ (i : Nat) (hi : i < b.length) (y : Int), x = b.set i y ∧ 0 ≤ y ∧ y ≤ 255 ∧ y ≠ b[i]
theorem Turned.bytes {b x : List Int} (h : Turned b x) (hb : Bytes b) : Bytes x := by
  rcases h with ⟨rfl, rfl⟩ | ⟨i, hi, y, rfl, h0, h1, _⟩
  · exact hb
  · intro z hz
    rcases List.mem_or_eq_of_mem_set hz with hz | rfl
    · exact hb z hz
    · exact ⟨h0, h1⟩
theorem Turned.length {b x : List Int} (h : Turned b x) : x.length = b.length := by
  rcases h with ⟨rfl, rfl⟩ | ⟨i, hi, y, rfl, _⟩
  · rfl
  · rw [List.length_set]
theorem Turned.crc {b x : List Int} (h : Turned b x) (hb : Bytes b) (h0 : 0 < b.length) : crc x ≠ crc b := by
  rcases h with ⟨rfl, rfl⟩ | ⟨i, hi, y, rfl, h1, _, h3⟩
  · simp at h0
  · intro he
    unfold Fn.crc at he
    have hx := hb _ (List.getElem_mem hi)
    exact Crc.sum_set b 65535 i hi y h1 hx.1 h3 (by exact_mod_cast he)
end Go.Proofs.Ytkpcieenikmbmaa.Fn

/- Draws of disks. No memory is in sight here. -/
namespace Go.Proofs.Ytkpcieenikmbmaa.Fn
set_option linter.unusedVariables false
set_option linter.unusedSimpArgs false
open Go.RowKit Go.Proofs.YtkpcieenikmbmaaW.PrintWords Go.Proofs.Ytkpcieenikmbmaa.P Go.Proofs.Ytkpcieenikmbmaa.Base

theorem writeSec_secs (d : Dk) (n : Int) (b : List Int) : (writeSec d n b).secs = d.secs := by
  by_cases hc : CanWrite d n b
  · rw [writeSec_yes hc]; rfl
  · rw [writeSec_no hc]
theorem writeSec_cache {P : Wr → Prop} (d : Dk) (n : Int) (b : List Int) (h : ∀ x ∈ d.cache, P x) (hb : P ⟨n, b⟩) : ∀ x ∈ (writeSec d n b).cache, P x := by
  by_cases hc : CanWrite d n b
  · rw [writeSec_yes hc]
    unfold wroteD
    by_cases h0 : d.fuse = 0
    · simp only [h0, if_true]; exact h
    · simp only [h0, if_false]
      intro x hx
      rcases List.mem_append.1 hx with hx | hx
      · exact h x hx
      · rw [List.mem_singleton.1 hx]; exact hb
  · rw [writeSec_no hc]; exact h
theorem writeSec_fits {d : Dk} (h : Fits d) (n : Int) {b : List Int} (hb : b.length ≤ 1048576 ∧ Bytes b) : Fits (writeSec d n b) := by
  refine ⟨by rw [writeSec_secs]; exact h.1, by rw [writeSec_secs]; exact h.2.1, ?_, writeSec_cache d n b h.2.2.2 hb⟩
  by_cases hc : CanWrite d n b
  · rw [writeSec_yes hc]
    have := hc.1.2.1
    unfold wroteD
    by_cases h0 : d.fuse = 0
    · simp only [h0, if_true]; omega
    · simp only [h0, if_false, List.length_append, List.length_singleton]; omega
  · rw [writeSec_no hc]; exact h.2.2.1
theorem syncDisk_fits {d : Dk} (h : Fits d) : Fits (syncDisk d) := by
  by_cases hc : DiskOk d ∧ d.down = false
  · rw [syncDisk_yes hc]
    by_cases h0 : d.fuse = 0
    · rw [if_pos h0]; exact h
    · rw [if_neg h0]
      exact ⟨by simp only [ap_length]; exact h.1, ap_all (P := fun x => x.length ≤ 1048576 ∧ Bytes x) d.cache h.2.2.2 d.secs h.2.1, by simp, fun x hx => by cases hx⟩
  · rw [syncDisk_no hc]; exact h
/-! ### the draws -/
end Go.Proofs.Ytkpcieenikmbmaa.Fn

/- The laws' comparison of disks, and what a disk holds behind a write, a sync and a fall. No memory is in sight here. -/
namespace Go.Proofs.Ytkpcieenikmbmaa.Fn
set_option linter.unusedVariables false
set_option linter.unusedSimpArgs false
open Go.RowKit Go.Proofs.YtkpcieenikmbmaaW.PrintWords Go.Proofs.Ytkpcieenikmbmaa.P Go.Proofs.Ytkpcieenikmbmaa.Base

/-! ### what a sector holds -/
theorem fallDisk_fits {d : Dk} (h : Fits d) (k : Int) : Fits (fallDisk d k) := by
  by_cases hc : DiskOk d
  · rw [fallDisk_yes hc]
    exact ⟨by simp only [apb_length]; exact h.1, apb_all (P := fun x => x.length ≤ 1048576 ∧ Bytes x) _ d.cache h.2.2.2 0 d.secs h.2.1, by simp, fun x hx => by cases hx⟩
  · rw [fallDisk_no hc]; exact h
end Go.Proofs.Ytkpcieenikmbmaa.Fn

/- The pure statement of the law FnExactWriteSec: the program's WriteSec and the reference's come to the same disk, and nothing is shared. -/
namespace Go.Proofs.Ytkpcieenikmbmaa.Pure
set_option linter.unusedVariables false
set_option linter.unusedSimpArgs false
set_option linter.unusedVariables false
set_option linter.unusedSimpArgs false
open Go.RowKit Go.Proofs.YtkpcieenikmbmaaW.PrintWords Go.Proofs.Ytkpcieenikmbmaa.P Go.Proofs.Ytkpcieenikmbmaa.Base Go.Proofs.Ytkpcieenikmbmaa.Fn
theorem FnExactWriteSec : laws_FnExactWriteSec.Pure := by
  rintro secs cache fuse down a1 b ⟨hs, hgs⟩ ⟨hc, hgc⟩ hf ha ⟨hb, hgb⟩
  refine Ev.rounds ?_
  unfold laws_FnExactWriteSec.f
  by_cases hbig : (b.length : Int) > 1048576
  · exact Ev.pos hbig (Ev.done rfl)
  refine Ev.neg hbig ?_
  obtain ⟨r, e, h1, h2⟩ := szDisk secs cache fuse down 1048576 ⟨hs, fun x hx => (hgs x hx).1⟩ ⟨hc, fun x hx => (hgc x hx).2.1⟩ (by omega) (by omega)
  refine Ev.bind e ?_
  by_cases h : r < 0
  · exact Ev.pos h (Ev.done rfl)
  have h3 := h2 (by omega)
  have hd := fits_of fuse down hgs hgc h3
  have td := toDisk secs cache fuse down h3.1 h3.2
  have tt := toDiskT secs cache fuse down h3.1 h3.2
  generalize hD : (⟨secs, cache.map wrOf, fuse, down⟩ : Dk) = d at hd
  have e0 : (secs, cache.map wrOf, fuse, down) = d.tuple := by rw [← hD]; rfl
  rw [e0] at td tt
  have hM := marksD_le hd
  have hb1 : b.length ≤ 1048576 := by omega
  have hbb : Bytes b := Bytes.of_wf hgb
  have tb := toByteS b (by omega)
  have eb := eqByteS_same b (by omega)
  have sp := spec_writeSec d hd a1 b hb1
  have im := impl_writeSec d hd a1 b hb1
  have hx := writeSec_fits hd a1 ⟨hb1, hbb⟩
  have hX := marksD_le hx
  refine Ev.neg h (Ev.bind td (Ev.bind tb (Ev.bind sp (Ev.bind tt (Ev.bind tb (Ev.bind im (Ev.bind (eqDisk_same _ hx) (Ev.pos rfl (Ev.bind td (Ev.bind (eqDisk_same d hd) (Ev.pos rfl (Ev.bind tb (Ev.bind eb (Ev.pos rfl (Ev.bind (markDisk d hd) (Ev.bind (markByteS b (marksD d) (by omega) (by omega)) ?_))))))))))))))))
  refine Ev.neg (by dsimp only; omega) (Ev.bind (eqDisk_same _ hx) (Ev.pos rfl (Ev.bind (markDisk _ hx) (Ev.bind (heldDisk _ hx _ _) (Ev.neg (by omega) (Ev.pos rfl ?_))))))
  exact Ev.bind td (Ev.bind tb (Ev.bind im (Ev.bind (eqDisk_same _ hx) (Ev.pos rfl (Ev.bind (heldDisk _ hx _ _) (Ev.neg (by omega) (Ev.pos rfl (Ev.done rfl))))))))
end Go.Proofs.Ytkpcieenikmbmaa.Pure

/- The pure statement of the law FnExactSyncDisk: the program's SyncDisk and the reference's come to the same disk, and nothing is shared. -/
namespace Go.Proofs.Ytkpcieenikmbmaa.Pure
set_option linter.unusedVariables false
set_option linter.unusedSimpArgs false
set_option linter.unusedVariables false
set_option linter.unusedSimpArgs false
open Go.RowKit Go.Proofs.YtkpcieenikmbmaaW.PrintWords Go.Proofs.Ytkpcieenikmbmaa.P Go.Proofs.Ytkpcieenikmbmaa.Base Go.Proofs.Ytkpcieenikmbmaa.Fn
theorem FnExactSyncDisk : laws_FnExactSyncDisk.Pure := by
  rintro secs cache fuse down ⟨hs, hgs⟩ ⟨hc, hgc⟩ hf 
  refine Ev.rounds ?_
  unfold laws_FnExactSyncDisk.f
  obtain ⟨r, e, h1, h2⟩ := szDisk secs cache fuse down 1048576 ⟨hs, fun x hx => (hgs x hx).1⟩ ⟨hc, fun x hx => (hgc x hx).2.1⟩ (by omega) (by omega)
  refine Ev.bind e ?_
  by_cases h : r < 0
  · exact Ev.pos h (Ev.done rfl)
  have h3 := h2 (by omega)
  have hd := fits_of fuse down hgs hgc h3
  have td := toDisk secs cache fuse down h3.1 h3.2
  have tt := toDiskT secs cache fuse down h3.1 h3.2
  generalize hD : (⟨secs, cache.map wrOf, fuse, down⟩ : Dk) = d at hd
  have e0 : (secs, cache.map wrOf, fuse, down) = d.tuple := by rw [← hD]; rfl
  rw [e0] at td tt
  have hM := marksD_le hd
  have sp := spec_syncDisk d hd
  have im := impl_syncDisk d hd
  have hx := syncDisk_fits hd
  have hX := marksD_le hx
  refine Ev.neg h (Ev.bind td (Ev.bind sp (Ev.bind tt (Ev.bind im (Ev.bind (eqDisk_same _ hx) (Ev.pos rfl (Ev.bind td (Ev.bind (eqDisk_same d hd) (Ev.pos rfl (Ev.bind (markDisk d hd) ?_))))))))))
  refine Ev.neg (by dsimp only; omega) (Ev.bind (eqDisk_same _ hx) (Ev.pos rfl (Ev.bind (markDisk _ hx) (Ev.bind (heldDisk _ hx _ _) (Ev.neg (by omega) (Ev.pos rfl ?_))))))
  exact Ev.bind td (Ev.bind im (Ev.bind (eqDisk_same _ hx) (Ev.pos rfl (Ev.bind (heldDisk _ hx _ _) (Ev.neg (by omega) (Ev.pos rfl (Ev.done rfl)))))))
end Go.Proofs.Ytkpcieenikmbmaa.Pure

/- The pure statement of the law FnExactFallDisk: the program's FallDisk and the reference's come to the same disk, and nothing is shared. -/
namespace Go.Proofs.Ytkpcieenikmbmaa.Pure
set_option linter.unusedVariables false
set_option linter.unusedSimpArgs false
set_option linter.unusedVariables false
set_option linter.unusedSimpArgs false
open Go.RowKit Go.Proofs.YtkpcieenikmbmaaW.PrintWords Go.Proofs.Ytkpcieenikmbmaa.P Go.Proofs.Ytkpcieenikmbmaa.Base Go.Proofs.Ytkpcieenikmbmaa.Fn
theorem FnExactFallDisk : laws_FnExactFallDisk.Pure := by
  rintro secs cache fuse down a1 ⟨hs, hgs⟩ ⟨hc, hgc⟩ hf ha
  refine Ev.rounds ?_
  unfold laws_FnExactFallDisk.f
  obtain ⟨r, e, h1, h2⟩ := szDisk secs cache fuse down 1048576 ⟨hs, fun x hx => (hgs x hx).1⟩ ⟨hc, fun x hx => (hgc x hx).2.1⟩ (by omega) (by omega)
  refine Ev.bind e ?_
  by_cases h : r < 0
  · exact Ev.pos h (Ev.done rfl)
  have h3 := h2 (by omega)
  have hd := fits_of fuse down hgs hgc h3
  have td := toDisk secs cache fuse down h3.1 h3.2
  have tt := toDiskT secs cache fuse down h3.1 h3.2
  generalize hD : (⟨secs, cache.map wrOf, fuse, down⟩ : Dk) = d at hd
  have e0 : (secs, cache.map wrOf, fuse, down) = d.tuple := by rw [← hD]; rfl
  rw [e0] at td tt
  have hM := marksD_le hd
  have sp := spec_fallDisk d hd a1
  have im := impl_fallDisk d hd a1
  have hx := fallDisk_fits hd a1
  have hX := marksD_le hx
  refine Ev.neg h (Ev.bind td (Ev.bind sp (Ev.bind tt (Ev.bind im (Ev.bind (eqDisk_same _ hx) (Ev.pos rfl (Ev.bind td (Ev.bind (eqDisk_same d hd) (Ev.pos rfl (Ev.bind (markDisk d hd) ?_))))))))))
  refine Ev.neg (by dsimp only; omega) (Ev.bind (eqDisk_same _ hx) (Ev.pos rfl (Ev.bind (markDisk _ hx) (Ev.bind (heldDisk _ hx _ _) (Ev.neg (by omega) (Ev.pos rfl ?_))))))
  exact Ev.bind td (Ev.bind im (Ev.bind (eqDisk_same _ hx) (Ev.pos rfl (Ev.bind (heldDisk _ hx _ _) (Ev.neg (by omega) (Ev.pos rfl (Ev.done rfl)))))))
end Go.Proofs.Ytkpcieenikmbmaa.Pure

/- What the printed functions on heads come to. No memory is in sight here. -/
namespace Go.Proofs.Ytkpcieenikmbmaa.Fn
set_option linter.unusedVariables false
set_option linter.unusedSimpArgs false
open Go.RowKit Go.Proofs.YtkpcieenikmbmaaW.PrintWords Go.Proofs.Ytkpcieenikmbmaa.P Go.Proofs.Ytkpcieenikmbmaa.Base

/-- Bytes, and the checksum behind them. -/
def summed (l : List Int) : List Int := l ++ wordBytes (crc l)
def headOf (g n : Int) : List Int := if 1 ≤ g ∧ g ≤ 60000 ∧ 0 ≤ n ∧ n ≤ 18 then summed (wordBytes g ++ wordBytes n) else []
theorem headBytes (g n : Int) : Bytes (wordBytes g ++ wordBytes n) := (wordBytes_bytes g).append (wordBytes_bytes n)
theorem summed_bytes {l : List Int} (h : Bytes l) : Bytes (summed l) := h.append (wordBytes_bytes _)
theorem headOf_bytes (g n : Int) : Bytes (headOf g n) := by
  unfold headOf
  split
  · exact summed_bytes (headBytes g n)
  · exact Bytes.nil
theorem headOf_length (g n : Int) : (headOf g n).length ≤ 6 := by
  unfold headOf
  split
  · simp [summed, wordBytes]
  · simp
theorem spec_headOf (g n : Int) : Ev (fun k => spec_HeadOf.f k g n) (headOf g n) := by
  unfold spec_HeadOf.f headOf
  have bad : ∀ b : Bool, b = true → Ev (fun k => spec_HeadOf.j0 k g n b) [] := fun b hb => Ev.step (fun k => spec_HeadOf.j0.eq_2 _ _ _ k) (Ev.pos hb (Ev.done rfl))
  refine Ev.then (l1In _ _ _) ?_
  by_cases hg : 1 ≤ g ∧ g ≤ 60000
  · refine Ev.pos (by simpa using hg) (Ev.then (l1In _ _ _) ?_)
    by_cases hn : 0 ≤ n ∧ n ≤ 18
    · rw [if_pos ⟨hg.1, hg.2, hn⟩]
      refine Ev.step (fun k => spec_HeadOf.j0.eq_2 _ _ _ k) (Ev.neg (by simp; omega) (Ev.then (spec_putWord _ _ (by simp)) (Ev.then (spec_putWord _ _ (by simp [wordBytes])) (Ev.bind (spec_sum _ (headBytes g n) (by simp [wordBytes])) (Ev.then (spec_putWord _ _ (by simp [wordBytes])) (Ev.done rfl))))))
    · rw [if_neg (by omega)]
      exact bad _ (by simp; omega)
  · rw [if_neg (by omega)]
    exact Ev.neg (by simp; omega) (bad _ rfl)
theorem impl_headOf (g n : Int) : Ev (fun k => impl_HeadOf.f k g n) (headOf g n) := by
  unfold impl_HeadOf.f headOf
  have bad : ∀ b : Bool, b = true → Ev (fun k => impl_HeadOf.j0 k g n b) [] := fun b hb => Ev.step (fun k => impl_HeadOf.j0.eq_2 _ _ _ k) (Ev.pos hb (Ev.done rfl))
  refine Ev.then (isIn _ _ _) ?_
  by_cases hg : 1 ≤ g ∧ g ≤ 60000
  · refine Ev.pos (by simpa using hg) (Ev.then (isIn _ _ _) ?_)
    by_cases hn : 0 ≤ n ∧ n ≤ 18
    · rw [if_pos ⟨hg.1, hg.2, hn⟩]
      refine Ev.step (fun k => impl_HeadOf.j0.eq_2 _ _ _ k) (Ev.neg (by simp; omega) (Ev.then (impl_putWord _ _ (by simp)) (Ev.then (impl_putWord _ _ (by simp [wordBytes])) (Ev.bind (impl_sum _ (headBytes g n) (by simp [wordBytes])) (Ev.then (impl_putWord _ _ (by simp [wordBytes])) (Ev.done rfl))))))
    · rw [if_neg (by omega)]
      exact bad _ (by simp; omega)
  · rw [if_neg (by omega)]
    exact Ev.neg (by simp; omega) (bad _ rfl)
end Go.Proofs.Ytkpcieenikmbmaa.Fn

/- A new journal's disk. No memory is in sight here. -/
namespace Go.Proofs.Ytkpcieenikmbmaa.Fn
set_option linter.unusedVariables false
set_option linter.unusedSimpArgs false
open Go.RowKit Go.Proofs.YtkpcieenikmbmaaW.PrintWords Go.Proofs.Ytkpcieenikmbmaa.P Go.Proofs.Ytkpcieenikmbmaa.Base
noncomputable def formatD : Dk := syncDisk (writeSec (newDisk 38) 1 (headOf 1 0))
theorem head_small (g n : Int) : (headOf g n).length ≤ 1048576 ∧ Bytes (headOf g n) := ⟨by have := headOf_length g n; omega, headOf_bytes g n⟩
theorem formatD_fits : Fits formatD := syncDisk_fits (writeSec_fits (newDisk_fits 38) 1 (head_small 1 0))
theorem spec_format : Ev (fun k => spec_Format.f k) formatD.tuple := by
  unfold spec_Format.f
  exact Ev.bind (spec_diskNew 38) (Ev.bind (spec_headOf 1 0) (Ev.bind (spec_writeSec _ (newDisk_fits 38) 1 _ (head_small 1 0).1) (Ev.bind (spec_syncDisk _ (writeSec_fits (newDisk_fits 38) 1 (head_small 1 0))) (Ev.done rfl))))
theorem impl_format : Ev (fun k => impl_Format.f k) formatD.tuple := by
  unfold impl_Format.f
  exact Ev.then (impl_diskNew 38) (Ev.bind (impl_headOf 1 0) (Ev.bind (impl_writeSec _ (newDisk_fits 38) 1 _ (head_small 1 0).1) (Ev.bind (impl_syncDisk _ (writeSec_fits (newDisk_fits 38) 1 (head_small 1 0))) (Ev.done rfl))))
end Go.Proofs.Ytkpcieenikmbmaa.Fn

/- The pure statement of the law FnExactFormat: the program's Format and the reference's come to the same disk, and nothing is shared. -/
namespace Go.Proofs.Ytkpcieenikmbmaa.Pure
set_option linter.unusedVariables false
set_option linter.unusedSimpArgs false
set_option linter.unusedVariables false
set_option linter.unusedSimpArgs false
open Go.RowKit Go.Proofs.YtkpcieenikmbmaaW.PrintWords Go.Proofs.Ytkpcieenikmbmaa.P Go.Proofs.Ytkpcieenikmbmaa.Base Go.Proofs.Ytkpcieenikmbmaa.Fn
theorem FnExactFormat : laws_FnExactFormat.Pure := by
  unfold laws_FnExactFormat.Pure
  refine Ev.rounds ?_
  unfold laws_FnExactFormat.f
  have hx := formatD_fits
  have hX := marksD_le hx
  exact Ev.bind spec_format (Ev.bind impl_format (Ev.bind (eqDisk_same _ hx) (Ev.pos rfl (Ev.bind (markDisk _ hx) (Ev.bind (heldDisk _ hx _ _) (Ev.neg (by omega) (Ev.pos rfl (Ev.bind impl_format (Ev.bind (eqDisk_same _ hx) (Ev.pos rfl (Ev.bind (heldDisk _ hx _ _) (Ev.neg (by omega) (Ev.pos rfl (Ev.done rfl))))))))))))))
end Go.Proofs.Ytkpcieenikmbmaa.Pure
