/- Texts of this seat's claims, put together: EvY0, Base, Crc, Bytes, Disk, DiskOk, Word, ReadSec, DiskOps, DiskNew, Draw, DrawDisk, SameDisk, PureFnDisks, WSized, PureFnFalls -/
import Derived.WideShapes
import Derived.Laws.BitsLemmas
import Derived.Laws.StructEq
import Derived.SizedLaws
import Derived.ChangeSlices
import Derived.Test.YtkpcieenikmbmaaPkDB4
/- From what a law is handed, in the elder words, to what is told of its code. -/
namespace Go.Proofs.Ytkpcieenikmbmaa.E
open Go Go.RowKit Go.Proofs.YtkpcieenikmbmaaW.PrintWords
set_option linter.unusedVariables false
set_option linter.unusedSimpArgs false

def G0 (w : World) : Gh := ⟨w.heap.size, fun _ => True, fun _ => none, fun _ => none⟩
theorem G0_imm {w : World} (b : Nat) (hb : b < w.heap.size) : (G0 w).imm b := .inl ⟨hb, rfl, trivial⟩
theorem calls_of_spec {P : Program} {f : FuncId} {args : List PV} {r : Bool} (S : Spec P f args [] (.v (.b r)) []) {w : World} {vals : Array Value} (hgw : Go.Proofs.Ytkpcieenikmbmaa.P.GW w) (ha : RepsL (G0 w) w args vals.toList) :
    Calls P f vals w fun e w' => e = .returned (.bool r) ∧ Below w.heap.size w w' := by
  have hi : Inv (G0 w) w := ⟨Nat.le_refl _, fun b id e => (by cases e), ⟨w, hgw, Below.refl _ _, fun _ _ => rfl⟩⟩
  refine (S.2 (G0 w) w vals hi ha (fun id => ?_)).mono fun e w' hq => ?_
  · simp only [nthB, RelB]
    exact ⟨rfl, fun b e => by cases e⟩
  · obtain ⟨v, G', ids, rfl, X, hv, _⟩ := hq
    simp only [Reps, RepC] at hv
    subst hv
    exact ⟨rfl, X.os, X.tape, X.output, X.size, fun k hk => (X.nn k hk rfl).2⟩
theorem repC_of {α : Type} {d : Kd α} {f : α → List CV} {w : World} {I : Nat → Prop} (hI : ∀ b, b < w.heap.size → I b) (hs : ∀ x, (f x).length = d.sz) (h0 : 0 < d.sz) (hk : ∀ x cs, d.K w x cs → RepP I w (f x) cs) {A : Option Addr} {l : List α} {c : Nat}
    (h : d.C w A l.length l) (hc : l.length ≤ c) : RepC I w (.row (l.map f)) (.slice A l.length c) := by
  obtain ⟨_, hlen, hcell⟩ := h
  have hm : maxLen = 9223372036854775807 := by decide
  simp only [RepC, List.length_map]
  refine ⟨A, c, rfl, hc, by omega, ?_⟩
  by_cases hl : l = []
  · exact .inl (by rw [hl]; rfl)
  refine .inr ?_
  have hpos := List.length_pos_iff.2 hl
  obtain ⟨ad, rfl, hc'⟩ := hcell hpos
  have hfirst : ∃ cs ty fr, w.heap[ad.block]? = some (.cells cs ty fr) ∧ ad.spot = none := by
    obtain ⟨cs, q1, q2, q3⟩ := hc' 0 _ (List.getElem?_eq_getElem hpos)
    have h1 : 0 < cs.length := by omega
    have h2 := q3 0 _ (List.getElem?_eq_getElem h1)
    rw [Nat.zero_mul] at h2
    have h3 : ad.add (0 + 0) = ad := by simp [Addr.add]
    rw [h3] at h2
    unfold World.cell? at h2
    split at h2
    · rename_i cs ty fr hh
      refine ⟨cs, ty, fr, hh, ?_⟩
      split at h2
      · cases h2
      · rename_i hsp
        cases hq : ad.spot with
        | none => rfl
        | some _ => rw [hq] at hsp; exact absurd rfl hsp
    · cases h2
  obtain ⟨cs, ty, fr, hh, hsp⟩ := hfirst
  obtain ⟨b, o, sp⟩ := ad
  obtain rfl : sp = none := hsp
  have hh : w.heap[b]? = some (.cells cs ty fr) := hh
  refine ⟨b, o, d.sz, cs, ty, fr, rfl, hI b (Array.getElem?_eq_some_iff.1 hh).1, hh, h0, RepE.mk fun e el he => ?_⟩
  rw [List.getElem?_map] at he
  obtain ⟨p, hp, rfl⟩ := Option.map_eq_some_iff.1 he
  refine ⟨hs p, ?_⟩
  obtain ⟨c0, q1, q2, q3⟩ := hc' e p hp
  have e1 : ((cs.toList.drop o).drop (e * d.sz)).take d.sz = c0 := by
    apply List.ext_getElem?
    intro i
    rw [List.getElem?_take]
    split
    · rename_i hi
      have h2 := q3 i _ (List.getElem?_eq_getElem (by omega))
      rw [Addr.add_lit] at h2
      have h3 : cs[o + (e * d.sz + i)]? = some c0[i] := by simpa [World.cell?, hh] using h2
      rw [List.getElem?_eq_getElem (show i < c0.length by omega), ← h3, List.getElem?_drop, List.getElem?_drop]
      simp [Nat.add_assoc]
    · rw [List.getElem?_eq_none (by omega)]
  exact RepP.of_take d.sz (by rw [e1]; exact hk p c0 q2)
section
variable {w : World} {I : Nat → Prop}
theorem hk_int {k : IntKind} (x : Int) (cs : List Value) (h : (Kd.int k).K w x cs) : RepP I w [.i k x] cs := by
  obtain rfl : cs = [Value.int k x] := h
  simp only [RepP, RepC]
  exact ⟨_, _, rfl, rfl, trivial⟩
end
end Go.Proofs.Ytkpcieenikmbmaa.E

/- Plain words that all further texts of this seat use: rounds of printed functions ('Ev'), whole numbers without wrap, bytes. No program is in sight here. -/
namespace Go.Proofs.Ytkpcieenikmbmaa.Base
set_option linter.unusedVariables false
set_option linter.unusedSimpArgs false
open Go.RowKit Go.Proofs.YtkpcieenikmbmaaW.PrintWords

/-! ### rounds -/
section
variable {α β : Type} {c : Prop} [Decidable c] {f g : Nat → Option α} {r : α}
theorem Ev.pos (h : c) (k : Ev f r) : Ev (fun n => if c then f n else g n) r := by
  obtain ⟨K, hK⟩ := k
  exact ⟨K, fun n hn => (if_pos h).trans (hK n hn)⟩
theorem Ev.neg (h : ¬ c) (k : Ev g r) : Ev (fun n => if c then f n else g n) r := by
  obtain ⟨K, hK⟩ := k
  exact ⟨K, fun n hn => (if_neg h).trans (hK n hn)⟩
theorem Ev.const {x : Option α} (h : x = some r) : Ev (fun _ => x) r := ⟨0, fun _ _ => h⟩
theorem Ev.done {a : α} (h : a = r) : Ev (fun _ => some a) r := ⟨0, fun _ _ => by rw [h]⟩
theorem Ev.then {x : Option β} {a : β} {h : Nat → β → Option α} (e : x = some a) (k : Ev (fun n => h n a) r) : Ev (fun n => x.bind (h n)) r := by
  subst e
  exact k
theorem Ev.uniq {a b : α} (h : Ev f a) (k : Ev f b) : a = b := by
  obtain ⟨K, hK⟩ := h
  obtain ⟨J, hJ⟩ := k
  have e := (hK (max K J) (Nat.le_max_left _ _)).symm.trans (hJ (max K J) (Nat.le_max_right _ _))
  exact Option.some.inj e
theorem Ev.all {k : Nat} (h : Ev f r) : ∃ n, k ≤ n ∧ f n = some r := by
  obtain ⟨K, hK⟩ := h
  exact ⟨max K k, Nat.le_max_right _ _, hK _ (Nat.le_max_left _ _)⟩
end

/-! ### whole numbers -/
theorem w64 {n : Int} (h : -9223372036854775808 ≤ n) (h' : n ≤ 9223372036854775807) : wrap64 n = n := by unfold wrap64; omega
theorem wf_u8 {x : Int} (h : (Lit.int .u8 x).wf = true) : 0 ≤ x ∧ x ≤ 255 := by
  simpa [Lit.wf, IntKind.min, IntKind.max, IntKind.bits, IntKind.signed] using h

/-! ### bytes -/
def Bytes (l : List Int) : Prop := ∀ x ∈ l, 0 ≤ x ∧ x ≤ 255
theorem Bytes.of_wf {l : List Int} (h : ∀ x ∈ l, (Lit.int .u8 x).wf = true) : Bytes l := fun x hx => wf_u8 (h x hx)
theorem Bytes.nil : Bytes [] := fun _ h => by cases h
theorem Bytes.append {l m : List Int} (h : Bytes l) (k : Bytes m) : Bytes (l ++ m) := fun x hx => (List.mem_append.1 hx).elim (h x) (k x)
theorem Bytes.cons {a : Int} {l : List Int} (ha : 0 ≤ a ∧ a ≤ 255) (h : Bytes l) : Bytes (a :: l) := fun x hx => (List.mem_cons.1 hx).elim (fun e => e ▸ ha) (h x)
theorem Bytes.take {l : List Int} (h : Bytes l) (n : Nat) : Bytes (l.take n) := fun x hx => h x (List.mem_of_mem_take hx)
theorem Bytes.drop {l : List Int} (h : Bytes l) (n : Nat) : Bytes (l.drop n) := fun x hx => h x (List.mem_of_mem_drop hx)
theorem rd_byte {l : List Int} (h : Bytes l) (i : Int) : 0 ≤ rd l i ∧ rd l i ≤ 255 := by
  unfold rd
  rw [List.getD_eq_getElem?_getD]
  by_cases hi : i.toNat < l.length
  · rw [List.getElem?_eq_getElem hi]
    exact h _ (List.getElem_mem hi)
  · rw [List.getElem?_eq_none (by omega)]
    exact ⟨by decide, by decide⟩
theorem w64_byte {l : List Int} (h : Bytes l) (i : Int) : wrap64 (rd l i) = rd l i := by
  obtain ⟨a, b⟩ := rd_byte h i
  exact w64 (by omega) (by omega)

/-! ### equality, and lists by their elements -/
theorem cast_succ (i : Nat) : ((i : Int) + 1) = ((i + 1 : Nat) : Int) := rfl
theorem getD_nat {α : Type} (l : List α) (d : α) {i : Nat} (h : i < l.length) : l.getD ((i : Int)).toNat d = l[i] := by
  rw [Int.toNat_natCast, List.getD_eq_getElem?_getD, List.getElem?_eq_getElem h]; rfl
theorem rd_getElem {l : List Int} {i : Nat} (h : i < l.length) : rd l (i : Int) = l[i] := getD_nat l 0 h
theorem size_append (s t : ByteArray) : (s ++ t).size = s.size + t.size := by simp
end Go.Proofs.Ytkpcieenikmbmaa.Base

/- The checksum as a function on natural numbers, and that a changed byte changes it. Plain arithmetic: no program is in sight here. -/
namespace Go.Proofs.Ytkpcieenikmbmaa.Crc
set_option linter.unusedVariables false
set_option linter.unusedSimpArgs false

def bit (s : Nat) : Nat := if 2 * s > 65535 then (2 * s) ^^^ 69665 else 2 * s
def bits (s : Nat) : Nat → Nat
  | 0 => s
  | k + 1 => bits (bit s) k
@[irreducible] def byte (s x : Nat) : Nat := bits (s ^^^ (256 * x)) 8

end Go.Proofs.Ytkpcieenikmbmaa.Crc

/- What the printed functions on bytes, words and texts come to: the laws' own copies, marks and comparisons, and the functions of the first chapter. No memory is in sight here. -/
namespace Go.Proofs.Ytkpcieenikmbmaa.Fn
set_option linter.unusedVariables false
set_option linter.unusedSimpArgs false
open Go.RowKit Go.Proofs.YtkpcieenikmbmaaW.PrintWords Go.Proofs.Ytkpcieenikmbmaa.P Go.Proofs.Ytkpcieenikmbmaa.Base

/-! ### copies -/

/-! ### comparisons -/

/-! ### marks -/

/-! ### ranges and words -/
theorem isIn (a b c : Int) : impl_isIn.f a b c = some (decide (b ≤ a ∧ a ≤ c)) := by
  unfold impl_isIn.f
  by_cases h : b ≤ a
  · rw [if_pos h]; simp [h]
  · rw [if_neg h]; simp [h]
theorem l1In (a b c : Int) : spec_l1In.f a b c = some (decide (b ≤ a ∧ a ≤ c)) := by
  unfold spec_l1In.f
  by_cases h : a ≥ b
  · rw [if_pos h]; simp; omega
  · rw [if_neg h]; simp; omega
theorem wraps_i64 : ∀ n : Int, 0 ≤ n → n < 2 ^ 63 → IntKind.i64.wrap n = n := fun n h h' => by
  rw [IntKind.wrap_i64]; omega
end Go.Proofs.Ytkpcieenikmbmaa.Fn

/- What the printed functions that size, copy, compare and test disks come to. No memory is in sight here. -/
namespace Go.Proofs.Ytkpcieenikmbmaa.Fn
set_option linter.unusedVariables false
set_option linter.unusedSimpArgs false
open Go.RowKit Go.Proofs.YtkpcieenikmbmaaW.PrintWords Go.Proofs.Ytkpcieenikmbmaa.P Go.Proofs.Ytkpcieenikmbmaa.Base

abbrev Wr := S54
/-- A disk, as the printed functions hand it. -/
structure Dk where
  secs : List (List Int)
  cache : List Wr
  fuse : Int
  down : Bool
theorem wr_eq {x y : Wr} (h0 : x.f0 = y.f0) (h1 : x.f1 = y.f1) : x = y := by cases x; cases y; simp_all
/-! ### sizes -/
/-- What a disk is known to be where its size is not above the bound. -/
def Fits (d : Dk) : Prop := d.secs.length ≤ 1048576 ∧ (∀ x ∈ d.secs, x.length ≤ 1048576 ∧ Bytes x) ∧ d.cache.length ≤ 1048576 ∧ ∀ x ∈ d.cache, x.f1.length ≤ 1048576 ∧ Bytes x.f1
/-! ### copies -/
def Dk.tuple (d : Dk) : List (List Int) × List Wr × Int × Bool := (d.secs, d.cache, d.fuse, d.down)
/-! ### comparisons -/
end Go.Proofs.Ytkpcieenikmbmaa.Fn

/- What the printed functions that test disks come to. No memory is in sight here. -/
namespace Go.Proofs.Ytkpcieenikmbmaa.Fn
set_option linter.unusedVariables false
set_option linter.unusedSimpArgs false
open Go.RowKit Go.Proofs.YtkpcieenikmbmaaW.PrintWords Go.Proofs.Ytkpcieenikmbmaa.P Go.Proofs.Ytkpcieenikmbmaa.Base

def WrOk (n : Int) (x : Wr) : Prop := (0 ≤ x.f0 ∧ x.f0 ≤ n - 1) ∧ x.f1.length ≤ 160
def DiskOk (d : Dk) : Prop := (1 ≤ d.secs.length ∧ d.secs.length ≤ 40) ∧ d.cache.length ≤ 30 ∧ (-1 ≤ d.fuse ∧ d.fuse ≤ 1000) ∧ (∀ x ∈ d.secs, x.length ≤ 160) ∧ ∀ x ∈ d.cache, WrOk d.secs.length x
noncomputable def diskOk (d : Dk) : Bool := @decide (DiskOk d) (Classical.propDecidable _)
theorem diskOk_iff (d : Dk) : diskOk d = true ↔ DiskOk d := by unfold diskOk; simp
theorem diskOk_no {d : Dk} (h : ¬ DiskOk d) : diskOk d = false := by rw [← Bool.not_eq_true, diskOk_iff]; exact h
theorem Fits_of_ok {d : Dk} (h : DiskOk d) (hb : ∀ x ∈ d.secs, Bytes x) (hc : ∀ x ∈ d.cache, Bytes x.f1) : Fits d :=
  ⟨by have := h.1; omega, fun x hx => ⟨by have := h.2.2.2.1 x hx; omega, hb x hx⟩, by have := h.2.1; omega, fun x hx => ⟨by have := (h.2.2.2.2 x hx).2; omega, hc x hx⟩⟩
theorem drop_all {α : Type} {P : α → Prop} {l : List α} {i : Nat} (hi : i < l.length) (h : P l[i]) : (∀ x ∈ l.drop i, P x) ↔ ∀ x ∈ l.drop (i + 1), P x := by
  have e := List.drop_eq_getElem_cons hi
  constructor
  · intro H x hx
    exact H x (by rw [e]; exact List.mem_cons_of_mem _ hx)
  · intro H x hx
    rw [e] at hx
    rcases List.mem_cons.1 hx with rfl | hx
    · exact h
    · exact H x hx
theorem impl_DiskOk_l1 (d : Dk) (hs : d.secs.length ≤ 1048576) (hc : d.cache.length ≤ 1048576) (hpre : (1 ≤ d.secs.length ∧ d.secs.length ≤ 40) ∧ d.cache.length ≤ 30 ∧ (-1 ≤ d.fuse ∧ d.fuse ≤ 1000) ∧ (∀ x ∈ d.secs, x.length ≤ 160)) (n : Nat) :
    ∀ (i : Nat), i + n = d.cache.length → ((∀ x ∈ d.cache, WrOk d.secs.length x) ↔ ∀ x ∈ d.cache.drop i, WrOk d.secs.length x) → Ev (fun k => impl_DiskOk.l1 k d.cache (d.cache.length : Int) (i : Int) d.secs d.cache d.fuse d.down) (diskOk d) := by
  induction n with
  | zero =>
    intro i hi hiff
    refine Ev.step (fun k => impl_DiskOk.l1.eq_2 _ _ _ _ _ _ _ k) (Ev.neg (by omega) (Ev.done ?_))
    rw [List.drop_of_length_le (by omega)] at hiff
    exact ((diskOk_iff d).2 ⟨hpre.1, hpre.2.1, hpre.2.2.1, hpre.2.2.2, hiff.2 (fun x hx => by cases hx)⟩).symm
  | succ n ih =>
    intro i hi hiff
    have he : rd_T54 d.cache (i : Int) = d.cache[i] := getD_nat d.cache _ (by omega)
    have no : ¬ WrOk d.secs.length d.cache[i] → ¬ DiskOk d := fun h hd => h (hd.2.2.2.2 _ (List.getElem_mem _))
    refine Ev.step (fun k => impl_DiskOk.l1.eq_2 _ _ _ _ _ _ _ k) (Ev.pos (by omega) (Ev.pos (by omega) (Ev.pos (by omega) ?_)))
    rw [he, w64 (n := (d.secs.length : Int) - 1) (by omega) (by omega)]
    refine Ev.then (isIn _ _ _) ?_
    by_cases h1 : 0 ≤ d.cache[i].f0 ∧ d.cache[i].f0 ≤ (d.secs.length : Int) - 1
    · refine Ev.pos (by simpa using h1) ?_
      by_cases h2 : (d.cache[i].f1.length : Int) > 160
      · exact Ev.pos h2 (Ev.done (diskOk_no (no (fun h => by have := h.2; omega))).symm)
      · refine Ev.neg h2 ?_
        rw [w64 (n := (i : Int) + 1) (by omega) (by omega), cast_succ]
        exact ih (i + 1) (by omega) (hiff.trans (drop_all (by omega) ⟨h1, by omega⟩))
    · exact Ev.neg (by simpa using h1) (Ev.done (diskOk_no (no (fun h => h1 h.1))).symm)
theorem impl_DiskOk_l0 (d : Dk) (hs : d.secs.length ≤ 1048576) (hc : d.cache.length ≤ 1048576) (hpre : (1 ≤ d.secs.length ∧ d.secs.length ≤ 40) ∧ d.cache.length ≤ 30 ∧ (-1 ≤ d.fuse ∧ d.fuse ≤ 1000)) (n : Nat) :
    ∀ (i : Nat), i + n = d.secs.length → ((∀ x ∈ d.secs, x.length ≤ 160) ↔ ∀ x ∈ d.secs.drop i, x.length ≤ 160) → Ev (fun k => impl_DiskOk.l0 k d.secs (d.secs.length : Int) (i : Int) d.secs d.cache d.fuse d.down) (diskOk d) := by
  induction n with
  | zero =>
    intro i hi hiff
    rw [List.drop_of_length_le (by omega)] at hiff
    refine Ev.step (fun k => impl_DiskOk.l0.eq_2 _ _ _ _ _ _ _ k) (Ev.neg (by omega) ?_)
    exact impl_DiskOk_l1 d hs hc ⟨hpre.1, hpre.2.1, hpre.2.2, hiff.2 (fun x hx => by cases hx)⟩ d.cache.length 0 (by omega) (by simp)
  | succ n ih =>
    intro i hi hiff
    have he : rd_L1 d.secs (i : Int) = d.secs[i] := getD_nat d.secs _ (by omega)
    refine Ev.step (fun k => impl_DiskOk.l0.eq_2 _ _ _ _ _ _ _ k) (Ev.pos (by omega) (Ev.pos (by omega) (Ev.pos (by omega) ?_)))
    rw [he]
    by_cases h2 : (d.secs[i].length : Int) > 160
    · exact Ev.pos h2 (Ev.done (diskOk_no (fun h => by have := h.2.2.2.1 _ (List.getElem_mem (show i < d.secs.length by omega)); omega)).symm)
    · refine Ev.neg h2 ?_
      rw [w64 (n := (i : Int) + 1) (by omega) (by omega), cast_succ]
      exact ih (i + 1) (by omega) (hiff.trans (drop_all (by omega) (by omega)))
theorem impl_diskOk (d : Dk) (hs : d.secs.length ≤ 1048576) (hc : d.cache.length ≤ 1048576) : Ev (fun k => impl_DiskOk.f k d.secs d.cache d.fuse d.down) (diskOk d) := by
  unfold impl_DiskOk.f
  have bad : ¬ DiskOk d → ∀ b : Bool, b = true → Ev (fun k => impl_DiskOk.j0 k b d.secs d.cache d.fuse d.down) (diskOk d) := fun h b hb => Ev.step (fun k => impl_DiskOk.j0.eq_2 _ _ _ _ _ k) (Ev.pos hb (Ev.done (diskOk_no h).symm))
  refine Ev.then (isIn _ _ _) ?_
  by_cases h1 : 1 ≤ d.secs.length ∧ d.secs.length ≤ 40
  · refine Ev.pos (by simp; omega) ?_
    by_cases h2 : (d.cache.length : Int) > 30
    · exact Ev.pos h2 (bad (fun h => by have := h.2.1; omega) _ rfl)
    · refine Ev.neg h2 (Ev.then (isIn _ _ _) ?_)
      by_cases h3 : -1 ≤ d.fuse ∧ d.fuse ≤ 1000
      · refine Ev.step (fun k => impl_DiskOk.j0.eq_2 _ _ _ _ _ k) (Ev.neg (by simp; omega) ?_)
        exact impl_DiskOk_l0 d hs hc ⟨h1, by omega, h3⟩ d.secs.length 0 (by omega) (by simp)
      · exact bad (fun h => h3 h.2.2.1) _ (by simp; omega)
  · exact Ev.neg (by simp; omega) (bad (fun h => h1 h.1) _ rfl)
theorem spec_DiskOk_l1 (d : Dk) (hs : d.secs.length ≤ 1048576) (hc : d.cache.length ≤ 1048576) (hpre : ∀ x ∈ d.secs, x.length ≤ 160) (n : Nat) :
    ∀ (i : Nat), i + n = d.cache.length → ((∀ x ∈ d.cache, WrOk d.secs.length x) ↔ ∀ x ∈ d.cache.drop i, WrOk d.secs.length x) → Ev (fun k => spec_DiskOk.l1 k (i : Int) d.secs d.cache d.fuse d.down) (diskOk d) := by
  induction n with
  | zero =>
    intro i hi hiff
    rw [List.drop_of_length_le (by omega)] at hiff
    have hall := hiff.2 (fun x hx => by cases hx)
    refine Ev.step (fun k => spec_DiskOk.l1.eq_2 _ _ _ _ _ k) (Ev.neg (by omega) (Ev.then (l1In _ _ _) ?_))
    by_cases h1 : 1 ≤ d.secs.length ∧ d.secs.length ≤ 40
    · refine Ev.pos (by simp; omega) ?_
      by_cases h2 : (d.cache.length : Int) ≤ 30
      · refine Ev.pos h2 (Ev.then (l1In _ _ _) (Ev.done ?_))
        by_cases h3 : -1 ≤ d.fuse ∧ d.fuse ≤ 1000
        · rw [(diskOk_iff d).2 ⟨h1, by omega, h3, hpre, hall⟩]; simpa using h3
        · rw [diskOk_no (fun h => h3 h.2.2.1)]; simpa using h3
      · exact Ev.neg h2 (Ev.done (diskOk_no (fun h => by have := h.2.1; omega)).symm)
    · exact Ev.neg (by simp; omega) (Ev.done (diskOk_no (fun h => h1 h.1)).symm)
  | succ n ih =>
    intro i hi hiff
    have he : rd_T54 d.cache (i : Int) = d.cache[i] := getD_nat d.cache _ (by omega)
    have no : ¬ WrOk d.secs.length d.cache[i] → ¬ DiskOk d := fun h hd => h (hd.2.2.2.2 _ (List.getElem_mem _))
    refine Ev.step (fun k => spec_DiskOk.l1.eq_2 _ _ _ _ _ k) (Ev.pos (by omega) (Ev.pos (by omega) ?_))
    rw [he, w64 (n := (d.secs.length : Int) - 1) (by omega) (by omega)]
    refine Ev.then (l1In _ _ _) ?_
    by_cases h1 : 0 ≤ d.cache[i].f0 ∧ d.cache[i].f0 ≤ (d.secs.length : Int) - 1
    · refine Ev.pos (by simpa using h1) ?_
      by_cases h2 : (d.cache[i].f1.length : Int) > 160
      · exact Ev.pos h2 (Ev.done (diskOk_no (no (fun h => by have := h.2; omega))).symm)
      · refine Ev.neg h2 ?_
        rw [w64 (n := (i : Int) + 1) (by omega) (by omega), cast_succ]
        exact ih (i + 1) (by omega) (hiff.trans (drop_all (by omega) ⟨h1, by omega⟩))
    · exact Ev.neg (by simpa using h1) (Ev.done (diskOk_no (no (fun h => h1 h.1))).symm)
theorem spec_DiskOk_l0 (d : Dk) (hs : d.secs.length ≤ 1048576) (hc : d.cache.length ≤ 1048576) (n : Nat) :
    ∀ (i : Nat), i + n = d.secs.length → ((∀ x ∈ d.secs, x.length ≤ 160) ↔ ∀ x ∈ d.secs.drop i, x.length ≤ 160) → Ev (fun k => spec_DiskOk.l0 k (i : Int) d.secs d.cache d.fuse d.down) (diskOk d) := by
  induction n with
  | zero =>
    intro i hi hiff
    rw [List.drop_of_length_le (by omega)] at hiff
    refine Ev.step (fun k => spec_DiskOk.l0.eq_2 _ _ _ _ _ k) (Ev.neg (by omega) ?_)
    exact spec_DiskOk_l1 d hs hc (hiff.2 (fun x hx => by cases hx)) d.cache.length 0 (by omega) (by simp)
  | succ n ih =>
    intro i hi hiff
    have he : rd_L1 d.secs (i : Int) = d.secs[i] := getD_nat d.secs _ (by omega)
    refine Ev.step (fun k => spec_DiskOk.l0.eq_2 _ _ _ _ _ k) (Ev.pos (by omega) (Ev.pos (by omega) ?_))
    rw [he]
    by_cases h2 : (d.secs[i].length : Int) > 160
    · exact Ev.pos h2 (Ev.done (diskOk_no (fun h => by have := h.2.2.2.1 _ (List.getElem_mem (show i < d.secs.length by omega)); omega)).symm)
    · refine Ev.neg h2 ?_
      rw [w64 (n := (i : Int) + 1) (by omega) (by omega), cast_succ]
      exact ih (i + 1) (by omega) (hiff.trans (drop_all (by omega) (by omega)))
theorem spec_diskOk (d : Dk) (hs : d.secs.length ≤ 1048576) (hc : d.cache.length ≤ 1048576) : Ev (fun k => spec_DiskOk.f k d.secs d.cache d.fuse d.down) (diskOk d) := by
  unfold spec_DiskOk.f
  exact spec_DiskOk_l0 d hs hc d.secs.length 0 (by omega) (by simp)
end Go.Proofs.Ytkpcieenikmbmaa.Fn

/- What the printed functions that write words and texts come to. No memory is in sight here. -/
namespace Go.Proofs.Ytkpcieenikmbmaa.Fn
set_option linter.unusedVariables false
set_option linter.unusedSimpArgs false
open Go.RowKit Go.Proofs.YtkpcieenikmbmaaW.PrintWords Go.Proofs.Ytkpcieenikmbmaa.P Go.Proofs.Ytkpcieenikmbmaa.Base

theorem clone (l : List Int) (hl : l.length < 140737488355328) : slices_Clone_byte_byte.f l = some l := by
  unfold slices_Clone_byte_byte.f
  simp only [Option.bind_some, List.nil_append, List.length_nil, Nat.zero_add]
  rw [if_pos hl]
end Go.Proofs.Ytkpcieenikmbmaa.Fn

/- What the printed functions that read a sector come to. -/
namespace Go.Proofs.Ytkpcieenikmbmaa.Fn
set_option linter.unusedVariables false
set_option linter.unusedSimpArgs false
open Go.RowKit Go.Proofs.YtkpcieenikmbmaaW.PrintWords Go.Proofs.Ytkpcieenikmbmaa.P Go.Proofs.Ytkpcieenikmbmaa.Base

/-- The last of the writes to sector n, or what stood there. -/
def lookB (n : Int) : List Wr → List Int → List Int
  | [], b => b
  | x :: xs, b => lookB n xs (if x.f0 = n then x.f1 else b)
theorem lookB_snoc (n : Int) (xs : List Wr) (x : Wr) : ∀ b, lookB n (xs ++ [x]) b = if x.f0 = n then x.f1 else lookB n xs b := by
  induction xs with
  | nil => intro b; rfl
  | cons y ys ih => intro b; exact ih _
noncomputable def readSec (d : Dk) (n : Int) : List Int :=
  @ite _ (DiskOk d ∧ 0 ≤ n ∧ n ≤ (d.secs.length : Int) - 1) (Classical.propDecidable _) (lookB n d.cache (d.secs.getD n.toNat [])) []
theorem readSec_yes {d : Dk} {n : Int} (h : DiskOk d ∧ 0 ≤ n ∧ n ≤ (d.secs.length : Int) - 1) : readSec d n = lookB n d.cache (d.secs.getD n.toNat []) := if_pos h
theorem readSec_no {d : Dk} {n : Int} (h : ¬ (DiskOk d ∧ 0 ≤ n ∧ n ≤ (d.secs.length : Int) - 1)) : readSec d n = [] := if_neg h
theorem impl_ReadSec_l0 (d : Dk) (hd : Fits d) (n : Nat) (hn : n < d.secs.length) : ∀ (i : Nat), i ≤ d.cache.length → Ev (fun k => impl_ReadSec.l0 k (n : Int) ((i : Int) - 1) d.secs d.cache d.fuse d.down) (lookB (n : Int) (d.cache.take i) d.secs[n]) := by
  intro i
  have hsn := (hd.2.1 _ (List.getElem_mem hn)).1
  induction i with
  | zero =>
    intro _
    have he : rd_L1 d.secs (n : Int) = d.secs[n] := getD_nat d.secs _ hn
    refine Ev.step (fun k => impl_ReadSec.l0.eq_2 _ _ _ _ _ _ k) (Ev.neg (by omega) (Ev.pos (by omega) (Ev.pos (by omega) ?_)))
    rw [he]
    exact Ev.then (clone _ (by omega)) (Ev.done rfl)
  | succ i ih =>
    intro hi
    have hlt : i < d.cache.length := by omega
    have hcl := hd.2.2.1
    have he : rd_T54 d.cache (i : Int) = d.cache[i] := getD_nat d.cache _ hlt
    have hci := (hd.2.2.2 _ (List.getElem_mem hlt)).1
    rw [show (((i + 1 : Nat) : Int) - 1) = (i : Int) by omega, List.take_succ_eq_append_getElem hlt, lookB_snoc]
    refine Ev.step (fun k => impl_ReadSec.l0.eq_2 _ _ _ _ _ _ k) (Ev.pos (by omega) (Ev.pos (by omega) (Ev.pos (by omega) ?_)))
    rw [he]
    by_cases h : d.cache[i].f0 = (n : Int)
    · rw [if_pos h]
      exact Ev.pos h (Ev.then (clone _ (by omega)) (Ev.done rfl))
    · rw [if_neg h, w64 (n := (i : Int) - 1) (by omega) (by omega)]
      exact Ev.neg h (ih (by omega))
theorem impl_readSec (d : Dk) (hd : Fits d) (n : Int) : Ev (fun k => impl_ReadSec.f k d.secs d.cache d.fuse d.down n) (readSec d n) := by
  unfold impl_ReadSec.f
  have hsl := hd.1
  have hcl := hd.2.2.1
  have bad : ¬ (DiskOk d ∧ 0 ≤ n ∧ n ≤ (d.secs.length : Int) - 1) → ∀ b : Bool, b = true → Ev (fun k => impl_ReadSec.j0 k n b d.secs d.cache d.fuse d.down) (readSec d n) := fun hn b hb => Ev.step (fun k => impl_ReadSec.j0.eq_2 _ _ _ _ _ _ k) (Ev.pos hb (Ev.done (readSec_no hn).symm))
  refine Ev.bind (impl_diskOk d hd.1 hd.2.2.1) ?_
  by_cases h1 : DiskOk d
  case neg =>
    rw [diskOk_no h1]
    exact Ev.neg (by decide) (bad (fun h => h1 h.1) _ rfl)
  rw [(diskOk_iff d).2 h1, w64 (n := (d.secs.length : Int) - 1) (by omega) (by omega)]
  refine Ev.pos rfl (Ev.then (isIn _ _ _) ?_)
  by_cases h2 : 0 ≤ n ∧ n ≤ (d.secs.length : Int) - 1
  case neg => exact bad (fun h => h2 h.2) _ (by rw [decide_eq_false h2]; rfl)
  rw [readSec_yes ⟨h1, h2⟩]
  obtain ⟨i, rfl⟩ := Int.eq_ofNat_of_zero_le h2.1
  have hlt : i < d.secs.length := by omega
  refine Ev.step (fun k => impl_ReadSec.j0.eq_2 _ _ _ _ _ _ k) (Ev.neg (by rw [decide_eq_true h2]; decide) ?_)
  rw [getD_nat d.secs [] hlt, w64 (n := (d.cache.length : Int) - 1) (by omega) (by omega)]
  have := impl_ReadSec_l0 d hd i hlt d.cache.length (Nat.le_refl _)
  rwa [List.take_length] at this
end Go.Proofs.Ytkpcieenikmbmaa.Fn

/- What the functions that copy, write, sync and fell a disk come to. No memory is in sight here. -/
namespace Go.Proofs.Ytkpcieenikmbmaa.Fn
set_option linter.unusedVariables false
set_option linter.unusedSimpArgs false
open Go.RowKit Go.Proofs.YtkpcieenikmbmaaW.PrintWords Go.Proofs.Ytkpcieenikmbmaa.P Go.Proofs.Ytkpcieenikmbmaa.Base

theorem take_snoc {α : Type} {l : List α} {i : Nat} (h : i < l.length) : l.take i ++ [l[i]] = l.take (i + 1) := (List.take_succ_eq_append_getElem h).symm
/-! ### copies -/
theorem impl_diskCopy_l1 (d : Dk) (hd : Fits d) (s : List (List Int)) (m : Nat) : ∀ (i : Nat), i + m = d.cache.length → Ev (fun k => impl_diskCopy.l1 k s (d.cache.take i) d.cache (d.cache.length : Int) (i : Int) d.secs d.cache d.fuse d.down) (s, d.cache, d.fuse, d.down) := by
  induction m with
  | zero =>
    intro i hi
    rw [List.take_of_length_le (by omega)]
    exact Ev.step (fun k => impl_diskCopy.l1.eq_2 _ _ _ _ _ _ _ _ _ k) (Ev.neg (by omega) (Ev.done rfl))
  | succ m ih =>
    intro i hi
    have hc := hd.2.2.1
    have he : rd_T54 d.cache (i : Int) = d.cache[i] := getD_nat d.cache _ (by omega)
    have hx := (hd.2.2.2 _ (List.getElem_mem (show i < d.cache.length by omega))).1
    refine Ev.step (fun k => impl_diskCopy.l1.eq_2 _ _ _ _ _ _ _ _ _ k) (Ev.pos (by omega) (Ev.pos (by omega) (Ev.pos (by omega) ?_)))
    rw [he, w64 (n := (i : Int) + 1) (by omega) (by omega), cast_succ]
    refine Ev.then (clone _ (by omega)) (Ev.pos (by rw [List.length_take]; omega) ?_)
    rw [show (⟨d.cache[i].f0, d.cache[i].f1⟩ : Wr) = d.cache[i] from rfl, take_snoc]
    exact ih (i + 1) (by omega)
theorem impl_diskCopy_l0 (d : Dk) (hd : Fits d) (m : Nat) : ∀ (i : Nat), i + m = d.secs.length → Ev (fun k => impl_diskCopy.l0 k (d.secs.take i) ([] : List Wr) d.secs (d.secs.length : Int) (i : Int) d.secs d.cache d.fuse d.down) d.tuple := by
  induction m with
  | zero =>
    intro i hi
    rw [List.take_of_length_le (by omega)]
    exact Ev.step (fun k => impl_diskCopy.l0.eq_2 _ _ _ _ _ _ _ _ _ k) (Ev.neg (by omega) (impl_diskCopy_l1 d hd d.secs d.cache.length 0 (by omega)))
  | succ m ih =>
    intro i hi
    have hc := hd.1
    have he : rd_L1 d.secs (i : Int) = d.secs[i] := getD_nat d.secs _ (by omega)
    have hx := (hd.2.1 _ (List.getElem_mem (show i < d.secs.length by omega))).1
    refine Ev.step (fun k => impl_diskCopy.l0.eq_2 _ _ _ _ _ _ _ _ _ k) (Ev.pos (by omega) (Ev.pos (by omega) (Ev.pos (by omega) ?_)))
    rw [he, w64 (n := (i : Int) + 1) (by omega) (by omega), cast_succ]
    refine Ev.then (clone _ (by omega)) (Ev.pos (by rw [List.length_take]; omega) ?_)
    rw [take_snoc]
    exact ih (i + 1) (by omega)
theorem impl_diskCopy (d : Dk) (hd : Fits d) : Ev (fun k => impl_diskCopy.f k d.secs d.cache d.fuse d.down) d.tuple := by
  unfold impl_diskCopy.f
  have := impl_diskCopy_l0 d hd d.secs.length 0 (by omega)
  simpa using this
theorem spec_l2Copy_l1 (d : Dk) (hd : Fits d) (s : List (List Int)) (f : Int) (b : Bool) (m : Nat) : ∀ (i : Nat), i + m = d.cache.length → Ev (fun k => spec_l2Copy.l1 k (i : Int) d.secs d.cache d.fuse d.down s (d.cache.take i) f b) (s, d.cache, f, b) := by
  induction m with
  | zero =>
    intro i hi
    rw [List.take_of_length_le (by omega)]
    exact Ev.step (fun k => spec_l2Copy.l1.eq_2 _ _ _ _ _ _ _ _ _ k) (Ev.neg (by omega) (Ev.done rfl))
  | succ m ih =>
    intro i hi
    have hc := hd.2.2.1
    have he : rd_T54 d.cache (i : Int) = d.cache[i] := getD_nat d.cache _ (by omega)
    have hx := (hd.2.2.2 _ (List.getElem_mem (show i < d.cache.length by omega))).1
    refine Ev.step (fun k => spec_l2Copy.l1.eq_2 _ _ _ _ _ _ _ _ _ k) (Ev.pos (by omega) (Ev.pos (by omega) (Ev.then rfl ?_)))
    rw [he, w64 (n := (i : Int) + 1) (by omega) (by omega), cast_succ]
    refine Ev.pos (by simp; omega) (Ev.pos (by rw [List.length_take]; omega) ?_)
    rw [List.nil_append, show (⟨d.cache[i].f0, d.cache[i].f1⟩ : Wr) = d.cache[i] from rfl, take_snoc]
    exact ih (i + 1) (by omega)
theorem spec_l2Copy_l0 (d : Dk) (hd : Fits d) (f : Int) (b : Bool) (m : Nat) : ∀ (i : Nat), i + m = d.secs.length → Ev (fun k => spec_l2Copy.l0 k (i : Int) d.secs d.cache d.fuse d.down (d.secs.take i) f b) (d.secs, d.cache, f, b) := by
  induction m with
  | zero =>
    intro i hi
    rw [List.take_of_length_le (by omega)]
    exact Ev.step (fun k => spec_l2Copy.l0.eq_2 _ _ _ _ _ _ _ _ k) (Ev.neg (by omega) (spec_l2Copy_l1 d hd d.secs f b d.cache.length 0 (by omega)))
  | succ m ih =>
    intro i hi
    have hc := hd.1
    have he : rd_L1 d.secs (i : Int) = d.secs[i] := getD_nat d.secs _ (by omega)
    have hx := (hd.2.1 _ (List.getElem_mem (show i < d.secs.length by omega))).1
    refine Ev.step (fun k => spec_l2Copy.l0.eq_2 _ _ _ _ _ _ _ _ k) (Ev.pos (by omega) (Ev.then rfl (Ev.pos (by omega) ?_)))
    rw [he, w64 (n := (i : Int) + 1) (by omega) (by omega), cast_succ]
    refine Ev.pos (by simp; omega) (Ev.pos (by rw [List.length_take]; omega) ?_)
    rw [List.nil_append, take_snoc]
    exact ih (i + 1) (by omega)
theorem spec_l2Copy (d : Dk) (hd : Fits d) : Ev (fun k => spec_l2Copy.f k d.secs d.cache d.fuse d.down) d.tuple := by
  unfold spec_l2Copy.f
  have h0 : Ev (fun k => spec_l2Copy.l0 k 0 d.secs d.cache d.fuse d.down [] d.fuse d.down) (d.secs, d.cache, d.fuse, d.down) := by
    have := spec_l2Copy_l0 d hd d.fuse d.down d.secs.length 0 (by omega)
    simpa using this
  exact h0
/-! ### power -/
def fuseOf (f : Int) : Int := if f = 0 then -1 else if f > 0 then f - 1 else f
def downOf (f : Int) (b : Bool) : Bool := if f = 0 then true else b
theorem impl_powered (s : List (List Int)) (c : List Wr) (f : Int) (b : Bool) (hf : -1 ≤ f ∧ f ≤ 1000) : impl_powered.f s c f b = some (s, c, fuseOf f, downOf f b, decide (f ≠ 0)) := by
  unfold impl_powered.f fuseOf downOf
  by_cases h0 : f = 0
  · rw [if_pos h0, if_pos h0, if_pos h0]
    simp [h0]
  · rw [if_neg h0, if_neg h0, if_neg h0]
    by_cases h1 : f > 0
    · rw [if_pos h1, if_pos h1, w64 (by omega) (by omega)]
      simp [h0]
    · rw [if_neg h1, if_neg h1]
      simp [h0]
theorem spec_l2Fuse (s : List (List Int)) (c : List Wr) (f : Int) (b : Bool) (hf : -1 ≤ f ∧ f ≤ 1000) : spec_l2Fuse.f s c f b = some (decide (f ≠ 0), fuseOf f, downOf f b) := by
  unfold spec_l2Fuse.f fuseOf downOf
  by_cases h0 : f = 0
  · rw [if_pos h0, if_pos h0, if_pos h0]
    simp [h0]
  · rw [if_neg h0, if_neg h0, if_neg h0]
    by_cases h1 : f > 0
    · rw [if_pos h1, if_pos h1, w64 (by omega) (by omega)]
      simp [h0]
    · rw [if_neg h1, if_neg h1]
      simp [h0]
/-! ### a write -/
def CanWrite (d : Dk) (n : Int) (b : List Int) : Prop := DiskOk d ∧ d.down = false ∧ (0 ≤ n ∧ n ≤ (d.secs.length : Int) - 1) ∧ b.length ≤ 160 ∧ d.cache.length ≠ 30
def wroteD (d : Dk) (n : Int) (b : List Int) : Dk := ⟨d.secs, if d.fuse = 0 then d.cache else d.cache ++ [⟨n, b⟩], fuseOf d.fuse, downOf d.fuse d.down⟩
noncomputable def writeSec (d : Dk) (n : Int) (b : List Int) : Dk := @ite _ (CanWrite d n b) (Classical.propDecidable _) (wroteD d n b) d
theorem writeSec_yes {d : Dk} {n : Int} {b : List Int} (h : CanWrite d n b) : writeSec d n b = wroteD d n b := if_pos h
theorem writeSec_no {d : Dk} {n : Int} {b : List Int} (h : ¬ CanWrite d n b) : writeSec d n b = d := if_neg h
theorem impl_writeSec (d : Dk) (hd : Fits d) (n : Int) (b : List Int) (hb : b.length ≤ 1048576) : Ev (fun k => impl_WriteSec.f k d.secs d.cache d.fuse d.down n b) (writeSec d n b).tuple := by
  unfold impl_WriteSec.f
  have hs1 := hd.1
  refine Ev.bind (impl_diskCopy d hd) (Ev.bind (impl_diskOk d hd.1 hd.2.2.1) ?_)
  by_cases h1 : DiskOk d
  case neg => rw [diskOk_no h1, writeSec_no (fun q => h1 q.1)]; exact Ev.neg (by decide) (Ev.done rfl)
  rw [(diskOk_iff d).2 h1]
  refine Ev.pos rfl ?_
  by_cases h2 : d.down = true
  · rw [writeSec_no (fun q => by rw [q.2.1] at h2; cases h2)]; exact Ev.pos h2 (Ev.done rfl)
  refine Ev.neg h2 (Ev.then (isIn _ _ _) ?_)
  rw [w64 (n := (d.secs.length : Int) - 1) (by omega) (by omega)]
  by_cases h3 : 0 ≤ n ∧ n ≤ (d.secs.length : Int) - 1
  case neg => rw [writeSec_no (fun q => h3 q.2.2.1)]; exact Ev.neg (by simpa using h3) (Ev.done rfl)
  refine Ev.pos (by simpa using h3) ?_
  by_cases h4 : (b.length : Int) > 160
  · rw [writeSec_no (fun q => by have := q.2.2.2.1; omega)]; exact Ev.pos h4 (Ev.done rfl)
  refine Ev.neg h4 ?_
  by_cases h5 : (d.cache.length : Int) = 30
  · rw [writeSec_no (fun q => by have := q.2.2.2.2; omega)]; exact Ev.pos h5 (Ev.done rfl)
  refine Ev.neg h5 (Ev.then (impl_powered d.secs d.cache d.fuse d.down h1.2.2.1) ?_)
  rw [writeSec_yes ⟨h1, by simpa using h2, h3, by omega, by omega⟩]
  unfold wroteD Dk.tuple
  by_cases h6 : d.fuse = 0
  · exact Ev.neg (by simp [h6]) (Ev.done (by simp [h6]))
  · refine Ev.pos (by simp [h6]) (Ev.then (clone b (by omega)) (Ev.pos (by have := h1.2.1; simp only []; omega) (Ev.done (by simp [h6]))))
theorem spec_writeSec (d : Dk) (hd : Fits d) (n : Int) (b : List Int) (hb : b.length ≤ 1048576) : Ev (fun k => spec_WriteSec.f k d.secs d.cache d.fuse d.down n b) (writeSec d n b).tuple := by
  unfold spec_WriteSec.f
  have hs1 := hd.1
  refine Ev.bind (spec_l2Copy d hd) (Ev.bind (spec_diskOk d hd.1 hd.2.2.1) ?_)
  by_cases h1 : DiskOk d
  case neg => rw [diskOk_no h1, writeSec_no (fun q => h1 q.1)]; exact Ev.neg (by decide) (Ev.done rfl)
  rw [(diskOk_iff d).2 h1]
  refine Ev.pos rfl ?_
  by_cases h2 : d.down = true
  · rw [writeSec_no (fun q => by rw [q.2.1] at h2; cases h2)]; exact Ev.pos h2 (Ev.done rfl)
  refine Ev.neg h2 (Ev.then (l1In _ _ _) ?_)
  rw [w64 (n := (d.secs.length : Int) - 1) (by omega) (by omega)]
  by_cases h3 : 0 ≤ n ∧ n ≤ (d.secs.length : Int) - 1
  case neg => rw [writeSec_no (fun q => h3 q.2.2.1)]; exact Ev.neg (by simpa using h3) (Ev.done rfl)
  refine Ev.pos (by simpa using h3) ?_
  by_cases h4 : (b.length : Int) > 160
  · rw [writeSec_no (fun q => by have := q.2.2.2.1; omega)]; exact Ev.pos h4 (Ev.done rfl)
  refine Ev.neg h4 ?_
  by_cases h5 : (d.cache.length : Int) = 30
  · rw [writeSec_no (fun q => by have := q.2.2.2.2; omega)]; exact Ev.pos h5 (Ev.done rfl)
  refine Ev.neg h5 (Ev.then (spec_l2Fuse d.secs d.cache d.fuse d.down h1.2.2.1) ?_)
  rw [writeSec_yes ⟨h1, by simpa using h2, h3, by omega, by omega⟩]
  unfold wroteD Dk.tuple
  by_cases h6 : d.fuse = 0
  · exact Ev.neg (by simp [h6]) (Ev.done (by simp [h6]))
  · refine Ev.pos (by simp [h6]) (Ev.then rfl (Ev.pos (by simp; omega) (Ev.pos (by have := h1.2.1; simp only []; omega) (Ev.done (by simp [h6])))))
/-! ### what is cached comes to the sectors -/
def ap (s : List (List Int)) : List Wr → List (List Int)
  | [] => s
  | w :: ws => ap (s.set w.f0.toNat w.f1) ws
theorem ap_length (c : List Wr) : ∀ s, (ap s c).length = s.length := by
  induction c with
  | nil => intro s; rfl
  | cons w ws ih => intro s; rw [ap, ih, List.length_set]
theorem ap_all {P : List Int → Prop} (c : List Wr) (hc : ∀ x ∈ c, P x.f1) : ∀ s, (∀ x ∈ s, P x) → ∀ x ∈ ap s c, P x := by
  induction c with
  | nil => intro s hs; exact hs
  | cons w ws ih =>
    intro s hs
    refine ih (fun x hx => hc x (List.mem_cons_of_mem _ hx)) _ fun x hx => ?_
    rcases List.mem_or_eq_of_mem_set hx with hx | rfl
    · exact hs x hx
    · exact hc w List.mem_cons_self
noncomputable def syncDisk (d : Dk) : Dk := @ite _ (DiskOk d ∧ d.down = false) (Classical.propDecidable _) (if d.fuse = 0 then ⟨d.secs, d.cache, -1, true⟩ else ⟨ap d.secs d.cache, [], fuseOf d.fuse, d.down⟩) d
theorem syncDisk_yes {d : Dk} (h : DiskOk d ∧ d.down = false) : syncDisk d = if d.fuse = 0 then ⟨d.secs, d.cache, -1, true⟩ else ⟨ap d.secs d.cache, [], fuseOf d.fuse, d.down⟩ := if_pos h
theorem syncDisk_no {d : Dk} (h : ¬ (DiskOk d ∧ d.down = false)) : syncDisk d = d := if_neg h
theorem fits_ap {s : List (List Int)} {c : List Wr} {f : Int} {b : Bool} (hs : s.length ≤ 1048576 ∧ ∀ x ∈ s, x.length ≤ 1048576 ∧ Bytes x) : Fits ⟨s, [], f, b⟩ := ⟨hs.1, hs.2, by simp, fun x hx => by cases hx⟩
theorem impl_SyncDisk_l0 (d : Dk) (hd : Fits d) (hok : ∀ x ∈ d.cache, WrOk d.secs.length x) (f : Int) (b : Bool) (m : Nat) : ∀ (i : Nat) (s : List (List Int)), i + m = d.cache.length → s.length = d.secs.length → (∀ x ∈ s, x.length ≤ 1048576 ∧ Bytes x) →
    Ev (fun k => impl_SyncDisk.l0 k d.cache (d.cache.length : Int) (i : Int) d.secs d.cache d.fuse d.down s f b) (ap s (d.cache.drop i), [], f, b) := by
  induction m with
  | zero =>
    intro i s hi hl hs
    rw [List.drop_of_length_le (by omega)]
    exact Ev.step (fun k => impl_SyncDisk.l0.eq_2 _ _ _ _ _ _ _ _ _ _ k) (Ev.neg (by omega) (impl_diskCopy ⟨s, [], f, b⟩ (fits_ap (c := []) ⟨by have := hd.1; omega, hs⟩)))
  | succ m ih =>
    intro i s hi hl hs
    have hc := hd.2.2.1
    have hlt : i < d.cache.length := by omega
    have he : rd_T54 d.cache (i : Int) = d.cache[i] := getD_nat d.cache _ hlt
    obtain ⟨ho, _⟩ := hok _ (List.getElem_mem hlt)
    refine Ev.step (fun k => impl_SyncDisk.l0.eq_2 _ _ _ _ _ _ _ _ _ _ k) (Ev.pos (by omega) (Ev.pos (by omega) (Ev.pos (by omega) ?_)))
    rw [he, w64 (n := (i : Int) + 1) (by omega) (by omega), cast_succ, List.drop_eq_getElem_cons hlt, ap]
    refine Ev.pos ho.1 (Ev.pos (by omega) (ih (i + 1) _ (by omega) (by rw [List.length_set]; exact hl) fun x hx => ?_))
    rcases List.mem_or_eq_of_mem_set hx with hx | rfl
    · exact hs x hx
    · exact hd.2.2.2 _ (List.getElem_mem hlt)
theorem impl_syncDisk (d : Dk) (hd : Fits d) : Ev (fun k => impl_SyncDisk.f k d.secs d.cache d.fuse d.down) (syncDisk d).tuple := by
  unfold impl_SyncDisk.f
  refine Ev.bind (impl_diskCopy d hd) (Ev.bind (impl_diskOk d hd.1 hd.2.2.1) ?_)
  by_cases h1 : DiskOk d
  case neg => rw [diskOk_no h1, syncDisk_no (fun q => h1 q.1)]; exact Ev.neg (by decide) (Ev.done rfl)
  rw [(diskOk_iff d).2 h1]
  refine Ev.pos rfl ?_
  by_cases h2 : d.down = true
  · rw [syncDisk_no (fun q => by rw [q.2] at h2; cases h2)]; exact Ev.pos h2 (Ev.done rfl)
  refine Ev.neg h2 (Ev.then (impl_powered d.secs d.cache d.fuse d.down h1.2.2.1) ?_)
  rw [syncDisk_yes ⟨h1, by simpa using h2⟩]
  by_cases h6 : d.fuse = 0
  · rw [if_pos h6]
    refine Ev.neg (by simp [h6]) ?_
    have e1 : fuseOf d.fuse = -1 := by unfold fuseOf; rw [if_pos h6]
    have e2 : downOf d.fuse d.down = true := by unfold downOf; rw [if_pos h6]
    simp only [e1, e2]
    exact impl_diskCopy ⟨d.secs, d.cache, -1, true⟩ hd
  · rw [if_neg h6]
    have e2 : downOf d.fuse d.down = d.down := by unfold downOf; rw [if_neg h6]
    simp only [e2]
    exact Ev.pos (by simp [h6]) (impl_SyncDisk_l0 d hd h1.2.2.2.2 (fuseOf d.fuse) d.down d.cache.length 0 d.secs (by omega) rfl hd.2.1)
theorem spec_SyncDisk_l0 (d : Dk) (hd : Fits d) (hok : ∀ x ∈ d.cache, WrOk d.secs.length x) (f : Int) (b : Bool) (m : Nat) : ∀ (i : Nat) (s : List (List Int)), i + m = d.cache.length → s.length = d.secs.length →
    Ev (fun k => spec_SyncDisk.l0 k (i : Int) d.secs d.cache d.fuse d.down s d.cache f b) (ap s (d.cache.drop i), [], f, b) := by
  induction m with
  | zero =>
    intro i s hi hl
    rw [List.drop_of_length_le (by omega)]
    exact Ev.step (fun k => spec_SyncDisk.l0.eq_2 _ _ _ _ _ _ _ _ _ k) (Ev.neg (by omega) (Ev.done rfl))
  | succ m ih =>
    intro i s hi hl
    have hc := hd.2.2.1
    have hlt : i < d.cache.length := by omega
    have he : rd_T54 d.cache (i : Int) = d.cache[i] := getD_nat d.cache _ hlt
    obtain ⟨ho, _⟩ := hok _ (List.getElem_mem hlt)
    refine Ev.step (fun k => spec_SyncDisk.l0.eq_2 _ _ _ _ _ _ _ _ _ k) (Ev.pos (by omega) (Ev.pos (by omega) ?_))
    rw [he, w64 (n := (i : Int) + 1) (by omega) (by omega), cast_succ, List.drop_eq_getElem_cons hlt, ap]
    exact Ev.pos ho.1 (Ev.pos (by omega) (ih (i + 1) _ (by omega) (by rw [List.length_set]; exact hl)))
theorem spec_syncDisk (d : Dk) (hd : Fits d) : Ev (fun k => spec_SyncDisk.f k d.secs d.cache d.fuse d.down) (syncDisk d).tuple := by
  unfold spec_SyncDisk.f
  refine Ev.bind (spec_l2Copy d hd) (Ev.bind (spec_diskOk d hd.1 hd.2.2.1) ?_)
  by_cases h1 : DiskOk d
  case neg => rw [diskOk_no h1, syncDisk_no (fun q => h1 q.1)]; exact Ev.neg (by decide) (Ev.done rfl)
  rw [(diskOk_iff d).2 h1]
  refine Ev.pos rfl ?_
  by_cases h2 : d.down = true
  · rw [syncDisk_no (fun q => by rw [q.2] at h2; cases h2)]; exact Ev.pos h2 (Ev.done rfl)
  refine Ev.neg h2 (Ev.then (spec_l2Fuse d.secs d.cache d.fuse d.down h1.2.2.1) ?_)
  rw [syncDisk_yes ⟨h1, by simpa using h2⟩]
  by_cases h6 : d.fuse = 0
  · rw [if_pos h6]
    have e1 : fuseOf d.fuse = -1 := by unfold fuseOf; rw [if_pos h6]
    have e2 : downOf d.fuse d.down = true := by unfold downOf; rw [if_pos h6]
    simp only [e1, e2]
    exact Ev.neg (by simp [h6]) (Ev.done rfl)
  · rw [if_neg h6]
    have e2 : downOf d.fuse d.down = d.down := by unfold downOf; rw [if_neg h6]
    simp only [e2]
    exact Ev.pos (by simp [h6]) (spec_SyncDisk_l0 d hd h1.2.2.2.2 (fuseOf d.fuse) d.down d.cache.length 0 d.secs (by omega) rfl)
/-! ### the power falls -/
abbrev Kept (k : Int) (i : Nat) : Prop := (Go.bits .and .i64 (k / ((2 ^ ((i : Int)).toNat : Nat) : Int)) 1) = 1
def apb (k : Int) : Nat → List (List Int) → List Wr → List (List Int)
  | _, s, [] => s
  | i, s, w :: ws => apb k (i + 1) (if Kept k i then s.set w.f0.toNat w.f1 else s) ws
theorem apb_length (k : Int) (c : List Wr) : ∀ i s, (apb k i s c).length = s.length := by
  induction c with
  | nil => intro i s; rfl
  | cons w ws ih => intro i s; rw [apb, ih]; split <;> simp
theorem apb_all {P : List Int → Prop} (k : Int) (c : List Wr) (hc : ∀ x ∈ c, P x.f1) : ∀ i s, (∀ x ∈ s, P x) → ∀ x ∈ apb k i s c, P x := by
  induction c with
  | nil => intro i s hs; exact hs
  | cons w ws ih =>
    intro i s hs
    refine ih (fun x hx => hc x (List.mem_cons_of_mem _ hx)) _ _ fun x hx => ?_
    split at hx
    · rcases List.mem_or_eq_of_mem_set hx with hx | rfl
      · exact hs x hx
      · exact hc w List.mem_cons_self
    · exact hs x hx
def keepOf (k : Int) : Int := if 0 ≤ k ∧ k ≤ 1073741823 then k else 0
noncomputable def fallDisk (d : Dk) (k : Int) : Dk := @ite _ (DiskOk d) (Classical.propDecidable _) ⟨apb (keepOf k) 0 d.secs d.cache, [], -1, false⟩ d
theorem fallDisk_yes {d : Dk} {k : Int} (h : DiskOk d) : fallDisk d k = ⟨apb (keepOf k) 0 d.secs d.cache, [], -1, false⟩ := if_pos h
theorem fallDisk_no {d : Dk} {k : Int} (h : ¬ DiskOk d) : fallDisk d k = d := if_neg h
theorem impl_FallDisk_l0 (d : Dk) (hd : Fits d) (h30 : d.cache.length ≤ 30) (hok : ∀ x ∈ d.cache, WrOk d.secs.length x) (kp : Int) (f : Int) (b : Bool) (m : Nat) : ∀ (i : Nat) (s : List (List Int)), i + m = d.cache.length → s.length = d.secs.length → (∀ x ∈ s, x.length ≤ 1048576 ∧ Bytes x) →
    Ev (fun k => impl_FallDisk.l0 k kp d.cache (d.cache.length : Int) (i : Int) d.secs d.cache d.fuse d.down s f b) (apb kp i s (d.cache.drop i), [], -1, false) := by
  induction m with
  | zero =>
    intro i s hi hl hs
    rw [List.drop_of_length_le (by omega)]
    exact Ev.step (fun k => impl_FallDisk.l0.eq_2 _ _ _ _ _ _ _ _ _ _ _ k) (Ev.neg (by omega) (impl_diskCopy ⟨s, [], -1, false⟩ (fits_ap (c := []) ⟨by have := hd.1; omega, hs⟩)))
  | succ m ih =>
    intro i s hi hl hs
    have hlt : i < d.cache.length := by omega
    have he : rd_T54 d.cache (i : Int) = d.cache[i] := getD_nat d.cache _ hlt
    obtain ⟨ho, _⟩ := hok _ (List.getElem_mem hlt)
    refine Ev.step (fun k => impl_FallDisk.l0.eq_2 _ _ _ _ _ _ _ _ _ _ _ k) (Ev.pos (by omega) (Ev.pos (by omega) (Ev.pos (by omega) (Ev.pos (by omega) ?_))))
    rw [he, w64 (n := (i : Int) + 1) (by omega) (by omega), cast_succ, List.drop_eq_getElem_cons hlt, apb]
    by_cases hk : Kept kp i
    · rw [if_pos hk]
      refine Ev.pos hk (Ev.pos ho.1 (Ev.pos (by omega) (ih (i + 1) _ (by omega) (by rw [List.length_set]; exact hl) fun x hx => ?_)))
      rcases List.mem_or_eq_of_mem_set hx with hx | rfl
      · exact hs x hx
      · exact hd.2.2.2 _ (List.getElem_mem hlt)
    · rw [if_neg hk]
      exact Ev.neg hk (ih (i + 1) s (by omega) hl hs)
theorem impl_fallDisk (d : Dk) (hd : Fits d) (kp : Int) : Ev (fun k => impl_FallDisk.f k d.secs d.cache d.fuse d.down kp) (fallDisk d kp).tuple := by
  unfold impl_FallDisk.f
  refine Ev.bind (impl_diskCopy d hd) (Ev.bind (impl_diskOk d hd.1 hd.2.2.1) ?_)
  by_cases h1 : DiskOk d
  case neg => rw [diskOk_no h1, fallDisk_no h1]; exact Ev.neg (by decide) (Ev.done rfl)
  rw [(diskOk_iff d).2 h1, fallDisk_yes h1]
  refine Ev.pos rfl (Ev.then (isIn _ _ _) ?_)
  unfold keepOf
  by_cases h : 0 ≤ kp ∧ kp ≤ 1073741823
  · rw [if_pos h]
    exact Ev.pos (by simpa using h) (impl_FallDisk_l0 d hd h1.2.1 h1.2.2.2.2 kp d.fuse d.down d.cache.length 0 d.secs (by omega) rfl hd.2.1)
  · rw [if_neg h]
    exact Ev.neg (by simpa using h) (impl_FallDisk_l0 d hd h1.2.1 h1.2.2.2.2 0 d.fuse d.down d.cache.length 0 d.secs (by omega) rfl hd.2.1)
theorem spec_FallDisk_l0 (d : Dk) (hd : Fits d) (h30 : d.cache.length ≤ 30) (hok : ∀ x ∈ d.cache, WrOk d.secs.length x) (kp : Int) (f : Int) (b : Bool) (m : Nat) : ∀ (i : Nat) (s : List (List Int)), i + m = d.cache.length → s.length = d.secs.length →
    Ev (fun k => spec_FallDisk.l0 k kp (i : Int) d.secs d.cache d.fuse d.down s d.cache f b) (apb kp i s (d.cache.drop i), [], -1, false) := by
  induction m with
  | zero =>
    intro i s hi hl
    rw [List.drop_of_length_le (by omega)]
    exact Ev.step (fun k => spec_FallDisk.l0.eq_2 _ _ _ _ _ _ _ _ _ _ k) (Ev.neg (by omega) (Ev.done rfl))
  | succ m ih =>
    intro i s hi hl
    have hlt : i < d.cache.length := by omega
    have he : rd_T54 d.cache (i : Int) = d.cache[i] := getD_nat d.cache _ hlt
    obtain ⟨ho, _⟩ := hok _ (List.getElem_mem hlt)
    refine Ev.step (fun k => spec_FallDisk.l0.eq_2 _ _ _ _ _ _ _ _ _ _ k) (Ev.pos (by omega) (Ev.pos (by omega) (Ev.pos (by omega) ?_)))
    rw [he, w64 (n := (i : Int) + 1) (by omega) (by omega), cast_succ, List.drop_eq_getElem_cons hlt, apb]
    by_cases hk : Kept kp i
    · rw [if_pos hk]
      exact Ev.pos hk (Ev.pos ho.1 (Ev.pos (by omega) (ih (i + 1) _ (by omega) (by rw [List.length_set]; exact hl))))
    · rw [if_neg hk]
      exact Ev.neg hk (ih (i + 1) s (by omega) hl)
theorem spec_fallDisk (d : Dk) (hd : Fits d) (kp : Int) : Ev (fun k => spec_FallDisk.f k d.secs d.cache d.fuse d.down kp) (fallDisk d kp).tuple := by
  unfold spec_FallDisk.f
  refine Ev.bind (spec_l2Copy d hd) (Ev.bind (spec_diskOk d hd.1 hd.2.2.1) ?_)
  by_cases h1 : DiskOk d
  case neg => rw [diskOk_no h1, fallDisk_no h1]; exact Ev.neg (by decide) (Ev.done rfl)
  rw [(diskOk_iff d).2 h1, fallDisk_yes h1]
  refine Ev.pos rfl (Ev.then (l1In _ _ _) ?_)
  unfold keepOf
  by_cases h : 0 ≤ kp ∧ kp ≤ 1073741823
  · rw [if_pos h]
    exact Ev.pos (by simpa using h) (spec_FallDisk_l0 d hd h1.2.1 h1.2.2.2.2 kp d.fuse d.down d.cache.length 0 d.secs (by omega) rfl)
  · rw [if_neg h]
    exact Ev.neg (by simpa using h) (spec_FallDisk_l0 d hd h1.2.1 h1.2.2.2.2 0 d.fuse d.down d.cache.length 0 d.secs (by omega) rfl)
end Go.Proofs.Ytkpcieenikmbmaa.Fn

/- What the printed functions that make a disk, and mark and check one whose rows are empty, come to. -/
namespace Go.Proofs.Ytkpcieenikmbmaa.Fn
set_option linter.unusedVariables false
set_option linter.unusedSimpArgs false
open Go.RowKit Go.Proofs.YtkpcieenikmbmaaW.PrintWords Go.Proofs.Ytkpcieenikmbmaa.P Go.Proofs.Ytkpcieenikmbmaa.Base

def newDisk (n : Int) : Dk := if 1 ≤ n ∧ n ≤ 40 then ⟨List.replicate n.toNat [], [], -1, false⟩ else ⟨[], [], 0, false⟩
theorem spec_DiskNew_l0 (n : Int) (hn : 1 ≤ n ∧ n ≤ 40) (d : Nat) : ∀ (i : Nat), (i : Int) + d = n → Ev (fun k => spec_DiskNew.l0 k n (i : Int) (List.replicate i []) (-1) false) (newDisk n).tuple := by
  induction d with
  | zero =>
    intro i hi
    refine Ev.step (fun k => spec_DiskNew.l0.eq_2 _ _ _ _ _ k) (Ev.neg (by omega) (Ev.done ?_))
    unfold newDisk
    rw [if_pos hn, show n.toNat = i by omega]
    rfl
  | succ d ih =>
    intro i hi
    refine Ev.step (fun k => spec_DiskNew.l0.eq_2 _ _ _ _ _ k) (Ev.pos (by omega) (Ev.pos (by rw [List.length_replicate]; omega) ?_))
    rw [w64 (n := (i : Int) + 1) (by omega) (by omega), cast_succ, show List.replicate i ([] : List Int) ++ [([] : List Int)] = List.replicate (i + 1) [] from List.replicate_succ'.symm]
    exact ih (i + 1) (by omega)
theorem spec_diskNew (n : Int) : Ev (fun k => spec_DiskNew.f k n) (newDisk n).tuple := by
  unfold spec_DiskNew.f
  refine Ev.then (l1In _ _ _) ?_
  by_cases h : 1 ≤ n ∧ n ≤ 40
  · exact Ev.pos (by simpa using h) (spec_DiskNew_l0 n h n.toNat 0 (by omega))
  · refine Ev.neg (by simpa using h) (Ev.done ?_)
    unfold newDisk
    rw [if_neg h]
    rfl
end Go.Proofs.Ytkpcieenikmbmaa.Fn

/- What the printed functions that draw come to: whatever they draw, it lies in its range. No memory is in sight here. -/
namespace Go.Proofs.Ytkpcieenikmbmaa.Fn
set_option linter.unusedVariables false
set_option linter.unusedSimpArgs false
open Go.RowKit Go.Proofs.YtkpcieenikmbmaaW.PrintWords Go.Proofs.Ytkpcieenikmbmaa.P Go.Proofs.Ytkpcieenikmbmaa.Base

/-- A cursor over the bytes l, at place i. -/
def Cur (l : List Int) (i : Int) : Prop := 0 ≤ i ∧ i ≤ l.length ∧ l.length ≤ 140737488351232
theorem and_range (x : Int) (m : Nat) (hm : m < 2 ^ 63) : 0 ≤ Go.bits .and .i64 x m ∧ Go.bits .and .i64 x m ≤ m := by
  have hk : IntKind.i64.bits = 64 := rfl
  have hm' : m % 2 ^ IntKind.i64.bits = m := Nat.mod_eq_of_lt (by rw [hk]; omega)
  have hle : (BitVec.ofInt IntKind.i64.bits x).toNat &&& m ≤ m := Nat.and_le_right
  simp only [Go.bits, BitVec.ofInt_natCast, BitVec.toNat_and, BitVec.toNat_ofNat, hm']
  rw [wraps_i64 _ (by omega) (by omega)]
  omega
theorem and255 (x : Int) : 0 ≤ Go.bits .and .i64 x 255 ∧ Go.bits .and .i64 x 255 ≤ 255 := and_range x 255 (by decide)
theorem l1New_l0 (l : List Int) (hl : l.length ≤ 140737488351232) (d : Nat) : ∀ (i : Nat) (h : Int), i + d = l.length → ∃ h', Ev (fun k => spec_l1New.l0 k l h (i : Int)) (l, 0, h') := by
  induction d with
  | zero =>
    intro i h hi
    exact ⟨h, Ev.step (fun k => spec_l1New.l0.eq_2 _ _ _ k) (Ev.neg (by omega) (Ev.done rfl))⟩
  | succ d ih =>
    intro i h hi
    by_cases h4 : (i : Int) < 4000
    · obtain ⟨h', hh⟩ := ih (i + 1) (Go.bits .and .i64 (wrap64 ((wrap64 ((wrap64 (h * 137)) + (wrap64 (rd l i)))) + 11)) 1073741823) (by omega)
      refine ⟨h', Ev.step (fun k => spec_l1New.l0.eq_2 _ _ _ k) (Ev.pos (by omega) (Ev.pos h4 (Ev.pos (by omega) ?_)))⟩
      rw [w64 (n := (i : Int) + 1) (by omega) (by omega), cast_succ]
      exact hh
    · exact ⟨h, Ev.step (fun k => spec_l1New.l0.eq_2 _ _ _ k) (Ev.pos (by omega) (Ev.neg h4 (Ev.done rfl)))⟩
theorem l1New (l : List Int) (hl : l.length ≤ 140737488351232) : ∃ h, Ev (fun k => spec_l1New.f k l) (l, 0, h) := by
  unfold spec_l1New.f
  exact l1New_l0 l hl l.length 0 _ (by omega)
theorem Cur.zero {l : List Int} (hl : l.length ≤ 140737488351232) : Cur l 0 := ⟨by omega, by omega, hl⟩
theorem l1Byte {l : List Int} {i : Int} (hc : Cur l i) (h : Int) : ∃ r i' h', spec_l1Byte.f l i h = some (r, i', h') ∧ 0 ≤ r ∧ r ≤ 255 ∧ Cur l i' := by
  obtain ⟨h0, h1, h2⟩ := hc
  unfold spec_l1Byte.f
  by_cases hi : i < (l.length : Int)
  · rw [if_pos hi, if_pos h0, w64 (n := i + 1) (by omega) (by omega)]
    exact ⟨_, _, _, rfl, (and255 _).1, (and255 _).2, by omega, by omega, h2⟩
  · rw [if_neg hi]
    exact ⟨_, _, _, rfl, (and255 _).1, (and255 _).2, h0, h1, h2⟩
theorem tmod_range {x n : Int} (hx : 0 ≤ x) (hn : 0 < n) : 0 ≤ Int.tmod x n ∧ Int.tmod x n < n := by
  rw [Int.tmod_eq_emod_of_nonneg hx]
  exact ⟨Int.emod_nonneg _ (by omega), Int.emod_lt_of_pos _ hn⟩
theorem l1Below {l : List Int} {i : Int} (hc : Cur l i) (h n : Int) : ∃ r i' h', spec_l1Below.f l i h n = some (r, i', h') ∧ 0 ≤ r ∧ (0 < n → r < n) ∧ (n ≤ 0 → r = 0) ∧ Cur l i' := by
  unfold spec_l1Below.f
  by_cases h0 : n ≤ 0
  · rw [if_pos h0]; exact ⟨0, i, h, rfl, by omega, by omega, fun _ => rfl, hc⟩
  rw [if_neg h0]
  by_cases h1 : n ≤ 256
  · rw [if_pos h1]
    obtain ⟨r, i1, h1', e1, r0, r1, hc1⟩ := l1Byte hc h
    rw [e1]
    simp only [Option.bind_some]
    rw [if_neg (by omega)]
    have := tmod_range r0 (show 0 < n by omega)
    exact ⟨_, _, _, rfl, this.1, fun _ => this.2, by omega, hc1⟩
  · rw [if_neg h1]
    obtain ⟨x, i1, h1', e1, x0, x1, hc1⟩ := l1Byte hc h
    obtain ⟨y, i2, h2', e2, y0, y1, hc2⟩ := l1Byte hc1 h1'
    obtain ⟨z, i3, h3', e3, z0, z1, hc3⟩ := l1Byte hc2 h2'
    simp only [e1, e2, e3, Option.bind_some]
    rw [if_neg (by omega), w64 (n := x * 65536) (by omega) (by omega), w64 (n := y * 256) (by omega) (by omega), w64 (n := x * 65536 + y * 256) (by omega) (by omega), w64 (by omega) (by omega)]
    have := tmod_range (show 0 ≤ x * 65536 + y * 256 + z by omega) (show 0 < n by omega)
    exact ⟨_, _, _, rfl, this.1, fun _ => this.2, by omega, hc3⟩
theorem l1Bytes_l0 {l : List Int} (n : Int) (hn : n ≤ 140737488351232) (d : Nat) : ∀ (i h : Int) (j : Nat) (o : List Int), Cur l i → (j : Int) + d = n → o.length = j → Bytes o → ∃ r i' h', Ev (fun k => spec_l1Bytes.l0 k n o (j : Int) l i h) (r, i', h') ∧ (r.length : Int) = n ∧ Bytes r ∧ Cur l i' := by
  induction d with
  | zero =>
    intro i h j o hc hj ho hb
    exact ⟨o, i, h, Ev.step (fun k => spec_l1Bytes.l0.eq_2 _ _ _ _ _ _ k) (Ev.neg (by omega) (Ev.done rfl)), by omega, hb, hc⟩
  | succ d ih =>
    intro i h j o hc hj ho hb
    obtain ⟨r, i1, h1, e1, r0, r1, hc1⟩ := l1Byte hc h
    obtain ⟨q, i2, h2, hev, hq⟩ := ih i1 h1 (j + 1) (o ++ [r % 256]) hc1 (by omega) (by simp [ho]) (hb.append (Bytes.cons (by omega) Bytes.nil))
    refine ⟨q, i2, h2, Ev.step (fun k => spec_l1Bytes.l0.eq_2 _ _ _ _ _ _ k) (Ev.pos (by omega) (Ev.then e1 (Ev.pos (by omega) ?_))), hq⟩
    rw [w64 (n := (j : Int) + 1) (by omega) (by omega), cast_succ]
    exact hev
theorem l1Bytes {l : List Int} {i : Int} (hc : Cur l i) (h n : Int) (hn : n ≤ 140737488351232) : ∃ r i' h', Ev (fun k => spec_l1Bytes.f k l i h n) (r, i', h') ∧ (0 ≤ n → (r.length : Int) = n) ∧ (n < 0 → r = []) ∧ Bytes r ∧ Cur l i' := by
  unfold spec_l1Bytes.f
  by_cases h0 : 0 ≤ n
  · obtain ⟨r, i', h', hev, hl, hb, hc'⟩ := l1Bytes_l0 n hn n.toNat i h 0 [] hc (by omega) rfl Bytes.nil
    exact ⟨r, i', h', hev, fun _ => hl, by omega, hb, hc'⟩
  · exact ⟨[], i, h, Ev.step (fun k => spec_l1Bytes.l0.eq_2 _ _ _ _ _ _ k) (Ev.neg (by omega) (Ev.done rfl)), by omega, fun _ => rfl, Bytes.nil, hc⟩
theorem big (l : List Int) : laws_big.f l = some (decide ((l.length : Int) > 1048576)) := rfl
theorem at_ (l : List Int) (hb : Bytes l) (hl : l.length ≤ 1048576) (i : Int) (h0 : 0 ≤ i) (h1 : i ≤ 100) : ∃ r, laws_at.f l i = some r ∧ 0 ≤ r ∧ r ≤ 255 := by
  unfold laws_at.f
  by_cases h : i < (l.length : Int)
  · rw [if_pos h, if_pos h0, w64_byte hb]
    have := rd_byte hb i
    exact ⟨_, rfl, this⟩
  · rw [if_neg h, w64 (n := i * 31) (by omega) (by omega), w64 (n := (l.length : Int) * 7) (by omega) (by omega), w64 (by omega) (by omega)]
    have := tmod_range (x := i * 31 + (l.length : Int) * 7) (n := 256) (by omega) (by omega)
    exact ⟨_, rfl, this.1, by omega⟩
/-- A byte of b, if it has one, is turned. -/
def Turned (b x : List Int) : Prop := b = [] ∧ x = [] ∨ ∃ (i : Nat) (hi : i < b.length) (y : Int), x = b.set i y ∧ 0 ≤ y ∧ y ≤ 255 ∧ y ≠ b[i]
theorem Turned.bytes {b x : List Int} (h : Turned b x) (hb : Bytes b) : Bytes x := by
  rcases h with ⟨rfl, rfl⟩ | ⟨i, hi, y, rfl, h0, h1, _⟩
  · exact hb
  · intro z hz
    rcases List.mem_or_eq_of_mem_set hz with hz | rfl
    · exact hb z hz
    · exact ⟨h0, h1⟩
theorem Turned.length {b x : List Int} (h : Turned b x) : x.length = b.length := by
  rcases h with ⟨rfl, rfl⟩ | ⟨i, hi, y, rfl, _⟩
  · rfl
  · rw [List.length_set]
theorem l1Once {l : List Int} {i : Int} (hc : Cur l i) (h n : Int) : ∃ r i' h', spec_l1Once.f l i h n = some (r, i', h') ∧ Cur l i' := by
  unfold spec_l1Once.f
  obtain ⟨r, i1, h1, e1, _, _, _, hc1⟩ := l1Below hc h n
  rw [e1]
  exact ⟨_, _, _, rfl, hc1⟩
theorem l1Int {l : List Int} {i : Int} (hc : Cur l i) (h : Int) (L : List Int) (h0 : L ≠ []) : ∃ r i' h', spec_l1Int.f l i h L = some (r, i', h') ∧ Cur l i' := by
  unfold spec_l1Int.f
  obtain ⟨r, i1, h1, e1, r0, r1, _, hc1⟩ := l1Below hc h L.length
  have hl : 0 < L.length := List.length_pos_iff.2 h0
  have hr := r1 (by omega)
  rw [e1]
  simp only [Option.bind_some]
  rw [if_pos r0, if_pos hr]
  exact ⟨_, _, _, rfl, hc1⟩
end Go.Proofs.Ytkpcieenikmbmaa.Fn

/- Draws of disks. No memory is in sight here. -/
namespace Go.Proofs.Ytkpcieenikmbmaa.Fn
set_option linter.unusedVariables false
set_option linter.unusedSimpArgs false
open Go.RowKit Go.Proofs.YtkpcieenikmbmaaW.PrintWords Go.Proofs.Ytkpcieenikmbmaa.P Go.Proofs.Ytkpcieenikmbmaa.Base

theorem l1IntIn {l : List Int} {i : Int} (hc : Cur l i) (h : Int) (L : List Int) (h0 : L ≠ []) : ∃ r i' h', spec_l1Int.f l i h L = some (r, i', h') ∧ r ∈ L ∧ Cur l i' := by
  unfold spec_l1Int.f
  obtain ⟨r, i1, h1, e1, r0, r1, _, hc1⟩ := l1Below hc h L.length
  have hl : 0 < L.length := List.length_pos_iff.2 h0
  have hr := r1 (by omega)
  rw [e1]
  simp only [Option.bind_some]
  rw [if_pos r0, if_pos hr]
  refine ⟨_, _, _, rfl, ?_, hc1⟩
  obtain ⟨j, rfl⟩ := Int.eq_ofNat_of_zero_le r0
  rw [rd_getElem (by omega)]
  exact List.getElem_mem _
/-- A disk that is right, of bytes, and up. -/
structure Up (d : Dk) : Prop where
  ok : DiskOk d
  bs : ∀ x ∈ d.secs, Bytes x
  bc : ∀ x ∈ d.cache, Bytes x.f1
  up : d.down = false
theorem Up.fits {d : Dk} (h : Up d) : Fits d := Fits_of_ok h.ok h.bs h.bc
theorem fuseOf_in {f : Int} (h : -1 ≤ f ∧ f ≤ 1000) : -1 ≤ fuseOf f ∧ fuseOf f ≤ 1000 := by
  unfold fuseOf
  by_cases h0 : f = 0
  · rw [if_pos h0]; omega
  · rw [if_neg h0]
    by_cases h1 : f > 0
    · rw [if_pos h1]; omega
    · rw [if_neg h1]; omega
theorem wroteD_ok {d : Dk} {n : Int} {b : List Int} (h : DiskOk d) (hn : 0 ≤ n ∧ n ≤ (d.secs.length : Int) - 1) (hb : b.length ≤ 160) (h30 : d.cache.length ≠ 30) : DiskOk (wroteD d n b) := by
  obtain ⟨h1, h2, h3, h4, h5⟩ := h
  unfold wroteD
  refine ⟨h1, ?_, fuseOf_in h3, h4, ?_⟩
  · by_cases h0 : d.fuse = 0
    · simp only [h0, if_true]; exact h2
    · simp only [h0, if_false, List.length_append, List.length_singleton]; omega
  · by_cases h0 : d.fuse = 0
    · simp only [h0, if_true]; exact h5
    · simp only [h0, if_false]
      intro x hx
      rcases List.mem_append.1 hx with hx | hx
      · exact h5 x hx
      · rw [List.mem_singleton.1 hx]; exact ⟨hn, hb⟩
theorem writeSec_ok {d : Dk} {n : Int} {b : List Int} (h : DiskOk d) : DiskOk (writeSec d n b) := by
  by_cases hc : CanWrite d n b
  · rw [writeSec_yes hc]; exact wroteD_ok h hc.2.2.1 hc.2.2.2.1 hc.2.2.2.2
  · rw [writeSec_no hc]; exact h
theorem writeSec_secs (d : Dk) (n : Int) (b : List Int) : (writeSec d n b).secs = d.secs := by
  by_cases hc : CanWrite d n b
  · rw [writeSec_yes hc]; rfl
  · rw [writeSec_no hc]
theorem writeSec_cache {P : Wr → Prop} (d : Dk) (n : Int) (b : List Int) (h : ∀ x ∈ d.cache, P x) (hb : P ⟨n, b⟩) : ∀ x ∈ (writeSec d n b).cache, P x := by
  by_cases hc : CanWrite d n b
  · rw [writeSec_yes hc]
    unfold wroteD
    by_cases h0 : d.fuse = 0
    · simp only [h0, if_true]; exact h
    · simp only [h0, if_false]
      intro x hx
      rcases List.mem_append.1 hx with hx | hx
      · exact h x hx
      · rw [List.mem_singleton.1 hx]; exact hb
  · rw [writeSec_no hc]; exact h
theorem writeSec_fits {d : Dk} (h : Fits d) (n : Int) {b : List Int} (hb : b.length ≤ 1048576 ∧ Bytes b) : Fits (writeSec d n b) := by
  refine ⟨by rw [writeSec_secs]; exact h.1, by rw [writeSec_secs]; exact h.2.1, ?_, writeSec_cache d n b h.2.2.2 hb⟩
  by_cases hc : CanWrite d n b
  · rw [writeSec_yes hc]
    have := hc.1.2.1
    unfold wroteD
    by_cases h0 : d.fuse = 0
    · simp only [h0, if_true]; omega
    · simp only [h0, if_false, List.length_append, List.length_singleton]; omega
  · rw [writeSec_no hc]; exact h.2.2.1
theorem ap_ok {n : Nat} (c : List Wr) (hc : ∀ x ∈ c, x.f1.length ≤ 160) (s : List (List Int)) (hs : ∀ x ∈ s, x.length ≤ 160) : ∀ x ∈ ap s c, x.length ≤ 160 := ap_all (P := fun l => l.length ≤ 160) c hc s hs
theorem syncDisk_ok {d : Dk} (h : DiskOk d) : DiskOk (syncDisk d) := by
  by_cases hc : DiskOk d ∧ d.down = false
  · rw [syncDisk_yes hc]
    obtain ⟨h1, h2, h3, h4, h5⟩ := h
    by_cases h0 : d.fuse = 0
    · rw [if_pos h0]; exact ⟨h1, h2, by simp, h4, h5⟩
    · rw [if_neg h0]
      refine ⟨by simp only [ap_length]; exact h1, by simp, fuseOf_in h3, ap_ok (n := 0) d.cache (fun x hx => (h5 x hx).2) d.secs h4, fun x hx => by cases hx⟩
  · rw [syncDisk_no hc]; exact h
theorem syncDisk_fits {d : Dk} (h : Fits d) : Fits (syncDisk d) := by
  by_cases hc : DiskOk d ∧ d.down = false
  · rw [syncDisk_yes hc]
    by_cases h0 : d.fuse = 0
    · rw [if_pos h0]; exact h
    · rw [if_neg h0]
      exact ⟨by simp only [ap_length]; exact h.1, ap_all (P := fun x => x.length ≤ 1048576 ∧ Bytes x) d.cache h.2.2.2 d.secs h.2.1, by simp, fun x hx => by cases hx⟩
  · rw [syncDisk_no hc]; exact h
theorem syncDisk_len (d : Dk) : (syncDisk d).secs.length = d.secs.length := by
  by_cases hc : DiskOk d ∧ d.down = false
  · rw [syncDisk_yes hc]
    by_cases h0 : d.fuse = 0
    · rw [if_pos h0]
    · rw [if_neg h0]; exact ap_length _ _
  · rw [syncDisk_no hc]
/-- With no fuse laid nothing falls. -/
theorem writeSec_up {d : Dk} (h : Up d) (hf : d.fuse = -1) (n : Int) {b : List Int} (hb : Bytes b) : Up (writeSec d n b) ∧ (writeSec d n b).fuse = -1 := by
  refine ⟨⟨writeSec_ok h.ok, by rw [writeSec_secs]; exact h.bs, writeSec_cache (P := fun x => Bytes x.f1) d n b h.bc hb, ?_⟩, ?_⟩
  · by_cases hc : CanWrite d n b
    · rw [writeSec_yes hc]
      show downOf d.fuse d.down = false
      rw [hf]; exact h.up
    · rw [writeSec_no hc]; exact h.up
  · by_cases hc : CanWrite d n b
    · rw [writeSec_yes hc]
      show fuseOf d.fuse = -1
      rw [hf]; rfl
    · rw [writeSec_no hc]; exact hf
theorem syncDisk_up {d : Dk} (h : Up d) (hf : d.fuse = -1) : Up (syncDisk d) ∧ (syncDisk d).fuse = -1 := by
  have e : syncDisk d = ⟨ap d.secs d.cache, [], fuseOf d.fuse, d.down⟩ := by rw [syncDisk_yes ⟨h.ok, h.up⟩, if_neg (by omega)]
  refine ⟨⟨syncDisk_ok h.ok, ?_, ?_, by rw [e]; exact h.up⟩, by rw [e]; show fuseOf d.fuse = -1; rw [hf]; rfl⟩
  · rw [e]; exact ap_all (P := Bytes) d.cache h.bc d.secs h.bs
  · rw [e]; intro x hx; cases hx
/-! ### the draws -/
theorem spec_l2Draw_l0 {l : List Int} (m : Nat) : m ≤ 100 → ∀ (i h : Int) (d : Dk), Cur l i → Up d → d.fuse = -1 → ∃ d' i' h', Ev (fun k => spec_l2Draw.l0 k (m : Int) l i h d.secs d.cache d.fuse d.down) (d'.secs, d'.cache, d'.fuse, d'.down, i', h') ∧ Up d' ∧ d'.secs.length = d.secs.length ∧ d'.fuse ≤ 2 ∧ Cur l i' := by
  induction m with
  | zero =>
    intro _ i h d hc hu hf
    obtain ⟨f, i1, h1, e1, hfm, hc1⟩ := l1IntIn hc h [(-1), (-1), 0, 1, 2] (by simp)
    have hfr : -1 ≤ f ∧ f ≤ 2 := by
      simp only [List.mem_cons, List.not_mem_nil, or_false] at hfm
      omega
    refine ⟨⟨d.secs, d.cache, f, d.down⟩, i1, h1, Ev.step (fun k => spec_l2Draw.l0.eq_2 _ _ _ _ _ _ _ _ k) (Ev.neg (by omega) (Ev.then e1 (Ev.done rfl))), ⟨?_, hu.bs, hu.bc, hu.up⟩, rfl, hfr.2, hc1⟩
    exact ⟨hu.ok.1, hu.ok.2.1, ⟨hfr.1, by show f ≤ 1000; omega⟩, hu.ok.2.2.2⟩
  | succ m ih =>
    intro hm100 i h d hc hu hf
    obtain ⟨n, i1, h1, e1, n0, n1, _, hc1⟩ := l1Below hc h d.secs.length
    obtain ⟨q, i2, h2, e2, q0, q1, _, hc2⟩ := l1Below hc1 h1 5
    have q2 := q1 (by omega)
    obtain ⟨b, i3, h3, e3, b1, _, hb, hc3⟩ := l1Bytes hc2 h2 q (by omega)
    have hbl := b1 q0
    obtain ⟨o, i4, h4, e4, hc4⟩ := l1Once hc3 h3 4
    obtain ⟨hu', hf'⟩ := writeSec_up hu hf n hb
    have ew := spec_writeSec d hu.fits n b (by omega)
    have hm : wrap64 (((m + 1 : Nat) : Int) - 1) = (m : Int) := by unfold wrap64; omega
    have hne : ((m + 1 : Nat) : Int) > 0 := by omega
    cases o with
    | false =>
      obtain ⟨d', i', h', e', a1, a2, a3, a4⟩   := ih (by omega) i4 h4 (writeSec d n b) hc4 hu' hf'
      refine ⟨d', i', h', Ev.step (fun k => spec_l2Draw.l0.eq_2 _ _ _ _ _ _ _ _ k) (Ev.pos hne (Ev.then e1 (Ev.then e2 (Ev.bind e3 (Ev.bind ew (Ev.then e4 (Ev.neg (by simp) ?_))))))), a1, by rw [a2, writeSec_secs], a3, a4⟩
      rw [hm]
      exact e'
    | true =>
      obtain ⟨hu2, hf2⟩ := syncDisk_up hu' hf'
      obtain ⟨d', i', h', e', a1, a2, a3, a4⟩   := ih (by omega) i4 h4 (syncDisk (writeSec d n b)) hc4 hu2 hf2
      refine ⟨d', i', h', Ev.step (fun k => spec_l2Draw.l0.eq_2 _ _ _ _ _ _ _ _ k) (Ev.pos hne (Ev.then e1 (Ev.then e2 (Ev.bind e3 (Ev.bind ew (Ev.then e4 (Ev.pos rfl (Ev.bind (spec_syncDisk _ hu'.fits) ?_)))))))), a1, by rw [a2, syncDisk_len, writeSec_secs], a3, a4⟩
      rw [hm]
      exact e'
theorem newDisk_up {n : Int} (h : 1 ≤ n ∧ n ≤ 40) : Up (newDisk n) ∧ (newDisk n).fuse = -1 ∧ (newDisk n).secs.length = n.toNat := by
  unfold newDisk
  rw [if_pos h]
  refine ⟨⟨⟨by simp; omega, by simp, by simp, fun x hx => by rw [(List.mem_replicate.1 hx).2]; simp, fun x hx => by cases hx⟩, fun x hx => by rw [(List.mem_replicate.1 hx).2]; exact Bytes.nil, fun x hx => (by cases hx), rfl⟩, rfl, by simp⟩
theorem l2Draw {l : List Int} {i : Int} (hc : Cur l i) (h : Int) : ∃ d i' h', Ev (fun k => spec_l2Draw.f k l i h) (d.secs, d.cache, d.fuse, d.down, i', h') ∧ Up d ∧ d.secs.length ≤ 5 ∧ d.fuse ≤ 2 ∧ Cur l i' := by
  unfold spec_l2Draw.f
  obtain ⟨n, i1, h1, e1, n0, n1, _, hc1⟩ := l1Below hc h 5
  have n2 := n1 (by omega)
  obtain ⟨m, i2, h2, e2, m0, m1, _, hc2⟩ := l1Below hc1 h1 8
  have m2 := m1 (by omega)
  obtain ⟨hu, hf, hl⟩ := newDisk_up (n := 1 + n) (by omega)
  obtain ⟨j, rfl⟩ := Int.eq_ofNat_of_zero_le m0
  obtain ⟨d, i', h', e', a1, a2, a3, a4⟩ := spec_l2Draw_l0 j (by omega) i2 h2 (newDisk (1 + n)) hc2 hu hf
  refine ⟨d, i', h', Ev.then e1 ?_, a1, by rw [a2, hl]; omega, a3, a4⟩
  have hw : wrap64 (1 + n) = 1 + n := by unfold wrap64; omega
  dsimp only
  rw [hw]
  exact Ev.bind (spec_diskNew (1 + n)) (Ev.then e2 e')
theorem spec_l2Any_l0 {l : List Int} (m : Nat) : ∀ (i h : Int) (d : Dk), Cur l i → Fits d → d.cache.length + m = 40 → d.cache.length ≤ 31 → ∃ d' i' h', Ev (fun k => spec_l2Any.l0 k l i h d.secs d.cache d.fuse d.down) (d'.secs, d'.cache, d'.fuse, d'.down, i', h') ∧ Fits d' ∧ Cur l i' := by
  induction m with
  | zero => intro i h d _ _ h1 h2; omega
  | succ m ih =>
    intro i h d hc hd hm h31
    obtain ⟨f, i1, h1, e1, hfm, hc1⟩ := l1IntIn hc h [29, 30, 31] (by simp)
    have hfr : 29 ≤ f ∧ f ≤ 31 := by
      simp only [List.mem_cons, List.not_mem_nil, or_false] at hfm
      omega
    by_cases hlt : (d.cache.length : Int) < f
    · have hd' : Fits ⟨d.secs, d.cache ++ [⟨0, []⟩], d.fuse, d.down⟩ := ⟨hd.1, hd.2.1, by simp only [List.length_append, List.length_singleton]; omega, fun x hx => by
        rcases List.mem_append.1 hx with hx | hx
        · exact hd.2.2.2 x hx
        · rw [List.mem_singleton.1 hx]; exact ⟨by simp, Bytes.nil⟩⟩
      obtain ⟨d', i', h', e', a1, a2⟩ := ih i1 h1 ⟨d.secs, d.cache ++ [⟨0, []⟩], d.fuse, d.down⟩ hc1 hd' (by simp only [List.length_append, List.length_singleton]; omega) (by simp only [List.length_append, List.length_singleton]; omega)
      exact ⟨d', i', h', Ev.step (fun k => spec_l2Any.l0.eq_2 _ _ _ _ _ _ _ k) (Ev.then e1 (Ev.pos hlt (Ev.pos (by omega) e'))), a1, a2⟩
    · exact ⟨d, i1, h1, Ev.step (fun k => spec_l2Any.l0.eq_2 _ _ _ _ _ _ _ k) (Ev.then e1 (Ev.neg hlt (Ev.done rfl))), hd, hc1⟩
theorem l2Any {l : List Int} {i : Int} (hc : Cur l i) (h : Int) : ∃ d i' h', Ev (fun k => spec_l2Any.f k l i h) (d.secs, d.cache, d.fuse, d.down, i', h') ∧ Fits d ∧ Cur l i' := by
  unfold spec_l2Any.f
  obtain ⟨d, i1, h1, e1, hu, hl5, hf2, hc1⟩ := l2Draw hc h
  obtain ⟨a, i2, h2, e2, a0, a1, _, hc2⟩ := l1Below hc1 h1 12
  have hd := hu.fits
  have hpos := hu.ok.1.1
  have h30 := hu.ok.2.1
  by_cases k0 : a = 0
  · obtain ⟨f, i3, h3, e3, hc3⟩ := l1Int hc2 h2 [(-2), 1000, 1001] (by simp)
    exact ⟨⟨d.secs, d.cache, f, d.down⟩, i3, h3, Ev.bind e1 (Ev.then e2 (Ev.pos k0 (Ev.then e3 (Ev.done rfl)))), hd, hc3⟩
  by_cases k1 : a = 1
  · exact ⟨⟨d.secs, d.cache, d.fuse, true⟩, i2, h2, Ev.bind e1 (Ev.then e2 (Ev.neg k0 (Ev.pos k1 (Ev.done rfl)))), hd, hc2⟩
  by_cases k2 : a = 2
  · obtain ⟨n, i3, h3, e3, hn, hc3⟩ := l1IntIn hc2 h2 [160, 161] (by simp)
    have hnr : 160 ≤ n ∧ n ≤ 161 := by
      simp only [List.mem_cons, List.not_mem_nil, or_false] at hn
      omega
    obtain ⟨b, i4, h4, e4, b1, _, hb, hc4⟩ := l1Bytes hc3 h3 n (by omega)
    have hbl := b1 (by omega)
    refine ⟨⟨d.secs.set 0 b, d.cache, d.fuse, d.down⟩, i4, h4, Ev.bind e1 (Ev.then e2 (Ev.neg k0 (Ev.neg k1 (Ev.pos k2 (Ev.then e3 (Ev.bind e4 (Ev.pos (by dsimp only; omega) (Ev.done rfl)))))))), ⟨by simp only [List.length_set]; exact hd.1, fun x hx => ?_, hd.2.2⟩, hc4⟩
    rcases List.mem_or_eq_of_mem_set hx with hx | rfl
    · exact hd.2.1 x hx
    · exact ⟨by omega, hb⟩
  by_cases k3 : a = 3
  · obtain ⟨n, i3, h3, e3, hc3⟩ := l1Int hc2 h2 [(-1), 9, 0] (by simp)
    refine ⟨⟨d.secs, d.cache ++ [⟨n, []⟩], d.fuse, d.down⟩, i3, h3, Ev.bind e1 (Ev.then e2 (Ev.neg k0 (Ev.neg k1 (Ev.neg k2 (Ev.pos k3 (Ev.then e3 (Ev.pos (by dsimp only; omega) (Ev.done rfl)))))))), ⟨hd.1, hd.2.1, by simp only [List.length_append, List.length_singleton]; omega, fun x hx => ?_⟩, hc3⟩
    rcases List.mem_append.1 hx with hx | hx
    · exact hd.2.2.2 x hx
    · rw [List.mem_singleton.1 hx]; exact ⟨by simp, Bytes.nil⟩
  by_cases k4 : a = 4
  · obtain ⟨d', i', h', e', a1, a2⟩ := spec_l2Any_l0 (40 - d.cache.length) i2 h2 d hc2 hd (by omega) (by omega)
    exact ⟨d', i', h', Ev.bind e1 (Ev.then e2 (Ev.neg k0 (Ev.neg k1 (Ev.neg k2 (Ev.neg k3 (Ev.pos k4 e')))))), a1, a2⟩
  by_cases k5 : a = 5
  · exact ⟨⟨[], d.cache, d.fuse, d.down⟩, i2, h2, Ev.bind e1 (Ev.then e2 (Ev.neg k0 (Ev.neg k1 (Ev.neg k2 (Ev.neg k3 (Ev.neg k4 (Ev.pos k5 (Ev.done rfl)))))))), ⟨by simp, fun x hx => (by cases hx), hd.2.2⟩, hc2⟩
  · exact ⟨d, i2, h2, Ev.bind e1 (Ev.then e2 (Ev.neg k0 (Ev.neg k1 (Ev.neg k2 (Ev.neg k3 (Ev.neg k4 (Ev.neg k5 (Ev.done rfl)))))))), hd, hc2⟩
theorem drawDisk (l : List Int) (hl : l.length ≤ 140737488351232) : ∃ d : Dk, Ev (fun k => spec_DrawDisk.f k l) d.tuple ∧ Up d := by
  unfold spec_DrawDisk.f
  obtain ⟨h0, e0⟩ := l1New l hl
  obtain ⟨d, i1, h1, e1, hu, _⟩ := l2Draw (Cur.zero hl) h0
  exact ⟨d, Ev.bind e0 (Ev.bind e1 (Ev.done rfl)), hu⟩
theorem drawWriteSec (l : List Int) (hl : l.length ≤ 140737488351232) : ∃ (d : Dk) (n : Int) (b : List Int), Ev (fun k => spec_DrawWriteSec.f k l) (d.secs, d.cache, d.fuse, d.down, n, b) ∧ Fits d ∧ (-1 ≤ n ∧ n ≤ 5) ∧ b.length ≤ 161 ∧ Bytes b := by
  unfold spec_DrawWriteSec.f
  obtain ⟨h0, e0⟩ := l1New l hl
  obtain ⟨d, i1, h1, e1, hd, hc1⟩ := l2Any (Cur.zero hl) h0
  obtain ⟨n, i2, h2, e2, n0, n1, _, hc2⟩ := l1Below hc1 h1 7
  have n2 := n1 (by omega)
  obtain ⟨m, i3, h3, e3, hm, hc3⟩ := l1IntIn hc2 h2 [0, 3, 160, 161, 2] (by simp)
  have hmr : 0 ≤ m ∧ m ≤ 161 := by
    simp only [List.mem_cons, List.not_mem_nil, or_false] at hm
    omega
  obtain ⟨b, i4, h4, e4, b1, _, hb, hc4⟩ := l1Bytes hc3 h3 m (by omega)
  have hbl := b1 hmr.1
  exact ⟨d, n - 1, b, Ev.bind e0 (Ev.bind e1 (Ev.then e2 (Ev.then e3 (Ev.bind e4 (Ev.done (by dsimp only; rw [w64 (n := n - 1) (by omega) (by omega)])))))), hd, by omega, by omega, hb⟩
theorem drawFallDisk (l : List Int) (hl : l.length ≤ 140737488351232) : ∃ (d : Dk) (n : Int), Ev (fun k => spec_DrawFallDisk.f k l) (d.secs, d.cache, d.fuse, d.down, n) ∧ Fits d := by
  unfold spec_DrawFallDisk.f
  obtain ⟨h0, e0⟩ := l1New l hl
  obtain ⟨d, i1, h1, e1, hd, hc1⟩ := l2Any (Cur.zero hl) h0
  obtain ⟨m, i3, h3, e3, hc3⟩ := l1Int hc1 h1 [0, 1, 2, 5, 255, 1073741823, 1073741824, (-1)] (by simp)
  exact ⟨d, m, Ev.bind e0 (Ev.bind e1 (Ev.then e3 (Ev.done rfl))), hd⟩
end Go.Proofs.Ytkpcieenikmbmaa.Fn

/- The laws' comparison of disks, and what a disk holds behind a write, a sync and a fall. No memory is in sight here. -/
namespace Go.Proofs.Ytkpcieenikmbmaa.Fn
set_option linter.unusedVariables false
set_option linter.unusedSimpArgs false
open Go.RowKit Go.Proofs.YtkpcieenikmbmaaW.PrintWords Go.Proofs.Ytkpcieenikmbmaa.P Go.Proofs.Ytkpcieenikmbmaa.Base

theorem same_refl (b : List Int) : laws_same.f b b = some true := by unfold laws_same.f; simp
theorem same_of {a b : List Int} (h : a = b) : laws_same.f a b = some true := by rw [h]; exact same_refl b
theorem laws_sameDisk_l1 (d : Dk) (hd : Fits d) (m : Nat) : ∀ (i : Nat), i + m = d.cache.length → Ev (fun k => laws_sameDisk.l1 k (i : Int) d.secs d.cache d.fuse d.down d.secs d.cache d.fuse d.down) true := by
  induction m with
  | zero => intro i hi; exact Ev.step (fun k => laws_sameDisk.l1.eq_2 _ _ _ _ _ _ _ _ _ k) (Ev.neg (by omega) (Ev.done rfl))
  | succ m ih =>
    intro i hi
    have hc := hd.2.2.1
    refine Ev.step (fun k => laws_sameDisk.l1.eq_2 _ _ _ _ _ _ _ _ _ k) (Ev.pos (by omega) (Ev.pos (by omega) (Ev.pos (by omega) (Ev.pos rfl (Ev.then (same_refl _) (Ev.pos rfl ?_))))))
    rw [w64 (n := (i : Int) + 1) (by omega) (by omega), cast_succ]
    exact ih (i + 1) (by omega)
theorem laws_sameDisk_l0 (d : Dk) (hd : Fits d) (m : Nat) : ∀ (i : Nat), i + m = d.secs.length → Ev (fun k => laws_sameDisk.l0 k (i : Int) d.secs d.cache d.fuse d.down d.secs d.cache d.fuse d.down) true := by
  induction m with
  | zero => intro i hi; exact Ev.step (fun k => laws_sameDisk.l0.eq_2 _ _ _ _ _ _ _ _ _ k) (Ev.neg (by omega) (laws_sameDisk_l1 d hd d.cache.length 0 (by omega)))
  | succ m ih =>
    intro i hi
    have hc := hd.1
    refine Ev.step (fun k => laws_sameDisk.l0.eq_2 _ _ _ _ _ _ _ _ _ k) (Ev.pos (by omega) (Ev.pos (by omega) (Ev.pos (by omega) (Ev.then (same_refl _) (Ev.pos rfl ?_)))))
    rw [w64 (n := (i : Int) + 1) (by omega) (by omega), cast_succ]
    exact ih (i + 1) (by omega)
theorem sameDisk (d : Dk) (hd : Fits d) : Ev (fun k => laws_sameDisk.f k d.secs d.cache d.fuse d.down d.secs d.cache d.fuse d.down) true := by
  unfold laws_sameDisk.f
  exact Ev.pos rfl (Ev.neg (by simp) (Ev.pos rfl (Ev.step (fun k => laws_sameDisk.j0.eq_2 _ _ _ _ _ _ _ _ _ k) (Ev.neg (by simp) (laws_sameDisk_l0 d hd d.secs.length 0 (by omega))))))
/-! ### what a sector holds -/
theorem ap_get {N : Nat} (c : List Wr) (hc : ∀ x ∈ c, 0 ≤ x.f0 ∧ x.f0 ≤ (N : Int) - 1) (n : Nat) (hn : n < N) : ∀ (s : List (List Int)), s.length = N → (ap s c).getD n [] = lookB (n : Int) c (s.getD n []) := by
  induction c with
  | nil => intro s _; rfl
  | cons w ws ih =>
    intro s hs
    have hw := hc w List.mem_cons_self
    rw [ap, lookB, ih (fun x hx => hc x (List.mem_cons_of_mem _ hx)) _ (by rw [List.length_set]; exact hs)]
    congr 1
    rw [List.getD_eq_getElem?_getD, List.getElem?_set]
    by_cases h : w.f0 = (n : Int)
    · rw [if_pos h, if_pos (by omega), if_pos (by omega)]
      rfl
    · rw [if_neg h, if_neg (by omega), List.getD_eq_getElem?_getD]
theorem readSec_wroteD {d : Dk} {n i : Int} {b : List Int} (h : CanWrite d n b) (h0 : d.fuse ≠ 0) (hi : 0 ≤ i ∧ i ≤ (d.secs.length : Int) - 1) : readSec (wroteD d n b) i = if n = i then b else readSec d i := by
  have hx := wroteD_ok h.1 h.2.2.1 h.2.2.2.1 h.2.2.2.2
  rw [readSec_yes ⟨hx, hi⟩, readSec_yes ⟨h.1, hi⟩]
  unfold wroteD
  simp only [h0, if_false]
  exact lookB_snoc _ _ _ _
theorem readSec_synced {d : Dk} (h : DiskOk d) (hd : d.down = false) (h0 : d.fuse ≠ 0) {i : Int} (hi : 0 ≤ i ∧ i ≤ (d.secs.length : Int) - 1) : (syncDisk d).secs.getD i.toNat [] = readSec d i ∧ (syncDisk d).cache = [] := by
  rw [syncDisk_yes ⟨h, hd⟩, if_neg h0, readSec_yes ⟨h, hi⟩]
  obtain ⟨j, rfl⟩ := Int.eq_ofNat_of_zero_le hi.1
  exact ⟨ap_get (N := d.secs.length) d.cache (fun x hx => (h.2.2.2.2 x hx).1) j (by omega) d.secs rfl, rfl⟩
theorem fallDisk_synced {d : Dk} (h : DiskOk d) (hc : d.cache = []) (k : Int) : fallDisk d k = ⟨d.secs, [], -1, false⟩ := by
  rw [fallDisk_yes h, hc]
  rfl
theorem fallDisk_ok {d : Dk} (h : DiskOk d) (k : Int) : DiskOk (fallDisk d k) := by
  rw [fallDisk_yes h]
  refine ⟨by simp only [apb_length]; exact h.1, by simp, by simp, ?_, fun x hx => by cases hx⟩
  exact apb_all (P := fun l => l.length ≤ 160) _ d.cache (fun x hx => (h.2.2.2.2 x hx).2) 0 d.secs h.2.2.2.1
theorem fallDisk_fits {d : Dk} (h : Fits d) (k : Int) : Fits (fallDisk d k) := by
  by_cases hc : DiskOk d
  · rw [fallDisk_yes hc]
    exact ⟨by simp only [apb_length]; exact h.1, apb_all (P := fun x => x.length ≤ 1048576 ∧ Bytes x) _ d.cache h.2.2.2 0 d.secs h.2.1, by simp, fun x hx => by cases hx⟩
  · rw [fallDisk_no hc]; exact h
theorem apb_mem (k : Int) (c : List Wr) (hc : ∀ x ∈ c, 0 ≤ x.f0) (n : Nat) : ∀ (i : Nat) (s : List (List Int)), n < s.length → (apb k i s c).getD n [] = s.getD n [] ∨ ∃ w ∈ c, w.f0 = (n : Int) ∧ (apb k i s c).getD n [] = w.f1 := by
  induction c with
  | nil => intro i s _; exact .inl rfl
  | cons w ws ih =>
    intro i s hs
    have hw := hc w List.mem_cons_self
    rw [apb]
    rcases ih (fun x hx => hc x (List.mem_cons_of_mem _ hx)) (i + 1) (if Kept k i then s.set w.f0.toNat w.f1 else s) (by split <;> simpa using hs) with h | ⟨x, h1, h2⟩
    · by_cases hk : Kept k i
      · rw [if_pos hk] at h
        rw [if_pos hk]
        by_cases hn : w.f0 = (n : Int)
        · refine .inr ⟨w, List.mem_cons_self, hn, h.trans ?_⟩
          rw [List.getD_eq_getElem?_getD, List.getElem?_set, if_pos (by omega), if_pos (by omega)]
          rfl
        · refine .inl (h.trans ?_)
          rw [List.getD_eq_getElem?_getD, List.getElem?_set, if_neg (by omega), List.getD_eq_getElem?_getD]
      · rw [if_neg hk] at h
        rw [if_neg hk]
        exact .inl h
    · exact .inr ⟨x, List.mem_cons_of_mem _ h1, h2⟩
end Go.Proofs.Ytkpcieenikmbmaa.Fn

/- The pure statement of the law FnDisks: a wroteD sector is read back by everyone until power fails; a synced sector is durable. -/
namespace Go.Proofs.Ytkpcieenikmbmaa.Pure
set_option linter.unusedVariables false
set_option linter.unusedSimpArgs false
set_option linter.unusedVariables false
set_option linter.unusedSimpArgs false
open Go.RowKit Go.Proofs.YtkpcieenikmbmaaW.PrintWords Go.Proofs.Ytkpcieenikmbmaa.P Go.Proofs.Ytkpcieenikmbmaa.Base Go.Proofs.Ytkpcieenikmbmaa.Fn
theorem disks_l0 (d : Dk) (hd : Fits d) (n : Nat) (b : List Int) (hb : b.length ≤ 160 ∧ Bytes b) (h : CanWrite d n b) (h0 : d.fuse ≠ 0) (m : Nat) : ∀ (i : Nat), i + m = d.secs.length →
    Ev (fun k => laws_FnDisks.l0 k (n : Int) b (i : Int) d.secs d.cache d.fuse d.down (wroteD d n b).secs (wroteD d n b).cache (wroteD d n b).fuse (wroteD d n b).down (fallDisk (syncDisk (wroteD d n b)) 0).secs (fallDisk (syncDisk (wroteD d n b)) 0).cache (fallDisk (syncDisk (wroteD d n b)) 0).fuse (fallDisk (syncDisk (wroteD d n b)) 0).down) true := by
  have hsl := h.1.1.2
  have hx := wroteD_ok h.1 h.2.2.1 h.2.2.2.1 h.2.2.2.2
  have hxf : Fits (wroteD d n b) := by
    have := writeSec_fits hd (n : Int) (b := b) ⟨by omega, hb.2⟩
    rwa [writeSec_yes h] at this
  have hnn := h.2.2.1
  induction m with
  | zero =>
    intro i hi
    refine Ev.step (fun k => laws_FnDisks.l0.eq_2 _ _ _ _ _ _ _ _ _ _ _ _ _ _ _ k) (Ev.neg (by omega) (Ev.bind (impl_readSec _ hxf n) (Ev.then (same_of ?_) (Ev.pos rfl ?_))))
    · rw [readSec_wroteD h h0 hnn, if_pos rfl]
    · by_cases hz : (wroteD d n b).fuse = 0
      · exact Ev.pos hz (Ev.bind (impl_diskOk _ hxf.1 hxf.2.2.1) (Ev.done ((diskOk_iff _).2 hx)))
      · have hup : (wroteD d n b).down = false := by
          show downOf d.fuse d.down = false
          unfold downOf
          rw [if_neg h0]
          exact h.2.1
        have hs := syncDisk_ok hx
        have hn' : 0 ≤ (n : Int) ∧ (n : Int) ≤ ((wroteD d n b).secs.length : Int) - 1 := hnn
        obtain ⟨r1, r2⟩ := readSec_synced hx hup hz hn'
        refine Ev.neg hz (Ev.bind (impl_readSec _ (fallDisk_fits (syncDisk_fits hxf) 0) n) (Ev.then (same_of ?_) (Ev.pos rfl (Ev.bind (impl_diskOk _ hxf.1 hxf.2.2.1) (Ev.done ((diskOk_iff _).2 hx))))))
        rw [readSec_yes ⟨fallDisk_ok hs 0, by rw [fallDisk_synced hs r2]; simp only [syncDisk_len]; exact hnn⟩, fallDisk_synced hs r2]
        show (syncDisk (wroteD d n b)).secs.getD (n : Int).toNat [] = b
        rw [r1, readSec_wroteD h h0 hnn, if_pos rfl]
  | succ m ih =>
    intro i hi
    have hw : wrap64 ((i : Int) + 1) = ((i + 1 : Nat) : Int) := by rw [w64 (n := (i : Int) + 1) (by omega) (by omega), cast_succ]
    by_cases hin : (i : Int) = (n : Int)
    · refine Ev.step (fun k => laws_FnDisks.l0.eq_2 _ _ _ _ _ _ _ _ _ _ _ _ _ _ _ k) (Ev.pos (by omega) (Ev.pos hin ?_))
      rw [hw]
      exact ih (i + 1) (by omega)
    · refine Ev.step (fun k => laws_FnDisks.l0.eq_2 _ _ _ _ _ _ _ _ _ _ _ _ _ _ _ k) (Ev.pos (by omega) (Ev.neg hin (Ev.bind (impl_readSec _ hxf i) (Ev.bind (impl_readSec d hd i) (Ev.then (same_of ?_) (Ev.pos rfl ?_))))))
      · rw [readSec_wroteD h h0 (by omega), if_neg (by omega)]
      · rw [hw]
        exact ih (i + 1) (by omega)
theorem FnDisks : laws_FnDisks.Pure := by
  intro l0 _ hl hb
  have hbytes := Bytes.of_wf hb
  suffices h : Ev (fun k => laws_FnDisks.f k l0) true by
    obtain ⟨n, hn⟩ := h
    exact ⟨n, hn n (Nat.le_refl _)⟩
  unfold laws_FnDisks.f
  refine Ev.then (big l0) ?_
  by_cases hbig : (l0.length : Int) > 1048576
  · exact Ev.pos (by simpa using hbig) (Ev.done rfl)
  refine Ev.neg (by simpa using hbig) ?_
  obtain ⟨d, n, b, e, hd, hn, hbl, hbb⟩ := drawWriteSec l0 (by omega)
  have hok := impl_diskOk d hd.1 hd.2.2.1
  have hxf := writeSec_fits hd n (b := b) ⟨by omega, hbb⟩
  refine Ev.bind e (Ev.bind (impl_writeSec d hd n b (by omega)) (Ev.bind hok (Ev.bind (spec_diskOk d hd.1 hd.2.2.1) (Ev.neg (by simp) (Ev.bind (spec_writeSec d hd n b (by omega)) (Ev.bind (sameDisk _ hxf) ?_))))))
  dsimp only [Dk.tuple]
  -- where nothing is wroteD
  have no : ¬ CanWrite d n b → ∀ x : Bool, x = true → Ev (fun k => laws_FnDisks.j1 k n b x d.secs d.cache d.fuse d.down (writeSec d n b).secs (writeSec d n b).cache (writeSec d n b).fuse (writeSec d n b).down) true := fun h x hx => by
    rw [writeSec_no h]
    exact Ev.step (fun k => laws_FnDisks.j1.eq_2 _ _ _ _ _ _ _ _ _ _ _ k) (Ev.pos hx (Ev.bind (sameDisk d hd) (Ev.done rfl)))
  refine Ev.step (fun k => laws_FnDisks.j0.eq_2 _ _ _ _ _ _ _ _ _ _ _ k) (Ev.neg (by simp) (Ev.bind hok ?_))
  by_cases h1 : DiskOk d
  case neg => rw [diskOk_no h1]; exact Ev.neg (by simp) (no (fun q => h1 q.1) true rfl)
  rw [(diskOk_iff d).2 h1]
  refine Ev.pos rfl ?_
  by_cases h2 : d.down = true
  · exact Ev.pos h2 (no (fun q => by rw [q.2.1] at h2; cases h2) true rfl)
  refine Ev.neg h2 ?_
  by_cases h3 : n < 0
  · exact Ev.pos h3 (no (fun q => by have := q.2.2.1; omega) true rfl)
  refine Ev.neg h3 ?_
  by_cases h4 : n ≥ (d.secs.length : Int)
  · exact Ev.pos h4 (no (fun q => by have := q.2.2.1; omega) true rfl)
  refine Ev.neg h4 ?_
  by_cases h5 : (b.length : Int) > 160
  · exact Ev.pos h5 (no (fun q => by have := q.2.2.2.1; omega) true rfl)
  refine Ev.neg h5 ?_
  by_cases h6 : d.cache.length = 30
  · exact no (fun q => q.2.2.2.2 h6) _ (by simp [h6])
  have hc : CanWrite d n b := ⟨h1, by simpa using h2, by omega, by omega, h6⟩
  obtain ⟨j, rfl⟩ := Int.eq_ofNat_of_zero_le hc.2.2.1.1
  have hx := wroteD_ok h1 hc.2.2.1 hc.2.2.2.1 hc.2.2.2.2
  rw [writeSec_yes hc] at hxf ⊢
  refine Ev.step (fun k => laws_FnDisks.j1.eq_2 _ _ _ _ _ _ _ _ _ _ _ k) (Ev.neg (by simp; omega) ?_)
  by_cases h0 : d.fuse = 0
  · have e1 : readSec (wroteD d j b) j = readSec d j := by
      rw [readSec_yes ⟨hx, hc.2.2.1⟩, readSec_yes ⟨h1, hc.2.2.1⟩]
      unfold wroteD
      simp only [h0, if_true]
    exact Ev.pos h0 (Ev.pos (by show downOf d.fuse d.down = true; unfold downOf; rw [if_pos h0]) (Ev.bind (impl_readSec _ hxf j) (Ev.bind (impl_readSec d hd j) (Ev.then (same_of e1) (Ev.done rfl)))))
  · exact Ev.neg h0 (Ev.bind (impl_syncDisk _ hxf) (Ev.bind (impl_fallDisk _ (syncDisk_fits hxf) 0) (disks_l0 d hd j b ⟨by omega, hbb⟩ hc h0 d.secs.length 0 (by omega))))
end Go.Proofs.Ytkpcieenikmbmaa.Pure

-- PRINTED BY print.sh 35421559b90ae4d0a3588c463048766b98c2df88dd9212a6774a882060cdf62d: not written by this session
-- PRINTED WORDS (module Derived/Print/Sized.lean): go-gate-2's, for the rows of laws over slices: an AI agent of Go's test side, Tue Nov 17 2026; no person has read it. Lean checks it.
namespace Go.Proofs.YtkpcieenikmbmaaW.PrintWords
open Go.ChangeShapes Go.WideShapes
/-- A row's slice of whole numbers is no longer than its weight allows. -/
theorem sized_ints {H : Type} {enc : TypeId × Value → H} {P : Program} {W : World} {base : Nat} {spare : Nat → Bool} {held : Bool} {t e : TypeId} {k : IntKind} {a : Option Addr} {len cap : Nat} {d : DataW H} {ps : List MemPlace} {ts : List TypeId} {ds : List (DataW H)} {j : Nat}
    (hsz : (DataW.weightsEach P ts ds).all (· ≤ reachBytes) = true) (ht : ts[j]? = some t) (hd : ds[j]? = some d) (hu : P.underlying t = some (.slice e)) (he : P.underlying e = some (.int k)) (hc : P.cellsOf e = 1) {B : Nat} (hB : P.bytesOf e = B)
    (h : DataW.Trod enc P W base spare held t (.slice a len cap) d ps) : len * B ≤ 140737488351232 := by
  obtain ⟨fuel, hf⟩ := h
  rcases open_ints hu he hc hf with ⟨hcs, _⟩ | ⟨x, l, c, zs, hcs, _, hl, _, hz, hx, _, _⟩
  · simp [Value.cells] at hcs
    obtain ⟨rfl, rfl, rfl⟩ := hcs
    simp
  · simp [Value.cells] at hcs
    obtain ⟨rfl, rfl, rfl⟩ := hcs
    obtain ⟨hx, _⟩ := Prod.mk.inj hx
    subst hx
    have z := sized_slice hsz ht hd hu
    rw [hB] at z
    have hl2 : len ≤ zs.length := by
      rw [hz]
      split
      · exact hl
      · exact Nat.le_refl _
    have h1 : (lits (H := H) k (zs.take len)).length + (lits (H := H) k (zs.drop len)).length = zs.length := by
      simp [lits]
      omega
    rw [h1] at z
    exact Nat.le_trans (Nat.mul_le_mul_right _ hl2) z
end Go.Proofs.YtkpcieenikmbmaaW.PrintWords

/- The pure statement of the law FnFalls: after a power failure each cached write is applied or lost as stated; every sector has its previous or a written content. -/
namespace Go.Proofs.Ytkpcieenikmbmaa.Pure
set_option linter.unusedVariables false
set_option linter.unusedSimpArgs false
set_option linter.unusedVariables false
set_option linter.unusedSimpArgs false
open Go.RowKit Go.Proofs.YtkpcieenikmbmaaW.PrintWords Go.Proofs.Ytkpcieenikmbmaa.P Go.Proofs.Ytkpcieenikmbmaa.Base Go.Proofs.Ytkpcieenikmbmaa.Fn
theorem same_some (a b : List Int) : ∃ t, laws_same.f a b = some t ∧ (a = b → t = true) := ⟨_, rfl, fun h => by rw [h]; simp⟩
theorem falls_l1 (d x : Dk) (hdc : d.cache.length ≤ 30) (hl : x.secs.length = d.secs.length) (i : Nat) (hi : i < d.secs.length) {r : Bool}
    (hgo : Ev (fun k => laws_FnFalls.l0 k (wrap64 ((i : Int) + 1)) d.secs d.cache d.fuse d.down x.secs x.cache x.fuse x.down) r) (m : Nat) : ∀ (j : Nat) (f : Bool), j + m = d.cache.length →
    (f = true ∨ ∃ w ∈ d.cache.drop j, w.f0 = (i : Int) ∧ x.secs.getD i [] = w.f1) → Ev (fun k => laws_FnFalls.l1 k (i : Int) f (j : Int) d.secs d.cache d.fuse d.down x.secs x.cache x.fuse x.down) r := by
  induction m with
  | zero =>
    intro j f hj hf
    refine Ev.step (fun k => laws_FnFalls.l1.eq_2 _ _ _ _ _ _ _ _ _ _ _ k) (Ev.neg (by omega) (Ev.pos ?_ hgo))
    rcases hf with hf | ⟨w, hw, _⟩
    · exact hf
    · rw [List.drop_of_length_le (by omega)] at hw; cases hw
  | succ m ih =>
    intro j f hj hf
    have hlt : j < d.cache.length := by omega
    have hw : wrap64 ((j : Int) + 1) = ((j + 1 : Nat) : Int) := by rw [w64 (n := (j : Int) + 1) (by omega) (by omega), cast_succ]
    have he : rd_T54 d.cache (j : Int) = d.cache[j] := getD_nat d.cache _ hlt
    have hx : rd_L1 x.secs (i : Int) = x.secs.getD i [] := by unfold rd_L1; rw [Int.toNat_natCast]
    cases f with
    | true =>
      refine Ev.step (fun k => laws_FnFalls.l1.eq_2 _ _ _ _ _ _ _ _ _ _ _ k) (Ev.pos (by omega) (Ev.pos rfl ?_))
      rw [hw]
      exact ih (j + 1) true (by omega) (.inl rfl)
    | false =>
      rcases hf with hf | ⟨w, hwm, h1, h2⟩
      · cases hf
      rw [List.drop_eq_getElem_cons hlt] at hwm
      refine Ev.step (fun k => laws_FnFalls.l1.eq_2 _ _ _ _ _ _ _ _ _ _ _ k) (Ev.pos (by omega) (Ev.neg (by simp) (Ev.pos (by omega) ?_)))
      rw [he, hw, hx]
      by_cases hn : d.cache[j].f0 = (i : Int)
      · obtain ⟨t, ht, ht2⟩ := same_some (x.secs.getD i []) d.cache[j].f1
        refine Ev.pos hn (Ev.pos (by omega) (Ev.pos (by omega) (Ev.then ht (ih (j + 1) t (by omega) ?_))))
        rcases List.mem_cons.1 hwm with rfl | hwm
        · exact .inl (ht2 h2)
        · exact .inr ⟨w, hwm, h1, h2⟩
      · refine Ev.neg hn (ih (j + 1) false (by omega) (.inr ?_))
        rcases List.mem_cons.1 hwm with rfl | hwm
        · exact absurd h1 hn
        · exact ⟨w, hwm, h1, h2⟩
theorem falls_l0 (d : Dk) (hu : Up d) (k : Int) (m : Nat) : ∀ (i : Nat), i + m = d.secs.length →
    Ev (fun q => laws_FnFalls.l0 q (i : Int) d.secs d.cache d.fuse d.down (fallDisk d k).secs (fallDisk d k).cache (fallDisk d k).fuse (fallDisk d k).down) true := by
  have hx := fallDisk_ok hu.ok k
  have hxf := fallDisk_fits hu.fits k
  have hl : (fallDisk d k).secs.length = d.secs.length := by rw [fallDisk_yes hu.ok]; exact apb_length _ _ _ _
  have hc : (fallDisk d k).cache = [] := by rw [fallDisk_yes hu.ok]
  have hs40 := hu.ok.1.2
  induction m with
  | zero =>
    intro i hi
    have e255 : fallDisk (fallDisk d k) 255 = fallDisk d k := by
      rw [fallDisk_synced hx hc]
      rw [fallDisk_yes hu.ok]
    have hf := impl_fallDisk (fallDisk d k) hxf 255
    rw [e255] at hf
    exact Ev.step (fun q => laws_FnFalls.l0.eq_2 _ _ _ _ _ _ _ _ _ q) (Ev.neg (by omega) (Ev.bind hf (Ev.bind (sameDisk _ hxf) (Ev.pos rfl (Ev.bind (impl_diskOk _ hxf.1 hxf.2.2.1) (Ev.done ((diskOk_iff _).2 hx)))))))
  | succ m ih =>
    intro i hi
    have hlt : i < d.secs.length := by omega
    have hxx : rd_L1 (fallDisk d k).secs (i : Int) = (fallDisk d k).secs.getD i [] := by unfold rd_L1; rw [Int.toNat_natCast]
    have hdd : rd_L1 d.secs (i : Int) = d.secs.getD i [] := by unfold rd_L1; rw [Int.toNat_natCast]
    have hgo := ih (i + 1) (by omega)
    have hw : wrap64 ((i : Int) + 1) = ((i + 1 : Nat) : Int) := by rw [w64 (n := (i : Int) + 1) (by omega) (by omega), cast_succ]
    rw [← hw] at hgo
    obtain ⟨t, ht, ht2⟩ := same_some ((fallDisk d k).secs.getD i []) (d.secs.getD i [])
    refine Ev.step (fun q => laws_FnFalls.l0.eq_2 _ _ _ _ _ _ _ _ _ q) (Ev.pos (by omega) (Ev.pos (by omega) (Ev.pos (by omega) ?_)))
    rw [hxx, hdd]
    refine Ev.then ht (falls_l1 d (fallDisk d k) hu.ok.2.1 hl i hlt hgo d.cache.length 0 t (by omega) ?_)
    have hm : (fallDisk d k).secs = apb (keepOf k) 0 d.secs d.cache := by rw [fallDisk_yes hu.ok]
    rcases apb_mem (keepOf k) d.cache (fun x hx => (hu.ok.2.2.2.2 x hx).1.1) i 0 d.secs hlt with h | ⟨w, h1, h2, h3⟩
    · exact .inl (ht2 (by rw [hm]; exact h))
    · exact .inr ⟨w, by simpa using h1, h2, by rw [hm]; exact h3⟩
theorem FnFalls : laws_FnFalls.Pure := by
  intro l0 _ hl hb
  have hbytes := Bytes.of_wf hb
  suffices h : Ev (fun k => laws_FnFalls.f k l0) true by
    obtain ⟨n, hn⟩ := h
    exact ⟨n, hn n (Nat.le_refl _)⟩
  unfold laws_FnFalls.f
  refine Ev.then (big l0) ?_
  by_cases hbig : (l0.length : Int) > 1048576
  · exact Ev.pos (by simpa using hbig) (Ev.done rfl)
  refine Ev.neg (by simpa using hbig) ?_
  obtain ⟨d, e, hu⟩ := drawDisk l0 (by omega)
  obtain ⟨k, ek, _, _⟩ := at_ l0 hbytes (by omega) 2 (by omega) (by omega)
  obtain ⟨d2, m, e2, hd2⟩ := drawFallDisk l0 (by omega)
  have hd := hu.fits
  refine Ev.bind e (Ev.then ek (Ev.bind (impl_fallDisk d hd k) (Ev.bind e2 (Ev.bind (impl_fallDisk d2 hd2 m) (Ev.bind (spec_fallDisk d2 hd2 m) (Ev.bind (sameDisk _ (fallDisk_fits hd2 m)) (Ev.pos rfl ?_)))))))
  have e3 : fallDisk d k = ⟨apb (keepOf k) 0 d.secs d.cache, [], -1, false⟩ := fallDisk_yes hu.ok
  have hgo := falls_l0 d hu k d.secs.length 0 (by omega)
  rw [e3] at hgo ⊢
  dsimp only [Dk.tuple]
  exact Ev.pos (by simp) (Ev.neg (by simp) (Ev.step (fun q => laws_FnFalls.j0.eq_2 _ _ _ _ _ _ _ _ _ q) (Ev.neg (by simp) hgo)))
end Go.Proofs.Ytkpcieenikmbmaa.Pure
