/- How an argument that reads as data is opened, whatever its type (numbers, bools, texts, slices and structs of these): it is a value of the print's kind. No function of the program is in sight here. -/
import Derived.Test.YtldfehmaophfjaaDoorWWords
import Derived.Deep.Slices
import Derived.ChangeArms
namespace Go.Proofs.YtldfehmaophfjaaDoor.Open
set_option linter.unusedVariables false
set_option linter.unusedSimpArgs false
open Go.RowKit Go.Proofs.YtldfehmaophfjaaDoorW.PrintWords Go.ChangeShapes Go.WideShapes Go.Deep

/-- What reads as data of type t is a value of the kind d, of which 'good' holds. -/
def Opens {α : Type} (P : Program) (t : TypeId) (d : Kd α) (good : α → Prop) : Prop :=
  ∀ {H : Type} (enc : TypeId × Value → H) (w : World) (base : Nat) (spare : Nat → Bool) (held : Bool) (fuel : Nat) (cs : List Value) (x : DataW H × List MemPlace), DataW.trod enc P w base spare held fuel t cs = some x → ∃ y, d.K w y cs ∧ good y
def FieldsOpen {α : Type} (P : Program) (off : Nat) (fs : List Field) (d : Kd α) (good : α → Prop) : Prop :=
  ∀ {H : Type} (enc : TypeId × Value → H) (w : World) (base : Nat) (spare : Nat → Bool) (held : Bool) (n : Nat) (cs : List Value), (∀ f ∈ fs, ∃ y, DataW.trod enc P w base spare held n f.type ((cs.drop f.offset).take (P.cellsOf f.type)) = some y) → cs.length = off + d.sz → ∃ y, d.K w y (cs.drop off) ∧ good y
section
variable {P : Program} {t e : TypeId} {α β : Type}
theorem Opens.int {k : IntKind} (ht : P.underlying t = some (.int k)) : Opens P t (Kd.int k) (fun n => (Lit.int k n).wf = true) := by
  intro H enc w base spare held fuel cs x h
  obtain ⟨n, rfl, rfl, hw⟩ := DataW.trod_int ht h
  exact ⟨n, rfl, hw⟩
theorem Opens.string (ht : P.underlying t = some .string) : Opens P t Kd.string (fun s => s.size ≤ maxLen) := by
  intro H enc w base spare held fuel cs x h
  obtain ⟨s, rfl, rfl, hw⟩ := DataW.trod_string ht h
  exact ⟨s, rfl, hw⟩
theorem Opens.bool (ht : P.underlying t = some .bool) : Opens P t Kd.bool (fun _ => True) := by
  intro H enc w base spare held fuel cs x h
  obtain ⟨b, rfl, rfl⟩ := DataW.trod_bool ht h
  exact ⟨b, rfl, trivial⟩
theorem Opens.slice {d : Kd α} {good : α → Prop} (e' : Nat) (ht : P.underlying t = some (.slice e)) (hc : P.cellsOf e = d.sz) (he : Opens P e d good) : Opens P t (Kd.slice e' d) (fun l => l.length ≤ maxLen ∧ ∀ x ∈ l, good x) := by
  intro H enc w base spare held fuel cs x h
  rcases open_slice ht h with ⟨rfl, rfl⟩ | ⟨a, len, cap, m, n, D, Pl, rfl, hb, hl, hm, hmm, rfl, hx⟩
  · exact ⟨[], ⟨none, 0, rfl, Nat.le_refl _, ⟨rfl, by simp, fun h => by simp at h⟩⟩, by simp, fun x hx => by cases hx⟩
  · have hlm : len ≤ m := by rw [hmm]; split <;> omega
    have each : ∀ i, i < len → ∃ p : α × List Value, (w.cells? base (a.add (i * P.cellsOf e)) (P.cellsOf e)) = some p.2 ∧ d.K w p.1 p.2 ∧ good p.1 := by
      intro i hi
      obtain ⟨c, h1, h2⟩ := hx i (by omega)
      obtain ⟨y, hy, hg⟩ := he enc w base spare held n c _ h2
      exact ⟨(y, c), h1, hy, hg⟩
    have hml : maxLen = 9223372036854775807 := by decide
    rcases Nat.eq_zero_or_pos len with h0 | h0
    · subst h0
      exact ⟨[], ⟨some a, cap, rfl, Nat.zero_le _, ⟨rfl, by simp, fun h => by simp at h⟩⟩, by simp, fun x hx => by cases hx⟩
    obtain ⟨q0, _⟩ := each 0 h0
    have : Inhabited (α × List Value) := ⟨q0⟩
    obtain ⟨p, hp⟩ := choose_lt each
    have hlen : ((List.range len).map fun i => (p i).1).length = len := by simp
    refine ⟨(List.range len).map fun i => (p i).1, ⟨some a, cap, by rw [hlen], by rw [hlen]; exact hl, ?_⟩, by rw [hlen]; omega, ?_⟩
    · refine ⟨rfl, by rw [hlen]; omega, fun _ => ⟨a, rfl, fun j q hj => ?_⟩⟩
      have hjl : j < len := by have := (List.getElem?_eq_some_iff.1 hj).1; rwa [hlen] at this
      obtain ⟨h1, h2, h3⟩ := hp j hjl
      have hq : (p j).1 = q := by
        rw [List.getElem?_map, List.getElem?_range hjl] at hj
        simpa using hj
      subst hq
      have hk := World.cells?_some h1
      refine ⟨(p j).2, by rw [hk.2.1, hc], h2, fun i u hu => ?_⟩
      have hi : i < P.cellsOf e := by rw [← hk.2.1]; exact (List.getElem?_eq_some_iff.1 hu).1
      have := hk.2.2 i hi
      rw [hu, hc, Addr.add_add] at this
      exact this
    · intro y hy
      obtain ⟨i, hi, rfl⟩ := List.mem_map.1 hy
      exact (hp i (List.mem_range.1 hi)).2.2
theorem FieldsOpen.one {a : Kd α} {ga : α → Prop} {f : Field} {off : Nat} (hf : Opens P f.type a ga) (ho : f.offset = off) (hc : P.cellsOf f.type = a.sz) : FieldsOpen P off [f] a ga := by
  intro H enc w base spare held n cs h hl
  obtain ⟨y, hy⟩ := h f (List.mem_singleton.2 rfl)
  rw [ho, hc, List.take_of_length_le (by rw [List.length_drop]; omega)] at hy
  exact hf enc w base spare held n _ _ hy
theorem FieldsOpen.cons {a : Kd α} {b : Kd β} {ga : α → Prop} {gb : β → Prop} {f : Field} {fs : List Field} {off : Nat} (hf : Opens P f.type a ga) (ho : f.offset = off) (hc : P.cellsOf f.type = a.sz) (hfs : FieldsOpen P (off + a.sz) fs b gb) :
    FieldsOpen P off (f :: fs) (Kd.pair a b) (fun x => ga x.1 ∧ gb x.2) := by
  intro H enc w base spare held n cs h hl
  have hl' : cs.length = off + (a.sz + b.sz) := hl
  obtain ⟨y, hy⟩ := h f (List.mem_cons_self ..)
  rw [ho, hc] at hy
  obtain ⟨u, hu, gu⟩ := hf enc w base spare held n _ _ hy
  obtain ⟨v, hv, gv⟩ := hfs enc w base spare held n cs (fun g hg => h g (List.mem_cons_of_mem _ hg)) (by omega)
  refine ⟨(u, v), ⟨(cs.drop off).take a.sz, cs.drop (off + a.sz), ?_, hu, hv⟩, gu, gv⟩
  rw [← List.drop_drop, List.take_append_drop]
theorem Opens.struct {d : Kd α} {good : α → Prop} {fs : Array Field} (f : β → α) (g : α → β) (hg : ∀ y, f (g y) = y) (ht : P.underlying t = some (.struct fs)) (hC : P.cellsOf t = d.sz) (h : FieldsOpen P 0 fs.toList d good) :
    Opens P t (Kd.iso d f) (fun x => good (f x)) := by
  intro H enc w base spare held fuel cs x hx
  obtain ⟨xs, n, _, rfl, hl, hlen, hf⟩ := DataW.trod_struct ht hx
  obtain ⟨y, hy, gy⟩ := h enc w base spare held n cs (fun q hq => by
    obtain ⟨i, hi⟩ := List.getElem?_of_mem hq
    rw [Array.getElem?_toList] at hi
    have hil : i < xs.length := by rw [hlen]; exact (Array.getElem?_eq_some_iff.1 hi).1
    exact ⟨xs[i], by rw [hf i q hi, List.getElem?_eq_getElem hil]⟩) (by omega)
  refine ⟨g y, ?_, by show good (f (g y)); rw [hg]; exact gy⟩
  show d.K w (f (g y)) cs
  rw [hg]
  exact hy
end
end Go.Proofs.YtldfehmaophfjaaDoor.Open
