/- Texts of this seat's claims, put together: Open, DiskMarks, PureFnExactAddRec -/
import Derived.Deep.Slices
import Derived.ChangeArms
import Derived.Lib.Bytes
import Derived.Test.YthkepmicdpgbbaaGreatDoorPkYzB7
import Derived.Test.YthkepmicdpgbbaaGreatDoorPkYzP3
import Derived.Test.YthkepmicdpgbbaaGreatDoorPkYzP5
namespace Go.Proofs.YthkepmicdpgbbaaGreatDoor.Open
set_option linter.unusedVariables false
set_option linter.unusedSimpArgs false
open Go.RowKit Go.Proofs.YthkepmicdpgbbaaGreatDoorW.PrintWords Go.ChangeShapes Go.WideShapes Go.Deep
def Opens {α : Type} (P : Program) (t : TypeId) (d : Kd α) (good : α → Prop) : Prop :=
 ∀ {H : Type} (enc : TypeId × Value → H) (w : World) (base : Nat) (spare : Nat → Bool) (held : Bool) (fuel : Nat) (cs : List Value) (x : DataW H × List MemPlace), DataW.trod enc P w base spare held fuel t cs = some x → ∃ y, d.K w y cs ∧ good y
def FieldsOpen {α : Type} (P : Program) (off : Nat) (fs : List Field) (d : Kd α) (good : α → Prop) : Prop :=
 ∀ {H : Type} (enc : TypeId × Value → H) (w : World) (base : Nat) (spare : Nat → Bool) (held : Bool) (n : Nat) (cs : List Value), (∀ f ∈ fs, ∃ y, DataW.trod enc P w base spare held n f.type ((cs.drop f.offset).take (P.cellsOf f.type)) = some y) → cs.length = off + d.sz → ∃ y, d.K w y (cs.drop off) ∧ good y
section
variable {P : Program} {t e : TypeId} {α β : Type}
theorem Opens.int {k : IntKind} (ht : P.underlying t = some (.int k)) : Opens P t (Kd.int k) (fun n => (Lit.int k n).wf = true) := by
 intro H enc w base spare held fuel cs x h
 obtain ⟨n, rfl, rfl, hw⟩ := DataW.trod_int ht h
 exact ⟨n, rfl, hw⟩
theorem Opens.string (ht : P.underlying t = some .string) : Opens P t Kd.string (fun s => s.size ≤ maxLen) := by
 intro H enc w base spare held fuel cs x h
 obtain ⟨s, rfl, rfl, hw⟩ := DataW.trod_string ht h
 exact ⟨s, rfl, hw⟩
theorem Opens.bool (ht : P.underlying t = some .bool) : Opens P t Kd.bool (fun _ => True) := by
 intro H enc w base spare held fuel cs x h
 obtain ⟨b, rfl, rfl⟩ := DataW.trod_bool ht h
 exact ⟨b, rfl, trivial⟩
theorem Opens.slice {d : Kd α} {good : α → Prop} (e' : Nat) (ht : P.underlying t = some (.slice e)) (hc : P.cellsOf e = d.sz) (he : Opens P e d good) : Opens P t (Kd.slice e' d) (fun l => l.length ≤ maxLen ∧ ∀ x ∈ l, good x) := by
 intro H enc w base spare held fuel cs x h
 rcases open_slice ht h with ⟨rfl, rfl⟩ | ⟨a, len, cap, m, n, D, Pl, rfl, hb, hl, hm, hmm, rfl, hx⟩
 ·exact ⟨[], ⟨none, 0, rfl, Nat.le_refl _, ⟨rfl, by simp, fun h => by simp at h⟩⟩, by simp, fun x hx => by cases hx⟩
 ·have hlm : len ≤ m := by rw [hmm]; split <;> omega
  have each : ∀ i, i < len → ∃ p : α × List Value, (w.cells? base (a.add (i * P.cellsOf e)) (P.cellsOf e)) = some p.2 ∧ d.K w p.1 p.2 ∧ good p.1 := by
   intro i hi
   obtain ⟨c, h1, h2⟩ := hx i (by omega)
   obtain ⟨y, hy, hg⟩ := he enc w base spare held n c _ h2
   exact ⟨(y, c), h1, hy, hg⟩
  have hml : maxLen = 9223372036854775807 := by decide
  rcases Nat.eq_zero_or_pos len with h0 | h0
  ·subst h0
   exact ⟨[], ⟨some a, cap, rfl, Nat.zero_le _, ⟨rfl, by simp, fun h => by simp at h⟩⟩, by simp, fun x hx => by cases hx⟩
  obtain ⟨q0, _⟩ := each 0 h0
  have : Inhabited (α × List Value) := ⟨q0⟩
  obtain ⟨p, hp⟩ := choose_lt each
  have hlen : ((List.range len).map fun i => (p i).1).length = len := by simp
  refine ⟨(List.range len).map fun i => (p i).1, ⟨some a, cap, by rw [hlen], by rw [hlen]; exact hl, ?_⟩, by rw [hlen]; omega, ?_⟩
  ·refine ⟨rfl, by rw [hlen]; omega, fun _ => ⟨a, rfl, fun j q hj => ?_⟩⟩
   have hjl : j < len := by have := (List.getElem?_eq_some_iff.1 hj).1; rwa [hlen] at this
   obtain ⟨h1, h2, h3⟩ := hp j hjl
   have hq : (p j).1 = q := by
    rw [List.getElem?_map, List.getElem?_range hjl] at hj
    simpa using hj
   subst hq
   have hk := World.cells?_some h1
   refine ⟨(p j).2, by rw [hk.2.1, hc], h2, fun i u hu => ?_⟩
   have hi : i < P.cellsOf e := by rw [← hk.2.1]; exact (List.getElem?_eq_some_iff.1 hu).1
   have := hk.2.2 i hi
   rw [hu, hc, Addr.add_add] at this
   exact this
  ·intro y hy
   obtain ⟨i, hi, rfl⟩ := List.mem_map.1 hy
   exact (hp i (List.mem_range.1 hi)).2.2
theorem FieldsOpen.one {a : Kd α} {ga : α → Prop} {f : Field} {off : Nat} (hf : Opens P f.type a ga) (ho : f.offset = off) (hc : P.cellsOf f.type = a.sz) : FieldsOpen P off [f] a ga := by
 intro H enc w base spare held n cs h hl
 obtain ⟨y, hy⟩ := h f (List.mem_singleton.2 rfl)
 rw [ho, hc, List.take_of_length_le (by rw [List.length_drop]; omega)] at hy
 exact hf enc w base spare held n _ _ hy
theorem FieldsOpen.cons {a : Kd α} {b : Kd β} {ga : α → Prop} {gb : β → Prop} {f : Field} {fs : List Field} {off : Nat} (hf : Opens P f.type a ga) (ho : f.offset = off) (hc : P.cellsOf f.type = a.sz) (hfs : FieldsOpen P (off + a.sz) fs b gb) :
  FieldsOpen P off (f :: fs) (Kd.pair a b) (fun x => ga x.1 ∧ gb x.2) := by
 intro H enc w base spare held n cs h hl
 have hl' : cs.length = off + (a.sz + b.sz) := hl
 obtain ⟨y, hy⟩ := h f (List.mem_cons_self ..)
 rw [ho, hc] at hy
 obtain ⟨u, hu, gu⟩ := hf enc w base spare held n _ _ hy
 obtain ⟨v, hv, gv⟩ := hfs enc w base spare held n cs (fun g hg => h g (List.mem_cons_of_mem _ hg)) (by omega)
 refine ⟨(u, v), ⟨(cs.drop off).take a.sz, cs.drop (off + a.sz), ?_, hu, hv⟩, gu, gv⟩
 rw [← List.drop_drop, List.take_append_drop]
theorem Opens.struct {d : Kd α} {good : α → Prop} {fs : Array Field} (f : β → α) (g : α → β) (hg : ∀ y, f (g y) = y) (ht : P.underlying t = some (.struct fs)) (hC : P.cellsOf t = d.sz) (h : FieldsOpen P 0 fs.toList d good) :
  Opens P t (Kd.iso d f) (fun x => good (f x)) := by
 intro H enc w base spare held fuel cs x hx
 obtain ⟨xs, n, _, rfl, hl, hlen, hf⟩ := DataW.trod_struct ht hx
 obtain ⟨y, hy, gy⟩ := h enc w base spare held n cs (fun q hq => by
  obtain ⟨i, hi⟩ := List.getElem?_of_mem hq
  rw [Array.getElem?_toList] at hi
  have hil : i < xs.length := by rw [hlen]; exact (Array.getElem?_eq_some_iff.1 hi).1
  exact ⟨xs[i], by rw [hf i q hi, List.getElem?_eq_getElem hil]⟩) (by omega)
 refine ⟨g y, ?_, by show good (f (g y)); rw [hg]; exact gy⟩
 show d.K w (f (g y)) cs
 rw [hg]
 exact hy
end
end Go.Proofs.YthkepmicdpgbbaaGreatDoor.Open

namespace Go.Proofs.YthkepmicdpgbbaaGreatDoor.Fn
set_option linter.unusedVariables false
set_option linter.unusedSimpArgs false
open Go.RowKit Go.Proofs.YthkepmicdpgbbaaGreatDoorW.PrintWords Go.Proofs.YthkepmicdpgbbaaGreatDoor.P Go.Proofs.YthkepmicdpgbbaaGreatDoor.Base
def totS : List (List Int) → Nat
 | [] => 0
 | x :: xs => x.length + totS xs
def mSS : List (List Int) → Int → List (List Int)
 | [], _ => []
 | x :: xs, c => markB c x.length :: mSS xs (c + x.length)
def totW : List Wr → Nat
 | [] => 0
 | x :: xs => 1 + x.f1.length + totW xs
def mWS : List Wr → Int → List Wr
 | [], _ => []
 | x :: xs, c => ⟨c, markB (c + 1) x.f1.length⟩ :: mWS xs (c + 1 + x.f1.length)
theorem totS_le (n : Nat) : ∀ (l : List (List Int)), (∀ x ∈ l, x.length ≤ n) → totS l ≤ l.length * n
 | [], _ => by simp [totS]
 | x :: xs, h => by
  have := totS_le n xs (fun y hy => h y (List.mem_cons_of_mem _ hy))
  have := h x List.mem_cons_self
  simp only [totS, List.length_cons, Nat.add_mul]
  omega
theorem totW_le (n : Nat) : ∀ (l : List Wr), (∀ x ∈ l, x.f1.length ≤ n) → totW l ≤ l.length * (n + 1)
 | [], _ => by simp [totW]
 | x :: xs, h => by
  have := totW_le n xs (fun y hy => h y (List.mem_cons_of_mem _ hy))
  have := h x List.mem_cons_self
  simp only [totW, List.length_cons, Nat.add_mul]
  omega
theorem rdL_mid (D : List (List Int)) (x : List Int) (R : List (List Int)) : rd_L6 (D ++ x :: R) (D.length : Int) = x := by
 unfold rd_L6
 rw [Int.toNat_natCast, List.getD_eq_getElem?_getD, List.getElem?_append_right (Nat.le_refl _), Nat.sub_self]
 rfl
theorem rdW_mid (D : List Wr) (x : Wr) (R : List Wr) : rd_T109 (D ++ x :: R) (D.length : Int) = x := by
 unfold rd_T109
 rw [Int.toNat_natCast, List.getD_eq_getElem?_getD, List.getElem?_append_right (Nat.le_refl _), Nat.sub_self]
 rfl
theorem set_mid {α : Type} (D : List α) (x y : α) (R : List α) : (D ++ x :: R).set D.length y = D ++ y :: R := by
 rw [List.set_append_right _ _ (Nat.le_refl _), Nat.sub_self]
 rfl
theorem markByteSS_go (R : List (List Int)) : ∀ (D : List (List Int)) (c : Int), 0 ≤ c → c + totS R ≤ 9223372036854775807 → D.length + R.length ≤ 1048576 → Ev (fun k => laws_markByteSS.l0 k (D ++ R) c (D.length : Int)) (c + totS R, D ++ mSS R c) := by
 induction R with
 | nil =>
  intro D c h0 h1 h2
  refine Ev.step (fun k => laws_markByteSS.l0.eq_2 _ _ _ k) (Ev.neg (by simp) (Ev.done ?_))
  simp [totS, mSS]
 | cons x xs ih =>
  intro D c h0 h1 h2
  simp only [totS] at h1
  have hw : wrap64 ((D.length : Int) + 1) = ((D ++ [markB c x.length]).length : Int) := by
   rw [List.length_append, List.length_singleton]
   unfold wrap64
   have : D.length ≤ 1048576 := by omega
   omega
  have := ih (D ++ [markB c x.length]) (c + x.length) (by omega) (by omega) (by simp at h2 ⊢; omega)
  refine Ev.step (fun k => laws_markByteSS.l0.eq_2 _ _ _ k) (Ev.pos (by simp; omega) (Ev.pos (by omega) ?_))
  rw [rdL_mid]
  refine Ev.bind (markByteS x c h0 (by omega)) ?_
  dsimp only
  rw [Int.toNat_natCast, set_mid, hw, show D ++ markB c x.length :: xs = (D ++ [markB c x.length]) ++ xs by simp]
  refine Ev.eq this ?_
  simp only [totS, mSS, List.append_assoc, List.singleton_append]
  congr 1
  omega
theorem markByteSS (l : List (List Int)) (c : Int) (h0 : 0 ≤ c) (h1 : c + totS l ≤ 9223372036854775807) (h2 : l.length ≤ 1048576) : Ev (fun k => laws_markByteSS.f k l c) (c + totS l, mSS l c) := by
 unfold laws_markByteSS.f
 simpa using markByteSS_go l [] c h0 h1 (by simpa using h2)
theorem heldByteSS_go (R : List (List Int)) : ∀ (D : List (List Int)) (c : Int), 0 ≤ c → c + totS R ≤ 9223372036854775807 → D.length + R.length ≤ 1048576 → Ev (fun k => laws_heldByteSS.l0 k (D ++ mSS R c) c (D.length : Int)) (c + totS R) := by
 induction R with
 | nil =>
  intro D c h0 h1 h2
  refine Ev.step (fun k => laws_heldByteSS.l0.eq_2 _ _ _ k) (Ev.neg (by simp [mSS]) (Ev.done ?_))
  simp [totS]
 | cons x xs ih =>
  intro D c h0 h1 h2
  simp only [totS] at h1
  have hw : wrap64 ((D.length : Int) + 1) = ((D ++ [markB c x.length]).length : Int) := by
   rw [List.length_append, List.length_singleton]
   unfold wrap64
   have : D.length ≤ 1048576 := by omega
   omega
  have := ih (D ++ [markB c x.length]) (c + x.length) (by omega) (by omega) (by simp at h2 ⊢; omega)
  simp only [mSS]
  refine Ev.step (fun k => laws_heldByteSS.l0.eq_2 _ _ _ k) (Ev.pos (by simp; omega) (Ev.pos (by omega) ?_))
  rw [rdL_mid]
  refine Ev.bind (heldByteS x.length c h0 (by omega)) (Ev.neg (by omega) ?_)
  rw [hw, show D ++ markB c x.length :: mSS xs (c + x.length) = (D ++ [markB c x.length]) ++ mSS xs (c + x.length) by simp]
  refine Ev.eq this ?_
  simp only [totS]
  omega
theorem heldByteSS (l : List (List Int)) (c : Int) (h0 : 0 ≤ c) (h1 : c + totS l ≤ 9223372036854775807) (h2 : l.length ≤ 1048576) : Ev (fun k => laws_heldByteSS.f k (mSS l c) c) (c + totS l) := by
 unfold laws_heldByteSS.f
 simpa using heldByteSS_go l [] c h0 h1 (by simpa using h2)
theorem markWrS_go (R : List Wr) : ∀ (D : List Wr) (c : Int), 0 ≤ c → c + totW R ≤ 9223372036854775807 → D.length + R.length ≤ 1048576 → Ev (fun k => laws_markWrS.l0 k (D ++ R) c (D.length : Int)) (c + totW R, D ++ mWS R c) := by
 induction R with
 | nil =>
  intro D c h0 h1 h2
  refine Ev.step (fun k => laws_markWrS.l0.eq_2 _ _ _ k) (Ev.neg (by simp) (Ev.done ?_))
  simp [totW, mWS]
 | cons x xs ih =>
  intro D c h0 h1 h2
  simp only [totW] at h1
  have hw : wrap64 ((D.length : Int) + 1) = ((D ++ [(⟨c, markB (c + 1) x.f1.length⟩ : Wr)]).length : Int) := by
   rw [List.length_append, List.length_singleton]
   unfold wrap64
   have : D.length ≤ 1048576 := by omega
   omega
  have hc1 : wrap64 (c + 1) = c + 1 := by unfold wrap64; omega
  have := ih (D ++ [⟨c, markB (c + 1) x.f1.length⟩]) (c + 1 + x.f1.length) (by omega) (by omega) (by simp at h2 ⊢; omega)
  refine Ev.step (fun k => laws_markWrS.l0.eq_2 _ _ _ k) (Ev.pos (by simp; omega) (Ev.pos (by omega) ?_))
  rw [rdW_mid, hc1]
  refine Ev.bind (markByteS x.f1 (c + 1) (by omega) (by omega)) ?_
  dsimp only
  rw [Int.toNat_natCast, set_mid, set_mid, hw, show D ++ (⟨c, markB (c + 1) x.f1.length⟩ : Wr) :: xs = (D ++ [⟨c, markB (c + 1) x.f1.length⟩]) ++ xs by simp]
  refine Ev.eq this ?_
  simp only [totW, mWS, List.append_assoc, List.singleton_append]
  congr 1
  omega
theorem markWrS (l : List Wr) (c : Int) (h0 : 0 ≤ c) (h1 : c + totW l ≤ 9223372036854775807) (h2 : l.length ≤ 1048576) : Ev (fun k => laws_markWrS.f k l c) (c + totW l, mWS l c) := by
 unfold laws_markWrS.f
 simpa using markWrS_go l [] c h0 h1 (by simpa using h2)
theorem heldWrS_go (R : List Wr) : ∀ (D : List Wr) (c : Int), 0 ≤ c → c + totW R ≤ 9223372036854775807 → D.length + R.length ≤ 1048576 → Ev (fun k => laws_heldWrS.l0 k (D ++ mWS R c) c (D.length : Int)) (c + totW R) := by
 induction R with
 | nil =>
  intro D c h0 h1 h2
  refine Ev.step (fun k => laws_heldWrS.l0.eq_2 _ _ _ k) (Ev.neg (by simp [mWS]) (Ev.done ?_))
  simp [totW]
 | cons x xs ih =>
  intro D c h0 h1 h2
  simp only [totW] at h1
  have hw : wrap64 ((D.length : Int) + 1) = ((D ++ [(⟨c, markB (c + 1) x.f1.length⟩ : Wr)]).length : Int) := by
   rw [List.length_append, List.length_singleton]
   unfold wrap64
   have : D.length ≤ 1048576 := by omega
   omega
  have hc1 : wrap64 (c + 1) = c + 1 := by unfold wrap64; omega
  have := ih (D ++ [⟨c, markB (c + 1) x.f1.length⟩]) (c + 1 + x.f1.length) (by omega) (by omega) (by simp at h2 ⊢; omega)
  simp only [mWS]
  refine Ev.step (fun k => laws_heldWrS.l0.eq_2 _ _ _ k) (Ev.pos (by simp; omega) (Ev.pos (by omega) ?_))
  rw [rdW_mid, hc1]
  refine Ev.pos rfl (Ev.bind (heldByteS x.f1.length (c + 1) (by omega) (by omega)) (Ev.neg (by omega) ?_))
  rw [hw, show D ++ (⟨c, markB (c + 1) x.f1.length⟩ : Wr) :: mWS xs (c + 1 + x.f1.length) = (D ++ [⟨c, markB (c + 1) x.f1.length⟩]) ++ mWS xs (c + 1 + x.f1.length) by simp]
  refine Ev.eq this ?_
  simp only [totW]
  omega
theorem heldWrS (l : List Wr) (c : Int) (h0 : 0 ≤ c) (h1 : c + totW l ≤ 9223372036854775807) (h2 : l.length ≤ 1048576) : Ev (fun k => laws_heldWrS.f k (mWS l c) c) (c + totW l) := by
 unfold laws_heldWrS.f
 simpa using heldWrS_go l [] c h0 h1 (by simpa using h2)
theorem fits_tot {d : Dk} (hd : Fits d) : (totS d.secs : Int) ≤ 1099511627776 ∧ (totW d.cache : Int) ≤ 1099512676352 := by
 have h1 := totS_le 1048576 d.secs (fun x hx => (hd.2.1 x hx).1)
 have h2 := totW_le 1048576 d.cache (fun x hx => (hd.2.2.2 x hx).1)
 have h3 := hd.1
 have h4 := hd.2.2.1
 have h5 : d.secs.length * 1048576 ≤ 1048576 * 1048576 := Nat.mul_le_mul_right _ h3
 have h6 : d.cache.length * (1048576 + 1) ≤ 1048576 * (1048576 + 1) := Nat.mul_le_mul_right _ h4
 omega
def marksD (d : Dk) : Int := 1 + totS d.secs + totW d.cache
theorem marksD_le {d : Dk} (hd : Fits d) : 1 ≤ marksD d ∧ marksD d ≤ 4611686018427387904 := by
 have := fits_tot hd
 unfold marksD
 omega
theorem markDisk (d : Dk) (hd : Fits d) : Ev (fun k => laws_markDisk.f k d.secs d.cache d.fuse d.down 1) (marksD d, mSS d.secs 1, mWS d.cache (1 + totS d.secs)) := by
 unfold laws_markDisk.f
 have ht := fits_tot hd
 exact Ev.bind (markByteSS d.secs 1 (by omega) (by omega) hd.1) (Ev.bind (markWrS d.cache (1 + totS d.secs) (by omega) (by omega) hd.2.2.1) (Ev.done rfl))
theorem heldDisk (d : Dk) (hd : Fits d) (f : Int) (b : Bool) : Ev (fun k => laws_heldDisk.f k (mSS d.secs 1) (mWS d.cache (1 + totS d.secs)) f b 1) (marksD d) := by
 unfold laws_heldDisk.f
 have ht := fits_tot hd
 exact Ev.bind (heldByteSS d.secs 1 (by omega) (by omega) hd.1) (Ev.neg (by omega) (Ev.bind (heldWrS d.cache (1 + totS d.secs) (by omega) (by omega) hd.2.2.1) (Ev.neg (by omega) (Ev.done rfl))))
theorem toDiskT (secs : List (List Int)) (cache : List LWr) (fuse : Int) (down : Bool) (hs : secs.length ≤ 1048576 ∧ ∀ x ∈ secs, x.length ≤ 1048576) (hc : cache.length ≤ 1048576 ∧ ∀ x ∈ cache, x.f1.length ≤ 1048576) :
  Ev (fun k => laws_toDiskT.f k secs cache fuse down) (secs, cache.map wrOf, fuse, down) := by
 simp only [laws_toDiskT.eq]
 exact toDisk secs cache fuse down hs hc
end Go.Proofs.YthkepmicdpgbbaaGreatDoor.Fn

namespace Go.Proofs.YthkepmicdpgbbaaGreatDoor.Pure
set_option linter.unusedVariables false
set_option linter.unusedSimpArgs false
set_option linter.unusedVariables false
set_option linter.unusedSimpArgs false
open Go.RowKit Go.Proofs.YthkepmicdpgbbaaGreatDoorW.PrintWords Go.Proofs.YthkepmicdpgbbaaGreatDoor.P Go.Proofs.YthkepmicdpgbbaaGreatDoor.Base Go.Proofs.YthkepmicdpgbbaaGreatDoor.Fn
theorem FnExactAddRec : laws_FnExactAddRec.Pure := by
 rintro secs cache fuse down kind n ow s ⟨hs, hgs⟩ ⟨hc, hgc⟩ hf hk hn how hsz
 refine Ev.rounds ?_
 unfold laws_FnExactAddRec.f
 obtain ⟨r, e, h1, h2⟩ := szDisk secs cache fuse down 1048576 ⟨hs, fun x hx => (hgs x hx).1⟩ ⟨hc, fun x hx => (hgc x hx).2.1⟩ (by omega) (by omega)
 refine Ev.bind e ?_
 by_cases h : r < 0
 ·exact Ev.pos h (Ev.done rfl)
 refine Ev.neg h ?_
 obtain ⟨r2, e2, h4⟩ := szRec kind n ow s r hsz (by omega) (by omega)
 refine Ev.then e2 ?_
 by_cases h5 : r2 < 0
 ·exact Ev.pos h5 (Ev.done rfl)
 have h3 := h2 (by omega)
 have hss := h4 (by omega)
 have hd := fits_of fuse down hgs hgc h3
 have td := toDisk secs cache fuse down h3.1 h3.2
 have tt := toDiskT secs cache fuse down h3.1 h3.2
 generalize hD : (⟨secs, cache.map wrOf, fuse, down⟩ : Dk) = d at hd
 have e0 : (secs, cache.map wrOf, fuse, down) = d.tuple := by rw [← hD]; rfl
 rw [e0] at td tt
 have hM := marksD_le hd
 have tr := toRec kind n ow s
 have sp := spec_addRec d hd ⟨kind, n, ow, s⟩ hss
 have im := impl_addRec d hd ⟨kind, n, ow, s⟩ hss
 have hx := addRec_fits hd ⟨kind, n, ow, s⟩
 have hX := marksD_le hx
 have hq : ((addRecOk d ⟨kind, n, ow, s⟩ != addRecOk d ⟨kind, n, ow, s⟩) = true) = False := by simp
 have hq' : ¬ (addRecOk d ⟨kind, n, ow, s⟩ != addRecOk d ⟨kind, n, ow, s⟩) = true := by simp
 refine Ev.neg h5 (Ev.bind td (Ev.then tr (Ev.bind sp (Ev.bind tt (Ev.then tr (Ev.bind im (Ev.bind (eqDisk_same _ hx) (Ev.pos rfl (Ev.neg hq' (Ev.bind td (Ev.bind (eqDisk_same d hd) (Ev.pos rfl (Ev.bind (markDisk d hd) ?_)))))))))))))
 refine Ev.neg (by dsimp only; omega) (Ev.bind (eqDisk_same _ hx) (Ev.pos rfl (Ev.neg hq' (Ev.bind (markDisk _ hx) (Ev.bind (heldDisk _ hx _ _) (Ev.neg (by omega) (Ev.pos rfl ?_)))))))
 exact Ev.bind td (Ev.then tr (Ev.bind im (Ev.bind (eqDisk_same _ hx) (Ev.pos rfl (Ev.neg hq' (Ev.bind (heldDisk _ hx _ _) (Ev.neg (by omega) (Ev.pos rfl (Ev.done rfl)))))))))
end Go.Proofs.YthkepmicdpgbbaaGreatDoor.Pure
