/- Texts of this claim, put together: EvM, EvN, EvO, EvP, EvQ, EvR, EvS, EvT, EvW, EvU, EvV, EvX, EvY0, WEqStruct, EvZ, WLast, WApart, WArr, WFoot, WKept, WShare, WN, WRepsOne, WInv, WMore, Px0, Pxd -/
import Derived.Test.YthkepmicdpgbbaaGreatDoorPackFnRecs1
import Derived.Laws.StructEq
import Derived.Test.YthkepmicdpgbbaaGreatDoorProg
import Derived.Test.YthkepmicdpgbbaaGreatDoorChecked
import Derived.KernelRfl
import Derived.OrdersHeld
import Derived.Deep.RegionHeld3
import Derived.Laws.BitsLemmas
import Derived.RowKit
import Derived.Below
import Derived.Deep.Draws
import Derived.Deep.AppendLies
import Derived.Maps.AppendAt
import Derived.OwnWalk
import Derived.Laws.BytesArg
import Derived.Laws.MakeOwn
import Derived.Laws.OwnMore
import Derived.Deep.OwnRows
import Derived.Tactics
import Derived.Lib.ConvBytes
import Derived.Laws.Slices
import Derived.WalkKit
import Derived.RowKit3
import Derived.Deep.LoopGhost
import Derived.Deep.QuietTactic
import Derived.BigQuiet
import Derived.WideLaws
import Derived.Deep.DeepCutAuto
import Derived.Deep.CutBlock
import Derived.Laws.Rows
import Derived.Lib.AppendStr
import Derived.ArgAppend
import Derived.Laws.IdiomCopy
import Derived.Lib.LazyBuf
/- A call comes to what is told of it. -/
namespace Go.Proofs.YthkepmicdpgbbaaGreatDoor.E
open Go Go.RowKit Go.Proofs.YthkepmicdpgbbaaGreatDoorW.PrintWords
set_option linter.unusedVariables false
set_option linter.unusedSimpArgs false

theorem idx_some : ∀ {l : List Nat} {i j : Nat}, idx l i = some j → l[j]? = some i
  | [], i, j, h => by cases h
  | x :: r, i, j, h => by
    unfold idx at h
    cases hb : Nat.beq x i with
    | true =>
      rw [hb] at h
      injection h with h
      subst h
      simp [Nat.eq_of_beq_eq_true hb]
    | false =>
      rw [hb, cond_false] at h
      obtain ⟨k, h1, rfl⟩ := Option.map_eq_some_iff.1 h
      simpa using idx_some h1
theorem idx_mem : ∀ {l : List Nat} {i : Nat}, i ∈ l → ∃ j, idx l i = some j
  | [], i, h => by cases h
  | x :: r, i, h => by
    unfold idx
    cases hb : Nat.beq x i with
    | true => exact ⟨0, rfl⟩
    | false =>
      have hne : i ≠ x := fun e => by
        subst e
        rw [show Nat.beq i i = true from Nat.beq_refl i] at hb
        cases hb
      rcases List.mem_cons.1 h with h | h
      · exact absurd h hne
      · obtain ⟨j, hj⟩ := idx_mem h
        exact ⟨j + 1, by simp [hj]⟩
theorem idx_of : ∀ {l : List Nat} {i j : Nat}, nodup l = true → l[j]? = some i → idx l i = some j
  | [], i, j, _, h => by simp at h
  | x :: r, i, 0, hn, h => by
    simp at h
    subst h
    unfold idx
    rw [show Nat.beq x x = true from Nat.beq_refl x]
    rfl
  | x :: r, i, j + 1, hn, h => by
    simp only [nodup, Bool.and_eq_true, Bool.not_eq_true', List.contains_eq_mem, decide_eq_false_iff_not] at hn
    have h' : r[j]? = some i := by simpa using h
    have hne : x ≠ i := fun e => hn.1 (by subst e; exact List.mem_of_getElem? h')
    unfold idx
    cases hb : Nat.beq x i with
    | true => exact absurd (Nat.eq_of_beq_eq_true hb) hne
    | false => simp [idx_of hn.2 h']
theorem idx_lt {l : List Nat} {i j : Nat} (h : idx l i = some j) : j < l.length := (List.getElem?_eq_some_iff.1 (idx_some h)).1

theorem pickB_len {m : Nat → Option Nat} {h : List Blk} : ∀ {l : List Nat} {bin : List Blk}, pickB m h l = some bin → len bin = l.length
  | [], bin, e => by
    simp only [pickB, Option.some.injEq] at e
    subst e
    rfl
  | i :: r, bin, e => by
    unfold pickB at e
    split at e
    · rename_i B l hb hl
      injection e with e
      subst e
      simp [len, pickB_len hl]
    · cases e
theorem pickB_at {m : Nat → Option Nat} {h : List Blk} : ∀ {l : List Nat} {bin : List Blk} {j i : Nat}, pickB m h l = some bin → l[j]? = some i → ∃ B, nthB h i = some B ∧ nthB bin j = some (renB m B)
  | [], bin, j, i, e, hj => by simp at hj
  | x :: r, bin, j, i, e, hj => by
    unfold pickB at e
    split at e
    · rename_i B l hb hl
      injection e with e
      subst e
      cases j with
      | zero =>
        simp at hj
        subst hj
        exact ⟨B, hb, rfl⟩
      | succ j =>
        obtain ⟨C, h1, h2⟩ := pickB_at (j := j) hl (by simpa using hj)
        exact ⟨C, h1, by simpa [nthB] using h2⟩
    · cases e

theorem unfz_at : ∀ {bin : List Blk} {j sz ty : Nat} {els : List (List CV)}, unfz bin = true → nthB bin j = some (.arr sz ty true els) → False
  | [], _, _, _, _, _, e => by cases e
  | .arr _ _ true _ :: r, j, _, _, _, h, _ => by simp [unfz] at h
  | .arr _ _ false _ :: r, 0, _, _, _, _, e => by simp [nthB] at e
  | .arr _ _ false _ :: r, j + 1, _, _, _, h, e => unfz_at (bin := r) (j := j) (by simpa [unfz] using h) (by simpa [nthB] using e)
  | .box _ _ :: r, 0, _, _, _, _, e => by simp [nthB] at e
  | .box _ _ :: r, j + 1, _, _, _, h, e => unfz_at (bin := r) (j := j) (by simpa [unfz] using h) (by simpa [nthB] using e)

/-- A relation of numbers under which all that is told stays told. -/
structure Ren (m : Nat → Option Nat) (G G' : Gh) (w : World) : Prop where
  imm : ∀ b o, w.heap[b]? = some o → G.imm b → G'.imm b
  own : ∀ i j b, m i = some j → G.own b = some i → G'.own b = some j
  inf : ∀ i j r, m i = some j → G.inf i = some r → G'.inf j = some r

section
variable {m : Nat → Option Nat} {G G' : Gh} {w : World}
theorem Ren.immw (h : Ren m G G' w) : ∀ b o, w.heap[b]? = some o → G.imm b → G'.imm b ∧ w.heap[b]? = some o := fun b o h1 h2 => ⟨h.imm b o h1 h2, h1⟩
theorem Ren.ownV (h : Ren m G G' w) {i j n : Nat} {v : Value} (hm : m i = some j) (r : OwnV G w i n v) : OwnV G' w j n v := by
  obtain ⟨sz, k, f, h1, h2, h3, h4⟩ := r
  refine ⟨sz, k, f, h.inf i j _ hm h1, h2, h3, ?_⟩
  rcases h4 with h4 | ⟨h4, h5 | ⟨b, c, cs, ty, h6, h7, h8⟩⟩
  · exact .inl h4
  · exact .inr ⟨h4, .inl h5⟩
  · exact .inr ⟨h4, .inr ⟨b, c, cs, ty, h6, h.own i j b hm h7, h8⟩⟩
theorem Ren.eptrV (h : Ren m G G' w) {i j n e o : Nat} {v : Value} (hm : m i = some j) (r : EptrV G w i n e o v) : EptrV G' w j n e o v := by
  obtain ⟨sz, k, f, h1, h3, h4⟩ := r
  refine ⟨sz, k, f, h.inf i j _ hm h1, h3, ?_⟩
  rcases h4 with h4 | ⟨h4, b, h6, h7⟩
  · exact .inl h4
  · exact .inr ⟨h4, b, h6, h.own i j b hm h7⟩
mutual
theorem Reps.ren (h : Ren m G G' w) : ∀ (p : PV) (v : Value), Reps G w p v → Reps G' w (renP m p) v
  | .v c, v, r => by
    simp only [renP, Reps] at r ⊢
    exact RepC.mono h.immw c v r
  | .nil, v, r => by simpa only [renP, Reps] using r
  | .own i n, v, r => by
    simp only [Reps] at r
    simp only [renP]
    cases hm : m i with
    | none => simp only [Reps]
    | some j =>
      simp only [Reps]
      exact h.ownV hm r
  | .ptr i o, v, r => by
    simp only [Reps] at r
    simp only [renP]
    cases hm : m i with
    | none => simp only [Reps]
    | some j =>
      simp only [Reps]
      exact h.eptrV hm r
  | .eptr i n e o, v, r => by
    simp only [Reps] at r
    simp only [renP]
    cases hm : m i with
    | none => simp only [Reps]
    | some j =>
      simp only [Reps]
      exact h.eptrV hm r
  | .rptr cs, v, r => by
    simp only [renP, Reps] at r ⊢
    obtain ⟨b, o, vs, ty, fr, h1, h2, h3, h4⟩ := r
    exact ⟨b, o, vs, ty, fr, h1, h.imm b _ h3 h2, h3, RepP.mono h.immw cs _ h4⟩
  | .agg cs, v, r => by
    simp only [renP, Reps] at r ⊢
    obtain ⟨vs, h1, h2⟩ := r
    exact ⟨vs, h1, RepsL.ren h cs _ h2⟩
  | .tup cs, v, r => by
    simp only [renP, Reps] at r ⊢
    obtain ⟨vs, h1, h2⟩ := r
    exact ⟨vs, h1, RepsL.ren h cs _ h2⟩
  | .un, v, r => by simp only [renP, Reps]
theorem RepsL.ren (h : Ren m G G' w) : ∀ (l : List PV) (vs : List Value), RepsL G w l vs → RepsL G' w (renL m l) vs
  | [], vs, r => by simpa only [renL, RepsL] using r
  | p :: ps, vs, r => by
    simp only [renL, RepsL] at r ⊢
    obtain ⟨v, vs', h1, h2, h3⟩ := r
    exact ⟨v, vs', h1, Reps.ren h p v h2, RepsL.ren h ps vs' h3⟩
end
theorem renL_length (m : Nat → Option Nat) : ∀ l : List PV, (renL m l).length = l.length
  | [] => rfl
  | p :: r => by simp [renL, renL_length m r]
theorem RelB.ren (h : Ren m G G' w) {i j : Nat} (hm : m i = some j) (hinj : ∀ b, G'.own b = some j → G.own b = some i) : ∀ {B : Blk}, RelB G w i (some B) → RelB G' w j (some (renB m B))
  | .arr sz ty fz els, r => by
    obtain ⟨r1, r2, r3, r4⟩ := r
    refine ⟨h.inf i j _ hm r1, r2, fun b b' e e' => r3 b b' (hinj b e) (hinj b' e'), ?_⟩
    rcases r4 with ⟨a, b⟩ | ⟨b, cs, a1, a2, a3, a4⟩
    · exact .inl ⟨a, fun x e => b x (hinj x e)⟩
    · exact .inr ⟨b, cs, h.own i j b hm a1, a2, a3, RepE.mono h.immw sz els _ a4⟩
  | .box ty cs, r => by
    obtain ⟨r1, r2, b, vs, a1, a2, a3, a4⟩ := r
    refine ⟨by rw [renL_length]; exact h.inf i j _ hm r1, fun b b' e e' => r2 b b' (hinj b e) (hinj b' e'), b, vs, h.own i j b hm a1, a2, a3, RepsL.ren h cs _ a4⟩
end

/-! ### the callee's numbers and the caller's -/
def Gh.callee (G : Gh) (w : World) (rf fs : List Nat) : Gh where
  base := w.heap.size
  old := fun b => G.imm b ∨ ∃ id ∈ fs, G.own b = some id
  own := fun b => (G.own b).bind (idx rf)
  inf := fun j => (rf[j]?).bind G.inf

section
variable {G : Gh} {w : World} {rf fs : List Nat}
theorem callee_inv (hi : Inv G w) : Inv (G.callee w rf fs) w where
  base := Nat.le_refl _
  own := fun b j h => by
    simp only [Gh.callee] at h
    obtain ⟨i, h1, _⟩ := Option.bind_eq_some_iff.1 h
    exact hi.own b i h1
  gw := by
    obtain ⟨w0, g1, g2, g3⟩ := hi.gw
    exact ⟨w0, g1, g2, fun b hb => by simp only [Gh.callee, g3 b hb, Option.bind_none]⟩

theorem callee_imm (hi : Inv G w) (hf : ∀ id ∈ rf, ∀ sz n, G.inf id ≠ some (sz, n, true)) : ∀ b o, w.heap[b]? = some o → G.imm b → (G.callee w rf fs).imm b := by
  intro b o hb m
  have hlt : b < w.heap.size := (Array.getElem?_eq_some_iff.1 hb).1
  refine .inl ⟨hlt, ?_, .inl m⟩
  simp only [Gh.callee]
  rcases m with ⟨_, h, _⟩ | ⟨_, h⟩ | ⟨id, sz, n, h, h2⟩
  · rw [h]; rfl
  · rw [h]; rfl
  · rw [h, Option.bind_some]
    cases hx : idx rf id with
    | none => rfl
    | some j => exact absurd h2 (hf id (List.mem_of_getElem? (idx_some hx)) sz n)

theorem callee_ren (hi : Inv G w) (hf : ∀ id ∈ rf, ∀ sz n, G.inf id ≠ some (sz, n, true)) : Ren (idx rf) G (G.callee w rf fs) w where
  imm := callee_imm hi hf
  own := fun i j b h1 h2 => by simp only [Gh.callee]; rw [h2]; exact h1
  inf := fun i j r h1 h2 => by simp only [Gh.callee]; rw [idx_some h1]; exact h2

theorem callee_rel (hi : Inv G w) (hf : ∀ id ∈ rf, ∀ sz n, G.inf id ≠ some (sz, n, true)) (hn : nodup rf = true) {h bin : List Blk} (hp : pickB (idx rf) h rf = some bin) (hr : ∀ id ∈ rf, RelB G w id (nthB h id)) :
    ∀ j, RelB (G.callee w rf fs) w j (nthB bin j) := by
  intro j
  cases hj : rf[j]? with
  | none =>
    have hlen := pickB_len hp
    have hge : rf.length ≤ j := List.getElem?_eq_none_iff.1 hj
    rw [nthB_ge bin j (by omega)]
    refine ⟨by simp only [Gh.callee]; rw [hj]; rfl, fun b e => ?_⟩
    simp only [Gh.callee] at e
    obtain ⟨i, _, h2⟩ := Option.bind_eq_some_iff.1 e
    have := idx_some h2
    rw [hj] at this
    cases this
  | some i =>
    obtain ⟨B, h1, h2⟩ := pickB_at hp hj
    rw [h2]
    have r := hr i (List.mem_of_getElem? hj)
    rw [h1] at r
    refine RelB.ren (callee_ren hi hf) (idx_of hn hj) (fun b e => ?_) r
    simp only [Gh.callee] at e
    obtain ⟨i', h3, h4⟩ := Option.bind_eq_some_iff.1 e
    have := idx_some h4
    rw [hj] at this
    injection this with this
    subst this
    exact h3

theorem passC_ok {h : List Blk} {p : PV} {R : PV → List Nat → Prop} (hk : passC h rf p R) : ∃ q f, R q f ∧ (∀ id ∈ f, id ∉ rf ∧ IsArr (nthB h id)) ∧ ∀ (G : Gh) (w : World) (v : Value) (F : List Nat), Inv G w → (∀ id ∈ rf, ∀ sz n, G.inf id ≠ some (sz, n, true)) → Reps G w p v →
    (∀ id ∈ f, RelB G w id (nthB h id)) → (∀ id ∈ f, id ∈ F) → Reps (G.callee w rf F) w q v := by
  unfold passC at hk
  split at hk
  · rename_i c
    exact ⟨_, _, hk, (fun id hid => by cases hid), fun G w v F hi hf hr _ _ => Reps.ren (callee_ren hi hf) (.v c) v hr⟩
  · refine ⟨_, _, hk, (fun id hid => by cases hid), fun G w v F hi hf hr _ _ => ?_⟩
    simp only [Reps] at hr
    subst hr
    simp only [Reps, RepC]
    exact ⟨none, 0, by simp, by simp, by simp [maxLen], by simp⟩
  · rename_i i n
    cases hx : idx rf i with
    | some j =>
      rw [hx] at hk
      refine ⟨_, _, hk, (fun id hid => by cases hid), fun G w v F hi hf hr _ _ => ?_⟩
      have := Reps.ren (callee_ren (fs := F) hi hf) (.own i n) v hr
      simp only [renP, hx] at this
      exact this
    | none =>
      rw [hx] at hk
      simp only at hk
      split at hk
      · rename_i sz ty fz els hb
        obtain ⟨hn, hk⟩ := hk
        refine ⟨_, _, hk, fun id hid => ?_, fun G w v F hi hf hr hrel hF => ?_⟩
        · simp only [List.mem_singleton] at hid
          subst hid
          refine ⟨fun hm => ?_, by rw [hb]; trivial⟩
          obtain ⟨j, hj⟩ := idx_mem hm
          rw [hj] at hx
          cases hx
        have r := hrel i (by simp)
        rw [hb] at r
        simp only [Reps]
        refine own_row (callee_imm hi hf) (fun b hb' => ?_) r hn hr
        refine .inl ⟨hi.own b i hb', ?_, .inr ⟨i, hF i (by simp), hb'⟩⟩
        simp only [Gh.callee]
        rw [hb', Option.bind_some, hx]
      · exact hk.elim
  · rename_i i o
    cases hx : idx rf i with
    | none => rw [hx] at hk; exact hk.elim
    | some j =>
      rw [hx] at hk
      refine ⟨_, _, hk, (fun id hid => by cases hid), fun G w v F hi hf hr _ _ => ?_⟩
      have := Reps.ren (callee_ren (fs := F) hi hf) (.ptr i o) v hr
      simp only [renP, hx] at this
      exact this
  · exact hk.elim

theorem passCs_ok {h : List Blk} : ∀ {ps : List PV} {R : List PV → List Nat → Prop}, passCs h rf ps R → ∃ qs f, R qs f ∧ (∀ id ∈ f, id ∉ rf ∧ IsArr (nthB h id)) ∧ ∀ (G : Gh) (w : World) (vs : List Value) (F : List Nat), Inv G w → (∀ id ∈ rf, ∀ sz n, G.inf id ≠ some (sz, n, true)) → RepsL G w ps vs →
    (∀ id ∈ f, RelB G w id (nthB h id)) → (∀ id ∈ f, id ∈ F) → RepsL (G.callee w rf F) w qs vs
  | [], R, hk => ⟨[], [], hk, (fun id hid => by cases hid), fun G w vs F _ _ hr _ _ => by simpa only [RepsL] using hr⟩
  | p :: r, R, hk => by
    simp only [passCs] at hk
    obtain ⟨q, f, hk, g1, h1⟩ := passC_ok hk
    obtain ⟨qs, fs, hk, g2, h2⟩ := passCs_ok hk
    refine ⟨_, _, hk, (fun id hid => (List.mem_append.1 hid).elim (g1 id) (g2 id)), fun G w vs F hi hf hr hrel hF => ?_⟩
    simp only [RepsL] at hr ⊢
    obtain ⟨v, vs', rfl, h3, h4⟩ := hr
    exact ⟨v, vs', rfl, h1 G w v F hi hf h3 (fun id hid => hrel id (List.mem_append_left _ hid)) (fun id hid => hF id (List.mem_append_left _ hid)),
      h2 G w vs' F hi hf h4 (fun id hid => hrel id (List.mem_append_right _ hid)) (fun id hid => hF id (List.mem_append_right _ hid))⟩

theorem passA_ok {h : List Blk} : ∀ {ps : List PV} {R : List PV → List Nat → Prop}, passA h rf ps R → ∃ qs f, R qs f ∧ (∀ id ∈ f, id ∉ rf ∧ IsArr (nthB h id)) ∧ ∀ (G : Gh) (w : World) (vs : List Value) (F : List Nat), Inv G w → (∀ id ∈ rf, ∀ sz n, G.inf id ≠ some (sz, n, true)) → RepsL G w ps vs →
    (∀ id ∈ f, RelB G w id (nthB h id)) → (∀ id ∈ f, id ∈ F) → RepsL (G.callee w rf F) w qs vs
  | [], R, hk => ⟨[], [], hk, (fun id hid => by cases hid), fun G w vs F _ _ hr _ _ => by simpa only [RepsL] using hr⟩
  | p :: r, R, hk => by
    have one : passC h rf p (fun q f => passA h rf r fun qs fs => R (q :: qs) (f ++ fs)) → ∃ qs f, R qs f ∧ (∀ id ∈ f, id ∉ rf ∧ IsArr (nthB h id)) ∧ ∀ (G : Gh) (w : World) (vs : List Value) (F : List Nat), Inv G w → (∀ id ∈ rf, ∀ sz n, G.inf id ≠ some (sz, n, true)) → RepsL G w (p :: r) vs →
        (∀ id ∈ f, RelB G w id (nthB h id)) → (∀ id ∈ f, id ∈ F) → RepsL (G.callee w rf F) w qs vs := fun hk => by
      obtain ⟨q, f, hk, g1, h1⟩ := passC_ok hk
      obtain ⟨qs, fs, hk, g2, h2⟩ := passA_ok hk
      refine ⟨_, _, hk, (fun id hid => (List.mem_append.1 hid).elim (g1 id) (g2 id)), fun G w vs F hi hf hr hrel hF => ?_⟩
      simp only [RepsL] at hr ⊢
      obtain ⟨v, vs', rfl, h3, h4⟩ := hr
      exact ⟨v, vs', rfl, h1 G w v F hi hf h3 (fun id hid => hrel id (List.mem_append_left _ hid)) (fun id hid => hF id (List.mem_append_left _ hid)),
        h2 G w vs' F hi hf h4 (fun id hid => hrel id (List.mem_append_right _ hid)) (fun id hid => hF id (List.mem_append_right _ hid))⟩
    cases p with
    | agg cs =>
      simp only [passA] at hk
      obtain ⟨q, f, hk, g1, h1⟩ := passCs_ok hk
      obtain ⟨qs, fs, hk, g2, h2⟩ := passA_ok hk
      refine ⟨_, _, hk, (fun id hid => (List.mem_append.1 hid).elim (g1 id) (g2 id)), fun G w vs F hi hf hr hrel hF => ?_⟩
      simp only [RepsL] at hr ⊢
      obtain ⟨v, vs', rfl, h3, h4⟩ := hr
      simp only [Reps] at h3
      obtain ⟨us, rfl, h5⟩ := h3
      refine ⟨_, vs', rfl, ?_, h2 G w vs' F hi hf h4 (fun id hid => hrel id (List.mem_append_right _ hid)) (fun id hid => hF id (List.mem_append_right _ hid))⟩
      simp only [Reps]
      exact ⟨us, rfl, h1 G w _ F hi hf h5 (fun id hid => hrel id (List.mem_append_left _ hid)) (fun id hid => hF id (List.mem_append_left _ hid))⟩
    | _ =>
      simp only [passA] at hk
      exact one hk
end
end Go.Proofs.YthkepmicdpgbbaaGreatDoor.E

/- A call comes to what is told of it: back in the caller. -/
namespace Go.Proofs.YthkepmicdpgbbaaGreatDoor.E
open Go Go.RowKit Go.Proofs.YthkepmicdpgbbaaGreatDoorW.PrintWords
set_option linter.unusedVariables false
set_option linter.unusedSimpArgs false

def Gh.back (G Gc : Gh) (w : World) (rf fz : List Nat) (m k : Nat) : Gh where
  base := G.base
  old := G.old
  own := fun b => match Gc.own b with
    | some j => backId rf m j
    | none => if b < w.heap.size ∧ (G.own b).bind (idx rf) = none then G.own b else none
  inf := fun i => match idx rf i with
    | some j => Gc.inf j
    | none => if m ≤ i ∧ i < m + k then Gc.inf (len rf + (i - m)) else if i ∈ fz then (G.inf i).map (fun r => (r.1, r.2.1, true)) else G.inf i

theorem mem_range' : ∀ (n m x : Nat), x ∈ range' m n ↔ m ≤ x ∧ x < m + n
  | 0, m, x => by
    simp [range']
    try omega
  | n + 1, m, x => by
    simp only [range', List.mem_cons, mem_range' n (m + 1) x]
    omega

theorem putBs_len (μ : Nat → Option Nat) : ∀ (rf : List Nat) (h bl : List Blk), rf.length ≤ bl.length → (putBs h μ rf bl).length = h.length + (bl.length - rf.length)
  | [], h, bl, _ => by cases bl <;> simp [putBs]
  | i :: r, h, [], hl => by simp at hl
  | i :: r, h, B :: l, hl => by
    simp only [putBs]
    rw [putBs_len μ r _ l (by simpa using hl)]
    have := len_putB h i (renB μ B)
    rw [len_eq, len_eq] at this
    rw [this]
    simp
theorem nthB_eq : ∀ (h : List Blk) (i : Nat), nthB h i = h[i]?
  | [], _ => rfl
  | _ :: _, 0 => rfl
  | _ :: r, n + 1 => by simpa [nthB] using nthB_eq r n
theorem putBs_out (μ : Nat → Option Nat) : ∀ (rf : List Nat) (h bl : List Blk) (x : Nat), rf.length ≤ bl.length → x ∉ rf → x < h.length → nthB (putBs h μ rf bl) x = nthB h x
  | [], h, bl, x, _, _, hx => by
    have : putBs h μ [] bl = h ++ bl.map (renB μ) := by cases bl <;> rfl
    rw [this]
    exact nthB_append h _ x (by rw [len_eq]; exact hx)
  | i :: r, h, [], x, hl, _, _ => by simp at hl
  | i :: r, h, B :: l, x, hl, hn, hx => by
    simp only [List.mem_cons, not_or] at hn
    simp only [putBs]
    have h1 := len_putB h i (renB μ B)
    rw [len_eq, len_eq] at h1
    rw [putBs_out μ r _ l x (by simpa using hl) hn.2 (by omega)]
    exact nthB_putB_ne h i x _ hn.1
theorem putBs_ref (μ : Nat → Option Nat) : ∀ (rf : List Nat) (h bl : List Blk) (j i : Nat) (B : Blk), rf.length ≤ bl.length → nodup rf = true → (∀ x ∈ rf, x < h.length) → rf[j]? = some i → nthB bl j = some B → nthB (putBs h μ rf bl) i = some (renB μ B)
  | [], h, bl, j, i, B, _, _, _, hj, _ => by simp at hj
  | x :: r, h, [], j, i, B, hl, _, _, _, _ => by simp at hl
  | x :: r, h, C :: l, 0, i, B, hl, hn, hx, hj, hB => by
    simp only [nodup, Bool.and_eq_true, Bool.not_eq_true', List.contains_eq_mem, decide_eq_false_iff_not] at hn
    simp at hj
    subst hj
    simp only [nthB, Option.some.injEq] at hB
    subst hB
    simp only [putBs]
    have h1 := len_putB h x (renB μ C)
    rw [len_eq, len_eq] at h1
    have h2 := hx x (by simp)
    rw [putBs_out μ r _ l x (by simpa using hl) hn.1 (by omega)]
    have h3 : ∃ D, nthB h x = some D := ⟨h[x], by rw [nthB_eq]; simp [h2]⟩
    obtain ⟨D, h3⟩ := h3
    exact nthB_putB_same _ h3
  | x :: r, h, C :: l, j + 1, i, B, hl, hn, hx, hj, hB => by
    simp only [nodup, Bool.and_eq_true] at hn
    simp only [putBs]
    have h1 := len_putB h x (renB μ C)
    rw [len_eq, len_eq] at h1
    exact putBs_ref μ r _ l j i B (by simpa using hl) hn.2 (fun y hy => by rw [h1]; exact hx y (by simp [hy])) (by simpa using hj) hB
theorem putBs_new (μ : Nat → Option Nat) : ∀ (rf : List Nat) (h bl : List Blk) (x : Nat) (B : Blk), rf.length ≤ bl.length → h.length ≤ x → nthB bl (rf.length + (x - h.length)) = some B → nthB (putBs h μ rf bl) x = some (renB μ B)
  | [], h, bl, x, B, _, hx, hB => by
    have : putBs h μ [] bl = h ++ bl.map (renB μ) := by cases bl <;> rfl
    rw [this, nthB_eq, List.getElem?_append_right hx, List.getElem?_map]
    rw [nthB_eq] at hB
    simp only [List.length_nil, Nat.zero_add] at hB
    rw [hB]
    rfl
  | i :: r, h, [], x, B, hl, _, _ => by simp at hl
  | i :: r, h, C :: l, x, B, hl, hx, hB => by
    simp only [putBs]
    have h1 := len_putB h i (renB μ C)
    rw [len_eq, len_eq] at h1
    refine putBs_new μ r _ l x B (by simpa using hl) (by omega) ?_
    rw [h1]
    have e : (i :: r).length + (x - h.length) = (r.length + (x - h.length)) + 1 := by simp; omega
    rw [e] at hB
    simpa [nthB] using hB

section
variable {G Gc : Gh} {w w' : World} {rf fs fz ids : List Nat} {h bin bl : List Blk} {m k : Nat}

theorem back_ext (hi : Inv G w) (hn : nodup rf = true) (hm : ∀ x ∈ rf, x < m) (hf : ∀ id ∈ rf, ∀ sz n, G.inf id ≠ some (sz, n, true)) (hfz : ∀ x ∈ fz, x ∉ rf) (hnew : ∀ i, m ≤ i → i < m + k → G.inf i = none ∧ ∀ b, G.own b ≠ some i)
    (hk : ∀ j, rf.length + k ≤ j → ∀ b, Gc.own b ≠ some j)
    (X : Ext ids (G.callee w rf fs) w Gc w') : Ext (rf ++ fz ++ range' m k) G w (G.back Gc w rf fz m k) w' := by
  have cown : ∀ b, (G.callee w rf fs).own b = (G.own b).bind (idx rf) := fun _ => rfl
  have hbk : ∀ {i j}, idx rf i = some j → backId rf m j = some i := fun {i j} hx => by
    unfold backId
    rw [idx_some hx]
  have hfar : ∀ b id, G.own b = some id → id ∉ rf → (G.callee w rf fs).own b = none := fun b id h0 hid => by
    rw [cown, h0, Option.bind_some]
    cases hx : idx rf id with
    | none => rfl
    | some j => exact absurd (List.mem_of_getElem? (idx_some hx)) hid
  have hkeep : ∀ b id, G.own b = some id → id ∉ rf → (G.back Gc w rf fz m k).own b = some id ∧ w'.heap[b]? = w.heap[b]? := fun b id h0 hid => by
    have hlt := hi.own b id h0
    have h1 := hfar b id h0 hid
    obtain ⟨h2, h3⟩ := X.nn b hlt h1
    refine ⟨?_, h3⟩
    simp only [Gh.back]
    rw [h2]
    simp only
    rw [if_pos ⟨hlt, by rw [← cown]; exact h1⟩]
    exact h0
  have hidx : ∀ {i}, i ∉ rf → idx rf i = none := fun {i} hid => by
    cases hx : idx rf i with
    | none => rfl
    | some j => exact absurd (List.mem_of_getElem? (idx_some hx)) hid
  constructor
  · exact X.os
  · exact X.tape
  · exact X.output
  · exact X.size
  · rfl
  · rfl
  · intro b hb h0
    have h1 : (G.callee w rf fs).own b = none := by rw [cown, h0]; rfl
    obtain ⟨h2, h3⟩ := X.nn b hb h1
    refine ⟨?_, h3⟩
    simp only [Gh.back]
    rw [h2]
    simp only
    rw [if_pos ⟨hb, by rw [← cown]; exact h1⟩]
    exact h0
  · intro b id h0
    by_cases hid : id ∈ rf
    · refine ⟨fun hx => absurd (by simp [hid]) hx, ?_⟩
      obtain ⟨j, hj⟩ := idx_mem hid
      have h1 : (G.callee w rf fs).own b = some j := by rw [cown, h0]; exact hj
      rcases (X.sm b j h1).2 with h2 | h2
      · left
        simp only [Gh.back]
        rw [h2]
        exact hbk hj
      · right
        simp only [Gh.back]
        rw [h2]
        simp only
        rw [if_neg]
        intro hx
        rw [← cown, h1] at hx
        cases hx.2
    · obtain ⟨a, b⟩ := hkeep b id h0 hid
      exact ⟨fun _ => ⟨a, b⟩, .inl a⟩
  · intro b id cs ty h0 h1 hinf hc
    by_cases hid : id ∈ rf
    · obtain ⟨j, hj⟩ := idx_mem hid
      have h2 : (G.callee w rf fs).own b = some j := by rw [cown, h0]; exact hj
      have h3 : Gc.own b = some j := by
        rcases (X.sm b j h2).2 with h3 | h3
        · exact h3
        · exfalso
          simp only [Gh.back] at h1
          rw [h3] at h1
          simp only at h1
          rw [if_neg] at h1
          · cases h1
          · intro hx
            rw [← cown, h2] at hx
            cases hx.2
      obtain ⟨sz, n, f, f', i1, i2⟩ := hinf
      refine X.same b j cs ty h2 h3 ⟨sz, n, f, f', ?_, ?_⟩ hc
      · simp only [Gh.callee]
        rw [idx_some hj]
        exact i1
      · simp only [Gh.back] at i2
        rw [hj] at i2
        exact i2
    · exact ⟨cs, (hkeep b id h0 hid).2.trans hc, rfl⟩
  · intro b id sz n h0 hfr
    have hid : id ∉ rf := fun hid => hf id hid sz n hfr
    exact hkeep b id h0 hid
  · intro id sz n f hinf
    by_cases hid : id ∈ rf
    · obtain ⟨j, hj⟩ := idx_mem hid
      have h1 : (G.callee w rf fs).inf j = some (sz, n, f) := by simp only [Gh.callee]; rw [idx_some hj]; exact hinf
      obtain ⟨n', f', a1, a2, a3, a4⟩ := X.inf j sz n f h1
      refine ⟨n', f', by simp only [Gh.back]; rw [hj]; exact a1, a2, a3, fun e b hb => ?_⟩
      have h2 : (G.callee w rf fs).own b = some j := by rw [cown, hb]; exact hj
      have h3 := a4 e b h2
      simp only [Gh.back]
      rw [h3]
      exact hbk hj
    · by_cases hr : m ≤ id ∧ id < m + k
      · rw [(hnew id hr.1 hr.2).1] at hinf
        cases hinf
      · by_cases hz : id ∈ fz
        · refine ⟨n, true, ?_, Nat.le_refl _, fun _ => ⟨rfl, rfl⟩, fun _ b hb => (hkeep b id hb hid).1⟩
          simp only [Gh.back]
          rw [hidx hid]
          simp only
          rw [if_neg hr, if_pos hz, hinf]
          rfl
        · refine ⟨n, f, ?_, Nat.le_refl _, fun e => ⟨e, rfl⟩, fun _ b hb => (hkeep b id hb hid).1⟩
          simp only [Gh.back]
          rw [hidx hid]
          simp only
          rw [if_neg hr, if_neg hz, hinf]
  · intro id hx
    simp only [List.mem_append, not_or, mem_range'] at hx
    simp only [Gh.back]
    rw [hidx hx.1.1]
    simp only
    rw [if_neg hx.2, if_neg hx.1.2]
  · intro b id hb h1
    simp only [Gh.back] at h1
    cases hc : Gc.own b with
    | none =>
      rw [hc] at h1
      simp only at h1
      rw [if_neg (fun hx => by omega)] at h1
      cases h1
    | some j =>
      rw [hc] at h1
      simp only [backId] at h1
      cases hj : rf[j]? with
      | some i =>
        rw [hj] at h1
        injection h1 with h1
        subst h1
        simp [List.mem_of_getElem? hj]
      | none =>
        rw [hj] at h1
        injection h1 with h1
        subst h1
        have hge : rf.length ≤ j := List.getElem?_eq_none_iff.1 hj
        have hjk : j < rf.length + k := by
          rcases Nat.lt_or_ge j (rf.length + k) with h' | h'
          · exact h'
          · exact absurd hc (hk j h' b)
        rw [len_eq]
        simp only [List.mem_append, mem_range']
        right
        omega
  · intro b id h1
    simp only [Gh.back] at h1
    cases hc : Gc.own b with
    | some j => exact X.keep b j hc
    | none =>
      rw [hc] at h1
      simp only at h1
      split at h1
      · rename_i hx
        exact Nat.lt_of_lt_of_le hx.1 X.size
      · cases h1

theorem back_inf (hn : nodup rf = true) (hm : ∀ x ∈ rf, x < m) (hk : ∀ j, rf.length + k ≤ j → Gc.inf j = none) : ∀ j i r, backId rf m j = some i → Gc.inf j = some r → (G.back Gc w rf fz m k).inf i = some r := by
  intro j i r h1 h2
  simp only [backId] at h1
  simp only [Gh.back]
  cases hj : rf[j]? with
  | some x =>
    rw [hj] at h1
    injection h1 with h1
    subst h1
    rw [idx_of hn hj]
    exact h2
  | none =>
    rw [hj] at h1
    injection h1 with h1
    subst h1
    have hge : rf.length ≤ j := List.getElem?_eq_none_iff.1 hj
    rw [len_eq]
    have hno : idx rf (m + (j - rf.length)) = none := by
      cases hx : idx rf (m + (j - rf.length)) with
      | none => rfl
      | some q => exact absurd (hm _ (List.mem_of_getElem? (idx_some hx))) (by omega)
    have hjk : j < rf.length + k := by
      rcases Nat.lt_or_ge j (rf.length + k) with h' | h'
      · exact h'
      · rw [hk j h'] at h2
        cases h2
    rw [hno]
    simp only
    rw [if_pos ⟨by omega, by omega⟩, show rf.length + (m + (j - rf.length) - m) = j by omega]
    exact h2

theorem back_ren (hi : Inv G w) (hf : ∀ id ∈ rf, ∀ sz n, G.inf id ≠ some (sz, n, true)) (hn : nodup rf = true) (hm : ∀ x ∈ rf, x < m) (hfz : ∀ x ∈ fz, x ∉ rf) (hfs : ∀ x ∈ fs, x ∉ rf) (hnf : ∀ x ∈ fs, ¬ (m ≤ x ∧ x < m + k)) (hlive : ∀ x ∈ fs, ∃ r, G.inf x = some r)
    (hk : ∀ j, rf.length + k ≤ j → Gc.inf j = none) (X : Ext ids (G.callee w rf fs) w Gc w') (hXX : Ext (rf ++ fz ++ range' m k) G w (G.back Gc w rf fz m k) w') (hsub : ∀ x ∈ fs, x ∈ fz) :
    Ren (backId rf m) Gc (G.back Gc w rf fz m k) w' where
  imm := fun b o hb mm => by
    rcases mm with ⟨h1, h2, h3⟩ | ⟨h1, h2⟩ | ⟨j, sz, n, h1, h2⟩
    · rw [X.base] at h1
      rw [X.old] at h3
      have hlt : b < w.heap.size := h1
      have hcn : (G.own b).bind (idx rf) = none := by
        cases hx : (G.callee w rf fs).own b with
        | none => exact hx
        | some j =>
          have hx' : (G.own b).bind (idx rf) = some j := hx
          obtain ⟨id, q1, q2⟩ := Option.bind_eq_some_iff.1 hx'
          rcases h3 with h3 | ⟨id, hid, h3⟩
          · exfalso
            rcases h3 with ⟨_, h3, _⟩ | ⟨_, h3⟩ | ⟨id', sz, n, h3, h4⟩
            · rw [h3] at q1; cases q1
            · rw [h3] at q1; cases q1
            · rw [h3] at q1
              injection q1 with q1
              subst q1
              exact hf _ (List.mem_of_getElem? (idx_some q2)) sz n h4
          · exfalso
            have : (G.own b).bind (idx rf) = some j := hx
            rw [h3, Option.bind_some] at this
            exact hfs id hid (List.mem_of_getElem? (idx_some this))
      obtain ⟨a1, a2⟩ := X.nn b hlt hcn
      rcases h3 with h3 | ⟨id, hid, h3⟩
      · exact (imm_ext hXX hi (a2 ▸ hb) h3).1
      · refine .inr (.inr ?_)
        obtain ⟨r, hr⟩ := hlive id hid
        refine ⟨id, r.1, r.2.1, ?_, ?_⟩
        · simp only [Gh.back]
          rw [h2]
          simp only
          rw [if_pos ⟨hlt, hcn⟩]
          exact h3
        · simp only [Gh.back]
          have : idx rf id = none := by
            cases hx : idx rf id with
            | none => rfl
            | some j => exact absurd (List.mem_of_getElem? (idx_some hx)) (hfs id hid)
          rw [this]
          simp only
          rw [if_neg (hnf id hid), if_pos (hsub id hid), hr]
          rfl
    · rw [X.base] at h1
      have h1' : w.heap.size ≤ b := h1
      refine .inr (.inl ⟨?_, ?_⟩)
      · have := hi.base
        show G.base ≤ b
        omega
      · simp only [Gh.back]
        rw [h2]
        simp only
        rw [if_neg (fun hx => by omega)]
    · have hb' : ∃ i, backId rf m j = some i := by
        unfold backId
        cases rf[j]? <;> exact ⟨_, rfl⟩
      obtain ⟨i, hi'⟩ := hb'
      refine .inr (.inr ⟨i, sz, n, ?_, back_inf hn hm hk j i _ hi' h2⟩)
      simp only [Gh.back]
      rw [h1]
      exact hi'
  own := fun i j b h1 h2 => by
    simp only [Gh.back]
    rw [h2]
    exact h1
  inf := fun j i r h1 h2 => back_inf hn hm hk j i r h1 h2

theorem back_far (hi : Inv G w) (hm : ∀ x ∈ rf, x < m) {id : Nat} (hid : id ∉ rf) (hlt : id < m) (X : Ext ids (G.callee w rf fs) w Gc w') (b : Nat) : ((G.back Gc w rf fz m k).own b = some id ↔ G.own b = some id) ∧ (G.own b = some id → w'.heap[b]? = w.heap[b]?) := by
  have hcn : G.own b = some id → (G.callee w rf fs).own b = none := fun h0 => by
    show (G.own b).bind (idx rf) = none
    rw [h0, Option.bind_some]
    cases hx : idx rf id with
    | none => rfl
    | some j => exact absurd (List.mem_of_getElem? (idx_some hx)) hid
  refine ⟨⟨fun h1 => ?_, fun h0 => ?_⟩, fun h0 => (X.nn b (hi.own b id h0) (hcn h0)).2⟩
  · simp only [Gh.back] at h1
    cases hc : Gc.own b with
    | some j =>
      rw [hc] at h1
      simp only [backId] at h1
      cases hj : rf[j]? with
      | some i =>
        rw [hj] at h1
        injection h1 with h1
        subst h1
        exact absurd (List.mem_of_getElem? hj) hid
      | none =>
        rw [hj] at h1
        injection h1 with h1
        omega
    | none =>
      rw [hc] at h1
      simp only at h1
      split at h1
      · exact h1
      · cases h1
  · have hb := hi.own b id h0
    simp only [Gh.back]
    rw [(X.nn b hb (hcn h0)).1]
    simp only
    rw [if_pos ⟨hb, hcn h0⟩]
    exact h0

theorem noRow_cells {G1 G2 : Gh} {w1 w2 : World} {μ : Nat → Option Nat} {D : PV → Bool} (hD : ∀ c v, D c = true → Reps G1 w1 c v → Reps G2 w2 (renP μ c) v) : ∀ (l : List PV) (vs : List Value), l.all D = true → RepsL G1 w1 l vs → RepsL G2 w2 (renL μ l) vs
  | [], vs, _, h => by simpa only [renL, RepsL] using h
  | p :: r, vs, hb, h => by
    simp only [List.all_cons, Bool.and_eq_true] at hb
    simp only [renL, RepsL] at h ⊢
    obtain ⟨v, vs', h1, h2, h3⟩ := h
    exact ⟨v, vs', h1, hD p v hb.1 h2, noRow_cells hD r vs' hb.2 h3⟩
theorem noRow_v {G1 G2 : Gh} {w1 w2 : World} {μ : Nat → Option Nat} : ∀ (c : PV) (v : Value), noRow1 c = true → Reps G1 w1 c v → Reps G2 w2 (renP μ c) v
  | .v (.b x), v, _, h => by simpa only [renP, Reps, RepC] using h
  | .v (.i k x), v, _, h => by simpa only [renP, Reps, RepC] using h
  | .v (.s x), v, _, h => by simpa only [renP, Reps, RepC] using h
theorem noRow_2 {G1 G2 : Gh} {w1 w2 : World} {μ : Nat → Option Nat} (c : PV) (v : Value) (hb : noRow2 c = true) (h : Reps G1 w1 c v) : Reps G2 w2 (renP μ c) v := by
  cases c with
  | agg cs =>
    simp only [Reps] at h
    obtain ⟨vs, h1, h2⟩ := h
    simp only [renP, Reps]
    exact ⟨vs, h1, noRow_cells noRow_v cs _ hb h2⟩
  | _ => exact noRow_v _ v hb h
theorem noRow_rep {G1 G2 : Gh} {w1 w2 : World} {μ : Nat → Option Nat} {r : PV} {v : Value} (hb : hasNoRow r = true) (h : Reps G1 w1 r v) : Reps G2 w2 (renP μ r) v := by
  cases r with
  | tup cs =>
    simp only [Reps] at h
    obtain ⟨vs, h1, h2⟩ := h
    simp only [renP, Reps]
    exact ⟨vs, h1, noRow_cells noRow_2 cs _ hb h2⟩
  | _ => exact noRow_2 _ v hb h
end

theorem go_ok {E : Env} {h : List Blk} {K : Kont} {f : FuncId} {args : List PV} (hk : aGo E h f args K) : ∃ q h' rd wr, K q h' rd wr ∧ Keeps h h' wr ∧ len h ≤ len h' ∧ (∀ (as_ : Array Value) (w : World), (callFunc f as_).run E.P w = .ok (.enter f as_) w) ∧
    ∀ (G : Gh) (w : World) (vals : Array Value), Inv G w → RepsL G w args vals.toList → (∀ id, id ∈ rd ∨ id ∈ wr → RelB G w id (nthB h id)) →
      Calls E.P f vals w fun e w' => ∃ v G', e = .returned v ∧ Ext wr G w G' w' ∧ Reps G' w' q v ∧ ∀ id ∈ wr, RelB G' w' id (nthB h' id) := by
  unfold aGo at hk
  simp only at hk
  generalize hrf : refsOf h args = rf at hk
  split at hk
  · exact hk.elim
  rename_i bin hp
  cases hnu : (nodup rf && unfz bin) with
  | false => rw [hnu] at hk; exact hk.elim
  | true =>
  rw [hnu, cond_true] at hk
  rw [Bool.and_eq_true] at hnu
  obtain ⟨hn, hu⟩ := hnu
  obtain ⟨as_, fs, ⟨r, bl, hS, hk⟩, hfs, hpass⟩ := passA_ok hk
  generalize hfz : cond (hasNoRow r && Nat.beq (len bl) 0) [] fs = fz at hk
  cases hcl : ((fz.all fun x => !(rf.contains x)) && Nat.ble (len rf) (len bl)) with
  | false => rw [hcl] at hk; exact hk.elim
  | true =>
  rw [hcl, cond_true] at hk
  rw [Bool.and_eq_true] at hcl
  obtain ⟨hck, hlen⟩ := hcl
  replace hlen := Nat.le_of_ble_eq_true hlen
  rw [len_eq, len_eq] at hlen
  have hm : ∀ x ∈ rf, x < len h := fun x hx => by
    obtain ⟨j, hj⟩ := idx_mem hx
    obtain ⟨B, h1, _⟩ := pickB_at hp (idx_some hj)
    exact nthB_lt h1
  have hfr : ∀ x ∈ fz, x ∉ rf := fun x hx => by
    have := List.all_eq_true.1 hck x hx
    simpa using this
  have hsub : fz = fs ∨ (fz = [] ∧ hasNoRow r = true ∧ bl = []) := by
    cases hb : (hasNoRow r && Nat.beq (len bl) 0) with
    | false => rw [hb] at hfz; exact .inl hfz.symm
    | true =>
      rw [hb] at hfz
      rw [Bool.and_eq_true] at hb
      have := Nat.eq_of_beq_eq_true hb.2
      rw [len_eq] at this
      exact .inr ⟨hfz.symm, hb.1, List.eq_nil_of_length_eq_zero this⟩
  have hfzs : ∀ x ∈ fz, x ∈ fs := fun x hx => by
    rcases hsub with e | ⟨e, _⟩
    · rw [← e]; exact hx
    · rw [e] at hx; cases hx
  have hlenh : (putBs (frz fz h) (backId rf (len h)) rf bl).length = (frz fz h).length + (bl.length - rf.length) := putBs_len _ _ _ _ hlen
  have hfl : (frz fz h).length = h.length := by have := len_frz fz h; rw [len_eq, len_eq] at this; exact this
  have hfslt : ∀ x ∈ fs, x < len h := fun x hx => by
    have a := (hfs x hx).2
    cases hb : nthB h x with
    | none => rw [hb] at a; exact a.elim
    | some B => exact nthB_lt hb
  refine ⟨_, _, _, _, hk, fun x hx => ?_, by rw [len_eq (putBs _ _ _ _), hlenh, hfl, ← len_eq]; omega, hS.1, fun G w vals hi hargs hrel => ?_⟩
  · simp only [List.mem_append, not_or, mem_range', len_eq] at hx
    rcases Nat.lt_or_ge x h.length with hlt | hge
    · rw [putBs_out _ _ _ _ x hlen hx.1.1 (by rw [hfl]; exact hlt), nthB_frz, if_neg hx.1.2]
    · rw [nthB_ge h x (by rw [len_eq]; exact hge), nthB_ge]
      rw [len_eq, hlenh, hfl]
      omega
  have hrr : ∀ id ∈ rf, RelB G w id (nthB h id) := fun id hid => hrel id (.inr (by simp [hid]))
  have hff : ∀ id ∈ rf, ∀ sz n, G.inf id ≠ some (sz, n, true) := fun id hid sz n e => by
    obtain ⟨j, hj⟩ := idx_mem hid
    obtain ⟨B, h1, h2⟩ := pickB_at hp (idx_some hj)
    have r := hrr id hid
    rw [h1] at r
    cases B with
    | box ty cs => rw [r.1] at e; cases e
    | arr sz' ty fz' els =>
      rw [r.1] at e
      injection e with e
      injection e with _ e
      injection e with _ e
      subst e
      exact unfz_at hu h2
  have hfrel : ∀ id ∈ fs, RelB G w id (nthB h id) := fun id hid => hrel id (.inl hid)
  have hnew : ∀ i, len h ≤ i → i < len h + (len bl - len rf) → G.inf i = none ∧ ∀ b, G.own b ≠ some i := fun i h1 h2 => by
    have := hrel i (.inr (by simp only [List.mem_append, mem_range']; right; exact ⟨h1, h2⟩))
    rw [nthB_ge h i h1] at this
    exact this
  have hlive : ∀ x ∈ fs, ∃ r, G.inf x = some r := fun x hx => by
    have a := (hfs x hx).2
    have r := hfrel x hx
    cases hb : nthB h x with
    | none => rw [hb] at a; exact a.elim
    | some B =>
      rw [hb] at a r
      cases B with
      | box _ _ => exact a.elim
      | arr _ _ _ _ => exact ⟨_, r.1⟩
  have ha := hpass G w vals.toList fs hi hff hargs hfrel (fun id hid => hid)
  refine (hS.2 (G.callee w rf fs) w vals (callee_inv hi) ha (callee_rel hi hff hn hp hrr)).mono ?_
  rintro e w' ⟨v, Gc, ids, rfl, X, hv, hbl⟩
  have hkk : len bl - len rf = bl.length - rf.length := by rw [len_eq, len_eq]
  have hnone : ∀ j, rf.length + (len bl - len rf) ≤ j → Gc.inf j = none ∧ ∀ b, Gc.own b ≠ some j := fun j hj => by
    have := hbl j
    rw [nthB_ge bl j (by rw [len_eq]; omega)] at this
    exact this
  have XX := back_ext (fz := fz) (fs := fs) hi hn hm hff hfr hnew (fun j hj => (hnone j hj).2) X
  refine ⟨v, G.back Gc w rf fz (len h) (len bl - len rf), rfl, XX, ?_, ?_⟩
  · rcases hsub with e | ⟨_, e, _⟩
    · refine Reps.ren (back_ren hi hff hn hm hfr (fun x hx => (hfs x hx).1) (fun x hx => ?_) hlive (fun j hj => (hnone j hj).1) X XX (fun x hx => by rw [e]; exact hx)) r v hv
      have := hfslt x hx
      omega
    · exact noRow_rep e hv
  · intro id hid
    rcases hsub with e | ⟨e1, _, e2⟩
    · have RR := back_ren hi hff hn hm hfr (fun x hx => (hfs x hx).1) (fun x hx => by have := hfslt x hx; omega) hlive (fun j hj => (hnone j hj).1) X XX (fun x hx => by rw [e]; exact hx)
      simp only [List.mem_append, mem_range'] at hid
      rcases hid with (hid | hid) | hid
      · obtain ⟨j, hj⟩ := idx_mem hid
        have hj' := idx_some hj
        have hjl : j < bl.length := by have := (List.getElem?_eq_some_iff.1 hj').1; omega
        have hB : nthB bl j = some bl[j] := by rw [nthB_eq]; simp [hjl]
        rw [putBs_ref _ rf _ bl j id bl[j] hlen hn (fun x hx => by rw [hfl, ← len_eq]; exact hm x hx) hj' hB]
        have r := hbl j
        rw [hB] at r
        refine RelB.ren RR (by unfold backId; rw [hj']) (fun b hb => ?_) r
        simp only [Gh.back] at hb
        cases hc : Gc.own b with
        | some j' =>
          rw [hc] at hb
          simp only [backId] at hb
          cases hj2 : rf[j']? with
          | some i' =>
            rw [hj2] at hb
            injection hb with hb
            subst hb
            have := idx_of hn hj2
            rw [hj] at this
            injection this with this
            rw [this]
          | none =>
            rw [hj2] at hb
            injection hb with hb
            have := hm id hid
            omega
        | none =>
          rw [hc] at hb
          simp only at hb
          split at hb
          · rename_i hx
            rw [hb, Option.bind_some, hj] at hx
            cases hx.2
          · cases hb
      · have hlt := hfslt id (hfzs id hid)
        have hnr := hfr id hid
        rw [putBs_out _ _ _ _ id hlen hnr (by rw [hfl, ← len_eq]; exact hlt), nthB_frz, if_pos hid]
        have r := hfrel id (hfzs id hid)
        have a := (hfs id (hfzs id hid)).2
        cases hb : nthB h id with
        | none => rw [hb] at a; exact a.elim
        | some B =>
          rw [hb] at a r
          cases B with
          | box _ _ => exact a.elim
          | arr sz ty fz0 els =>
            obtain ⟨r1, r2, r3, r4⟩ := r
            have far := fun b => back_far (fz := fz) (k := len bl - len rf) hi hm hnr hlt X b
            have hno : idx rf id = none := by
              cases hx : idx rf id with
              | none => rfl
              | some j => exact absurd (List.mem_of_getElem? (idx_some hx)) hnr
            refine ⟨?_, r2, fun b b' e e' => r3 b b' ((far b).1.1 e) ((far b').1.1 e'), ?_⟩
            · simp only [Gh.back]
              rw [hno]
              simp only
              rw [if_neg (by omega), if_pos hid, r1]
              rfl
            · rcases r4 with ⟨a1, a2⟩ | ⟨b, cs, a1, a2, a3, a4⟩
              · exact .inl ⟨a1, fun b e => a2 b ((far b).1.1 e)⟩
              · exact .inr ⟨b, cs, (far b).1.2 a1, ((far b).2 a1).trans a2, a3, RepE.mono (imm_old XX hi) sz els _ a4⟩
      · have hB : ∃ B, nthB bl (rf.length + (id - (frz fz h).length)) = some B := by
          rw [nthB_eq, hfl]
          rw [len_eq] at hid
          exact ⟨bl[rf.length + (id - h.length)]'(by omega), by simp⟩
        obtain ⟨B, hB⟩ := hB
        rw [putBs_new _ rf _ bl id B hlen (by rw [hfl, ← len_eq]; exact hid.1) hB]
        have r := hbl (rf.length + (id - (frz fz h).length))
        rw [hB] at r
        rw [hfl] at r
        refine RelB.ren RR ?_ (fun b hb => ?_) r
        · unfold backId
          rw [List.getElem?_eq_none (by omega), len_eq, len_eq]
          rw [len_eq] at hid
          simp only
          congr 1
          omega
        · simp only [Gh.back] at hb
          cases hc : Gc.own b with
          | some j' =>
            rw [hc] at hb
            simp only [backId] at hb
            cases hj2 : rf[j']? with
            | some i' =>
              rw [hj2] at hb
              injection hb with hb
              subst hb
              have := hm i' (List.mem_of_getElem? hj2)
              omega
            | none =>
              rw [hj2] at hb
              injection hb with hb
              have hge : rf.length ≤ j' := List.getElem?_eq_none_iff.1 hj2
              rw [len_eq, len_eq] at hb
              congr 1
              omega
          | none =>
            rw [hc] at hb
            simp only at hb
            split at hb
            · exact absurd hb ((hnew id hid.1 hid.2).2 b)
            · cases hb
    · subst e2
      simp only [List.length_nil, Nat.le_zero_eq] at hlen
      have : rf = [] := List.eq_nil_of_length_eq_zero hlen
      rw [this, e1] at hid
      simp [range', len] at hid
end Go.Proofs.YthkepmicdpgbbaaGreatDoor.E

/- Each operation comes to what is told of it: all of them. -/
namespace Go.Proofs.YthkepmicdpgbbaaGreatDoor.E
open Go Go.RowKit Go.Proofs.YthkepmicdpgbbaaGreatDoorW.PrintWords
set_option linter.unusedVariables false
set_option linter.unusedSimpArgs false

def OpOk (P : Program) (o : Oper) (s : List PV) (h : List Blk) (q : PV) (h' : List Blk) (rd wr : List Nat) : Prop :=
  ∀ (G : Gh) (a : Act) (w : World), Inv G w → (∀ x ∈ o.op.operands, Reps G w (ev s x) (a.eval x)) → (∀ id, id ∈ rd ∨ id ∈ wr → RelB G w id (nthB h id)) →
    ∀ (J : Act → World → Prop) (Q : Exit → Act → World → Prop), (∀ v G' w', Ext wr G w G' w' → Reps G' w' q v → (∀ id ∈ wr, RelB G' w' id (nthB h' id)) → J (a.put o.dst v) w') → o.wp P a w J Q
def OpRes (P : Program) (h : List Blk) (s : List PV) (o : Oper) (K : Kont) : Prop :=
  ∃ q h' rd wr, K q h' rd wr ∧ Keeps h h' wr ∧ len h ≤ len h' ∧ OpOk P o s h q h' rd wr

section
variable {E : Env} {h : List Blk} {s : List PV} {o : Oper} {K : Kont}

theorem op_of_step {P : Program} {S : Gh → World → Sem Value → Prop} (hst : Step P h S K) (hS : ∀ (G : Gh) (a : Act) (w : World), Inv G w → (∀ x ∈ o.op.operands, Reps G w (ev s x) (a.eval x)) →
    ∃ m, S G w m ∧ ∀ u w', m.run P w = .ok u w' → (execOp a.eval o).run P w = .ok (.value u) w' ∨ ((execOp a.eval o).run P w = .ok .skip w' ∧ u = undef)) : OpRes P h s o K := by
  obtain ⟨q, h', rd, wr, hk, h1, h2, h3⟩ := hst
  refine ⟨q, h', rd, wr, hk, h1, h2, fun G a w hi hx hr J Q hJ => ?_⟩
  obtain ⟨m, hm, hrun⟩ := hS G a w hi hx
  obtain ⟨u, w', G', e1, e2, e3, e4⟩ := h3 G w m hi hm hr
  unfold Oper.wp
  rcases hrun u w' e1 with e | ⟨e, rfl⟩
  · rw [e]
    exact hJ u G' w' e2 e3 e4
  · rw [e]
    exact hJ undef G' w' e2 e3 e4

theorem run_value {P : Program} {m : Sem Value} {u : Value} {w w' : World} (h : m.run P w = .ok u w') : (do pure (Next.value (← m)) : Sem Next).run P w = .ok (.value u) w' := by
  rw [Sem.run_bind, h]
  rfl

theorem map_reps {G : Gh} {w : World} {a : Act} : ∀ (l : List (Nat × Operand)), (∀ x ∈ l.map (·.2), Reps G w (ev s x) (a.eval x)) → RepsL G w ((l.map fun x => (x.1, ev s x.2)).map (·.2)) ((l.map fun x => (x.1, a.eval x.2)).map (·.2))
  | [], _ => by simp [RepsL]
  | x :: r, hx => by
    simp only [List.map_cons, RepsL]
    exact ⟨_, _, rfl, hx x.2 (by simp), map_reps r (fun y hy => hx y (by simp only [List.map_cons, List.mem_cons]; exact .inr hy))⟩
theorem args_reps {G : Gh} {w : World} {a : Act} : ∀ (l : List Operand), (∀ x ∈ l, Reps G w (ev s x) (a.eval x)) → RepsL G w (l.map (ev s)) (l.map a.eval)
  | [], _ => by simp [RepsL]
  | x :: r, hx => by
    simp only [List.map_cons, RepsL]
    exact ⟨_, _, rfl, hx x (by simp), args_reps r (fun y hy => hx y (by simp [hy]))⟩

theorem opt_reps {G : Gh} {w : World} {a : Act} (x : Option Operand) (hx : ∀ y ∈ x.toList, Reps G w (ev s y) (a.eval y)) : OptRep G w (x.map (ev s)) (x.map a.eval) := by
  cases x with
  | none => trivial
  | some y => exact hx y (by simp)

theorem call_ok {c : Call} (ho : o.op = .call c) (hk : aCall E h s c K) : OpRes E.P h s o K := by
  unfold aCall at hk
  split at hk
  · rename_i x y t t2 h1 h2 h3
    refine op_of_step (append_ok (ty := o.type) hk) fun G a w hi hx => ⟨_, ⟨_, _, hx x ?_, hx y ?_, rfl⟩, fun u w' hr => .inl ?_⟩
    · rw [ho]
      have : c.args = #[x, y] := by apply Array.ext'; exact h2
      simp [Op.operands, Call.operands, this]
    · rw [ho]
      have : c.args = #[x, y] := by apply Array.ext'; exact h2
      simp [Op.operands, Call.operands, this]
    · have e2 : c.args = #[x, y] := by apply Array.ext'; exact h2
      have e3 : c.argTypes = #[t, t2] := by apply Array.ext'; exact h3
      unfold execOp
      simp [ho, resolve, h1, e2, e3, invoke, builtin, hr]
  · rename_i x t h1 h2 h3
    refine op_of_step (len_ok (ty := o.type) hk) fun G a w hi hx => ⟨_, ⟨_, hx x ?_, rfl⟩, fun u w' hr => .inl ?_⟩
    · rw [ho]
      have : c.args = #[x] := by apply Array.ext'; exact h2
      simp [Op.operands, Call.operands, this]
    · have e2 : c.args = #[x] := by apply Array.ext'; exact h2
      have e3 : c.argTypes = #[t] := by apply Array.ext'; exact h3
      unfold execOp
      simp [ho, resolve, h1, e2, e3, invoke, builtin, hr]
  · rename_i c1 l1 l2 f h1
    obtain ⟨q, h', rd, wr, hk, g1, g2, g3, g4⟩ := go_ok hk
    refine ⟨q, h', rd, wr, hk, g1, g2, fun G a w hi hx hr J Q hJ => ?_⟩
    have hops : ∀ y ∈ c.args.toList, Reps G w (ev s y) (a.eval y) := fun y hy => hx y (by
      rw [ho]
      simp only [Op.operands, Call.operands, h1]
      simp [Array.mem_toList_iff.1 hy])
    have hrun : (execOp a.eval o).run E.P w = .ok (.enter f (c.args.map a.eval)) w := by
      unfold execOp
      simp [ho, resolve, h1, Deferred.ofValue, invoke, Act.eval, g3]
    unfold Oper.wp
    rw [hrun]
    have hc := g4 G w (c.args.map a.eval) hi (by rw [Array.toList_map]; exact args_reps _ hops) hr
    refine hc.mono ?_
    rintro e w' ⟨v, G', rfl, a1, a2, a3⟩
    exact hJ v G' w' a1 a2 a3
  · exact hk.elim

theorem op_ok (hk : aOp E h s o.op K) : OpRes E.P h s o K := by
  cases ho : o.op <;> rw [ho] at hk <;> simp only [aOp] at hk
  case move x =>
    refine op_of_step (S := fun G w m => ∃ v, Reps G w (ev s x) v ∧ m = pure v) (Step.pure hk fun G w m hi hm => ?_) fun G a w hi hx => ⟨_, ⟨_, hx x (by rw [ho]; simp [Op.operands]), rfl⟩, fun u w' hr => .inl ?_⟩
    · obtain ⟨v, hv, rfl⟩ := hm
      exact ⟨v, rfl, hv⟩
    · unfold execOp
      simp only [ho]
      simp at hr
      simp [hr]
  case assign x =>
    refine op_of_step (S := fun G w m => ∃ v, Reps G w (ev s x) v ∧ m = pure v) (Step.pure hk fun G w m hi hm => ?_) fun G a w hi hx => ⟨_, ⟨_, hx x (by rw [ho]; simp [Op.operands]), rfl⟩, fun u w' hr => .inl ?_⟩
    · obtain ⟨v, hv, rfl⟩ := hm
      exact ⟨v, rfl, hv⟩
    · unfold execOp
      simp only [ho]
      simp at hr
      simp [hr]
  case pick c x y =>
    refine op_of_step (pick_ok hk) fun G a w hi hx => ⟨_, ⟨_, _, _, hx c (by rw [ho]; simp [Op.operands]), hx x (by rw [ho]; simp [Op.operands]), hx y (by rw [ho]; simp [Op.operands]), rfl⟩, fun u w' hr => .inl ?_⟩
    unfold execOp
    simp only [ho]
    rw [Sem.run_bind] at hr ⊢
    cases hb : (asBool (a.eval c)).run E.P w with
    | halt x w2 => rw [hb] at hr; cases hr
    | ok b w2 =>
      rw [hb] at hr
      simp only [Result.andThen_ok, Sem.run_pure, Result.ok.injEq] at hr ⊢
      exact ⟨by rw [hr.1], hr.2⟩
  case alloc t => exact op_of_step (alloc_ok hk) fun G a w hi hx => ⟨_, rfl, fun u w' hr => .inl (by unfold execOp; simp only [ho]; exact run_value hr)⟩
  case box t x => exact op_of_step (box_ok hk) fun G a w hi hx => ⟨_, ⟨_, hx x (by rw [ho]; simp [Op.operands]), rfl⟩, fun u w' hr => .inl (by unfold execOp; simp only [ho]; exact run_value hr)⟩
  case build t parts =>
    refine op_of_step (build_ok hk) fun G a w hi hx => ⟨_, ⟨parts.toList.map fun x => (x.1, a.eval x.2), by simp, map_reps _ (fun x hx' => hx x (by rw [ho]; simpa [Op.operands] using hx')), rfl⟩, fun u w' hr => .inl ?_⟩
    unfold execOp
    simp only [ho]
    refine run_value ?_
    rw [← hr]
    congr 2
    apply Array.ext'
    simp
  case buildSlice t n parts =>
    refine op_of_step (buildSlice_ok hk) fun G a w hi hx => ⟨_, ⟨parts.toList.map fun x => (x.1, a.eval x.2), by simp, map_reps _ (fun x hx' => hx x (by rw [ho]; simpa [Op.operands] using hx')), rfl⟩, fun u w' hr => .inl ?_⟩
    unfold execOp
    simp only [ho]
    refine run_value ?_
    rw [← hr]
    congr 2
    apply Array.ext'
    simp
  case load t x => exact op_of_step (load_ok hk) fun G a w hi hx => ⟨_, ⟨_, hx x (by rw [ho]; simp [Op.operands]), rfl⟩, fun u w' hr => .inl (by unfold execOp; simp only [ho]; exact run_value hr)⟩
  case store t x y =>
    refine op_of_step (store_ok hk) fun G a w hi hx => ⟨_, ⟨_, _, hx x (by rw [ho]; simp [Op.operands]), hx y (by rw [ho]; simp [Op.operands]), rfl⟩, fun u w' hr => .inr ?_⟩
    unfold execOp
    simp only [ho]
    rw [Sem.run_bind] at hr ⊢
    cases hb : (Instr.storeAt t (a.eval x) (a.eval y)).run E.P w with
    | halt x w2 => rw [hb] at hr; cases hr
    | ok b w2 =>
      rw [hb] at hr
      simp only [Result.andThen_ok, Sem.run_pure, Result.ok.injEq] at hr ⊢
      exact ⟨⟨trivial, hr.2⟩, hr.1.symm⟩
  case nilCheck x =>
    refine op_of_step (nilCheck_ok hk) fun G a w hi hx => ⟨(match a.eval x with | .pointer (some p) => pure (.pointer (some p)) | _ => stuck "" : Sem Value), ⟨_, hx x (by rw [ho]; simp [Op.operands]), fun p hp => by rw [hp]⟩, fun u w' hr => .inl ?_⟩
    unfold execOp
    simp only [ho]
    cases hv : a.eval x with
    | pointer p =>
      cases p with
      | some p =>
        rw [hv] at hr
        simp only [Sem.run_pure, Result.ok.injEq] at hr ⊢
        exact ⟨by rw [hr.1], hr.2⟩
      | none => rw [hv] at hr; cases hr
    | _ => rw [hv] at hr; cases hr
  case binOp op t x y t2 => exact op_of_step (binT_ok (x := x) (y := y) hk) fun G a w hi hx => ⟨_, ⟨_, _, hx x (by rw [ho]; simp [Op.operands]), hx y (by rw [ho]; simp [Op.operands]), rfl⟩, fun u w' hr => .inl (by unfold execOp; simp only [ho]; exact run_value hr)⟩
  case unOp op t x => exact op_of_step (un_ok hk) fun G a w hi hx => ⟨_, ⟨_, hx x (by rw [ho]; simp [Op.operands]), rfl⟩, fun u w' hr => .inl (by unfold execOp; simp only [ho]; exact run_value hr)⟩
  case convert t u x => exact op_of_step (convert_ok hk) fun G a w hi hx => ⟨_, ⟨_, hx x (by rw [ho]; simp [Op.operands]), rfl⟩, fun u w' hr => .inl (by unfold execOp; simp only [ho]; exact run_value hr)⟩
  case makeSlice t x y => exact op_of_step (makeSlice_ok hk) fun G a w hi hx => ⟨_, ⟨_, _, hx x (by rw [ho]; simp [Op.operands]), hx y (by rw [ho]; simp [Op.operands]), rfl⟩, fun u w' hr => .inl (by unfold execOp; simp only [ho]; exact run_value hr)⟩
  case slice t x lo hi mx =>
    cases mx with
    | some _ => exact hk.elim
    | none =>
      simp only [aOp] at hk
      refine op_of_step (slice_ok hk) fun G a w hi' hx => ⟨_, ⟨_, lo.map a.eval, hi.map a.eval, hx x (by rw [ho]; simp [Op.operands]), opt_reps lo (fun y hy => hx y (by rw [ho]; cases lo <;> simp_all [Op.operands])), opt_reps hi (fun y hy => hx y (by rw [ho]; cases hi <;> simp_all [Op.operands])), rfl⟩, fun u w' hr => .inl (by unfold execOp; simp only [ho]; exact run_value hr)⟩
  case fieldAddr t x f => exact op_of_step (fieldAddr_ok hk) fun G a w hi hx => ⟨_, ⟨_, hx x (by rw [ho]; simp [Op.operands]), rfl⟩, fun u w' hr => .inl (by unfold execOp; simp only [ho]; exact run_value hr)⟩
  case indexAddr t x y => exact op_of_step (indexAddr_ok hk) fun G a w hi hx => ⟨_, ⟨_, _, hx x (by rw [ho]; simp [Op.operands]), hx y (by rw [ho]; simp [Op.operands]), rfl⟩, fun u w' hr => .inl (by unfold execOp; simp only [ho]; exact run_value hr)⟩
  case index t x y => exact op_of_step (index_ok hk) fun G a w hi hx => ⟨_, ⟨_, _, hx x (by rw [ho]; simp [Op.operands]), hx y (by rw [ho]; simp [Op.operands]), rfl⟩, fun u w' hr => .inl (by unfold execOp; simp only [ho]; exact run_value hr)⟩
  case extract x n => exact op_of_step (extract_ok hk) fun G a w hi hx => ⟨_, ⟨_, hx x (by rw [ho]; simp [Op.operands]), rfl⟩, fun u w' hr => .inl (by unfold execOp; simp only [ho]; exact run_value hr)⟩
  case call c => exact call_ok ho hk
end
end Go.Proofs.YthkepmicdpgbbaaGreatDoor.E

/- Operations in order, told with values. -/
namespace Go.Proofs.YthkepmicdpgbbaaGreatDoor.E
open Go Go.RowKit Go.Proofs.YthkepmicdpgbbaaGreatDoorW.PrintWords
set_option linter.unusedVariables false
set_option linter.unusedSimpArgs false

structure Rel (s : List PV) (h : List Blk) (G : Gh) (a : Act) (w : World) : Prop where
  defers : a.defers = []
  size : a.tmps.size = s.length
  t : ∀ t, Reps G w (nth s t) (a.tmps.getD t undef)
  b : ∀ id, RelB G w id (nthB h id)
  inv : Inv G w

theorem put_length : ∀ (s : List PV) (t : Nat) (q : PV), (put s t q).length = s.length
  | [], _, _ => rfl
  | _ :: _, 0, _ => rfl
  | _ :: r, n + 1, q => by simp [put, put_length r n q]
theorem nth_put_ne : ∀ (s : List PV) (t u : Nat) (q : PV), u ≠ t → nth (put s t q) u = nth s u
  | [], _, _, _, _ => rfl
  | _ :: _, 0, 0, _, h => absurd rfl h
  | _ :: _, 0, _ + 1, _, _ => rfl
  | _ :: _, _ + 1, 0, _, _ => rfl
  | _ :: r, t + 1, u + 1, q, h => nth_put_ne r t u q (by omega)
theorem nth_put_same : ∀ (s : List PV) (t : Nat) (q : PV), t < s.length → nth (put s t q) t = q
  | [], _, _, h => by simp at h
  | _ :: _, 0, _, _ => rfl
  | _ :: r, t + 1, q, h => nth_put_same r t q (by simpa using h)
theorem nth_ge : ∀ (s : List PV) (t : Nat), s.length ≤ t → nth s t = .un
  | [], _, _ => rfl
  | _ :: _, 0, h => by simp at h
  | _ :: r, t + 1, h => nth_ge r t (by simpa using h)
theorem put_self : ∀ (s : List PV) (t : Nat), put s t (nth s t) = s
  | [], _ => rfl
  | _ :: _, 0 => rfl
  | _ :: r, t + 1 => by simp [put, nth, put_self r t]
theorem nthO_eq : ∀ (l : List Oper) (n : Nat), nthO l n = l[n]?
  | [], _ => rfl
  | _ :: _, 0 => rfl
  | _ :: r, n + 1 => by simpa [nthO] using nthO_eq r n

section
variable {s : List PV} {h : List Blk} {G G' : Gh} {a : Act} {w w' : World}
theorem Rel.ev (r : Rel s h G a w) (x : Operand) : Reps G w (E.ev s x) (a.eval x) := by
  cases x with
  | tmp t => exact r.t t
  | const v => exact ofV_ok G w v
  | _ => simp only [E.ev, Reps]

theorem reps_put {q : PV} {v : Value} {d : Tmp} (hs : a.tmps.size = s.length) (hq : Reps G w q v) (t : Nat) (ht : t = d) : Reps G w (nth (put s d q) t) ((a.put (some d) v).tmps.getD t undef) := by
  subst ht
  by_cases hl : t < s.length
  · rw [nth_put_same s t q hl]
    have : (a.put (some t) v).tmps.getD t undef = v := by
      simp [Act.put, Array.getElem?_setIfInBounds, hs, hl]
    rw [this]
    exact hq
  · rw [nth_ge _ t (by rw [put_length]; omega)]
    simp only [Reps]
theorem getD_put_ne {v : Value} {d : Tmp} {t : Nat} (hne : t ≠ d) : (a.put (some d) v).tmps.getD t undef = a.tmps.getD t undef := by
  simp [Act.put, Array.getElem?_setIfInBounds_ne (Ne.symm hne)]
theorem size_put (d : Option Tmp) (v : Value) : (a.put d v).tmps.size = a.tmps.size := by cases d <;> simp [Act.put]
theorem putO_length (d : Option Tmp) (q : PV) : (putO s d q).length = s.length := by cases d <;> simp [putO, put_length]

theorem Rel.step (r : Rel s h G a w) {h' : List Blk} {wr : List Nat} {q : PV} {v : Value} (hk : Keeps h h' wr) (d : Option Tmp) (X : Ext wr G w G' w') (hq : Reps G' w' q v) (hb : ∀ id ∈ wr, RelB G' w' id (nthB h' id)) :
    Rel (putO s d q) h' G' (a.put d v) w' where
  defers := by cases d <;> exact r.defers
  size := by rw [size_put, putO_length]; exact r.size
  t := fun t => by
    cases d with
    | none => exact Reps.ext X r.inv _ _ (r.t t)
    | some d =>
      by_cases ht : t = d
      · exact reps_put r.size hq t ht
      · rw [getD_put_ne ht]
        simp only [putO]
        rw [nth_put_ne s d t q ht]
        exact Reps.ext X r.inv _ _ (r.t t)
  b := fun id => by
    by_cases hm : id ∈ wr
    · exact hb id hm
    · rw [hk id hm]
      exact RelB.ext X r.inv hm (r.b id)
  inv := r.inv.ext X
theorem reps_undef (G : Gh) (w : World) : Reps G w (.tup []) undef := by
  simp only [Reps, RepsL]
  exact ⟨#[], rfl, rfl⟩
theorem Rel.skip (r : Rel s h G a w) (d : Option Tmp) : Rel (putO s d (.tup [])) h G (a.put d undef) w :=
  r.step (wr := []) (fun _ _ => rfl) d (Ext.refl r.inv []) (reps_undef _ _) (fun id hid => by cases hid)
end

def Fr (G0 : Gh) (w0 : World) (G : Gh) (w : World) : Prop := ∃ ids, Ext ids G0 w0 G w
theorem Fr.step {G0 G G' : Gh} {w0 w w' : World} {ids : List Nat} (hi : Inv G0 w0) (f : Fr G0 w0 G w) (X : Ext ids G w G' w') : Fr G0 w0 G' w' := by
  obtain ⟨is, Y⟩ := f
  exact ⟨_, Y.trans hi X⟩

theorem dst_of {ops : Array Oper} {j : Nat} {t : Tmp} (h : dstAt ops.toList j = some t) : (ops[j]?).bind (·.dst) = some t := by
  unfold dstAt at h
  rw [nthO_eq, Array.getElem?_toList] at h
  cases ho : ops[j]? with
  | none => rw [ho] at h; cases h
  | some o => rw [ho] at h; exact h

theorem yielded_of {ops : Array Oper} {tmps : Array Value} {j : Nat} {t : Tmp} {x : Bool} (h : dstAt ops.toList j = some t) (hv : tmps.getD t undef = .bool x) : yielded ops tmps j = some x := by
  unfold yielded
  rw [dst_of h]
  cases hq : tmps[t]? with
  | none =>
    rw [Array.getD_eq_getD_getElem?, hq] at hv
    cases hv
  | some v =>
    rw [Array.getD_eq_getD_getElem?, hq] at hv
    simp only [Option.getD_some] at hv
    subst hv
    simp [hq]

theorem yielded_undef {ops : Array Oper} {tmps : Array Value} {j : Nat} {t : Tmp} (h : dstAt ops.toList j = some t) (hv : tmps.getD t undef = .tuple #[]) : yielded ops tmps j = none := by
  unfold yielded
  rw [dst_of h]
  cases hq : tmps[t]? with
  | none => simp [hq]
  | some v =>
    rw [Array.getD_eq_getD_getElem?, hq] at hv
    simp only [Option.getD_some] at hv
    subst hv
    simp [hq]
theorem undef_of {G : Gh} {w : World} {v : Value} (h : Reps G w (.tup []) v) : v = .tuple #[] := by
  simp only [Reps, RepsL] at h
  obtain ⟨vs, rfl, e⟩ := h
  rw [Array.toList_eq_nil_iff.1 e]
section
variable {E : Env} {ops : Array Oper} {G0 : Gh} {w0 : World} {Q : Exit → Act → World → Prop}
theorem ops_seq (hi0 : Inv G0 w0) : ∀ (l : List Oper) (s : List PV) (h : List Blk) (K : List PV → List Blk → List (List Nat × List Nat) → Prop), aOps E ops.toList l s h K →
    ∀ (G : Gh) (a : Act) (w : World), Rel s h G a w → Fr G0 w0 G w → (∀ s' h' acc G' a' w', K s' h' acc → Rel s' h' G' a' w' → Fr G0 w0 G' w' → Q .normal a' w') → wpList E.P ops Q l a w
  | [], s, h, K, hk, G, a, w, r, f, hQ => hQ s h [] G a w hk r f
  | o :: l, s, h, K, hk, G, a, w, r, f, hQ => by
    have run : ∀ (s : List PV), Rel s h G a w → Region.wanted o (yielded ops a.tmps) = true → aOp E h s o.op (fun q h' rd wr => aOps E ops.toList l (putO s o.dst q) h' fun s2 h2 acc => K s2 h2 ((rd, wr) :: acc)) → wpList E.P ops Q (o :: l) a w := fun s r hw hk => by
      obtain ⟨q, h', rd, wr, hk, g1, g2, g3⟩ := op_ok hk
      unfold wpList
      rw [if_pos hw]
      left
      refine g3 G a w r.inv (fun x _ => r.ev x) (fun id _ => r.b id) _ _ fun v G' w' X hq hb => ?_
      exact ops_seq hi0 l _ _ _ hk G' _ w' (r.step g1 o.dst X hq hb) (f.step hi0 X) (fun s' h' acc G2 a2 w2 hK r2 f2 => hQ s' h' _ G2 a2 w2 hK r2 f2)
    unfold aOps at hk
    cases hg : o.guard with
    | none =>
      rw [hg] at hk
      exact run s r (by simp [Region.wanted, hg]) hk
    | some jw =>
      obtain ⟨j, want⟩ := jw
      rw [hg] at hk
      simp only at hk
      cases hd : dstAt ops.toList j with
      | none => rw [hd] at hk; exact hk.elim
      | some t =>
        rw [hd] at hk
        simp only at hk
        split at hk
        · rename_i x hx
          have hv : a.tmps.getD t undef = .bool x := by
            have := r.t t
            rw [hx] at this
            simpa only [Reps, RepC] using this
          have hy := yielded_of hd hv
          by_cases hxw : x = want
          · subst hxw
            have hs : put s t (.v (.b x)) = s := by rw [← hx]; exact put_self s t
            rw [hs] at hk
            exact run s r (by simp [Region.wanted, hg, hy]) (hk.1 rfl)
          · have hxn : x = (!want) := by cases x <;> cases want <;> simp_all
            have hs : put s t (.v (.b (!want))) = s := by rw [← hxn, ← hx]; exact put_self s t
            have hk2 := hk.2 hxn
            rw [hs] at hk2
            unfold wpList
            rw [if_neg (by simp [Region.wanted, hg, hy, hxw])]
            exact ops_seq hi0 l _ _ _ hk2 G _ w (r.skip o.dst) f (fun s' h' acc G2 a2 w2 hK r2 f2 => hQ s' h' _ G2 a2 w2 hK r2 f2)
        · rename_i hx
          have hv := r.t t
          rw [hx] at hv
          have hy := yielded_undef hd (undef_of hv)
          unfold wpList
          rw [if_neg (by simp [Region.wanted, hg, hy])]
          exact ops_seq hi0 l _ _ _ hk G _ w (r.skip o.dst) f (fun s' h' acc G2 a2 w2 hK r2 f2 => hQ s' h' _ G2 a2 w2 hK r2 f2)
        · exact hk.elim
end
end Go.Proofs.YthkepmicdpgbbaaGreatDoor.E

/- Operations in whatever order their edges allow, told with values. -/
namespace Go.Proofs.YthkepmicdpgbbaaGreatDoor.E
open Go Go.RowKit Go.Proofs.YthkepmicdpgbbaaGreatDoorW.PrintWords
set_option linter.unusedVariables false
set_option linter.unusedSimpArgs false

def Wanted (all : List Oper) (o : Oper) (s : List PV) : Prop := o.guard = none ∨ ∃ j want t, o.guard = some (j, want) ∧ dstAt all j = some t ∧ nth s t = .v (.b want)
def NotWanted (all : List Oper) (o : Oper) (s : List PV) : Prop := ∃ j want t, o.guard = some (j, want) ∧ dstAt all j = some t ∧ (nth s t = .v (.b (!want)) ∨ nth s t = .tup [])
def StepAt (P : Program) (all : List Oper) (o : Oper) (x y : List PV × List Blk) (c : List Nat × List Nat) : Prop :=
  (Wanted all o x.1 ∧ ∃ q, y.1 = putO x.1 o.dst q ∧ Keeps x.2 y.2 c.2 ∧ OpOk P o x.1 x.2 q y.2 c.1 c.2) ∨ (NotWanted all o x.1 ∧ y.1 = putO x.1 o.dst (.tup []) ∧ y.2 = x.2 ∧ c = ([], []))

theorem chain_of {E : Env} {all : List Oper} : ∀ (l : List Oper) (s : List PV) (h : List Blk) (K : List PV → List Blk → List (List Nat × List Nat) → Prop), aOps E all l s h K →
    ∃ (S : Nat → List PV × List Blk) (acc : List (List Nat × List Nat)), acc.length = l.length ∧ S 0 = (s, h) ∧ (∀ i o, l[i]? = some o → StepAt E.P all o (S i) (S (i + 1)) (acc.getD i ([], []))) ∧ K (S l.length).1 (S l.length).2 acc
  | [], s, h, K, hk => ⟨fun _ => (s, h), [], rfl, rfl, fun i o hi => by simp at hi, hk⟩
  | o :: l, s, h, K, hk => by
    have run : Wanted all o s → aOp E h s o.op (fun q h' rd wr => aOps E all l (putO s o.dst q) h' fun s2 h2 acc => K s2 h2 ((rd, wr) :: acc)) →
        ∃ (S : Nat → List PV × List Blk) (acc : List (List Nat × List Nat)), acc.length = (o :: l).length ∧ S 0 = (s, h) ∧ (∀ i o', (o :: l)[i]? = some o' → StepAt E.P all o' (S i) (S (i + 1)) (acc.getD i ([], []))) ∧ K (S (o :: l).length).1 (S (o :: l).length).2 acc := fun hw hk => by
      obtain ⟨q, h', rd, wr, hk, g1, g2, g3⟩ := op_ok hk
      obtain ⟨S, acc, a1, a2, a3, a4⟩ := chain_of l _ _ _ hk
      refine ⟨fun i => match i with | 0 => (s, h) | i + 1 => S i, (rd, wr) :: acc, by simp [a1], rfl, fun i o' hi => ?_, a4⟩
      cases i with
      | zero =>
        simp at hi
        subst hi
        refine .inl ⟨hw, q, ?_, ?_, ?_⟩
        · show (S 0).1 = _
          rw [a2]
        · show Keeps h (S 0).2 wr
          rw [a2]
          exact g1
        · show OpOk E.P o s h q (S 0).2 rd wr
          rw [a2]
          exact g3
      | succ i => exact a3 i o' (by simpa using hi)
    unfold aOps at hk
    cases hg : o.guard with
    | none =>
      rw [hg] at hk
      exact run (.inl hg) hk
    | some jw =>
      obtain ⟨j, want⟩ := jw
      rw [hg] at hk
      simp only at hk
      cases hd : dstAt all j with
      | none => rw [hd] at hk; exact hk.elim
      | some t =>
        rw [hd] at hk
        simp only at hk
        split at hk
        · rename_i x hx
          by_cases hxw : x = want
          · subst hxw
            have hs : put s t (.v (.b x)) = s := by rw [← hx]; exact put_self s t
            rw [hs] at hk
            exact run (.inr ⟨j, x, t, hg, hd, hx⟩) (hk.1 rfl)
          · have hxn : x = (!want) := by cases x <;> cases want <;> simp_all
            have hs : put s t (.v (.b (!want))) = s := by rw [← hxn, ← hx]; exact put_self s t
            have hk2 := hk.2 hxn
            rw [hs] at hk2
            obtain ⟨S, acc, a1, a2, a3, a4⟩ := chain_of l _ _ _ hk2
            refine ⟨fun i => match i with | 0 => (s, h) | i + 1 => S i, ([], []) :: acc, by simp [a1], rfl, fun i o' hi => ?_, a4⟩
            cases i with
            | zero =>
              simp at hi
              subst hi
              refine .inr ⟨⟨j, want, t, hg, hd, .inl (by rw [hx, hxn])⟩, ?_, ?_, rfl⟩
              · show (S 0).1 = _
                rw [a2]
              · show (S 0).2 = _
                rw [a2]
            | succ i => exact a3 i o' (by simpa using hi)
        · rename_i hx
          obtain ⟨S, acc, a1, a2, a3, a4⟩ := chain_of l _ _ _ hk
          refine ⟨fun i => match i with | 0 => (s, h) | i + 1 => S i, ([], []) :: acc, by simp [a1], rfl, fun i o' hi => ?_, a4⟩
          cases i with
          | zero =>
            simp at hi
            subst hi
            refine .inr ⟨⟨j, want, t, hg, hd, .inr hx⟩, ?_, ?_, rfl⟩
            · show (S 0).1 = _
              rw [a2]
            · show (S 0).2 = _
              rw [a2]
          | succ i => exact a3 i o' (by simpa using hi)
        · exact hk.elim

/-! ### the check of the order -/
def Lst (listed : Array Bool) (i : Nat) : Prop := listed.getD i false = true
def Down (all : List Oper) (listed : Array Bool) : Prop := ∀ k o, all[k]? = some o → Lst listed k → ∀ e ∈ o.after.toList, Region.binds .any e = true → Lst listed e.on
theorem dep_listed {all : List Oper} {listed : Array Bool} (hd : Down all listed) : ∀ (n i k : Nat), dep all n i k = true → Lst listed k → Lst listed i
  | 0, _, _, h, _ => by simp [dep] at h
  | n + 1, i, k, h, hl => by
    unfold dep at h
    rw [nthO_eq] at h
    cases ho : all[k]? with
    | none => rw [ho] at h; cases h
    | some o =>
      rw [ho] at h
      simp only [List.any_eq_true, Bool.and_eq_true, Bool.or_eq_true] at h
      obtain ⟨e, he, hb, h1 | h1⟩ := h
      · rw [← Nat.eq_of_beq_eq_true h1]
        exact hd k o ho hl e he hb
      · exact dep_listed hd n i e.on h1 (hd k o ho hl e he hb)
theorem dep_ready {all : List Oper} {listed : Array Bool} (hd : Down all listed) {n i k : Nat} {o : Oper} (h : dep all n i k = true) (ho : all[k]? = some o) (hr : ∀ e ∈ o.after.toList, Region.binds .any e = true → Lst listed e.on) : Lst listed i := by
  cases n with
  | zero => simp [dep] at h
  | succ n =>
    unfold dep at h
    rw [nthO_eq, ho] at h
    simp only [List.any_eq_true, Bool.and_eq_true, Bool.or_eq_true] at h
    obtain ⟨e, he, hb, h1 | h1⟩ := h
    · rw [← Nat.eq_of_beq_eq_true h1]
      exact hr e he hb
    · exact dep_listed hd n i e.on h1 (hr e he hb)
theorem ordFrom_ok {all : List Oper} {n i : Nat} {o : Oper} {x : List Nat × List Nat} : ∀ (l : List Oper) (acc : List (List Nat × List Nat)) (k : Nat), ordFrom all n i o x k l acc = true →
    ∀ j o', l[j]? = some o' → clash all o o' x (acc.getD j ([], [])) = true → dep all n i (k + j) = true
  | [], _, _, _, j, o', hj, _ => by simp at hj
  | y :: l, [], k, h, j, o', hj, _ => by simp [ordFrom] at h
  | y :: l, z :: acc, k, h, j, o', hj, hc => by
    simp only [ordFrom, Bool.and_eq_true, Bool.or_eq_true, Bool.not_eq_true'] at h
    cases j with
    | zero =>
      simp at hj
      subst hj
      simp at hc
      rcases h.1 with h1 | h1
      · rw [hc] at h1; cases h1
      · exact h1
    | succ j =>
      have := ordFrom_ok l acc (k + 1) h.2 j o' (by simpa using hj) (by simpa using hc)
      rw [show k + (j + 1) = k + 1 + j by omega]
      exact this
theorem ordOk_ok {all : List Oper} {n : Nat} : ∀ (l : List Oper) (acc : List (List Nat × List Nat)) (b : Nat), ordOk all n b l acc = true →
    ∀ i k o o', i < k → l[i]? = some o → l[k]? = some o' → clash all o o' (acc.getD i ([], [])) (acc.getD k ([], [])) = true → dep all n (b + i) (b + k) = true
  | [], _, _, _, i, k, o, o', _, hi, _, _ => by simp at hi
  | y :: l, [], b, h, i, k, o, o', _, hi, _, _ => by simp [ordOk] at h
  | y :: l, z :: acc, b, h, i, k, o, o', hlt, hi, hk, hc => by
    simp only [ordOk, Bool.and_eq_true] at h
    cases i with
    | zero =>
      simp at hi
      subst hi
      cases k with
      | zero => omega
      | succ k =>
        have := ordFrom_ok l acc (b + 1) h.1 k o' (by simpa using hk) (by simpa using hc)
        rw [show b + (k + 1) = b + 1 + k by omega]
        exact this
    | succ i =>
      cases k with
      | zero => omega
      | succ k =>
        have := ordOk_ok l acc (b + 1) h.2 i k o o' (by omega) (by simpa using hi) (by simpa using hk) (by simpa using hc)
        rw [show b + (i + 1) = b + 1 + i by omega, show b + (k + 1) = b + 1 + k by omega]
        exact this
theorem afterOk_ok : ∀ (l : List Oper) (b i : Nat) (o : Oper), afterOk b l = true → l[i]? = some o → ∀ e ∈ o.after.toList, Region.binds .any e = true → e.on < b + i
  | [], _, i, o, _, hi, _, _, _ => by simp at hi
  | y :: l, b, i, o, h, hi, e, he, hb => by
    simp only [afterOk, Bool.and_eq_true] at h
    cases i with
    | zero =>
      simp at hi
      subst hi
      have := List.all_eq_true.1 h.1 e he
      rw [hb] at this
      have h2 : Nat.blt e.on b = true := by simpa using this
      have := Nat.le_of_ble_eq_true h2
      omega
    | succ i =>
      have := afterOk_ok l (b + 1) i o h.2 (by simpa using hi) e he hb
      omega
theorem meets_of {xs ys : List Nat} {x : Nat} (h1 : x ∈ xs) (h2 : x ∈ ys) : meets xs ys = true := by
  unfold meets
  rw [List.any_eq_true]
  exact ⟨x, h1, by rw [List.any_eq_true]; exact ⟨x, h2, Nat.beq_refl x⟩⟩

theorem countP_lt {p q : Nat → Bool} : ∀ (l : List Nat) (x : Nat), x ∈ l → q x = true → p x = false → (∀ y, p y = true → q y = true) → l.countP p + 1 ≤ l.countP q
  | [], x, h, _, _, _ => by cases h
  | y :: r, x, h, hq, hp, hm => by
    have mono : ∀ r : List Nat, r.countP p ≤ r.countP q := fun r => List.countP_mono_left (fun z _ hz => hm z hz)
    simp only [List.countP_cons]
    rcases List.mem_cons.1 h with rfl | h
    · rw [hq, hp]
      have := mono r
      simp
      omega
    · have := countP_lt r x h hq hp hm
      cases hy : p y with
      | true => rw [hm y hy]; simp; omega
      | false => cases q y <;> simp <;> omega
end Go.Proofs.YthkepmicdpgbbaaGreatDoor.E

/- Operations in whatever order their edges allow come to what they come to in the text's order. -/
namespace Go.Proofs.YthkepmicdpgbbaaGreatDoor.E
open Go Go.RowKit Go.Proofs.YthkepmicdpgbbaaGreatDoorW.PrintWords
set_option linter.unusedVariables false
set_option linter.unusedSimpArgs false

section
variable {P : Program} {ops : Array Oper} {G0 : Gh} {w0 : World} {S : Nat → List PV × List Blk} {acc : List (List Nat × List Nat)} {len0 : Nat}

structure Mid (ops : Array Oper) (G0 : Gh) (w0 : World) (S : Nat → List PV × List Blk) (acc : List (List Nat × List Nat)) (len0 : Nat) (listed : Array Bool) (G : Gh) (a : Act) (w : World) : Prop where
  inv : Inv G w
  fr : Fr G0 w0 G w
  defers : a.defers = []
  size : a.tmps.size = len0
  lsize : listed.size = ops.size
  down : Down ops.toList listed
  t : ∀ t j, j ≤ ops.size → (∀ i o, ops.toList[i]? = some o → o.dst = some t → (Lst listed i ↔ i < j)) → Reps G w (nth (S j).1 t) (a.tmps.getD t undef)
  b : ∀ id j, j ≤ ops.size → (∀ i, i < ops.size → id ∈ (acc.getD i ([], [])).2 → (Lst listed i ↔ i < j)) → RelB G w id (nthB (S j).2 id)

theorem lst_set {listed : Array Bool} {i k : Nat} (hi : i < listed.size) : Lst (listed.setIfInBounds i true) k ↔ (k = i ∨ Lst listed k) := by
  unfold Lst
  by_cases h : k = i
  · subst h
    simp [Array.getElem?_setIfInBounds, hi]
  · simp [Array.getElem?_setIfInBounds_ne (Ne.symm h), h]

theorem same_t (hS : ∀ i o, ops.toList[i]? = some o → StepAt P ops.toList o (S i) (S (i + 1)) (acc.getD i ([], []))) (t : Nat) : ∀ (d j : Nat), j + d ≤ ops.size → (∀ i o, j ≤ i → i < j + d → ops.toList[i]? = some o → o.dst ≠ some t) → nth (S (j + d)).1 t = nth (S j).1 t
  | 0, j, _, _ => rfl
  | d + 1, j, hd, hn => by
    have ih := same_t hS t d j (by omega) (fun i o h1 h2 => hn i o h1 (by omega))
    have hlt : j + d < ops.toList.length := by rw [Array.length_toList]; omega
    have ho : ops.toList[j + d]? = some ops.toList[j + d] := List.getElem?_eq_getElem hlt
    have hne := hn (j + d) _ (by omega) (by omega) ho
    rw [← ih, show j + (d + 1) = j + d + 1 by omega]
    have put_far : ∀ q, nth (putO (S (j + d)).1 (ops.toList[j + d]).dst q) t = nth (S (j + d)).1 t := fun q => by
      cases hdst : (ops.toList[j + d]).dst with
      | none => rfl
      | some u => exact nth_put_ne _ u t q (fun e => hne (by rw [hdst, e]))
    rcases hS _ _ ho with ⟨_, q, h1, _⟩ | ⟨_, h1, _⟩
    · rw [h1]; exact put_far q
    · rw [h1]; exact put_far (.tup [])
theorem same_b (hS : ∀ i o, ops.toList[i]? = some o → StepAt P ops.toList o (S i) (S (i + 1)) (acc.getD i ([], []))) (id : Nat) : ∀ (d j : Nat), j + d ≤ ops.size → (∀ i, j ≤ i → i < j + d → id ∉ (acc.getD i ([], [])).2) → nthB (S (j + d)).2 id = nthB (S j).2 id
  | 0, j, _, _ => rfl
  | d + 1, j, hd, hn => by
    have ih := same_b hS id d j (by omega) (fun i h1 h2 => hn i h1 (by omega))
    have hlt : j + d < ops.toList.length := by rw [Array.length_toList]; omega
    have ho : ops.toList[j + d]? = some ops.toList[j + d] := List.getElem?_eq_getElem hlt
    have hne := hn (j + d) (by omega) (by omega)
    rw [← ih, show j + (d + 1) = j + d + 1 by omega]
    rcases hS _ _ ho with ⟨_, q, _, h1, _⟩ | ⟨_, _, h1, _⟩
    · exact h1 id hne
    · rw [h1]

theorem mid_step (hi0 : Inv G0 w0) (hS : ∀ i o, ops.toList[i]? = some o → StepAt P ops.toList o (S i) (S (i + 1)) (acc.getD i ([], [])))
    (hlen : ∀ j, (S j).1.length = len0 ∨ ops.size < j)
    (hord : ∀ i k o o', i < k → ops.toList[i]? = some o → ops.toList[k]? = some o' → clash ops.toList o o' (acc.getD i ([], [])) (acc.getD k ([], [])) = true → dep ops.toList (len ops.toList) i k = true)
    {listed : Array Bool} {G : Gh} {a : Act} {w : World} (M : Mid ops G0 w0 S acc len0 listed G a w) {i : Nat} (hr : i ∈ Region.ready .any ops listed) {J : Act → World → Prop} {Q : Exit → Act → World → Prop}
    (hJ : ∀ G' a' w', Mid ops G0 w0 S acc len0 (listed.setIfInBounds i true) G' a' w' → J a' w') : wpOp P ops Q i J a w := by
  obtain ⟨hun, o, ho, hready⟩ := mem_ready.1 hr
  have hol : ops.toList[i]? = some o := by rw [Array.getElem?_toList]; exact ho
  have hlt : i < ops.size := (Array.getElem?_eq_some_iff.1 ho).1
  have hni : ¬ Lst listed i := fun h => by
    unfold Lst at h
    have hl : i < listed.size := by rw [M.lsize]; exact hlt
    simp [hl] at hun h
    rw [hun] at h
    cases h
  have hrd : ∀ e ∈ o.after.toList, Region.binds .any e = true → Lst listed e.on := fun e he hb => hready e (Array.mem_toList_iff.1 he) hb
  have hi' : i < listed.size := by rw [M.lsize]; exact hlt
  -- what i clashes with stands before it and is done, or behind it and is not
  have before : ∀ k o', k < i → ops.toList[k]? = some o' → clash ops.toList o' o (acc.getD k ([], [])) (acc.getD i ([], [])) = true → Lst listed k := fun k o' hk hok hc =>
    dep_ready M.down (hord k i o' o hk hok hol hc) hol hrd
  have behind : ∀ k o', i < k → ops.toList[k]? = some o' → clash ops.toList o o' (acc.getD i ([], [])) (acc.getD k ([], [])) = true → ¬ Lst listed k := fun k o' hk hok hc hl =>
    hni (dep_listed M.down _ i k (hord i k o o' hk hol hok hc) hl)
  have wt : ∀ t, (t ∈ readsT ops.toList o ∨ o.dst = some t) → ∀ k o', ops.toList[k]? = some o' → o'.dst = some t → (Lst listed k ↔ k < i) := fun t ht k o' hok hd => by
    rcases Nat.lt_trichotomy k i with hk | hk | hk
    · refine ⟨fun _ => hk, fun _ => before k o' hk hok ?_⟩
      unfold clash
      rcases ht with ht | ht
      · rw [show meets o'.dst.toList (readsT ops.toList o) = true from meets_of (x := t) (by simp [hd]) ht]
        simp
      · rw [show meets o'.dst.toList o.dst.toList = true from meets_of (x := t) (by simp [hd]) (by simp [ht])]
        simp
    · subst hk
      exact ⟨fun h => absurd h hni, fun h => by omega⟩
    · refine ⟨fun h => absurd h (behind k o' hk hok ?_), fun h => by omega⟩
      unfold clash
      rcases ht with ht | ht
      · rw [show meets (readsT ops.toList o) o'.dst.toList = true from meets_of (x := t) ht (by simp [hd])]
        simp
      · rw [show meets o.dst.toList o'.dst.toList = true from meets_of (x := t) (by simp [ht]) (by simp [hd])]
        simp
  have wb : ∀ id, (id ∈ (acc.getD i ([], [])).1 ∨ id ∈ (acc.getD i ([], [])).2) → ∀ k, k < ops.size → id ∈ (acc.getD k ([], [])).2 → (Lst listed k ↔ k < i) := fun id hid k hks hk2 => by
    have hok : ops.toList[k]? = some (ops.toList[k]'(by rw [Array.length_toList]; exact hks)) := List.getElem?_eq_getElem _
    rcases Nat.lt_trichotomy k i with hk | hk | hk
    · refine ⟨fun _ => hk, fun _ => before k _ hk hok ?_⟩
      unfold clash
      rcases hid with hid | hid
      · rw [show meets (acc.getD k ([], [])).2 (acc.getD i ([], [])).1 = true from meets_of hk2 hid]
        simp
      · rw [show meets (acc.getD k ([], [])).2 (acc.getD i ([], [])).2 = true from meets_of hk2 hid]
        simp
    · subst hk
      exact ⟨fun h => absurd h hni, fun h => by omega⟩
    · refine ⟨fun h => absurd h (behind k _ hk hok ?_), fun h => by omega⟩
      unfold clash
      rcases hid with hid | hid
      · rw [show meets (acc.getD i ([], [])).1 (acc.getD k ([], [])).2 = true from meets_of hid hk2]
        simp
      · rw [show meets (acc.getD i ([], [])).2 (acc.getD k ([], [])).2 = true from meets_of hid hk2]
        simp
  have rt : ∀ t, t ∈ readsT ops.toList o → Reps G w (nth (S i).1 t) (a.tmps.getD t undef) := fun t ht => M.t t i (by omega) (wt t (.inl ht))
  have rb : ∀ id, (id ∈ (acc.getD i ([], [])).1 ∨ id ∈ (acc.getD i ([], [])).2) → RelB G w id (nthB (S i).2 id) := fun id hid => M.b id i (by omega) (wb id hid)
  have down' : Down ops.toList (listed.setIfInBounds i true) := fun k ok hok hl e he hb => by
    rw [lst_set hi'] at hl ⊢
    rcases hl with rfl | hl
    · rw [hol] at hok
      injection hok with hok
      subst hok
      exact .inr (hrd e he hb)
    · exact .inr (M.down k ok hok hl e he hb)
  -- behind the step
  have fin : ∀ (q : PV) (v : Value) (G' : Gh) (w' : World), (S (i + 1)).1 = putO (S i).1 o.dst q → Ext (acc.getD i ([], [])).2 G w G' w' → Reps G' w' q v → (∀ id ∈ (acc.getD i ([], [])).2, RelB G' w' id (nthB (S (i + 1)).2 id)) →
      Mid ops G0 w0 S acc len0 (listed.setIfInBounds i true) G' (a.put o.dst v) w' := fun q v G' w' hq X hqv hb =>
    { inv := M.inv.ext X
      fr := M.fr.step hi0 X
      defers := by cases o.dst <;> exact M.defers
      size := by rw [size_put]; exact M.size
      lsize := by simp [M.lsize]
      down := down'
      t := fun t j hj hw => by
        by_cases hd : o.dst = some t
        · have hij : i < j := (hw i o hol hd).1 ((lst_set hi').2 (.inl rfl))
          have hsame := same_t hS t (j - (i + 1)) (i + 1) (by omega) (fun k ok h1 h2 hok hkd => by
            have hl : Lst (listed.setIfInBounds i true) k := (hw k ok hok hkd).2 (by omega)
            rw [lst_set hi'] at hl
            rcases hl with rfl | hl
            · omega
            · have := (wt t (.inr hd) k ok hok hkd).1 hl
              omega)
          rw [show i + 1 + (j - (i + 1)) = j by omega] at hsame
          rw [hsame, hq, hd]
          refine reps_put ?_ hqv t rfl
          rcases hlen i with h | h
          · rw [M.size, h]
          · omega
        · have hold := M.t t j hj (fun k ok hok hkd => by
            rw [← hw k ok hok hkd, lst_set hi']
            refine ⟨.inr, fun h => h.resolve_left ?_⟩
            rintro rfl
            rw [hol] at hok
            injection hok with hok
            subst hok
            exact hd hkd)
          have e1 : (a.put o.dst v).tmps.getD t undef = a.tmps.getD t undef := by
            cases hdst : o.dst with
            | none => rfl
            | some u => exact getD_put_ne (fun e => hd (by rw [hdst, e]))
          rw [e1]
          exact Reps.ext X M.inv _ _ hold
      b := fun id j hj hw => by
        by_cases hd : id ∈ (acc.getD i ([], [])).2
        · have hij : i < j := (hw i hlt hd).1 ((lst_set hi').2 (.inl rfl))
          have hsame := same_b hS id (j - (i + 1)) (i + 1) (by omega) (fun k h1 h2 hk2 => by
            have hl : Lst (listed.setIfInBounds i true) k := (hw k (by omega) hk2).2 (by omega)
            rw [lst_set hi'] at hl
            rcases hl with rfl | hl
            · omega
            · have := (wb id (.inr hd) k (by omega) hk2).1 hl
              omega)
          rw [show i + 1 + (j - (i + 1)) = j by omega] at hsame
          rw [hsame]
          exact hb id hd
        · have hold := M.b id j hj (fun k hks hk2 => by
            rw [← hw k hks hk2, lst_set hi']
            refine ⟨.inr, fun h => h.resolve_left ?_⟩
            rintro rfl
            exact hd hk2)
          exact RelB.ext X M.inv hd hold }
  have guard_t : ∀ j want t, o.guard = some (j, want) → dstAt ops.toList j = some t → t ∈ readsT ops.toList o := fun j want t hg hd => by
    unfold readsT
    rw [hg]
    simp [hd]
  unfold wpOp
  rw [ho]
  simp only
  rcases hS i o hol with ⟨hw, q, h1, h2, h3⟩ | ⟨hw, h1, h2, h3⟩
  · have hwant : Region.wanted o (yielded ops a.tmps) = true := by
      rcases hw with hw | ⟨j, want, t, hg, hd, hx⟩
      · simp [Region.wanted, hw]
      · have hv := rt t (guard_t j want t hg hd)
        rw [hx] at hv
        simp only [Reps, RepC] at hv
        simp [Region.wanted, hg, yielded_of hd hv]
    rw [if_pos hwant]
    left
    refine h3 G a w M.inv (fun x hx => ?_) rb _ _ fun v G' w' X hq hb => hJ G' _ w' (fin q v G' w' h1 X hq hb)
    cases x with
    | tmp t =>
      refine rt t ?_
      unfold readsT
      refine List.mem_append_left _ (List.mem_filterMap.2 ⟨.tmp t, Array.mem_toList_iff.2 hx, rfl⟩)
    | const v => exact ofV_ok G w v
    | _ => simp only [E.ev, Reps]
  · obtain ⟨j, want, t, hg, hd, hx⟩ := hw
    have hv := rt t (guard_t j want t hg hd)
    have hwant : ¬ Region.wanted o (yielded ops a.tmps) = true := by
      rcases hx with hx | hx
      · rw [hx] at hv
        simp only [Reps, RepC] at hv
        simp [Region.wanted, hg, yielded_of hd hv]
      · rw [hx] at hv
        simp [Region.wanted, hg, yielded_undef hd (undef_of hv)]
    rw [if_neg hwant]
    exact hJ G _ w (fin (.tup []) undef G w h1 (Ext.refl M.inv _) (reps_undef _ _) (fun id hid => by rw [h3] at hid; cases hid))

theorem mid_any (hi0 : Inv G0 w0) (hS : ∀ i o, ops.toList[i]? = some o → StepAt P ops.toList o (S i) (S (i + 1)) (acc.getD i ([], [])))
    (hlen : ∀ j, (S j).1.length = len0 ∨ ops.size < j)
    (hord : ∀ i k o o', i < k → ops.toList[i]? = some o → ops.toList[k]? = some o' → clash ops.toList o o' (acc.getD i ([], [])) (acc.getD k ([], [])) = true → dep ops.toList (len ops.toList) i k = true)
    (haft : ∀ i o, ops.toList[i]? = some o → ∀ e ∈ o.after.toList, Region.binds .any e = true → e.on < i) {Q : Exit → Act → World → Prop}
    (hQ : ∀ G a w, Rel (S ops.size).1 (S ops.size).2 G a w → Fr G0 w0 G w → Q .normal a w) : ∀ (fuel : Nat) (listed : Array Bool) (G : Gh) (a : Act) (w : World), (List.range ops.size).countP (fun i => !listed.getD i false) ≤ fuel →
      Mid ops G0 w0 S acc len0 listed G a w → wpAny P .any ops Q fuel listed a w := by
  -- where nothing is ready, all is done
  have done : ∀ (listed : Array Bool) (G : Gh) (a : Act) (w : World), Mid ops G0 w0 S acc len0 listed G a w → Region.ready .any ops listed = [] → Q .normal a w := fun listed G a w M hr => by
    have all : ∀ n i, i < n → i < ops.size → Lst listed i := fun n => by
      induction n with
      | zero => intro i hi; omega
      | succ n ih =>
        intro i hi hio
        by_cases hl : Lst listed i
        · exact hl
        · exfalso
          have hol : ops.toList[i]? = some (ops.toList[i]'(by rw [Array.length_toList]; exact hio)) := List.getElem?_eq_getElem _
          have ho : ops[i]? = some (ops.toList[i]'(by rw [Array.length_toList]; exact hio)) := by rw [← Array.getElem?_toList]; exact hol
          have : i ∈ Region.ready .any ops listed := mem_ready.2 ⟨by
            have hil : i < listed.size := by rw [M.lsize]; exact hio
            unfold Lst at hl
            simp [hil] at hl ⊢
            exact hl, _, ho, fun e he hb => by
            have h1 := haft i _ hol e (Array.mem_toList_iff.2 he) hb
            exact ih e.on (by omega) (by omega)⟩
          rw [hr] at this
          cases this
    refine hQ G a w ⟨M.defers, ?_, fun t => M.t t ops.size (Nat.le_refl _) (fun i o hi _ => ?_), fun id => M.b id ops.size (Nat.le_refl _) (fun i hi _ => ⟨fun _ => hi, fun _ => all (i + 1) i (by omega) hi⟩), M.inv⟩ M.fr
    · rcases hlen ops.size with h | h
      · rw [M.size, h]
      · omega
    · have hlt : i < ops.size := by
        have := (List.getElem?_eq_some_iff.1 hi).1
        rwa [Array.length_toList] at this
      exact ⟨fun _ => hlt, fun _ => all (i + 1) i (by omega) hlt⟩
  intro fuel
  induction fuel with
  | zero =>
    intro listed G a w hc M
    have hr : Region.ready .any ops listed = [] := by
      rw [List.eq_nil_iff_forall_not_mem]
      intro i hi
      obtain ⟨hun, o, ho, _⟩ := mem_ready.1 hi
      have hlt : i < ops.size := (Array.getElem?_eq_some_iff.1 ho).1
      have : 0 < (List.range ops.size).countP (fun i => !listed.getD i false) := by
        rw [List.countP_pos_iff]
        refine ⟨i, by simpa using hlt, ?_⟩
        have hil : i < listed.size := by rw [M.lsize]; exact hlt
        simp [hil] at hun ⊢
        exact hun
      omega
    exact ⟨hr, done listed G a w M hr⟩
  | succ fuel ih =>
    intro listed G a w hc M
    refine ⟨done listed G a w M, fun i hi => mid_step hi0 hS hlen hord M hi fun G' a' w' M' => ih _ G' a' w' ?_ M'⟩
    obtain ⟨hun, o, ho, _⟩ := mem_ready.1 hi
    have hlt : i < ops.size := (Array.getElem?_eq_some_iff.1 ho).1
    have hil : i < listed.size := by rw [M.lsize]; exact hlt
    have := countP_lt (p := fun k => !(listed.setIfInBounds i true).getD k false) (q := fun k => !listed.getD k false) (List.range ops.size) i (by simpa using hlt) (by
      simp [hil] at hun ⊢
      exact hun) (by simp [Array.getElem?_setIfInBounds, hil]) (fun y hy => by
      have h1 : ¬ Lst (listed.setIfInBounds i true) y := by unfold Lst; simpa using hy
      rw [lst_set hil] at h1
      have h2 : ¬ Lst listed y := fun h => h1 (.inr h)
      unfold Lst at h2
      simpa using h2)
    omega

theorem S_len (hS : ∀ i o, ops.toList[i]? = some o → StepAt P ops.toList o (S i) (S (i + 1)) (acc.getD i ([], []))) : ∀ j, (S j).1.length = (S 0).1.length ∨ ops.size < j
  | 0 => .inl rfl
  | j + 1 => by
    rcases Nat.lt_or_ge j ops.size with h | h
    · rcases S_len hS j with h1 | h1
      · have hol : ops.toList[j]? = some (ops.toList[j]'(by rw [Array.length_toList]; exact h)) := List.getElem?_eq_getElem _
        left
        rcases hS j _ hol with ⟨_, q, e, _⟩ | ⟨_, e, _⟩
        · rw [e, putO_length, h1]
        · rw [e, putO_length, h1]
      · omega
    · right
      omega
end

theorem ops_draw {E : Env} {ops : Array Oper} {G0 : Gh} {w0 : World} {Q : Exit → Act → World → Prop} (hi0 : Inv G0 w0) {id : Nat} {s : List PV} {h : List Blk} {K : List PV → List Blk → List (List Nat × List Nat) → Prop} (hk : aOps E ops.toList ops.toList s h K)
    (hc : ∀ s' h' acc, K s' h' acc → afterOk 0 ops.toList = true ∧ ordOk ops.toList (len ops.toList) 0 ops.toList acc = true)
    {G : Gh} {a : Act} {w : World} (r : Rel s h G a w) (f : Fr G0 w0 G w) (hQ : ∀ s' h' acc G' a' w', K s' h' acc → Rel s' h' G' a' w' → Fr G0 w0 G' w' → Q .normal a' w') : (Code.region id ops true).wp E.P Q a w := by
  obtain ⟨S, acc, h1, h2, h3, h4⟩ := chain_of _ _ _ _ hk
  rw [Array.length_toList] at h1 h4
  obtain ⟨c1, c2⟩ := hc _ _ _ h4
  refine wp_region_any E.mixed ?_
  have r' : Rel s h G a { w with drawn := w.drawn + 1 } := r.step (wr := []) (q := .un) (v := undef) (fun _ _ => rfl) none (ext_drew r.inv) (by simp only [Reps]) (fun id hid => by cases hid)
  have f' : Fr G0 w0 G { w with drawn := w.drawn + 1 } := f.step hi0 (ext_drew r.inv)
  have hno : ∀ i, ¬ Lst (Array.replicate ops.size false) i := fun i h => by
    unfold Lst at h
    by_cases hi : i < ops.size
    · simp [hi] at h
    · simp [hi] at h
  refine mid_any (len0 := s.length) hi0 h3 (fun j => ?_) (fun i k o o' hlt hi hk hcl => ?_) (fun i o ho e he hb => ?_) (fun G' a' w' r2 f2 => hQ _ _ _ G' a' w' h4 r2 f2) ops.size _ G a _ (by
    have := List.countP_le_length (p := fun i => !(Array.replicate ops.size false).getD i false) (l := List.range ops.size)
    rwa [List.length_range] at this) ?_
  · have := S_len h3 j
    rw [h2] at this
    exact this
  · have := ordOk_ok _ _ 0 c2 i k o o' hlt hi hk hcl
    simpa using this
  · have := afterOk_ok _ 0 i o c1 ho e he hb
    omega
  · refine ⟨r'.inv, f', r'.defers, r'.size, by simp, fun k o _ hl => absurd hl (hno k), fun t j hj hw => ?_, fun id j hj hw => ?_⟩
    · have := same_t h3 t j 0 (by omega) (fun i o _ hi ho hd => hno i ((hw i o ho hd).2 (by omega)))
      rw [Nat.zero_add] at this
      rw [this, h2]
      exact r'.t t
    · have := same_b h3 id j 0 (by omega) (fun i _ hi hd => hno i ((hw i (by omega) hd).2 (by omega)))
      rw [Nat.zero_add] at this
      rw [this, h2]
      exact r'.b id
end Go.Proofs.YthkepmicdpgbbaaGreatDoor.E

/- Code comes to what is told of it, and so does a call of it. -/
namespace Go.Proofs.YthkepmicdpgbbaaGreatDoor.E
open Go Go.RowKit Go.Proofs.YthkepmicdpgbbaaGreatDoorW.PrintWords
set_option linter.unusedVariables false
set_option linter.unusedSimpArgs false

/-! ### other numbers -/
def Gh.gc (G : Gh) (keep : List Nat) : Gh := { G with own := fun b => (G.own b).bind (idx keep), inf := fun j => (keep[j]?).bind G.inf }
theorem nth_ren (m : Nat → Option Nat) : ∀ (s : List PV) (t : Nat), nth (renL m s) t = renP m (nth s t)
  | [], _ => by simp [renL, nth, renP]
  | _ :: _, 0 => by simp [renL, nth]
  | _ :: r, t + 1 => by simpa [renL, nth] using nth_ren m r t

/-- What a call begins with: which blocks it may write. -/
structure Refs (nref : Nat) (G0 : Gh) (w0 : World) : Prop where
  inv : Inv G0 w0
  own : ∀ b id, G0.own b = some id → id < nref
  inf : ∀ id r, G0.inf id = some r → id < nref

theorem weak_ok0 {s s' : List PV} {h h' : List Blk} {nref : Nat} {G0 G : Gh} {w0 w : World} {a : Act} (R0 : Refs nref G0 w0) (r : Rel s h G a w) (f : Fr G0 w0 G w) (hw : Weak0 s h nref s' h') : ∃ G', Rel s' h' G' a w ∧ Fr G0 w0 G' w := by
  obtain ⟨keep, hn, hp, hpk, rfl⟩ := hw
  obtain ⟨ids, X⟩ := f
  have hR : Ren (idx keep) G (G.gc keep) w :=
    { imm := fun b o hb m => by
        rcases m with ⟨h1, h2, h3⟩ | ⟨h1, h2⟩ | ⟨id, sz, n, h1, h2⟩
        · exact .inl ⟨h1, by simp only [Gh.gc]; rw [h2]; rfl, h3⟩
        · exact .inr (.inl ⟨h1, by simp only [Gh.gc]; rw [h2]; rfl⟩)
        · cases hx : idx keep id with
          | some j => exact .inr (.inr ⟨j, sz, n, by simp only [Gh.gc]; rw [h1]; exact hx, by simp only [Gh.gc]; rw [idx_some hx]; exact h2⟩)
          | none =>
            refine .inr (.inl ⟨?_, by simp only [Gh.gc]; rw [h1]; exact hx⟩)
            rcases Nat.lt_or_ge b G.base with hlt | hge
            · exfalso
              have hb0 : b < w0.heap.size := by have := R0.inv.base; rw [X.base] at hlt; omega
              cases h0 : G0.own b with
              | none => rw [(X.nn b hb0 h0).1] at h1; cases h1
              | some id0 =>
                have : G.own b = some id0 ∨ G.own b = none := (X.sm b id0 h0).2
                rw [h1] at this
                rcases this with e | e
                · injection e with e
                  subst e
                  have := idx_of hn (hp id (R0.own b id h0))
                  rw [hx] at this
                  cases this
                · cases e
            · exact hge
      own := fun i j b h1 h2 => by simp only [Gh.gc]; rw [h2]; exact h1
      inf := fun i j q h1 h2 => by simp only [Gh.gc]; rw [idx_some h1]; exact h2 }
  have hlen := pickB_len hpk
  refine ⟨G.gc keep, ⟨r.defers, by rw [gcT, renL_length]; exact r.size, fun t => ?_, fun j => ?_, ⟨r.inv.base, fun b j e => ?_, by obtain ⟨w0, g1, g2, g3⟩ := r.inv.gw; exact ⟨w0, g1, g2, fun b hb => by simp only [Gh.gc, g3 b hb, Option.bind_none]⟩⟩⟩, ids ++ List.range keep.length, ?_⟩
  · rw [gcT, nth_ren]
    exact Reps.ren hR _ _ (r.t t)
  · cases hj : keep[j]? with
    | none =>
      have hge : keep.length ≤ j := List.getElem?_eq_none_iff.1 hj
      rw [nthB_ge h' j (by omega)]
      refine ⟨by simp only [Gh.gc]; rw [hj]; rfl, fun b e => ?_⟩
      simp only [Gh.gc] at e
      obtain ⟨i, _, h2⟩ := Option.bind_eq_some_iff.1 e
      have := idx_some h2
      rw [hj] at this
      cases this
    | some i =>
      obtain ⟨B, h1, h2⟩ := pickB_at hpk hj
      rw [h2]
      have rb := r.b i
      rw [h1] at rb
      refine RelB.ren hR (idx_of hn hj) (fun b e => ?_) rb
      simp only [Gh.gc] at e
      obtain ⟨i', h3, h4⟩ := Option.bind_eq_some_iff.1 e
      have := idx_some h4
      rw [hj] at this
      injection this with this
      subst this
      exact h3
  · simp only [Gh.gc] at e
    obtain ⟨i, h1, _⟩ := Option.bind_eq_some_iff.1 e
    exact r.inv.own b i h1
  · have pre : ∀ id, id < nref → idx keep id = some id := fun id hid => idx_of hn (hp id hid)
    exact {
      os := X.os
      tape := X.tape
      output := X.output
      size := X.size
      base := X.base
      old := X.old
      nn := fun b hb h0 => ⟨by simp only [Gh.gc]; rw [(X.nn b hb h0).1]; rfl, (X.nn b hb h0).2⟩
      sm := fun b id h0 => by
        have hid := R0.own b id h0
        refine ⟨fun hx => ?_, ?_⟩
        · have hx' : id ∉ ids := fun e => hx (List.mem_append_left _ e)
          obtain ⟨a1, a2⟩ := (X.sm b id h0).1 hx'
          exact ⟨by simp only [Gh.gc]; rw [a1]; exact pre id hid, a2⟩
        · rcases (X.sm b id h0).2 with a1 | a1
          · exact .inl (by simp only [Gh.gc]; rw [a1]; exact pre id hid)
          · exact .inr (by simp only [Gh.gc]; rw [a1]; rfl)
      same := fun b id cs ty h0 h1 hinf hc => by
        have hid := R0.own b id h0
        have h2 : G.own b = some id := by
          rcases (X.sm b id h0).2 with a1 | a1
          · exact a1
          · simp only [Gh.gc] at h1
            rw [a1] at h1
            cases h1
        obtain ⟨sz, n, q, q', i1, i2⟩ := hinf
        refine X.same b id cs ty h0 h2 ⟨sz, n, q, q', i1, ?_⟩ hc
        simp only [Gh.gc] at i2
        rw [hp id hid] at i2
        exact i2
      fz := fun b id sz n h0 hf => by
        obtain ⟨a1, a2⟩ := X.fz b id sz n h0 hf
        exact ⟨by simp only [Gh.gc]; rw [a1]; exact pre id (R0.own b id h0), a2⟩
      inf := fun id sz n q hf => by
        have hid := R0.inf id _ hf
        obtain ⟨n', q', a1, a2, a3, a4⟩ := X.inf id sz n q hf
        refine ⟨n', q', by simp only [Gh.gc]; rw [hp id hid]; exact a1, a2, a3, fun e b hb => ?_⟩
        simp only [Gh.gc]
        rw [a4 e b hb]
        exact pre id hid
      out := fun id hx => by
        simp only [List.mem_append, List.mem_range, not_or, Nat.not_lt] at hx
        have h1 : G0.inf id = none := by
          cases h2 : G0.inf id with
          | none => rfl
          | some q =>
            have hid := R0.inf id q h2
            have := (List.getElem?_eq_some_iff.1 (hp id hid)).1
            omega
        rw [h1]
        simp only [Gh.gc]
        rw [List.getElem?_eq_none hx.2]
        rfl
      new := fun b j hb e => by
        simp only [Gh.gc] at e
        obtain ⟨i, _, h2⟩ := Option.bind_eq_some_iff.1 e
        exact List.mem_append_right _ (List.mem_range.2 (idx_lt h2))
      keep := fun b j e => by
        simp only [Gh.gc] at e
        obtain ⟨i, h1, _⟩ := Option.bind_eq_some_iff.1 e
        exact X.keep b i h1 }
theorem mask_len : ∀ (m : List Bool) (l : List PV), (mask m l).length = l.length
  | [], l => by simp [mask]
  | true :: m, [] => by simp [mask]
  | false :: m, [] => by simp [mask]
  | true :: m, p :: r => by simp [mask, mask_len m r]
  | false :: m, p :: r => by simp [mask, mask_len m r]
theorem nth_mask : ∀ (m : List Bool) (l : List PV) (t : Nat), nth (mask m l) t = nth l t ∨ nth (mask m l) t = .un
  | [], l, t => .inl (by simp [mask])
  | true :: m, [], t => .inl (by simp [mask])
  | false :: m, [], t => .inl (by simp [mask])
  | true :: m, p :: r, 0 => .inl (by simp [mask, nth])
  | true :: m, p :: r, t + 1 => by simpa [mask, nth] using nth_mask m r t
  | false :: m, p :: r, 0 => .inr (by simp [mask, nth])
  | false :: m, p :: r, t + 1 => by simpa [mask, nth] using nth_mask m r t
theorem name_all {G0 : Gh} {w0 w : World} (hi0 : Inv G0 w0) : ∀ (ex : List (Nat × Nat)) (h : List Blk) (G : Gh), Inv G w → Fr G0 w0 G w → (∀ id, RelB G w id (nthB h id)) → (∀ x ∈ ex, 0 < x.1) →
    ∃ G', Inv G' w ∧ Fr G0 w0 G' w ∧ (∀ id, RelB G' w id (nthB (h ++ ex.map fun x => .arr x.1 x.2 false []) id)) ∧ (∀ p v, Reps G w p v → Reps G' w p v) ∧ ∀ i, len h ≤ i → i < len h + ex.length → Reps G' w (.own i 0) (.slice none 0 0)
  | [], h, G, hi, f, hb, _ => ⟨G, hi, f, by simpa using hb, fun _ _ r => r, fun i h1 h2 => by simp at h2; omega⟩
  | x :: ex, h, G, hi, f, hb, hx => by
    have h0 : RelB G w (len h) none := none_at h (hb (len h))
    have X := ext_name hi (len h) (x.1, 0, false) h0
    obtain ⟨n1, n2⟩ := name_nil hi (hx x (by simp)) x.2 h0
    have hb' : ∀ id, RelB (G.name (len h) (x.1, 0, false)) w id (nthB (h ++ [.arr x.1 x.2 false []]) id) := fun id => by
      by_cases e : id = len h
      · subst e
        rw [nthB_new]
        exact n1
      · rw [nthB_push h _ id e]
        exact RelB.ext X hi (by simpa using e) (hb id)
    obtain ⟨G', a1, a2, a3, a4, a5⟩ := name_all hi0 ex (h ++ [.arr x.1 x.2 false []]) _ (hi.ext X) (f.step hi0 X) hb' (fun y hy => hx y (by simp [hy]))
    refine ⟨G', a1, a2, by simpa [List.append_assoc] using a3, fun p v r => a4 p v (Reps.ext X hi p v r), fun i h1 h2 => ?_⟩
    by_cases e : i = len h
    · subst e
      exact a4 _ _ n2
    · refine a5 i ?_ ?_
      · rw [len_append]
        simp [len]
        omega
      · rw [len_append]
        simp [len] at h2 ⊢
        omega
theorem nils_map : ∀ ex : List (Nat × Nat), nils ex = ex.map fun x => .arr x.1 x.2 false []
  | [] => rfl
  | x :: r => by simp only [nils, List.map_cons, nils_map r]
theorem posL_ok : ∀ {ex : List (Nat × Nat)}, posL ex = true → ∀ x ∈ ex, 0 < x.1
  | [], _, _, h => by cases h
  | x :: r, h, y, hy => by
    simp only [posL, Bool.and_eq_true] at h
    rcases List.mem_cons.1 hy with rfl | hy
    · exact Nat.le_of_ble_eq_true h.1
    · exact posL_ok h.2 y hy
theorem upT_len : ∀ (u : List (Option Nat)) (l : List PV), (upT u l).length = l.length
  | [], l => by cases l <;> simp [upT]
  | none :: u, [] => by simp [upT]
  | some i :: u, [] => by simp [upT]
  | none :: u, p :: r => by simp [upT, upT_len u r]
  | some i :: u, p :: r => by cases p <;> simp [upT, upT_len u r]
theorem nth_upT {m n : Nat} : ∀ (u : List (Option Nat)) (l : List PV) (t : Nat), upIn m n u = true → nth (upT u l) t = nth l t ∨ nth l t = .nil ∧ ∃ i, m ≤ i ∧ i < n ∧ nth (upT u l) t = .own i 0
  | [], l, t, _ => .inl (by cases l <;> simp [upT])
  | none :: u, [], t, _ => .inl (by simp [upT])
  | some i :: u, [], t, _ => .inl (by simp [upT])
  | none :: u, p :: r, 0, _ => .inl (by simp [upT, nth])
  | none :: u, p :: r, t + 1, h => by
    simp only [upIn] at h
    simpa [upT, nth] using nth_upT u r t h
  | some i :: u, p :: r, 0, h => by
    simp only [upIn, Bool.and_eq_true] at h
    cases p
    case nil => exact .inr ⟨rfl, i, Nat.le_of_ble_eq_true h.1.1, Nat.le_of_ble_eq_true h.1.2, by simp [upT, nth]⟩
    all_goals exact .inl (by simp [upT, nth])
  | some i :: u, p :: r, t + 1, h => by
    simp only [upIn, Bool.and_eq_true] at h
    have := nth_upT u r t h.2
    cases p <;> simpa [upT, nth] using this
theorem upT_ok {m n : Nat} {G : Gh} {w : World} (hn : ∀ i, m ≤ i → i < n → Reps G w (.own i 0) (.slice none 0 0)) : ∀ (u : List (Option Nat)) (l : List PV) (vs : List Value), upIn m n u = true → RepsL G w l vs → RepsL G w (upT u l) vs
  | [], l, vs, _, r => by cases l <;> simpa [upT] using r
  | none :: u, [], vs, _, r => by simpa [upT] using r
  | some i :: u, [], vs, _, r => by simpa [upT] using r
  | none :: u, p :: l, vs, h, r => by
    simp only [upIn] at h
    simp only [upT]
    simp only [RepsL] at r ⊢
    obtain ⟨v, vs', h1, h2, h3⟩ := r
    exact ⟨v, vs', h1, h2, upT_ok hn u l vs' h h3⟩
  | some i :: u, p :: l, vs, h, r => by
    simp only [upIn, Bool.and_eq_true] at h
    simp only [RepsL] at r
    obtain ⟨v, vs', h1, h2, h3⟩ := r
    have ih := upT_ok hn u l vs' h.2 h3
    cases p
    case nil =>
      simp only [Reps] at h2
      subst h2
      simp only [upT, RepsL]
      exact ⟨_, vs', h1, hn i (Nat.le_of_ble_eq_true h.1.1) (Nat.le_of_ble_eq_true h.1.2), ih⟩
    all_goals
      simp only [upT, RepsL]
      exact ⟨v, vs', h1, h2, ih⟩
theorem upBs_ok {m n : Nat} {G : Gh} {w : World} (hn : ∀ i, m ≤ i → i < n → Reps G w (.own i 0) (.slice none 0 0)) : ∀ (bs : List (List (Option Nat))) (h r : List Blk) (id : Nat), upIns m n bs = true → ∀ id2, RelB G w id2 (nthB (h ++ r) id) → RelB G w id2 (nthB (upBs bs h ++ r) id)
  | [], h, r, id, _, _, hb => by cases h <;> simpa [upBs] using hb
  | u :: us, [], r, id, _, _, hb => by simpa [upBs] using hb
  | u :: us, .arr sz ty fz els :: h, r, 0, _, _, hb => by simpa [upBs, nthB] using hb
  | u :: us, .box ty cs :: h, r, 0, hu, _, hb => by
    simp only [upIns, Bool.and_eq_true] at hu
    simp only [upBs, List.cons_append, nthB, RelB, upT_len] at hb ⊢
    obtain ⟨h1, h2, b, vs, h3, h4, h5, h6⟩ := hb
    exact ⟨h1, h2, b, vs, h3, h4, h5, upT_ok hn u cs _ hu.1 h6⟩
  | u :: us, B :: h, r, id + 1, hu, id2, hb => by
    simp only [upIns, Bool.and_eq_true] at hu
    have := upBs_ok hn us h r id hu.2 id2 (by simpa [nthB] using hb)
    cases B <;> simpa [upBs, nthB] using this
theorem weak_ok {s s' : List PV} {h h' : List Blk} {nref : Nat} {G0 G : Gh} {w0 w : World} {a : Act} (R0 : Refs nref G0 w0) (r : Rel s h G a w) (f : Fr G0 w0 G w) (hw : Weak s h nref s' h') : ∃ G', Rel s' h' G' a w ∧ Fr G0 w0 G' w := by
  obtain ⟨ex, us, bs, hx, hu, hb, s1, h1, ms, rfl⟩ := hw
  obtain ⟨G2, a1, a2, a3, a4, a5⟩ := name_all R0.inv ex h G r.inv f r.b (posL_ok hx)
  have hl : ex.length = len ex := by
    clear hx hu hb h1 a3 a5
    induction ex with
    | nil => rfl
    | cons x l ih => simp [len, ih]
  rw [hl] at a5
  have r2 : Rel (upT us s) (upBs bs h ++ nils ex) G2 a w := ⟨r.defers, by rw [upT_len]; exact r.size, fun t => by
    rcases nth_upT us s t hu with e | ⟨e1, i, i1, i2, e2⟩
    · rw [e]
      exact a4 _ _ (r.t t)
    · rw [e2]
      have := r.t t
      rw [e1] at this
      simp only [Reps] at this
      rw [this]
      exact a5 i i1 i2, fun id => by
    rw [nils_map]
    exact upBs_ok a5 bs h _ id hb id (a3 id), a1⟩
  obtain ⟨G', r1, f1⟩ := weak_ok0 R0 r2 a2 h1
  refine ⟨G', ⟨r1.defers, by rw [mask_len]; exact r1.size, fun t => ?_, r1.b, r1.inv⟩, f1⟩
  rcases nth_mask ms s1 t with e | e
  · rw [e]
    exact r1.t t
  · rw [e]
    simp only [Reps]

/-! ### loops -/
def LoopAt (P : Program) (c : Code) (Q : Exit → Act → World → Prop) (a : Act) (w : World) : Prop :=
  ∀ (b : Frame) (k : List Item) (cs : List Frame), ∃ e a' w', Q e a' w' ∧ Arrives P (lone (b.at a (.code c :: .inLoop c :: k)) cs w) b k cs e a' w'
theorem loopAt_step {P : Program} {c : Code} {Q : Exit → Act → World → Prop} {a : Act} {w : World} (h : c.wp P (Exit.then (LoopAt P c Q) Q) a w) : LoopAt P c Q a w := by
  intro b k cs
  obtain ⟨e, a1, w1, hq, harr⟩ := h b (.inLoop c :: k) cs
  cases e with
  | normal =>
    obtain ⟨e2, a2, w2, hq2, harr2⟩ := hq b k cs
    exact ⟨e2, a2, w2, hq2, .of_steps (Steps.trans harr (.one step_inLoop)) harr2⟩
  | _ => exact ⟨_, a1, w1, hq, .pass (x := .inLoop c) rfl (fun _ _ => .inl (by simp)) harr⟩
theorem loop_of_at {P : Program} {c : Code} {Q : Exit → Act → World → Prop} {a : Act} {w : World} (h : LoopAt P c Q a w) : (Code.loop c).wp P Q a w := fun b k cs => by
  obtain ⟨e, a1, w1, hq, harr⟩ := h b k cs
  exact ⟨e, a1, w1, hq, .of_steps (.one step_loop) harr⟩

section
variable {E : Env} {nref : Nat} {G0 : Gh} {w0 : World}
theorem setC_self {s : List PV} {c : Operand} {x : Bool} (h : ev s c = .v (.b x)) : setC s c x = s := by
  cases c with
  | tmp t =>
    simp only [setC]
    rw [← h]
    exact put_self s t
  | _ => rfl

theorem code_ok (R0 : Refs nref G0 w0) : ∀ (c : Code) (s : List PV) (h : List Blk) (K : KontC), aCode E nref c s h K → ∀ (G : Gh) (a : Act) (w : World) (Q : Exit → Act → World → Prop), Rel s h G a w → Fr G0 w0 G w →
    (∀ e s' h' G' a' w', K e s' h' → Rel s' h' G' a' w' → Fr G0 w0 G' w' → Q e a' w') → c.wp E.P Q a w
  | .skip, s, h, K, hk, G, a, w, Q, r, f, hQ => wp_skip (hQ _ _ _ _ _ _ hk r f)
  | .region id ops draw, s, h, K, hk, G, a, w, Q, r, f, hQ => by
    simp only [aCode] at hk
    cases draw with
    | false => exact wp_region_list (ops_seq R0.inv _ _ _ _ hk G a w r f (fun s' h' acc G' a' w' hK r' f' => hQ _ _ _ _ _ _ hK r' f'))
    | true =>
      have two : ∀ {x y : Bool} {A : Prop}, cond (!true || (x && y)) A False → (x = true ∧ y = true) ∧ A := fun {x y A} h => by
        cases x <;> cases y <;> first | exact h.elim | exact ⟨⟨rfl, rfl⟩, h⟩
      exact ops_draw R0.inv hk (fun s' h' acc hK => (two hK).1) r f (fun s' h' acc G' a' w' hK r' f' => hQ _ _ _ _ _ _ (two hK).2 r' f')
  | .seq x y, s, h, K, hk, G, a, w, Q, r, f, hQ => by
    simp only [aCode] at hk
    cases hk with
    | go hk =>
      refine wp_seq (code_ok R0 x s h _ hk G a w _ r f (fun e s' h' G' a' w' hK r' f' => ?_))
      cases e with
      | normal => exact code_ok R0 y s' h' K hK G' a' w' Q r' f' hQ
      | _ => exact hQ _ _ _ _ _ _ hK r' f'
    | cut J hk hb =>
      refine wp_seq (code_ok R0 x s h _ hk G a w _ r f (fun e s' h' G' a' w' hK r' f' => ?_))
      cases e with
      | normal =>
        obtain ⟨s2, h2, hw, hJ⟩ := hK
        obtain ⟨G2, r2, f2⟩ := weak_ok R0 r' f' hw
        exact code_ok R0 y s2 h2 K (hb _ _ hJ) G2 a' w' Q r2 f2 hQ
      | _ => exact hQ _ _ _ _ _ _ hK r' f'
  | .cond c x y, s, h, K, hk, G, a, w, Q, r, f, hQ => by
    simp only [aCode] at hk
    split at hk
    · rename_i v hv
      have hc : a.eval c = .bool v := by
        have := r.ev c
        rw [hv] at this
        simpa only [Reps, RepC] using this
      refine wp_cond hc ?_
      cases v with
      | true =>
        have := hk.1 rfl
        rw [setC_self hv] at this
        exact code_ok R0 x s h K this G a w Q r f hQ
      | false =>
        have := hk.2 rfl
        rw [setC_self hv] at this
        exact code_ok R0 y s h K this G a w Q r f hQ
    · exact hk.elim
  | .block id c, s, h, K, hk, G, a, w, Q, r, f, hQ => by
    simp only [aCode] at hk
    refine wp_block (code_ok R0 c s h _ hk G a w _ r f (fun e s' h' G' a' w' hK r' f' => ?_))
    cases e with
    | exit j =>
      simp only at hK
      simp only [Exit.inBlock]
      cases hb : Nat.beq j id with
      | true =>
        rw [hb] at hK
        rw [if_pos (Nat.eq_of_beq_eq_true hb)]
        exact hQ _ _ _ _ _ _ hK r' f'
      | false =>
        rw [hb] at hK
        rw [if_neg (fun e => by subst e; rw [show Nat.beq j j = true from Nat.beq_refl j] at hb; cases hb)]
        exact hQ _ _ _ _ _ _ hK r' f'
    | _ => exact hQ _ _ _ _ _ _ hK r' f'
  | .loop c, s, h, K, hk, G, a, w, Q, r, f, hQ => by
    simp only [aCode] at hk
    obtain ⟨I, n, s1, h1, hw, hI, round⟩ := hk
    have key : ∀ n s h G a w, I n s h → Rel s h G a w → Fr G0 w0 G w → LoopAt E.P c Q a w := by
      intro n
      induction n using Nat.strongRecOn with
      | _ n ih =>
        intro s h G a w hI r f
        refine loopAt_step (code_ok R0 c s h _ (round n s h hI) G a w _ r f (fun e s' h' G' a' w' hK r' f' => ?_))
        cases e with
        | normal =>
          obtain ⟨m, s2, h2, hlt, hw, hI2⟩ := hK
          obtain ⟨G2, r2, f2⟩ := weak_ok R0 r' f' hw
          exact ih m hlt s2 h2 G2 a' w' hI2 r2 f2
        | _ => exact hQ _ _ _ _ _ _ hK r' f'
    obtain ⟨G1, r1, f1⟩ := weak_ok R0 r f hw
    exact loop_of_at (key n s1 h1 G1 a w hI r1 f1)
  | .exit id, s, h, K, hk, G, a, w, Q, r, f, hQ => wp_exit (hQ _ _ _ _ _ _ hk r f)
  | .ret, s, h, K, hk, G, a, w, Q, r, f, hQ => wp_ret (hQ _ _ _ _ _ _ hk r f)
  | .rangeFunc _ _ _ _, s, h, K, hk, G, a, w, Q, r, f, hQ => by simp only [aCode] at hk
  | .scope _, s, h, K, hk, G, a, w, Q, r, f, hQ => by simp only [aCode] at hk
  | .label _, s, h, K, hk, G, a, w, Q, r, f, hQ => by simp only [aCode] at hk
  | .goto _, s, h, K, hk, G, a, w, Q, r, f, hQ => by simp only [aCode] at hk
  | .refuse _, s, h, K, hk, G, a, w, Q, r, f, hQ => by simp only [aCode] at hk
end
end Go.Proofs.YthkepmicdpgbbaaGreatDoor.E

/- A call of a function comes to what is told of its code. -/
namespace Go.Proofs.YthkepmicdpgbbaaGreatDoor.E
open Go Go.RowKit Go.Proofs.YthkepmicdpgbbaaGreatDoorW.PrintWords
set_option linter.unusedVariables false
set_option linter.unusedSimpArgs false

/-! ### rows that are nil -/
mutual
theorem upP_le : ∀ (p : PV) (m : Nat), m ≤ (upP m p).2
  | .nil, m => by simp [upP]
  | .agg cs, m => by
    simp only [upP]
    exact upL_le cs m
  | .tup cs, m => by
    simp only [upP]
    exact upL_le cs m
  | .v _, m => by simp [upP]
  | .own _ _, m => by simp [upP]
  | .ptr _ _, m => by simp [upP]
  | .eptr _ _ _ _, m => by simp [upP]
  | .rptr _, m => by simp [upP]
  | .un, m => by simp [upP]
theorem upL_le : ∀ (l : List PV) (m : Nat), m ≤ (upL m l).2
  | [], m => by simp [upL]
  | p :: r, m => by
    simp only [upL]
    exact Nat.le_trans (upP_le p m) (upL_le r _)
end
mutual
theorem upP_ok {G : Gh} {w : World} : ∀ (p : PV) (m : Nat) (v : Value), (∀ i, m ≤ i → i < (upP m p).2 → Reps G w (.own i 0) (.slice none 0 0)) → Reps G w p v → Reps G w (upP m p).1 v
  | .nil, m, v, h, r => by
    simp only [Reps] at r
    subst r
    simp only [upP] at h ⊢
    exact h m (Nat.le_refl _) (by omega)
  | .agg cs, m, v, h, r => by
    simp only [Reps] at r
    obtain ⟨vs, rfl, r⟩ := r
    simp only [upP] at h ⊢
    simp only [Reps]
    exact ⟨vs, rfl, upL_ok cs m _ h r⟩
  | .tup cs, m, v, h, r => by
    simp only [Reps] at r
    obtain ⟨vs, rfl, r⟩ := r
    simp only [upP] at h ⊢
    simp only [Reps]
    exact ⟨vs, rfl, upL_ok cs m _ h r⟩
  | .v _, m, v, h, r => by simpa only [upP] using r
  | .own _ _, m, v, h, r => by simpa only [upP] using r
  | .ptr _ _, m, v, h, r => by simpa only [upP] using r
  | .eptr _ _ _ _, m, v, h, r => by simpa only [upP] using r
  | .rptr _, m, v, h, r => by simpa only [upP] using r
  | .un, m, v, h, r => by simpa only [upP] using r
theorem upL_ok {G : Gh} {w : World} : ∀ (l : List PV) (m : Nat) (vs : List Value), (∀ i, m ≤ i → i < (upL m l).2 → Reps G w (.own i 0) (.slice none 0 0)) → RepsL G w l vs → RepsL G w (upL m l).1 vs
  | [], m, vs, h, r => by simpa only [upL] using r
  | p :: l, m, vs, h, r => by
    simp only [RepsL] at r
    obtain ⟨v, vs', rfl, r1, r2⟩ := r
    simp only [upL] at h ⊢
    simp only [RepsL]
    refine ⟨v, vs', rfl, upP_ok p m v (fun i h1 h2 => h i h1 (Nat.lt_of_lt_of_le h2 (upL_le l _))) r1, upL_ok l _ vs' (fun i h1 h2 => h i (Nat.le_trans (upP_le p m) h1) h2) r2⟩
end

section
variable {E : Env}
theorem load_var {t : Nat} {v u : Value} {w : World} (h : (Instr.loadAt t v).run E.P w = .ok u w) : (do loadVar t (← asAddr v) : Sem Value).run E.P w = .ok u w := by
  cases v with
  | pointer p =>
    cases p with
    | some a => simpa [Instr.loadAt, Instr.sureAddr, asAddr] using h
    | none => simp [Instr.loadAt, Instr.sureAddr, stuck, Sem.run] at h
  | _ => simp [Instr.loadAt, Instr.sureAddr, stuck, Sem.run] at h

def resOne (tmps : Array Value) : ResultVar → Sem Value
  | .tmp t => pure (tmps.getD t undef)
  | .cell a t => do loadVar t (← asAddr (tmps.getD a undef))

theorem res_ok {s : List PV} {h : List Blk} : ∀ (rs : List ResultVar) (R : List PV → Prop), aRes E s h rs R → ∀ (G : Gh) (a : Act) (w : World), Rel s h G a w → ∃ ps vs, R ps ∧ (rs.mapM (resOne a.tmps)).run E.P w = .ok vs w ∧ RepsL G w ps vs
  | [], R, hk, G, a, w, r => ⟨[], [], hk, by simp, by simp [RepsL]⟩
  | .tmp t :: rs, R, hk, G, a, w, r => by
    simp only [aRes] at hk
    obtain ⟨ps, vs, h1, h2, h3⟩ := res_ok rs _ hk G a w r
    refine ⟨_, a.tmps.getD t undef :: vs, h1, ?_, ?_⟩
    · simp [List.mapM_cons, resOne, h2]
    · simp only [RepsL]
      exact ⟨_, _, rfl, r.t t, h3⟩
  | .cell t ty :: rs, R, hk, G, a, w, r => by
    simp only [aRes] at hk
    obtain ⟨q, rd, hk, hl⟩ := load_r hk
    obtain ⟨u, e1, e2⟩ := hl G w _ r.inv ⟨_, r.t t, rfl⟩ (fun id _ => r.b id)
    obtain ⟨ps, vs, h1, h2, h3⟩ := res_ok rs _ hk G a w r
    have e3 := load_var e1
    refine ⟨_, u :: vs, h1, ?_, ?_⟩
    · have : (resOne a.tmps (.cell t ty)).run E.P w = .ok u w := e3
      simp [List.mapM_cons, this, h2]
    · simp only [RepsL]
      exact ⟨_, _, rfl, e2, h3⟩

def retV : List Value → Value
  | [v] => v
  | vs => .tuple vs.toArray
theorem ret_rep {G : Gh} {w : World} : ∀ {ps : List PV} {vs : List Value}, RepsL G w ps vs → Reps G w (retOf ps) (retV vs)
  | [], vs, h => by
    simp only [RepsL] at h
    subst h
    simp only [retOf, retV, Reps, RepsL]
    exact ⟨#[], rfl, rfl⟩
  | [p], vs, h => by
    simp only [RepsL] at h
    obtain ⟨v, vs', rfl, h1, rfl⟩ := h
    exact h1
  | p :: q :: l, vs, h => by
    have h' := h
    simp only [RepsL] at h
    obtain ⟨v, vs', rfl, _, u, us, rfl, _⟩ := h
    simp only [retOf, retV, Reps]
    exact ⟨_, rfl, h'⟩

theorem run_results {fn : Func} {tmps : Array Value} {w : World} {vs : List Value} (h : (fn.results.toList.mapM (resOne tmps)).run E.P w = .ok vs w) :
    (results fn tmps).run E.P w = .ok (retV vs) w := by
  have e : (fn.results.mapM (resOne tmps)).run E.P w = .ok vs.toArray w := by
    rw [Array.mapM_eq_mapM_toList]
    simp [h]
  have e2 : results fn tmps = (do let vs ← fn.results.mapM (resOne tmps); pure (if h : vs.size = 1 then vs[0] else .tuple vs)) := by
    unfold results
    congr 1
  rw [e2, Sem.run_bind, e]
  simp only [Result.andThen_ok, Sem.run_pure]
  match vs with
  | [] => rfl
  | [v] => rfl
  | v :: u :: r => simp [retV]

theorem nth_args : ∀ {args : List PV} {vals : List Value} {G : Gh} {w : World}, RepsL G w args vals → ∀ (n t : Nat), Reps G w (nth (args ++ List.replicate n .un) t) ((vals ++ List.replicate n undef).getD t undef)
  | [], vals, G, w, h, n, t => by
    simp only [RepsL] at h
    subst h
    have : ∀ (n t : Nat), nth (List.replicate n .un) t = .un := fun n => by
      induction n with
      | zero => intro t; rfl
      | succ n ih => intro t; cases t with
        | zero => rfl
        | succ t => simpa [List.replicate_succ, nth] using ih t
    rw [List.nil_append, this]
    simp only [Reps]
  | p :: ps, vals, G, w, h, n, t => by
    simp only [RepsL] at h
    obtain ⟨v, vs, rfl, h1, h2⟩ := h
    cases t with
    | zero => simpa [nth] using h1
    | succ t => simpa [nth] using nth_args h2 n t

theorem callFunc_of {P : Program} {f : FuncId} {fn : Func} (hf : P.funcs[f]? = some fn) (hname : (fn.name == "runtime.NumGoroutine") = false) (hb : fn.body.isSome = true) : ∀ (as_ : Array Value) (w : World), (callFunc f as_).run P w = .ok (.enter f as_) w := by
  intro as_ w
  cases hb' : fn.body with
  | none => rw [hb'] at hb; cases hb
  | some c =>
    have hne : ¬ fn.name = "runtime.NumGoroutine" := by simpa using hname
    simp [callFunc, hf, hne, hb']

/-- WHAT A FUNCTION COMES TO. -/
theorem fn_ok {f : FuncId} {fn : Func} {c : Code} (hf : E.P.funcs[f]? = some fn) (hname : (fn.name == "runtime.NumGoroutine") = false) (hb : fn.body = some c) {args : List PV} {bin bl : List Blk} {r : PV} {n : Nat} (hn : fn.ntmps = args.length + n)
    (hk : aCode E (len bin) c (args ++ List.replicate n .un) bin (aFin E (len bin) fn.results.toList r bl)) : Spec E.P f args bin r bl := by
  refine ⟨callFunc_of hf hname (by rw [hb]; rfl), fun G w vals hi hargs hbin => ?_⟩
  have hlen := hargs.length
  rw [Array.length_toList] at hlen
  refine calls_of_wp hf hb ?_
  have R0 : Refs (len bin) G w := ⟨hi, fun b id h => by
    rcases Nat.lt_or_ge id (len bin) with h' | h'
    · exact h'
    · have := hbin id
      rw [nthB_ge bin id h'] at this
      exact absurd h (this.2 b), fun id q h => by
    rcases Nat.lt_or_ge id (len bin) with h' | h'
    · exact h'
    · have := hbin id
      rw [nthB_ge bin id h'] at this
      rw [this.1] at h
      cases h⟩
  have hr : fn.ntmps - vals.size = n := by omega
  rw [hr]
  refine code_ok R0 c _ bin _ hk G _ w _ ⟨rfl, by simp [hlen], fun t => ?_, hbin, hi⟩ ⟨[], Ext.refl hi []⟩ fun e s' h' G' a' w' hK r' f' => ?_
  · have := nth_args hargs n t
    have e1 : (vals ++ Array.replicate n undef).getD t undef = (vals.toList ++ List.replicate n undef).getD t undef := by
      rw [Array.getD_eq_getD_getElem?, List.getD_eq_getElem?_getD, ← Array.getElem?_toList]
      simp
    simp only
    rw [e1]
    exact this
  · have hK' : (e = .ret ∨ e = .normal) ∧ aRes E s' h' fn.results.toList fun ps => FinVC (len bin) (retOf ps) h' r bl := by
      cases e <;> first | exact ⟨.inl rfl, hK⟩ | exact ⟨.inr rfl, hK⟩ | exact hK.elim
    obtain ⟨he, hK⟩ := hK'
    obtain ⟨ps, vs, hfin, h2, h3⟩ := res_ok _ _ hK G' a' w' r'
    have hres := run_results (fn := fn) h2
    have hv0 := ret_rep h3
    generalize retV vs = v at hres hv0
    obtain ⟨Gf, qf, hf', ⟨ex, keep, k1, k2, k3, k4, k5, k6⟩, fi, ff, fb, hv⟩ : ∃ G2 q2 h2, Fin0 (len bin) q2 h2 r bl ∧ Inv G2 w' ∧ Fr G w G2 w' ∧ (∀ id, RelB G2 w' id (nthB h2 id)) ∧ Reps G2 w' q2 v := by
      cases hfin with
      | up k => exact ⟨G', _, h', k, r'.inv, f', r'.b, hv0⟩
      | dn id n sz ty fz els hq hb hn k =>
        have X := ext_frz r'.inv [id]
        rw [hq] at hv0
        have r0 := r'.b id
        rw [hb] at r0
        refine ⟨G'.frz [id], _, _, k, r'.inv.ext X, f'.step hi X, fun i => ?_, ?_⟩
        · by_cases e : i = id
          · subst e
            exact frz_rel r'.inv (fun j hj => r'.b j) (fun j hj => by rw [List.mem_singleton.1 hj, hb]; trivial) i (by simp)
          · rw [nthB_frz, if_neg (by simpa using e)]
            exact RelB.ext X r'.inv (by simpa using e) (r'.b i)
        · simp only [Reps]
          exact own_row (fun b o h1 h2 => (imm_old X r'.inv b o h1 h2).1) (fun b hb' => .inr (.inr ⟨id, sz, els.length, hb', by simp [Gh.frz, r0.1]⟩)) r0 hn hv0
    obtain ⟨G2, a1, a2, a3, a4, a5⟩ := name_all hi ex hf' Gf fi ff fb k1
    have hup := upP_ok qf (len hf') v (fun i h1 h2 => a5 i h1 (by rw [k2, len_eq] at h2; rw [len_eq] at h2 ⊢; exact h2)) (a4 _ _ hv)
    have rr : Rel [(upP (len hf') qf).1] (hf' ++ ex.map fun x => .arr x.1 x.2 false []) G2 { tmps := #[v], defers := [] } w' := by
      refine ⟨rfl, rfl, fun t => ?_, a3, a1⟩
      cases t with
      | zero => exact hup
      | succ t => simp only [nth, Reps]
    obtain ⟨G3, r3, f3⟩ := weak_ok0 R0 rr a2 ⟨keep, k3, k4, k5, rfl⟩
    have post : ∃ v2 G' ids, Ending.returned v = Ending.returned v2 ∧ Ext ids G w G' w' ∧ Reps G' w' r v2 ∧ ∀ id, RelB G' w' id (nthB bl id) := by
      obtain ⟨ids, X⟩ := f3
      refine ⟨v, G3, ids, rfl, X, ?_, r3.b⟩
      have := r3.t 0
      rw [gcT, nth_ren] at this
      simp only [nth] at this
      rw [k6] at this
      exact this
    cases e with
    | ret => exact ⟨r'.defers, _, hres, post⟩
    | normal => exact ⟨r'.defers, _, hres, post⟩
    | _ => rcases he with he | he <;> cases he
end
end Go.Proofs.YthkepmicdpgbbaaGreatDoor.E

/- The same, with the state written out at every step. -/
namespace Go.Proofs.YthkepmicdpgbbaaGreatDoor.E
open Go Go.RowKit Go.Proofs.YthkepmicdpgbbaaGreatDoorW.PrintWords
set_option linter.unusedVariables false
set_option linter.unusedSimpArgs false

mutual
def forceP : PV → (PV → Prop) → Prop
  | .v c, K => K (.v c)
  | .nil, K => K .nil
  | .own i n, K => K (.own i n)
  | .ptr i o, K => K (.ptr i o)
  | .eptr i n e o, K => K (.eptr i n e o)
  | .rptr cs, K => K (.rptr cs)
  | .agg cs, K => forceL cs fun cs => K (.agg cs)
  | .tup cs, K => forceL cs fun cs => K (.tup cs)
  | .un, K => K .un
def forceL : List PV → (List PV → Prop) → Prop
  | [], K => K []
  | p :: r, K => forceP p fun p => forceL r fun r => K (p :: r)
end
/-- One place changes. -/
def forceAt : List PV → Nat → PV → (List PV → Prop) → Prop
  | [], _, _, K => K []
  | _ :: r, 0, q, K => forceP q fun q => K (q :: r)
  | p :: r, n + 1, q, K => forceAt r n q fun r => K (p :: r)
def forceO (s : List PV) (d : Option Tmp) (q : PV) (K : List PV → Prop) : Prop :=
  match d with
  | some t => forceAt s t q K
  | none => K s
def forceB : List Blk → (List Blk → Prop) → Prop
  | [], K => K []
  | .arr a b c d :: r, K => forceB r fun r => K (.arr a b c d :: r)
  | .box t cs :: r, K => forceL cs fun cs => forceB r fun r => K (.box t cs :: r)
mutual
theorem forceP_eq : ∀ (p : PV) (K : PV → Prop), forceP p K = K p
  | .v c, K => by simp only [forceP]
  | .nil, K => by simp only [forceP]
  | .own i n, K => by simp only [forceP]
  | .ptr i o, K => by simp only [forceP]
  | .eptr i n e o, K => by simp only [forceP]
  | .rptr cs, K => by simp only [forceP]
  | .agg cs, K => by simp only [forceP]; rw [forceL_eq cs]
  | .tup cs, K => by simp only [forceP]; rw [forceL_eq cs]
  | .un, K => by simp only [forceP]
theorem forceL_eq : ∀ (l : List PV) (K : List PV → Prop), forceL l K = K l
  | [], K => by simp only [forceL]
  | p :: r, K => by
    simp only [forceL]
    rw [forceP_eq p, forceL_eq r]
end
theorem forceAt_eq : ∀ (s : List PV) (t : Nat) (q : PV) (K : List PV → Prop), forceAt s t q K = K (put s t q)
  | [], t, q, K => by simp only [forceAt, put]
  | _ :: r, 0, q, K => by simp only [forceAt, put]; rw [forceP_eq]
  | p :: r, n + 1, q, K => by simp only [forceAt, put]; rw [forceAt_eq r n q]
theorem forceO_eq (s : List PV) (d : Option Tmp) (q : PV) (K : List PV → Prop) : forceO s d q K = K (putO s d q) := by
  cases d with
  | none => rfl
  | some t => exact forceAt_eq s t q K
theorem forceB_eq : ∀ (h : List Blk) (K : List Blk → Prop), forceB h K = K h
  | [], K => by simp only [forceB]
  | .arr a b c d :: r, K => by simp only [forceB]; rw [forceB_eq r]
  | .box t cs :: r, K => by simp only [forceB]; rw [forceL_eq, forceB_eq r]

def aOpsF (E : Env) (all : List Oper) : List Oper → List PV → List Blk → (List PV → List Blk → List (List Nat × List Nat) → Prop) → Prop
  | [], s, h, K => K s h []
  | o :: r, s, h, K => match o.guard with
    | none => aOp E h s o.op fun q h' rd wr => forceO s o.dst q fun s' => forceB h' fun h' => aOpsF E all r s' h' fun s2 h2 acc => K s2 h2 ((rd, wr) :: acc)
    | some (j, want) => match dstAt all j with
      | none => False
      | some t => match nth s t with
        | .v (.b x) =>
          Br2 x want (forceAt s t (.v (.b want)) fun s1 => aOp E h s1 o.op fun q h' rd wr => forceO s1 o.dst q fun s' => forceB h' fun h' => aOpsF E all r s' h' fun s2 h2 acc => K s2 h2 ((rd, wr) :: acc))
            (forceAt s t (.v (.b (!want))) fun s1 => forceO s1 o.dst (.tup []) fun s' => aOpsF E all r s' h fun s2 h2 acc => K s2 h2 (([], []) :: acc))
        | .tup [] => forceO s o.dst (.tup []) fun s' => aOpsF E all r s' h fun s2 h2 acc => K s2 h2 (([], []) :: acc)
        | _ => False
theorem aOpsF_eq (E : Env) (all : List Oper) : ∀ (r : List Oper) (s : List PV) (h : List Blk) (K : List PV → List Blk → List (List Nat × List Nat) → Prop), aOpsF E all r s h K = aOps E all r s h K
  | [], s, h, K => by simp only [aOpsF, aOps]
  | o :: r, s, h, K => by
    simp only [aOpsF, aOps, forceO_eq, forceB_eq, forceAt_eq, aOpsF_eq E all r]
    rfl

def forceS (s : List PV) (c : Operand) (x : Bool) (K : List PV → Prop) : Prop :=
  match c with
  | .tmp t => forceAt s t (.v (.b x)) K
  | _ => K s
theorem forceS_eq (s : List PV) (c : Operand) (x : Bool) (K : List PV → Prop) : forceS s c x K = K (setC s c x) := by
  cases c <;> first | rfl | exact forceAt_eq ..
def aCodeF (E : Env) (nref : Nat) : Code → List PV → List Blk → KontC → Prop
  | .skip, s, h, K => K .normal s h
  | .region _ ops draw, s, h, K => aOpsF E ops.toList ops.toList s h fun s' h' acc => cond (!draw || (afterOk 0 ops.toList && ordOk ops.toList (len ops.toList) 0 ops.toList acc)) (K .normal s' h') False
  | .seq a b, s, h, K => SeqVC nref (fun B => aCodeF E nref a s h fun e s' h' => match e with
    | .normal => B s' h'
    | e => K e s' h') fun s' h' => forceL s' fun s' => forceB h' fun h' => aCodeF E nref b s' h' K
  | .cond c x y, s, h, K => match ev s c with
    | .v (.b v) => Br v (forceS s c true fun s' => aCodeF E nref x s' h K) (forceS s c false fun s' => aCodeF E nref y s' h K)
    | _ => False
  | .block id c, s, h, K => aCodeF E nref c s h fun e s' h' => match e with
    | .exit j => cond (Nat.beq j id) (K .normal s' h') (K (.exit j) s' h')
    | e => K e s' h'
  | .loop c, s, h, K => LoopVC nref s h fun s h K' => forceL s fun s => forceB h fun h => aCodeF E nref c s h fun e s' h' => match e with
        | .normal => K' s' h'
        | e => K e s' h'
  | .exit id, s, h, K => K (.exit id) s h
  | .ret, s, h, K => K .ret s h
  | _, _, _, _ => False
theorem aCodeF_eq (E : Env) (nref : Nat) : ∀ (c : Code) (s : List PV) (h : List Blk) (K : KontC), aCodeF E nref c s h K = aCode E nref c s h K
  | .skip, s, h, K => by simp only [aCodeF, aCode]
  | .region _ ops draw, s, h, K => by simp only [aCodeF, aCode, aOpsF_eq]
  | .seq a b, s, h, K => by
    simp only [aCodeF, aCode, aCodeF_eq E nref b, aCodeF_eq E nref a, forceL_eq, forceB_eq]
    rfl
  | .cond c x y, s, h, K => by
    simp only [aCodeF, aCode, forceS_eq, aCodeF_eq E nref x, aCodeF_eq E nref y]
    rfl
  | .block id c, s, h, K => by
    simp only [aCodeF, aCode]
    exact aCodeF_eq E nref c _ _ _
  | .loop c, s, h, K => by
    simp only [aCodeF, aCode, forceL_eq, forceB_eq, aCodeF_eq E nref c]
    rfl
  | .exit id, s, h, K => by simp only [aCodeF, aCode]
  | .ret, s, h, K => by simp only [aCodeF, aCode]
  | .rangeFunc .., s, h, K => by simp only [aCodeF, aCode]
  | .scope _, s, h, K => by simp only [aCodeF, aCode]
  | .label _, s, h, K => by simp only [aCodeF, aCode]
  | .goto _, s, h, K => by simp only [aCodeF, aCode]
  | .refuse _, s, h, K => by simp only [aCodeF, aCode]
theorem fn_okF {E : Env} {f : FuncId} {fn : Func} {c : Code} (hf : E.P.funcs[f]? = some fn) (hname : (fn.name == "runtime.NumGoroutine") = false) (hb : fn.body = some c) {args : List PV} {bin bl : List Blk} {r : PV} {n : Nat} (hn : fn.ntmps = args.length + n)
    (hk : forceL (args ++ List.replicate n .un) fun s => forceB bin fun h => aCodeF E (len bin) c s h (aFin E (len bin) fn.results.toList r bl)) : Spec E.P f args bin r bl :=
  fn_ok hf hname hb hn (by rw [forceL_eq, forceB_eq, aCodeF_eq] at hk; exact hk)
end Go.Proofs.YthkepmicdpgbbaaGreatDoor.E

/- How a function's code is gone through, step by step. -/
namespace Go.Proofs.YthkepmicdpgbbaaGreatDoor.E
open Go Go.RowKit Go.Proofs.YthkepmicdpgbbaaGreatDoorW.PrintWords
set_option linter.unusedVariables false
set_option linter.unusedSimpArgs false

theorem map_all {α : Type} (f : α → List CV) (n : Nat) (hf : ∀ x, (f x).length = n) (l : List α) : ∀ x ∈ List.map f l, x.length = n := by
  intro x hx
  obtain ⟨y, _, rfl⟩ := List.mem_map.1 hx
  exact hf y

theorem size_lit (l : List UInt8) : (ByteArray.mk l.toArray).size = l.length := by simp [ByteArray.size]
theorem eqn_ {a b : Nat} (h : a = b) : a = b := h
theorem side_ {p K : Prop} (k : K) (h : p := by first | with_reducible rfl | exact Nat.le_of_ble_eq_true rfl | with_reducible assumption | (refine map_all _ _ ?_ _; intro _; exact Eq.refl _) | decide | (refine eqn_ ?_; exact Eq.refl _) | (simp only [List.length_map, List.length_set]; done) | omega | (simp only [List.length_map, List.length_append, List.length_set, maxLen, size_lit, bytesOf_length, List.length_cons, List.length_nil]; first | with_reducible assumption | omega) | (simp only [List.length_map, List.length_append, List.length_set, maxLen, List.length_cons, List.length_nil, size_lit, bytesOf_length] at *; omega) | exact Eq.refl _) : Side p K := ⟨h, k⟩
theorem bnd_ {α β : Type} {x : Option α} {f : α → Option β} {b : β} (h : x.bind f = some b) : ∃ a, x = some a ∧ f a = some b := Option.bind_eq_some_iff.1 h
theorem peel_ {α : Type} {c : Prop} [Decidable c] {x : Option α} {r : α} (h : (if c then x else none) = some r) : c ∧ x = some r := by
  by_cases hc : c
  · rw [if_pos hc] at h
    exact ⟨hc, h⟩
  · rw [if_neg hc] at h
    cases h
end Go.Proofs.YthkepmicdpgbbaaGreatDoor.E

/- How a function's code is gone through beside what it computes. -/
namespace Go.Proofs.YthkepmicdpgbbaaGreatDoor.E
open Go Go.RowKit Go.Proofs.YthkepmicdpgbbaaGreatDoorW.PrintWords
set_option linter.unusedVariables false
set_option linter.unusedSimpArgs false

/-! ### the side of the plain function -/
section
variable {α β : Type} {r : α}
theorem itet_ {a b : Option α} (h : (if true = true then a else b) = some r) : a = some r := by simpa using h
theorem itef_ {a b : Option α} (h : (if false = true then a else b) = some r) : b = some r := by simpa using h
theorem peeln_ {c : Prop} [Decidable c] {x : Option α} (h : (if c then none else x) = some r) : ¬c ∧ x = some r := by
  by_cases hc : c
  · rw [if_pos hc] at h
    cases h
  · rw [if_neg hc] at h
    exact ⟨hc, h⟩
theorem suc_ {k : Nat} {g : Nat → Option α} (h : g k = some r) (h0 : g 0 = none) : ∃ k', k = k' + 1 := by
  cases k with
  | zero => rw [h0] at h; cases h
  | succ k => exact ⟨k, rfl⟩
variable {c : Prop} [Decidable c] {A B : Option α} {P Q : Prop} {x : Bool}
theorem br_ (H : (if c then A else B) = some r) (h : x = decide c) (t : c → A = some r → P) (f : ¬c → B = some r → Q) : Br x P Q := by
  subst h
  refine ⟨fun e => ?_, fun e => ?_⟩
  · have e := of_decide_eq_true e
    rw [if_pos e] at H
    exact t e H
  · have e := of_decide_eq_false e
    rw [if_neg e] at H
    exact f e H
theorem brn_ (H : (if c then A else B) = some r) (h : x = !decide c) (t : ¬c → B = some r → P) (f : c → A = some r → Q) : Br x P Q := by
  subst h
  refine ⟨fun e => ?_, fun e => ?_⟩
  · have e := of_decide_eq_false (by simpa using e)
    rw [if_neg e] at H
    exact t e H
  · have e := of_decide_eq_true (by simpa using e)
    rw [if_pos e] at H
    exact f e H
theorem bd_ (b : Bool) : b = decide (b = true) := by cases b <;> rfl
theorem bs_ (x y : ByteArray) : (x.toList == y.toList) = decide (x.toList = y.toList) := by
  rw [Bool.eq_iff_iff]
  simp
theorem bs0_ (x y : ByteArray) : (!(x.toList == y.toList)) = !decide (x.toList = y.toList) := by rw [bs_]
theorem bi_ (x y : Int) : (x == y) = decide (x = y) := rfl
theorem bni_ (x y : Int) : (x != y) = !decide (x = y) := rfl
theorem bin_ (x y : Int) : (!(x == y)) = !decide (x = y) := rfl
theorem bn_ (b : Bool) : (!b) = !decide (b = true) := by cases b <;> rfl
theorem bnn_ (b : Bool) : b = !decide ((!b) = true) := by cases b <;> rfl
theorem nilB (a : ByteArray) : (a.toList == []) = (a.toList == (⟨#[]⟩ : ByteArray).toList) := by
  have : (⟨#[]⟩ : ByteArray).toList = [] := by unfold ByteArray.toList; unfold ByteArray.toList.loop; rfl
  rw [this]
theorem nilE (a : ByteArray) : (a.toList = []) = (a.toList = (⟨#[]⟩ : ByteArray).toList) := by
  have : (⟨#[]⟩ : ByteArray).toList = [] := by unfold ByteArray.toList; unfold ByteArray.toList.loop; rfl
  rw [this]
theorem sgo_ {nref : Nat} {A : (List PV → List Blk → Prop) → Prop} {B : List PV → List Blk → Prop} (k : A B) : SeqVC nref A B := .go k
theorem scut_ {E : Env} {nref : Nat} (id : Nat) {ops : Array Oper} {draw : Bool} {s : List PV} {h : List Blk} {B : List PV → List Blk → Prop} {C : (List PV → List Blk → Prop) → KontC} (J : List PV → List Blk → Prop)
    (a : aCodeF E nref (.region id ops draw) s h (C fun s h => ∃ s' h', Weak s h nref s' h' ∧ J s' h')) (b : ∀ s h, J s h → B s h) : SeqVC nref (fun B => aCodeF E nref (.region id ops draw) s h (C B)) B := .cut J a b
theorem brt_ (t : P) : Br true P Q := ⟨fun _ => t, fun h => by cases h⟩
theorem brf_ (f : Q) : Br false P Q := ⟨fun h => by (cases h), fun _ => f⟩
theorem brct_ {a b : Bool} (h : Br a P Q) : Br (cond true a b) P Q := h
theorem brcf_ {a b : Bool} (h : Br b P Q) : Br (cond false a b) P Q := h
theorem br2t_ (h : Br x P Q) : Br2 x true P Q := ⟨h.t, fun e => h.f e⟩
theorem br2f_ (h : Br x Q P) : Br2 x false P Q := ⟨h.f, fun e => h.t e⟩
end

/-! ### rows, written as lists -/
section
variable {e : Nat} {α : Type} {f : α → List CV} {K : List (List CV) → Prop}
theorem norm_nilapp {y : List α} (k : K (List.map f y)) : Norm e ([] ++ List.map f y) K := ⟨_, rfl, k⟩
theorem norm_appnil {y : List α} (k : K (List.map f y)) : Norm e (List.map f y ++ []) K := ⟨_, (List.append_nil _).symm, k⟩
theorem norm_app {x y : List α} (k : K (List.map f (x ++ y))) : Norm e (List.map f x ++ List.map f y) K := ⟨_, List.map_append, k⟩
theorem norm_set {l : List α} {i : Nat} {y : List CV} (v : α) (h : f v = y) (k : K (List.map f (l.set i v))) : Norm e ((List.map f l).set i y) K := ⟨_, by rw [List.map_set, h], k⟩
theorem norm_rep {n : Nat} {y : List CV} (v : α) (h : f v = y) (k : K (List.map f (List.replicate n v))) : Norm e (List.replicate n y) K := ⟨_, by rw [List.map_replicate, h], k⟩
theorem norm_td {l : List α} {m n : Nat} (k : K (List.map f ((l.take m).drop n))) : Norm e (((List.map f l).take m).drop n) K := ⟨_, by rw [List.map_drop, List.map_take], k⟩
theorem norm_t {l : List α} {m : Nat} (k : K (List.map f (l.take m))) : Norm e (((List.map f l).take m).drop ((0 : Int).toNat)) K := ⟨_, by rw [List.map_take]; rfl, k⟩
theorem norm_d {l : List α} {n : Nat} (k : K (List.map f (l.drop n))) : Norm e (((List.map f l).take (((List.map f l).length : Nat) : Int).toNat).drop n) K := ⟨_, by rw [List.map_drop, Int.toNat_natCast, List.take_length], k⟩
theorem norm_lit {sz n : Nat} {c : List CV} (l : List α) (h : List.map f l = chunks sz n c) (k : K (List.map f l)) : Norm e (chunks sz n c) K := ⟨_, h, k⟩
end
theorem elem_ {α : Type} {f : α → List CV} {l : List α} {j : Int} {K : List CV → Prop} (d v : α) (hv : l.getD j.toNat d = v) (k : K (f v)) (h0 : 0 ≤ j) (h1 : j < (l.length : Int)) : ElemAt (List.map f l) j.toNat K := by
  subst hv
  refine ⟨_, ?_, k⟩
  have h2 : j.toNat < l.length := by omega
  rw [List.getElem?_map, List.getD_eq_getElem?_getD, List.getElem?_eq_getElem h2]
  rfl
theorem lenm_ {α : Type} {f : α → List CV} {l : List α} {K : Nat → Prop} (k : K l.length) : LenAt (List.map f l) K := ⟨_, (List.length_map _).symm, k⟩
theorem stre_ {l : List Int} {K : List Int → Prop} (k : K l) : StrAt (List.map (fun x => [.i .u8 x]) l) K := ⟨l, rfl, k⟩
theorem stre0_ {K : List Int → Prop} (k : K []) : StrAt [] K := ⟨[], rfl, k⟩

theorem cons_eq {α : Type} {a b : α} {l m : List α} (h : a = b) (k : l = m) : a :: l = b :: m := by rw [h, k]
theorem vi_eq {k : IntKind} {a b : Int} (h : a = b) : PV.v (.i k a) = PV.v (.i k b) := by rw [h]
theorem wm_ (x : Int) : wrap64 (x % 256) = x % 256 := by unfold wrap64; omega
theorem own_eq {i n m : Nat} (h : n = m) : PV.own i n = PV.own i m := by rw [h]
theorem tup_eq {l m : List PV} (h : l = m) : PV.tup l = PV.tup m := by rw [h]
theorem agg_eq {l m : List PV} (h : l = m) : PV.agg l = PV.agg m := by rw [h]
/-! ### calls, loops, the end -/
theorem call_ {P : Program} {f : FuncId} {av av' : List PV} {bin bin' : List Blk} {K : PV → List Blk → Prop} {r : PV} {bl : List Blk} (h : Spec P f av' bin' r bl) (e : av' = av) (e2 : bin' = bin) (k : K r bl) : CallAt P f av bin K := by
  subst e e2
  exact ⟨r, bl, h, k⟩
section
variable {nref : Nat} {s : List PV} {h : List Blk}
theorem weak_ {keep : List Nat} {h' : List Blk} (ex : List (Nat × Nat)) (us : List (Option Nat)) (bs : List (List (Option Nat))) (ms : List Bool)
    (h0 : (posL ex && upIn (len h) (len h + len ex) us && upIns (len h) (len h + len ex) bs) = true) (hk : keepOf nref (upBs bs h ++ nils ex) (mask ms (upT us s)) = keep) (h2 : (nodup keep && pre 0 nref keep) = true)
    (h4 : pickB (idx keep) (upBs bs h ++ nils ex) keep = some h') : Weak s h nref (mask ms (gcT keep (upT us s))) h' := by
  simp only [Bool.and_eq_true] at h0 h2
  exact ⟨ex, us, bs, h0.1.1, h0.1.2, h0.2, _, ⟨keep, h2.1, fun i hi => by simpa using pre_ok nref 0 keep h2.2 i hi, h4, rfl⟩, ms, rfl⟩
theorem fin_ {q : PV} {r : PV} {bl : List Blk} (ex : List (Nat × Nat)) {keep : List Nat} (h0 : posL ex = true) (h1 : (upP (len h) q).2 = len h + len ex) (hk : keepOf nref (h ++ nils ex) [(upP (len h) q).1] = keep)
    (h2 : (nodup keep && pre 0 nref keep) = true) (h4 : pickB (idx keep) (h ++ nils ex) keep = some bl) (h5 : renP (idx keep) (upP (len h) q).1 = r) : Fin0 nref q h r bl := by
  simp only [Bool.and_eq_true] at h2
  exact ⟨ex, keep, posL_ok h0, h1, h2.1, fun i hi => by simpa using pre_ok nref 0 keep h2.2 i hi, by rw [← nils_map]; exact h4, h5⟩
end
/-! the same, written out as it goes -/
def forceN : List Nat → (List Nat → Prop) → Prop
  | [], K => K []
  | 0 :: r, K => forceN r fun r => K (0 :: r)
  | (n + 1) :: r, K => forceN r fun r => K ((n + 1) :: r)
theorem forceN_eq : ∀ (l : List Nat) (K : List Nat → Prop), forceN l K = K l
  | [], K => by simp only [forceN]
  | 0 :: r, K => by simp only [forceN]; rw [forceN_eq r]
  | (n + 1) :: r, K => by simp only [forceN]; rw [forceN_eq r]
def nodupB : List Nat → Bool
  | [] => true
  | x :: r => !(has r x) && nodupB r
theorem has_eq : ∀ (l : List Nat) (x : Nat), has l x = l.contains x
  | [], x => by simp [has]
  | y :: r, x => by
    simp only [has, has_eq r x, List.contains_cons]
    congr 1
    rw [Bool.eq_iff_iff]
    constructor
    · intro e
      rw [Nat.eq_of_beq_eq_true e]
      simp
    · intro e
      rw [eq_of_beq e]
      exact Nat.beq_refl _
theorem nodupB_eq : ∀ l : List Nat, nodupB l = nodup l
  | [] => rfl
  | x :: r => by simp only [nodupB, nodup, has_eq, nodupB_eq r]
structure FinEq (q : PV) (h : List Blk) (r : PV) (bl : List Blk) : Prop where
  a : h = bl
  b : q = r
def finK (nref : Nat) (q : PV) (h : List Blk) (ex : List (Nat × Nat)) (r : PV) (bl : List Blk) : Prop :=
  forceP q fun q => match upP (len h) q with
    | (q, n) => forceP q fun q => forceB (h ++ nils ex) fun h2 => forceN (keepOf nref h2 [q]) fun keep => cond (posL ex && Nat.beq n (len h2) && nodupB keep && pre 0 nref keep)
        (match pickB (idx keep) h2 keep with
          | some b => forceB b fun b => forceP (renP (idx keep) q) fun q => FinEq q b r bl
          | none => False) False
theorem len_nils : ∀ (h : List Blk) (ex : List (Nat × Nat)), len (h ++ nils ex) = len h + len ex
  | [], [] => rfl
  | [], x :: ex => by
    have := len_nils [] ex
    simp only [List.nil_append, nils, len] at this ⊢
    omega
  | b :: h, ex => by
    have := len_nils h ex
    simp only [List.cons_append, len] at this ⊢
    omega
theorem finK0_ {nref : Nat} {q : PV} {h : List Blk} {r : PV} {bl : List Blk} (ex : List (Nat × Nat)) (k : finK nref q h ex r bl) : Fin0 nref q h r bl := by
  simp only [finK, forceP_eq, forceB_eq, forceN_eq] at k
  generalize hc : (posL ex && Nat.beq (upP (len h) q).2 (len (h ++ nils ex)) && nodupB (keepOf nref (h ++ nils ex) [(upP (len h) q).1]) && pre 0 nref (keepOf nref (h ++ nils ex) [(upP (len h) q).1])) = c at k
  cases c with
  | false => exact k.elim
  | true =>
    simp only [Bool.and_eq_true, nodupB_eq] at hc
    obtain ⟨⟨⟨c1, c2⟩, c3⟩, c4⟩ := hc
    simp only [cond_true] at k
    have c2 := Nat.eq_of_beq_eq_true c2
    rw [len_nils] at c2
    cases hp : pickB (idx (keepOf nref (h ++ nils ex) [(upP (len h) q).1])) (h ++ nils ex) (keepOf nref (h ++ nils ex) [(upP (len h) q).1]) with
    | none => rw [hp] at k; exact k.elim
    | some b =>
      rw [hp] at k
      obtain ⟨rfl, rfl⟩ := k
      exact fin_ ex c1 c2 rfl (by rw [c3, c4]; rfl) hp rfl
theorem finK_ {nref : Nat} {q : PV} {h : List Blk} {r : PV} {bl : List Blk} (ex : List (Nat × Nat)) (k : finK nref q h ex r bl) : FinVC nref q h r bl := .up (finK0_ ex k)
def finDK (nref : Nat) (q : PV) (h : List Blk) (ex : List (Nat × Nat)) (r : PV) (bl : List Blk) : Prop :=
  match q with
  | .own id n => (match nthB h id with
    | some (.arr sz ty fz els) => Side (n = els.length) (finK nref (.v (.row els)) (frz [id] h) ex r bl)
    | _ => False)
  | _ => False
theorem finD_ {nref : Nat} {q : PV} {h : List Blk} {r : PV} {bl : List Blk} (ex : List (Nat × Nat)) (k : finDK nref q h ex r bl) : FinVC nref q h r bl := by
  unfold finDK at k
  split at k
  · split at k
    · rename_i hb
      exact .dn _ _ _ _ _ _ rfl hb k.h (finK0_ ex k.k)
    · exact k.elim
  · exact k.elim
def weakK (nref : Nat) (s : List PV) (h : List Blk) (ex : List (Nat × Nat)) (us : List (Option Nat)) (bs : List (List (Option Nat))) (ms : List Bool) (K : List PV → List Blk → Prop) : Prop :=
  forceL (mask ms (upT us s)) fun s1 => forceB (upBs bs h ++ nils ex) fun h1 => forceN (keepOf nref h1 s1) fun keep =>
    cond (posL ex && upIn (len h) (len h + len ex) us && upIns (len h) (len h + len ex) bs && nodupB keep && pre 0 nref keep)
      (match pickB (idx keep) h1 keep with
        | some b => forceB b fun b => forceL (gcT keep s1) fun s2 => K s2 b
        | none => False) False
theorem mask_ren (m : Nat → Option Nat) : ∀ (ms : List Bool) (l : List PV), mask ms (renL m l) = renL m (mask ms l)
  | [], l => by simp [mask]
  | true :: ms, [] => by simp [mask, renL]
  | false :: ms, [] => by simp [mask, renL]
  | true :: ms, p :: l => by simp [mask, renL, mask_ren m ms l]
  | false :: ms, p :: l => by simp [mask, renL, renP, mask_ren m ms l]
theorem weakK_ {nref : Nat} {s : List PV} {h : List Blk} {ex : List (Nat × Nat)} {us : List (Option Nat)} {bs : List (List (Option Nat))} {ms : List Bool} {K : List PV → List Blk → Prop} (k : weakK nref s h ex us bs ms K) :
    ∃ s' h', Weak s h nref s' h' ∧ K s' h' := by
  simp only [weakK, forceL_eq, forceB_eq, forceN_eq] at k
  generalize hk : keepOf nref (upBs bs h ++ nils ex) (mask ms (upT us s)) = keep at k
  generalize hc : (posL ex && upIn (len h) (len h + len ex) us && upIns (len h) (len h + len ex) bs && nodupB keep && pre 0 nref keep) = c at k
  cases c with
  | false => exact k.elim
  | true =>
    simp only [Bool.and_eq_true, nodupB_eq] at hc
    obtain ⟨⟨⟨⟨c1, c2⟩, c3⟩, c4⟩, c5⟩ := hc
    simp only [cond_true] at k
    cases hp : pickB (idx keep) (upBs bs h ++ nils ex) keep with
    | none => rw [hp] at k; exact k.elim
    | some b =>
      rw [hp] at k
      refine ⟨_, b, weak_ ex us bs ms (by rw [c1, c2, c3]; rfl) hk (by rw [c4, c5]; rfl) hp, ?_⟩
      simp only [gcT, mask_ren] at k ⊢
      exact k
theorem loopK_ {nref : Nat} {s : List PV} {h : List Blk} {B : List PV → List Blk → (List PV → List Blk → Prop) → Prop} (I : Nat → List PV → List Blk → Prop) (ex : List (Nat × Nat)) (us : List (Option Nat)) (bs : List (List (Option Nat))) (ms : List Bool) (N : Nat)
    (i : weakK nref s h ex us bs ms (I N)) (r : ∀ n s h, n ≤ N → I n s h → B s h (NextVC nref (fun n s h => n ≤ N ∧ I n s h) n)) : LoopVC nref s h B := by
  obtain ⟨s', h', w, i⟩ := weakK_ i
  exact ⟨fun n s h => n ≤ N ∧ I n s h, N, _, _, w, ⟨Nat.le_refl _, i⟩, fun n s h q => r n s h q.1 q.2⟩
theorem nextK_ {nref : Nat} {s : List PV} {h : List Blk} {I : Nat → List PV → List Blk → Prop} {n N m : Nat} {P : Nat → Prop} (H : P m) (ms : List Bool) (i : weakK nref s h [] [] [] ms (I m)) (le : m ≤ N) (lt : m < n) : NextVC nref (fun n s h => n ≤ N ∧ I n s h) n s h := by
  obtain ⟨s', h', w, i⟩ := weakK_ i
  exact ⟨m, _, _, lt, w, le, i⟩
/-! states by their places that hold something -/
def spr : Nat → Nat → List (Nat × PV) → List PV
  | 0, _, _ => []
  | n + 1, i, [] => .un :: spr n (i + 1) []
  | n + 1, i, x :: r => cond (Nat.beq i x.1) (x.2 :: spr n (i + 1) r) (.un :: spr n (i + 1) (x :: r))
def bsp : Nat → Nat → List Nat → List Bool
  | 0, _, _ => []
  | n + 1, i, [] => false :: bsp n (i + 1) []
  | n + 1, i, x :: r => cond (Nat.beq i x) (true :: bsp n (i + 1) r) (false :: bsp n (i + 1) (x :: r))
theorem scg_ {E : Env} {nref : Nat} (id : Nat) {ops : Array Oper} {draw : Bool} {s : List PV} {h : List Blk} {B : List PV → List Blk → Prop} {C : (List PV → List Blk → Prop) → KontC}
    (k : SeqVC nref (fun B => aCodeF E nref (.region id ops draw) s h (C B)) B) : SeqVC nref (fun B => aCodeF E nref (.region id ops draw) s h (C B)) B := k
/-! an index into an array -/
theorem idxa_ {j : Int} {n : Nat} {K : Nat → Prop} (i : Nat) (h : j = (i : Int)) (lt : i < n) (k : K i) : IdxAt j n K := ⟨i, h, lt, k⟩
theorem idxc_ {α : Type} {r : α} {j c : Int} {n : Nat} {K : Nat → Prop} {A B : Option α} (H : (if j = c then A else B) = some r) (i : Nat) (hc : c = (i : Int)) (lt : i < n) (t : A = some r → K i) (f : B = some r → IdxAt j n K) : IdxAt j n K := by
  by_cases e : j = c
  · rw [if_pos e] at H
    exact ⟨i, e.trans hc, lt, t H⟩
  · rw [if_neg e] at H
    exact f H
/-! which kind of goal -/
section
variable {nref n : Nat} {A : (List PV → List Blk → Prop) → Prop} {B : List PV → List Blk → Prop} {p K : Prop} {x y : Bool} {P Q : Prop} {e j : Nat} {l : List (List CV)} {KL : List (List CV) → Prop} {KE : List CV → Prop} {KN : Nat → Prop} {KS : List Int → Prop}
theorem idxid_ {j : Int} {n : Nat} {K : Nat → Prop} (h : IdxAt j n K) : IdxAt j n K := h
theorem seqid_ (h : SeqVC nref A B) : SeqVC nref A B := h
theorem sideid_ (h : Side p K) : Side p K := h
theorem brid_ (h : Br x P Q) : Br x P Q := h
theorem br2id_ (h : Br2 x y P Q) : Br2 x y P Q := h
theorem normid_ (h : Norm e l KL) : Norm e l KL := h
theorem elemid_ (h : ElemAt l j KE) : ElemAt l j KE := h
theorem lenid_ (h : LenAt l KN) : LenAt l KN := h
theorem strid_ (h : StrAt l KS) : StrAt l KS := h
theorem callid_ {Pr : Program} {f : FuncId} {as_ : List PV} {bin : List Blk} {KC : PV → List Blk → Prop} (h : CallAt Pr f as_ bin KC) : CallAt Pr f as_ bin KC := h
theorem loopid_ {s : List PV} {h : List Blk} {C : List PV → List Blk → (List PV → List Blk → Prop) → Prop} (k : LoopVC nref s h C) : LoopVC nref s h C := k
theorem nextid_ {I : Nat → List PV → List Blk → Prop} {s : List PV} {h : List Blk} (k : NextVC nref I n s h) : NextVC nref I n s h := k
theorem finid_ {q r : PV} {h bl : List Blk} (k : FinVC nref q h r bl) : FinVC nref q h r bl := k
theorem idH_ {α : Type} {F : Nat → Option α} {k : Nat} {r : α} (h : F k = some r) : F k = some r := h
theorem exid_ {F : List PV → Prop} (k : ∃ s, F s) : ∃ s, F s := k
theorem allid_ {F : List PV → List Blk → Prop} {G : List PV → List Blk → Prop} (k : ∀ s h, F s h → G s h) : ∀ s h, F s h → G s h := k
end
end Go.Proofs.YthkepmicdpgbbaaGreatDoor.E

/- What functions that are told in other words come to: values, and rows of their own. -/
namespace Go.Proofs.YthkepmicdpgbbaaGreatDoor.E
open Go Go.RowKit Go.Proofs.YthkepmicdpgbbaaGreatDoorW.PrintWords
set_option linter.unusedVariables false
set_option linter.unusedSimpArgs false

section
variable {G : Gh} {w w' : World}
theorem none_of (h : ∀ id, RelB G w id (nthB [] id)) : (∀ id, G.inf id = none) ∧ ∀ b, G.own b = none := by
  simp only [nthB, RelB] at h
  refine ⟨fun id => (h id).1, fun b => ?_⟩
  cases hb : G.own b with
  | none => rfl
  | some id => exact absurd hb ((h id).2 b)
theorem ext_below (hn : ∀ b, G.own b = none) (hb : Below w.heap.size w w') : Ext [] G w G w' where
  os := hb.os
  tape := hb.tape
  output := hb.output
  size := hb.size
  base := rfl
  old := rfl
  nn := fun b hlt h => ⟨h, hb.block b hlt⟩
  sm := fun b id h => by rw [hn b] at h; cases h
  same := fun b id cs ty h => by rw [hn b] at h; cases h
  fz := fun b id sz n h => by rw [hn b] at h; cases h
  inf := fun id sz n f h => ⟨n, f, h, Nat.le_refl _, fun e => ⟨e, rfl⟩, fun _ b hb => hb⟩
  out := fun _ _ => rfl
  new := fun b id _ h => by rw [hn b] at h; cases h
  keep := fun b id h => by rw [hn b] at h; cases h
def Gh.new1 (G : Gh) (b : Option Nat) (sz n : Nat) : Gh := { G with own := fun x => if some x = b then some 0 else none, inf := fun i => if i = 0 then some (sz, n, false) else none }
theorem ext_new1 (hf : ∀ id, G.inf id = none) (hn : ∀ b, G.own b = none) (hb : Below w.heap.size w w') (b0 : Option Nat) (sz n : Nat) (hle : ∀ x, b0 = some x → w.heap.size ≤ x ∧ x < w'.heap.size) : Ext [0] G w (G.new1 b0 sz n) w' where
  os := hb.os
  tape := hb.tape
  output := hb.output
  size := hb.size
  base := rfl
  old := rfl
  nn := fun b hlt h => ⟨by
    simp only [Gh.new1]
    rw [if_neg]
    intro e
    have := (hle b e.symm).1
    omega, hb.block b hlt⟩
  sm := fun b id h => by rw [hn b] at h; cases h
  same := fun b id cs ty h => by rw [hn b] at h; cases h
  fz := fun b id sz n h => by rw [hn b] at h; cases h
  inf := fun id sz n f h => by rw [hf id] at h; cases h
  out := fun id h => by
    simp only [Gh.new1]
    rw [hf id, if_neg (by simpa using h)]
  new := fun b id _ h => by
    simp only [Gh.new1] at h
    split at h
    · injection h with h
      simp [h]
    · cases h
  keep := fun b id h => by
    simp only [Gh.new1] at h
    split at h
    · rename_i e
      exact (hle b e.symm).2
    · cases h
end

section
variable {P : Program} {f : FuncId} {args : List PV}
/-- Values come out, and nothing else. -/
theorem spec_val {r : PV} (hc : ∀ (as_ : Array Value) (w : World), (callFunc f as_).run P w = .ok (.enter f as_) w)
    (h : ∀ (G : Gh) (w : World) (vals : Array Value), Go.Proofs.YthkepmicdpgbbaaGreatDoor.P.GW w → RepsL G w args vals.toList → Calls P f vals w fun e w' => ∃ v, e = .returned v ∧ Below w.heap.size w w' ∧ ∀ G, Reps G w' r v) : Spec P f args [] r [] := by
  refine ⟨hc, fun G w vals hi hr hb => ?_⟩
  obtain ⟨h1, h2⟩ := none_of hb
  refine (h G w vals hi.gwat hr).mono fun e w' hq => ?_
  obtain ⟨v, rfl, hb', hv⟩ := hq
  refine ⟨v, G, [], rfl, ext_below h2 hb', hv G, fun id => ?_⟩
  simp only [nthB, RelB]
  exact ⟨h1 id, fun b => by rw [h2 b]; exact fun e => by cases e⟩
/-- A row of its own comes out. -/
theorem spec_row {sz ty : Nat} {els : List (List CV)} (hsz : 0 < sz) (hc : ∀ (as_ : Array Value) (w : World), (callFunc f as_).run P w = .ok (.enter f as_) w)
    (h : ∀ (G : Gh) (w : World) (vals : Array Value), Go.Proofs.YthkepmicdpgbbaaGreatDoor.P.GW w → RepsL G w args vals.toList → Calls P f vals w fun e w' => ∃ v, e = .returned v ∧ Below w.heap.size w w' ∧
      ((v = .slice none 0 0 ∧ els = []) ∨ ∃ b c cs, v = .slice (some ⟨b, 0, none⟩) els.length c ∧ w.heap.size ≤ b ∧ w'.heap[b]? = some (.cells cs ty (0, 0)) ∧ cs.size = c * sz ∧ els.length ≤ c ∧ c ≤ maxLen ∧ ∀ I, RepE I w' sz els cs.toList)) :
    Spec P f args [] (.own 0 els.length) [.arr sz ty false els] := by
  refine ⟨hc, fun G w vals hi hr hb => ?_⟩
  obtain ⟨h1, h2⟩ := none_of hb
  refine (h G w vals hi.gwat hr).mono fun e w' hq => ?_
  obtain ⟨v, rfl, hb', hv⟩ := hq
  rcases hv with ⟨rfl, rfl⟩ | ⟨b, c, cs, rfl, q1, q2, q3, q4, q5, q6⟩
  · refine ⟨_, G.new1 none sz 0, [0], rfl, ext_new1 h1 h2 hb' none sz 0 (fun x e => by cases e), ?_, fun id => ?_⟩
    · simp only [Reps]
      exact ⟨sz, 0, false, rfl, hsz, rfl, .inr ⟨rfl, .inl ⟨rfl, rfl⟩⟩⟩
    · cases id with
      | zero =>
        simp only [nthB, RelB]
        exact ⟨rfl, hsz, fun b b' e => by simp [Gh.new1] at e, .inl ⟨by simp, fun b e => by simp [Gh.new1] at e⟩⟩
      | succ id =>
        simp only [nthB, RelB]
        exact ⟨rfl, fun b e => by simp [Gh.new1] at e⟩
  · have hlt : b < w'.heap.size := (Array.getElem?_eq_some_iff.1 q2).1
    refine ⟨_, G.new1 (some b) sz els.length, [0], rfl, ext_new1 h1 h2 hb' (some b) sz _ (fun x e => by injection e with e; subst e; exact ⟨q1, hlt⟩), ?_, fun id => ?_⟩
    · simp only [Reps]
      exact ⟨sz, els.length, false, rfl, hsz, rfl, .inr ⟨rfl, .inr ⟨b, c, cs, ty, rfl, by simp [Gh.new1], q2, q3, q4, q5⟩⟩⟩
    · cases id with
      | zero =>
        simp only [nthB, RelB]
        refine ⟨rfl, hsz, fun x y e e' => ?_, .inr ⟨b, cs, by simp [Gh.new1], q2, ?_, q6 _⟩⟩
        · simp only [Gh.new1] at e e'
          split at e <;> split at e' <;> simp_all
        · rw [q3]
          exact Nat.mul_le_mul_right _ q4
      | succ id =>
        simp only [nthB, RelB]
        refine ⟨rfl, fun x e => ?_⟩
        simp only [Gh.new1] at e
        split at e <;> simp at e
end

/-! ### the elder words -/
theorem repE_scalar {α : Type} {f : α → List CV} {enc : α → Value} (hf : ∀ I w x rest, RepP I w (f x) (enc x :: rest)) (hl : ∀ x, (f x).length = 1) {I : Nat → Prop} {w : World} : ∀ (xs : List α) (vs : List Value), vs.take xs.length = xs.map enc → RepE I w 1 (xs.map f) vs
  | [], _, _ => by simp [RepE]
  | x :: xs, [], h => by simp at h
  | x :: xs, v :: vs, h => by
    simp only [List.length_cons, List.take_succ_cons, List.map_cons, List.cons.injEq] at h
    simp only [List.map_cons, RepE, List.drop_succ_cons, List.drop_zero]
    exact ⟨hl x, by rw [h.1]; exact hf _ _ _ _, repE_scalar hf hl xs vs h.2⟩
theorem row_of_kd {α : Type} {f : α → List CV} {enc : α → Value} {h1 : ∀ x, (enc x).oneCell' = true} (hf : ∀ I w x rest, RepP I w (f x) (enc x :: rest)) (hl : ∀ x, (f x).length = 1) {e base : Nat} {w' : World} {ok : Nat → Prop} {v : Value} {xs : List α}
    (h : Kd.R (Kd.scalar enc h1) e w' base ok v xs) : (v = .slice none 0 0 ∧ xs.map f = []) ∨ ∃ b c cs, v = .slice (some ⟨b, 0, none⟩) (xs.map f).length c ∧ base ≤ b ∧ w'.heap[b]? = some (.cells cs e (0, 0)) ∧ cs.size = c * 1 ∧ (xs.map f).length ≤ c ∧ c ≤ maxLen ∧ ∀ I, RepE I w' 1 (xs.map f) cs.toList := by
  obtain ⟨_, inner, ⟨_, ho | ⟨g, cap, cur, rfl, hg, hh, r1, r2, r3, r4⟩⟩, hr⟩ := h
  · obtain ⟨rfl, h0⟩ := ho
    exact .inl ⟨rfl, by rw [List.eq_nil_of_length_eq_zero h0]; rfl⟩
  · refine .inr ⟨g, cap, cur, by rw [List.length_map], hg, hh, r3, by rw [List.length_map]; exact r1, r2, fun I => repE_scalar hf hl xs _ ?_⟩
    have r4' : cur.toList.take xs.length = inner := by rw [← r4]; congr 1; exact (Nat.mul_one _).symm
    rw [r4']
    apply List.ext_getElem?
    intro j
    rw [List.getElem?_map]
    cases hx : xs[j]? with
    | none =>
      have := List.getElem?_eq_none_iff.1 hx
      rw [List.getElem?_eq_none_iff.2 (by have := hr.1; simp only [Kd.scalar, Nat.mul_one] at this; omega)]
      rfl
    | some x =>
      have h2 := hr.2 j x hx
      have h3 : ((inner.drop (j * 1)).take 1) = [enc x] := h2
      rw [Nat.mul_one] at h3
      have h4 : (inner.drop j)[0]? = some (enc x) := by
        have := congrArg (fun l => l[0]?) h3
        simpa [List.getElem?_take] using this
      rw [List.getElem?_drop] at h4
      simpa using h4
theorem kdC_of {α : Type} (d : Kd α) (f : α → List CV) (hs : ∀ x, (f x).length = d.sz) (hk : ∀ x I w cs, RepP I w (f x) cs → d.K w x (cs.take d.sz)) {I : Nat → Prop} {w : World} {l : List α} {v : Value} (h : RepC I w (.row (l.map f)) v) :
    ∃ A c, v = .slice A l.length c ∧ l.length ≤ c ∧ d.C w A l.length l ∧ (l ≠ [] → ∀ ad, A = some ad → ad.spot = none) := by
  simp only [RepC, List.length_map] at h
  obtain ⟨A, c, rfl, h2, h3, h4⟩ := h
  refine ⟨A, c, rfl, h2, ⟨rfl, Nat.le_trans h3 (by decide), fun hpos => ?_⟩, fun hne ad hA => ?_⟩
  · rcases h4 with h4 | ⟨b, o, sz, cs, ty, fr, rfl, h6, h7, h8, h9⟩
    · have := List.map_eq_nil_iff.1 h4
      subst this
      simp at hpos
    · refine ⟨_, rfl, fun j p hp => ?_⟩
      obtain ⟨g1, g2⟩ := RepE.at j (f p) h9 (by rw [List.getElem?_map, hp]; rfl)
      rw [hs] at g1
      subst g1
      refine ⟨_, ?_, hk p _ _ _ g2, fun i u hu => ?_⟩
      · rw [List.length_take]
        have := g2.len
        rw [hs] at this
        omega
      · rw [List.getElem?_take] at hu
        split at hu
        · rw [List.getElem?_drop, List.getElem?_drop] at hu
          have hu' : cs[o + (j * d.sz + i)]? = some u := by simpa [Nat.add_assoc] using hu
          have e : (⟨b, o, none⟩ : Addr).add (j * d.sz + i) = ⟨b, o + (j * d.sz + i), none⟩ := by
            rw [Addr.add_lit]
          rw [e]
          simpa [World.cell?, h7] using hu'
        · cases hu
  · rcases h4 with h4 | ⟨b, o, sz, cs, ty, fr, h5, _⟩
    · exact absurd (List.map_eq_nil_iff.1 h4) hne
    · rw [h5] at hA
      injection hA with hA
      rw [← hA]
end Go.Proofs.YthkepmicdpgbbaaGreatDoor.E

/- From what a law is handed, in the elder words, to what is told of its code. -/
namespace Go.Proofs.YthkepmicdpgbbaaGreatDoor.E
open Go Go.RowKit Go.Proofs.YthkepmicdpgbbaaGreatDoorW.PrintWords
set_option linter.unusedVariables false
set_option linter.unusedSimpArgs false

def G0 (w : World) : Gh := ⟨w.heap.size, fun _ => True, fun _ => none, fun _ => none⟩
theorem G0_imm {w : World} (b : Nat) (hb : b < w.heap.size) : (G0 w).imm b := .inl ⟨hb, rfl, trivial⟩
theorem calls_of_spec {P : Program} {f : FuncId} {args : List PV} {r : Bool} (S : Spec P f args [] (.v (.b r)) []) {w : World} {vals : Array Value} (hgw : Go.Proofs.YthkepmicdpgbbaaGreatDoor.P.GW w) (ha : RepsL (G0 w) w args vals.toList) :
    Calls P f vals w fun e w' => e = .returned (.bool r) ∧ Below w.heap.size w w' := by
  have hi : Inv (G0 w) w := ⟨Nat.le_refl _, fun b id e => (by cases e), ⟨w, hgw, Below.refl _ _, fun _ _ => rfl⟩⟩
  refine (S.2 (G0 w) w vals hi ha (fun id => ?_)).mono fun e w' hq => ?_
  · simp only [nthB, RelB]
    exact ⟨rfl, fun b e => by cases e⟩
  · obtain ⟨v, G', ids, rfl, X, hv, _⟩ := hq
    simp only [Reps, RepC] at hv
    subst hv
    exact ⟨rfl, X.os, X.tape, X.output, X.size, fun k hk => (X.nn k hk rfl).2⟩
theorem repC_of {α : Type} {d : Kd α} {f : α → List CV} {w : World} {I : Nat → Prop} (hI : ∀ b, b < w.heap.size → I b) (hs : ∀ x, (f x).length = d.sz) (h0 : 0 < d.sz) (hk : ∀ x cs, d.K w x cs → RepP I w (f x) cs) {A : Option Addr} {l : List α} {c : Nat}
    (h : d.C w A l.length l) (hc : l.length ≤ c) : RepC I w (.row (l.map f)) (.slice A l.length c) := by
  obtain ⟨_, hlen, hcell⟩ := h
  have hm : maxLen = 9223372036854775807 := by decide
  simp only [RepC, List.length_map]
  refine ⟨A, c, rfl, hc, by omega, ?_⟩
  by_cases hl : l = []
  · exact .inl (by rw [hl]; rfl)
  refine .inr ?_
  have hpos := List.length_pos_iff.2 hl
  obtain ⟨ad, rfl, hc'⟩ := hcell hpos
  have hfirst : ∃ cs ty fr, w.heap[ad.block]? = some (.cells cs ty fr) ∧ ad.spot = none := by
    obtain ⟨cs, q1, q2, q3⟩ := hc' 0 _ (List.getElem?_eq_getElem hpos)
    have h1 : 0 < cs.length := by omega
    have h2 := q3 0 _ (List.getElem?_eq_getElem h1)
    rw [Nat.zero_mul] at h2
    have h3 : ad.add (0 + 0) = ad := by simp [Addr.add]
    rw [h3] at h2
    unfold World.cell? at h2
    split at h2
    · rename_i cs ty fr hh
      refine ⟨cs, ty, fr, hh, ?_⟩
      split at h2
      · cases h2
      · rename_i hsp
        cases hq : ad.spot with
        | none => rfl
        | some _ => rw [hq] at hsp; exact absurd rfl hsp
    · cases h2
  obtain ⟨cs, ty, fr, hh, hsp⟩ := hfirst
  obtain ⟨b, o, sp⟩ := ad
  obtain rfl : sp = none := hsp
  have hh : w.heap[b]? = some (.cells cs ty fr) := hh
  refine ⟨b, o, d.sz, cs, ty, fr, rfl, hI b (Array.getElem?_eq_some_iff.1 hh).1, hh, h0, RepE.mk fun e el he => ?_⟩
  rw [List.getElem?_map] at he
  obtain ⟨p, hp, rfl⟩ := Option.map_eq_some_iff.1 he
  refine ⟨hs p, ?_⟩
  obtain ⟨c0, q1, q2, q3⟩ := hc' e p hp
  have e1 : ((cs.toList.drop o).drop (e * d.sz)).take d.sz = c0 := by
    apply List.ext_getElem?
    intro i
    rw [List.getElem?_take]
    split
    · rename_i hi
      have h2 := q3 i _ (List.getElem?_eq_getElem (by omega))
      rw [Addr.add_lit] at h2
      have h3 : cs[o + (e * d.sz + i)]? = some c0[i] := by simpa [World.cell?, hh] using h2
      rw [List.getElem?_eq_getElem (show i < c0.length by omega), ← h3, List.getElem?_drop, List.getElem?_drop]
      simp [Nat.add_assoc]
    · rw [List.getElem?_eq_none (by omega)]
  exact RepP.of_take d.sz (by rw [e1]; exact hk p c0 q2)
section
variable {w : World} {I : Nat → Prop}
theorem hk_int {k : IntKind} (x : Int) (cs : List Value) (h : (Kd.int k).K w x cs) : RepP I w [.i k x] cs := by
  obtain rfl : cs = [Value.int k x] := h
  simp only [RepP, RepC]
  exact ⟨_, _, rfl, rfl, trivial⟩
end
end Go.Proofs.YthkepmicdpgbbaaGreatDoor.E

-- PRINTED BY print.sh 35421559b90ae4d0a3588c463048766b98c2df88dd9212a6774a882060cdf62d: not written by this session
/-! ### 53. '==' of structs as_ one Bool -/
namespace Go.Proofs.YthkepmicdpgbbaaGreatDoorW.PrintWords
open Go.RowKit
section
variable {P : Program} {d : Nat} {xs ys : Array Value} {f : Field} {fs : List Field} {a b : Value} {r s : Bool} {w : World}
/-- The last field that counts. -/
theorem eqf_last (hn : (f.name == "_") = false) (ha : (part f.type xs f.offset).run P w = .ok a w) (hb : (part f.type ys f.offset).run P w = .ok b w) (he : (Op.equalIn d f.type a b).run P w = .ok r w) : (Op.eqFields d xs ys [f]).run P w = .ok r w := by
  have hn' : f.name ≠ "_" := by simpa using hn
  simp only [Op.eqFields, if_pos hn', Sem.run_bind, ha, hb, he, Result.andThen_ok]
  cases r <;> simp
theorem eqf_cons (hn : (f.name == "_") = false) (ha : (part f.type xs f.offset).run P w = .ok a w) (hb : (part f.type ys f.offset).run P w = .ok b w) (he : (Op.equalIn d f.type a b).run P w = .ok r w) (hr : (Op.eqFields d xs ys fs).run P w = .ok s w) : (Op.eqFields d xs ys (f :: fs)).run P w = .ok (r && s) w := by
  have hn' : f.name ≠ "_" := by simpa using hn
  rw [Op.eqFields]
  simp only [if_pos hn', Sem.run_bind, ha, hb, he, Result.andThen_ok]
  cases r
  · simp
  · simpa using hr
theorem eqA_of {t : TypeId} {fs : Array Field} (hu : P.underlying t = some (.struct fs)) (hp : P.stoodInHeld t = false) (h : (Op.eqFields d xs ys fs.toList).run P w = .ok r w) : (Op.equalIn (d + 1) t (.agg xs) (.agg ys)).run P w = .ok r w := by
  have hf : P.fieldsOf t = fs := by simp [Program.fieldsOf, hu]
  rw [run_equalIn_struct (P := P) w d t xs ys (by rw [hf]; exact hu) hp, hf]
  exact h
end
end Go.Proofs.YthkepmicdpgbbaaGreatDoorW.PrintWords

/- The types that the functions use. -/
namespace Go.Proofs.YthkepmicdpgbbaaGreatDoor.E
open Go Go.RowKit
theorem ty2 : TyFact Tryz.prog 2 ⟨1, 8, .int .i64 0, .int .i64⟩ := ⟨by kernel_rfl, (show Tryz.prog.underlying 2 = some (.int .i64) by kernel_rfl), by kernel_rfl⟩
theorem ty3 : TyFact Tryz.prog 3 ⟨1, 8, .int .i64 0, .int .i64⟩ := ⟨by kernel_rfl, (show Tryz.prog.underlying 3 = some (.int .i64) by kernel_rfl), by kernel_rfl⟩
theorem ty4 : TyFact Tryz.prog 4 ⟨1, 1, .bool false, .bool⟩ := ⟨by kernel_rfl, (show Tryz.prog.underlying 4 = some (.bool) by kernel_rfl), by kernel_rfl⟩
theorem ty5 : TyFact Tryz.prog 5 ⟨1, 1, .int .u8 0, .int .u8⟩ := ⟨by kernel_rfl, (show Tryz.prog.underlying 5 = some (.int .u8) by kernel_rfl), by kernel_rfl⟩
theorem ty7 : TyFact Tryz.prog 7 ⟨4, 24, .agg #[.int .i64 0, .int .i64 0, .bool false, .int .u8 0], .struct [(0, 1), (1, 1), (2, 1), (3, 1)]⟩ := ⟨by kernel_rfl, (show ((Tryz.prog.underlying 7).bind structOf).map (fun l => l.map fun x => (x.1, (Tryz.prog.info? x.2).map (·.size))) = some [(0, some 1), (1, some 1), (2, some 1), (3, some 1)] by kernel_rfl), by kernel_rfl⟩
theorem ty9 : TyFact Tryz.prog 9 ⟨1, 16, .string (⟨#[]⟩ : ByteArray), .str⟩ := ⟨by kernel_rfl, (show Tryz.prog.underlying 9 = some (.string) by kernel_rfl), by kernel_rfl⟩
theorem ty12 : TyFact Tryz.prog 12 ⟨1, 8, .int .u64 0, .int .u64⟩ := ⟨by kernel_rfl, (show Tryz.prog.underlying 12 = some (.int .u64) by kernel_rfl), by kernel_rfl⟩
theorem ty13 : TyFact Tryz.prog 13 ⟨2, 24, .agg #[.string (⟨#[]⟩ : ByteArray), .int .u64 0], .struct [(0, 1), (1, 1)]⟩ := ⟨by kernel_rfl, (show ((Tryz.prog.underlying 13).bind structOf).map (fun l => l.map fun x => (x.1, (Tryz.prog.info? x.2).map (·.size))) = some [(0, some 1), (1, some 1)] by kernel_rfl), by kernel_rfl⟩
theorem ty15 : TyFact Tryz.prog 15 ⟨1, 8, .pointer none, .ptr 198⟩ := ⟨by kernel_rfl, (show Tryz.prog.underlying 15 = some (.pointer 198) by kernel_rfl), by kernel_rfl⟩
theorem ty16 : TyFact Tryz.prog 16 ⟨1, 8, .pointer none, .ptr 201⟩ := ⟨by kernel_rfl, (show Tryz.prog.underlying 16 = some (.pointer 201) by kernel_rfl), by kernel_rfl⟩
theorem ty17 : TyFact Tryz.prog 17 ⟨1, 8, .pointer none, .ptr 209⟩ := ⟨by kernel_rfl, (show Tryz.prog.underlying 17 = some (.pointer 209) by kernel_rfl), by kernel_rfl⟩
theorem ty18 : TyFact Tryz.prog 18 ⟨1, 8, .agg #[.pointer none], .struct [(0, 1)]⟩ := ⟨by kernel_rfl, (show ((Tryz.prog.underlying 18).bind structOf).map (fun l => l.map fun x => (x.1, (Tryz.prog.info? x.2).map (·.size))) = some [(0, some 1)] by kernel_rfl), by kernel_rfl⟩
theorem ty21 : TyFact Tryz.prog 21 ⟨1, 4, .int .i32 0, .int .i32⟩ := ⟨by kernel_rfl, (show Tryz.prog.underlying 21 = some (.int .i32) by kernel_rfl), by kernel_rfl⟩
theorem ty22 : TyFact Tryz.prog 22 ⟨1, 24, .slice none 0 0, .slice 5⟩ := ⟨by kernel_rfl, (show Tryz.prog.underlying 22 = some (.slice 5) by kernel_rfl), by kernel_rfl⟩
theorem ty24 : TyFact Tryz.prog 24 ⟨4, 40, .agg #[.int .i64 0, .int .i64 0, .int .i64 0, .string (⟨#[]⟩ : ByteArray)], .struct [(0, 1), (1, 1), (2, 1), (3, 1)]⟩ := ⟨by kernel_rfl, (show ((Tryz.prog.underlying 24).bind structOf).map (fun l => l.map fun x => (x.1, (Tryz.prog.info? x.2).map (·.size))) = some [(0, some 1), (1, some 1), (2, some 1), (3, some 1)] by kernel_rfl), by kernel_rfl⟩
theorem ty25 : TyFact Tryz.prog 25 ⟨4, 40, .agg #[.int .i64 0, .int .i64 0, .int .i64 0, .string (⟨#[]⟩ : ByteArray)], .struct [(0, 1), (1, 1), (2, 1), (3, 1)]⟩ := ⟨by kernel_rfl, (show ((Tryz.prog.underlying 25).bind structOf).map (fun l => l.map fun x => (x.1, (Tryz.prog.info? x.2).map (·.size))) = some [(0, some 1), (1, some 1), (2, some 1), (3, some 1)] by kernel_rfl), by kernel_rfl⟩
theorem ty35 : TyFact Tryz.prog 35 ⟨1, 24, .slice none 0 0, .slice 22⟩ := ⟨by kernel_rfl, (show Tryz.prog.underlying 35 = some (.slice 22) by kernel_rfl), by kernel_rfl⟩
theorem ty36 : TyFact Tryz.prog 36 ⟨1, 24, .slice none 0 0, .slice 125⟩ := ⟨by kernel_rfl, (show Tryz.prog.underlying 36 = some (.slice 125) by kernel_rfl), by kernel_rfl⟩
theorem ty37 : TyFact Tryz.prog 37 ⟨4, 64, .agg #[.slice none 0 0, .slice none 0 0, .int .i64 0, .bool false], .struct [(0, 1), (1, 1), (2, 1), (3, 1)]⟩ := ⟨by kernel_rfl, (show ((Tryz.prog.underlying 37).bind structOf).map (fun l => l.map fun x => (x.1, (Tryz.prog.info? x.2).map (·.size))) = some [(0, some 1), (1, some 1), (2, some 1), (3, some 1)] by kernel_rfl), by kernel_rfl⟩
theorem ty38 : TyFact Tryz.prog 38 ⟨4, 64, .agg #[.slice none 0 0, .slice none 0 0, .int .i64 0, .bool false], .struct [(0, 1), (1, 1), (2, 1), (3, 1)]⟩ := ⟨by kernel_rfl, (show ((Tryz.prog.underlying 38).bind structOf).map (fun l => l.map fun x => (x.1, (Tryz.prog.info? x.2).map (·.size))) = some [(0, some 1), (1, some 1), (2, some 1), (3, some 1)] by kernel_rfl), by kernel_rfl⟩
theorem ty40 : TyFact Tryz.prog 40 ⟨6, 64, .agg #[.int .i64 0, .string (⟨#[]⟩ : ByteArray), .int .i64 0, .string (⟨#[]⟩ : ByteArray), .int .i64 0, .int .i64 0], .struct [(0, 1), (1, 1), (2, 1), (3, 1), (4, 1), (5, 1)]⟩ := ⟨by kernel_rfl, (show ((Tryz.prog.underlying 40).bind structOf).map (fun l => l.map fun x => (x.1, (Tryz.prog.info? x.2).map (·.size))) = some [(0, some 1), (1, some 1), (2, some 1), (3, some 1), (4, some 1), (5, some 1)] by kernel_rfl), by kernel_rfl⟩
theorem ty41 : TyFact Tryz.prog 41 ⟨6, 64, .agg #[.int .i64 0, .string (⟨#[]⟩ : ByteArray), .int .i64 0, .string (⟨#[]⟩ : ByteArray), .int .i64 0, .int .i64 0], .struct [(0, 1), (1, 1), (2, 1), (3, 1), (4, 1), (5, 1)]⟩ := ⟨by kernel_rfl, (show ((Tryz.prog.underlying 41).bind structOf).map (fun l => l.map fun x => (x.1, (Tryz.prog.info? x.2).map (·.size))) = some [(0, some 1), (1, some 1), (2, some 1), (3, some 1), (4, some 1), (5, some 1)] by kernel_rfl), by kernel_rfl⟩
theorem ty44 : TyFact Tryz.prog 44 ⟨1, 24, .slice none 0 0, .slice 109⟩ := ⟨by kernel_rfl, (show Tryz.prog.underlying 44 = some (.slice 109) by kernel_rfl), by kernel_rfl⟩
theorem ty45 : TyFact Tryz.prog 45 ⟨4, 64, .agg #[.slice none 0 0, .slice none 0 0, .int .i64 0, .bool false], .struct [(0, 1), (1, 1), (2, 1), (3, 1)]⟩ := ⟨by kernel_rfl, (show ((Tryz.prog.underlying 45).bind structOf).map (fun l => l.map fun x => (x.1, (Tryz.prog.info? x.2).map (·.size))) = some [(0, some 1), (1, some 1), (2, some 1), (3, some 1)] by kernel_rfl), by kernel_rfl⟩
theorem ty46 : TyFact Tryz.prog 46 ⟨4, 64, .agg #[.slice none 0 0, .slice none 0 0, .int .i64 0, .bool false], .struct [(0, 1), (1, 1), (2, 1), (3, 1)]⟩ := ⟨by kernel_rfl, (show ((Tryz.prog.underlying 46).bind structOf).map (fun l => l.map fun x => (x.1, (Tryz.prog.info? x.2).map (·.size))) = some [(0, some 1), (1, some 1), (2, some 1), (3, some 1)] by kernel_rfl), by kernel_rfl⟩
theorem ty51 : TyFact Tryz.prog 51 ⟨8, 80, .agg #[.int .i64 0, .string (⟨#[]⟩ : ByteArray), .int .i64 0, .string (⟨#[]⟩ : ByteArray), .int .i64 0, .int .i64 0, .int .i64 0, .int .i64 0], .struct [(0, 6), (6, 1), (7, 1)]⟩ := ⟨by kernel_rfl, (show ((Tryz.prog.underlying 51).bind structOf).map (fun l => l.map fun x => (x.1, (Tryz.prog.info? x.2).map (·.size))) = some [(0, some 6), (6, some 1), (7, some 1)] by kernel_rfl), by kernel_rfl⟩
theorem ty52 : TyFact Tryz.prog 52 ⟨8, 80, .agg #[.int .i64 0, .string (⟨#[]⟩ : ByteArray), .int .i64 0, .string (⟨#[]⟩ : ByteArray), .int .i64 0, .int .i64 0, .int .i64 0, .int .i64 0], .struct [(0, 6), (6, 1), (7, 1)]⟩ := ⟨by kernel_rfl, (show ((Tryz.prog.underlying 52).bind structOf).map (fun l => l.map fun x => (x.1, (Tryz.prog.info? x.2).map (·.size))) = some [(0, some 6), (6, some 1), (7, some 1)] by kernel_rfl), by kernel_rfl⟩
theorem ty65 : TyFact Tryz.prog 65 ⟨4, 40, .agg #[.int .i64 0, .int .i64 0, .int .i64 0, .string (⟨#[]⟩ : ByteArray)], .struct [(0, 1), (1, 1), (2, 1), (3, 1)]⟩ := ⟨by kernel_rfl, (show ((Tryz.prog.underlying 65).bind structOf).map (fun l => l.map fun x => (x.1, (Tryz.prog.info? x.2).map (·.size))) = some [(0, some 1), (1, some 1), (2, some 1), (3, some 1)] by kernel_rfl), by kernel_rfl⟩
theorem ty73 : TyFact Tryz.prog 73 ⟨1, 8, .pointer none, .ptr 115⟩ := ⟨by kernel_rfl, (show Tryz.prog.underlying 73 = some (.pointer 115) by kernel_rfl), by kernel_rfl⟩
theorem ty77 : TyFact Tryz.prog 77 ⟨1, 24, .slice none 0 0, .slice 3⟩ := ⟨by kernel_rfl, (show Tryz.prog.underlying 77 = some (.slice 3) by kernel_rfl), by kernel_rfl⟩
theorem ty104 : TyFact Tryz.prog 104 ⟨1, 24, .slice none 0 0, .slice 25⟩ := ⟨by kernel_rfl, (show Tryz.prog.underlying 104 = some (.slice 25) by kernel_rfl), by kernel_rfl⟩
theorem ty108 : TyFact Tryz.prog 108 ⟨2, 32, .agg #[.int .i64 0, .slice none 0 0], .struct [(0, 1), (1, 1)]⟩ := ⟨by kernel_rfl, (show ((Tryz.prog.underlying 108).bind structOf).map (fun l => l.map fun x => (x.1, (Tryz.prog.info? x.2).map (·.size))) = some [(0, some 1), (1, some 1)] by kernel_rfl), by kernel_rfl⟩
theorem ty109 : TyFact Tryz.prog 109 ⟨2, 32, .agg #[.int .i64 0, .slice none 0 0], .struct [(0, 1), (1, 1)]⟩ := ⟨by kernel_rfl, (show ((Tryz.prog.underlying 109).bind structOf).map (fun l => l.map fun x => (x.1, (Tryz.prog.info? x.2).map (·.size))) = some [(0, some 1), (1, some 1)] by kernel_rfl), by kernel_rfl⟩
theorem ty111 : TyFact Tryz.prog 111 ⟨1, 8, .pointer none, .ptr 52⟩ := ⟨by kernel_rfl, (show Tryz.prog.underlying 111 = some (.pointer 52) by kernel_rfl), by kernel_rfl⟩
theorem ty114 : TyFact Tryz.prog 114 ⟨3, 40, .agg #[.slice none 0 0, .int .i64 0, .int .i64 0], .struct [(0, 1), (1, 1), (2, 1)]⟩ := ⟨by kernel_rfl, (show ((Tryz.prog.underlying 114).bind structOf).map (fun l => l.map fun x => (x.1, (Tryz.prog.info? x.2).map (·.size))) = some [(0, some 1), (1, some 1), (2, some 1)] by kernel_rfl), by kernel_rfl⟩
theorem ty115 : TyFact Tryz.prog 115 ⟨3, 40, .agg #[.slice none 0 0, .int .i64 0, .int .i64 0], .struct [(0, 1), (1, 1), (2, 1)]⟩ := ⟨by kernel_rfl, (show ((Tryz.prog.underlying 115).bind structOf).map (fun l => l.map fun x => (x.1, (Tryz.prog.info? x.2).map (·.size))) = some [(0, some 1), (1, some 1), (2, some 1)] by kernel_rfl), by kernel_rfl⟩
theorem ty117 : TyFact Tryz.prog 117 ⟨1, 8, .int .u64 0, .int .u64⟩ := ⟨by kernel_rfl, (show Tryz.prog.underlying 117 = some (.int .u64) by kernel_rfl), by kernel_rfl⟩
theorem ty120 : TyFact Tryz.prog 120 ⟨1, 24, .slice none 0 0, .slice 138⟩ := ⟨by kernel_rfl, (show Tryz.prog.underlying 120 = some (.slice 138) by kernel_rfl), by kernel_rfl⟩
theorem ty125 : TyFact Tryz.prog 125 ⟨2, 32, .agg #[.int .i64 0, .slice none 0 0], .struct [(0, 1), (1, 1)]⟩ := ⟨by kernel_rfl, (show ((Tryz.prog.underlying 125).bind structOf).map (fun l => l.map fun x => (x.1, (Tryz.prog.info? x.2).map (·.size))) = some [(0, some 1), (1, some 1)] by kernel_rfl), by kernel_rfl⟩
theorem ty131 : TyFact Tryz.prog 131 ⟨1, 8, .pointer none, .ptr 46⟩ := ⟨by kernel_rfl, (show Tryz.prog.underlying 131 = some (.pointer 46) by kernel_rfl), by kernel_rfl⟩
theorem ty135 : TyFact Tryz.prog 135 ⟨1, 24, .slice none 0 0, .slice 9⟩ := ⟨by kernel_rfl, (show Tryz.prog.underlying 135 = some (.slice 9) by kernel_rfl), by kernel_rfl⟩
theorem ty137 : TyFact Tryz.prog 137 ⟨5, 48, .agg #[.string (⟨#[]⟩ : ByteArray), .int .i64 0, .int .i64 0, .int .i64 0, .int .i64 0], .struct [(0, 1), (1, 1), (2, 1), (3, 1), (4, 1)]⟩ := ⟨by kernel_rfl, (show ((Tryz.prog.underlying 137).bind structOf).map (fun l => l.map fun x => (x.1, (Tryz.prog.info? x.2).map (·.size))) = some [(0, some 1), (1, some 1), (2, some 1), (3, some 1), (4, some 1)] by kernel_rfl), by kernel_rfl⟩
theorem ty138 : TyFact Tryz.prog 138 ⟨5, 48, .agg #[.string (⟨#[]⟩ : ByteArray), .int .i64 0, .int .i64 0, .int .i64 0, .int .i64 0], .struct [(0, 1), (1, 1), (2, 1), (3, 1), (4, 1)]⟩ := ⟨by kernel_rfl, (show ((Tryz.prog.underlying 138).bind structOf).map (fun l => l.map fun x => (x.1, (Tryz.prog.info? x.2).map (·.size))) = some [(0, some 1), (1, some 1), (2, some 1), (3, some 1), (4, some 1)] by kernel_rfl), by kernel_rfl⟩
theorem ty146 : TyFact Tryz.prog 146 ⟨4, 32, .agg #[.int .i64 0, .int .i64 0, .int .i64 0, .int .i64 0], .array 4 3⟩ := ⟨by kernel_rfl, (show Tryz.prog.underlying 146 = some (.array 4 3) by kernel_rfl), by kernel_rfl⟩
theorem ty157 : TyFact Tryz.prog 157 ⟨1, 8, .pointer none, .ptr 159⟩ := ⟨by kernel_rfl, (show Tryz.prog.underlying 157 = some (.pointer 159) by kernel_rfl), by kernel_rfl⟩
theorem ty158 : TyFact Tryz.prog 158 ⟨2, 32, .agg #[.pointer none, .slice none 0 0], .struct [(0, 1), (1, 1)]⟩ := ⟨by kernel_rfl, (show ((Tryz.prog.underlying 158).bind structOf).map (fun l => l.map fun x => (x.1, (Tryz.prog.info? x.2).map (·.size))) = some [(0, some 1), (1, some 1)] by kernel_rfl), by kernel_rfl⟩
def tys : List (Nat × TI) := [(2, ⟨1, 8, .int .i64 0, .int .i64⟩), (3, ⟨1, 8, .int .i64 0, .int .i64⟩), (4, ⟨1, 1, .bool false, .bool⟩), (5, ⟨1, 1, .int .u8 0, .int .u8⟩), (7, ⟨4, 24, .agg #[.int .i64 0, .int .i64 0, .bool false, .int .u8 0], .struct [(0, 1), (1, 1), (2, 1), (3, 1)]⟩), (9, ⟨1, 16, .string (⟨#[]⟩ : ByteArray), .str⟩), (12, ⟨1, 8, .int .u64 0, .int .u64⟩), (13, ⟨2, 24, .agg #[.string (⟨#[]⟩ : ByteArray), .int .u64 0], .struct [(0, 1), (1, 1)]⟩), (15, ⟨1, 8, .pointer none, .ptr 198⟩), (16, ⟨1, 8, .pointer none, .ptr 201⟩), (17, ⟨1, 8, .pointer none, .ptr 209⟩), (18, ⟨1, 8, .agg #[.pointer none], .struct [(0, 1)]⟩), (21, ⟨1, 4, .int .i32 0, .int .i32⟩), (22, ⟨1, 24, .slice none 0 0, .slice 5⟩), (24, ⟨4, 40, .agg #[.int .i64 0, .int .i64 0, .int .i64 0, .string (⟨#[]⟩ : ByteArray)], .struct [(0, 1), (1, 1), (2, 1), (3, 1)]⟩), (25, ⟨4, 40, .agg #[.int .i64 0, .int .i64 0, .int .i64 0, .string (⟨#[]⟩ : ByteArray)], .struct [(0, 1), (1, 1), (2, 1), (3, 1)]⟩), (35, ⟨1, 24, .slice none 0 0, .slice 22⟩), (36, ⟨1, 24, .slice none 0 0, .slice 125⟩), (37, ⟨4, 64, .agg #[.slice none 0 0, .slice none 0 0, .int .i64 0, .bool false], .struct [(0, 1), (1, 1), (2, 1), (3, 1)]⟩), (38, ⟨4, 64, .agg #[.slice none 0 0, .slice none 0 0, .int .i64 0, .bool false], .struct [(0, 1), (1, 1), (2, 1), (3, 1)]⟩), (40, ⟨6, 64, .agg #[.int .i64 0, .string (⟨#[]⟩ : ByteArray), .int .i64 0, .string (⟨#[]⟩ : ByteArray), .int .i64 0, .int .i64 0], .struct [(0, 1), (1, 1), (2, 1), (3, 1), (4, 1), (5, 1)]⟩), (41, ⟨6, 64, .agg #[.int .i64 0, .string (⟨#[]⟩ : ByteArray), .int .i64 0, .string (⟨#[]⟩ : ByteArray), .int .i64 0, .int .i64 0], .struct [(0, 1), (1, 1), (2, 1), (3, 1), (4, 1), (5, 1)]⟩), (44, ⟨1, 24, .slice none 0 0, .slice 109⟩), (45, ⟨4, 64, .agg #[.slice none 0 0, .slice none 0 0, .int .i64 0, .bool false], .struct [(0, 1), (1, 1), (2, 1), (3, 1)]⟩), (46, ⟨4, 64, .agg #[.slice none 0 0, .slice none 0 0, .int .i64 0, .bool false], .struct [(0, 1), (1, 1), (2, 1), (3, 1)]⟩), (51, ⟨8, 80, .agg #[.int .i64 0, .string (⟨#[]⟩ : ByteArray), .int .i64 0, .string (⟨#[]⟩ : ByteArray), .int .i64 0, .int .i64 0, .int .i64 0, .int .i64 0], .struct [(0, 6), (6, 1), (7, 1)]⟩), (52, ⟨8, 80, .agg #[.int .i64 0, .string (⟨#[]⟩ : ByteArray), .int .i64 0, .string (⟨#[]⟩ : ByteArray), .int .i64 0, .int .i64 0, .int .i64 0, .int .i64 0], .struct [(0, 6), (6, 1), (7, 1)]⟩), (65, ⟨4, 40, .agg #[.int .i64 0, .int .i64 0, .int .i64 0, .string (⟨#[]⟩ : ByteArray)], .struct [(0, 1), (1, 1), (2, 1), (3, 1)]⟩), (73, ⟨1, 8, .pointer none, .ptr 115⟩), (77, ⟨1, 24, .slice none 0 0, .slice 3⟩), (104, ⟨1, 24, .slice none 0 0, .slice 25⟩), (108, ⟨2, 32, .agg #[.int .i64 0, .slice none 0 0], .struct [(0, 1), (1, 1)]⟩), (109, ⟨2, 32, .agg #[.int .i64 0, .slice none 0 0], .struct [(0, 1), (1, 1)]⟩), (111, ⟨1, 8, .pointer none, .ptr 52⟩), (114, ⟨3, 40, .agg #[.slice none 0 0, .int .i64 0, .int .i64 0], .struct [(0, 1), (1, 1), (2, 1)]⟩), (115, ⟨3, 40, .agg #[.slice none 0 0, .int .i64 0, .int .i64 0], .struct [(0, 1), (1, 1), (2, 1)]⟩), (117, ⟨1, 8, .int .u64 0, .int .u64⟩), (120, ⟨1, 24, .slice none 0 0, .slice 138⟩), (125, ⟨2, 32, .agg #[.int .i64 0, .slice none 0 0], .struct [(0, 1), (1, 1)]⟩), (131, ⟨1, 8, .pointer none, .ptr 46⟩), (135, ⟨1, 24, .slice none 0 0, .slice 9⟩), (137, ⟨5, 48, .agg #[.string (⟨#[]⟩ : ByteArray), .int .i64 0, .int .i64 0, .int .i64 0, .int .i64 0], .struct [(0, 1), (1, 1), (2, 1), (3, 1), (4, 1)]⟩), (138, ⟨5, 48, .agg #[.string (⟨#[]⟩ : ByteArray), .int .i64 0, .int .i64 0, .int .i64 0, .int .i64 0], .struct [(0, 1), (1, 1), (2, 1), (3, 1), (4, 1)]⟩), (146, ⟨4, 32, .agg #[.int .i64 0, .int .i64 0, .int .i64 0, .int .i64 0], .array 4 3⟩), (157, ⟨1, 8, .pointer none, .ptr 159⟩), (158, ⟨2, 32, .agg #[.pointer none, .slice none 0 0], .struct [(0, 1), (1, 1)]⟩)]
theorem tys_ok : ∀ x ∈ tys, TyFact Tryz.prog x.1 x.2 := by
  intro x hx
  simp only [tys, List.mem_cons, List.not_mem_nil, or_false] at hx
  rcases hx with rfl | rfl | rfl | rfl | rfl | rfl | rfl | rfl | rfl | rfl | rfl | rfl | rfl | rfl | rfl | rfl | rfl | rfl | rfl | rfl | rfl | rfl | rfl | rfl | rfl | rfl | rfl | rfl | rfl | rfl | rfl | rfl | rfl | rfl | rfl | rfl | rfl | rfl | rfl | rfl | rfl | rfl | rfl | rfl | rfl | rfl
  · exact ty2
  · exact ty3
  · exact ty4
  · exact ty5
  · exact ty7
  · exact ty9
  · exact ty12
  · exact ty13
  · exact ty15
  · exact ty16
  · exact ty17
  · exact ty18
  · exact ty21
  · exact ty22
  · exact ty24
  · exact ty25
  · exact ty35
  · exact ty36
  · exact ty37
  · exact ty38
  · exact ty40
  · exact ty41
  · exact ty44
  · exact ty45
  · exact ty46
  · exact ty51
  · exact ty52
  · exact ty65
  · exact ty73
  · exact ty77
  · exact ty104
  · exact ty108
  · exact ty109
  · exact ty111
  · exact ty114
  · exact ty115
  · exact ty117
  · exact ty120
  · exact ty125
  · exact ty131
  · exact ty135
  · exact ty137
  · exact ty138
  · exact ty146
  · exact ty157
  · exact ty158
theorem mixed : Tryz.prog.follows .mixedOrders = true := Tryz.checked.mixed
open Go.Proofs.YthkepmicdpgbbaaGreatDoorW.PrintWords
set_option maxRecDepth 100000
theorem eqA25 (d : Nat) (w : World) (x0 y0 : Int) (x1 y1 : Int) (x2 y2 : Int) (x3 y3 : ByteArray) : (Op.equalIn (d + 2) 25 (.agg #[.int .i64 x0, .int .i64 x1, .int .i64 x2, .string x3]) (.agg #[.int .i64 y0, .int .i64 y1, .int .i64 y2, .string y3])).run Tryz.prog w = .ok ((x0 == y0) && ((x1 == y1) && ((x2 == y2) && (x3.toList == y3.toList)))) w := by
  refine eqA_of Tryz.underlying25 (by kernel_rfl) ?_
  refine eqf_cons (by rfl) (by go_simp <;> rfl) (by go_simp <;> rfl) (by go_simp) ?_
  refine eqf_cons (by rfl) (by go_simp <;> rfl) (by go_simp <;> rfl) (by go_simp) ?_
  refine eqf_cons (by rfl) (by go_simp <;> rfl) (by go_simp <;> rfl) (by go_simp) ?_
  exact eqf_last (by rfl) (by go_simp <;> rfl) (by go_simp <;> rfl) (by go_simp)
theorem eqA41 (d : Nat) (w : World) (x0 y0 : Int) (x1 y1 : ByteArray) (x2 y2 : Int) (x3 y3 : ByteArray) (x4 y4 : Int) (x5 y5 : Int) : (Op.equalIn (d + 2) 41 (.agg #[.int .i64 x0, .string x1, .int .i64 x2, .string x3, .int .i64 x4, .int .i64 x5]) (.agg #[.int .i64 y0, .string y1, .int .i64 y2, .string y3, .int .i64 y4, .int .i64 y5])).run Tryz.prog w = .ok ((x0 == y0) && ((x1.toList == y1.toList) && ((x2 == y2) && ((x3.toList == y3.toList) && ((x4 == y4) && (x5 == y5)))))) w := by
  refine eqA_of Tryz.underlying41 (by kernel_rfl) ?_
  refine eqf_cons (by rfl) (by go_simp <;> rfl) (by go_simp <;> rfl) (by go_simp) ?_
  refine eqf_cons (by rfl) (by go_simp <;> rfl) (by go_simp <;> rfl) (by go_simp) ?_
  refine eqf_cons (by rfl) (by go_simp <;> rfl) (by go_simp <;> rfl) (by go_simp) ?_
  refine eqf_cons (by rfl) (by go_simp <;> rfl) (by go_simp <;> rfl) (by go_simp) ?_
  refine eqf_cons (by rfl) (by go_simp <;> rfl) (by go_simp <;> rfl) (by go_simp) ?_
  exact eqf_last (by rfl) (by go_simp <;> rfl) (by go_simp <;> rfl) (by go_simp)
theorem eqA52 (d : Nat) (w : World) (x0 y0 : Int) (x1 y1 : ByteArray) (x2 y2 : Int) (x3 y3 : ByteArray) (x4 y4 : Int) (x5 y5 : Int) (x6 y6 : Int) (x7 y7 : Int) : (Op.equalIn (d + 3) 52 (.agg #[.int .i64 x0, .string x1, .int .i64 x2, .string x3, .int .i64 x4, .int .i64 x5, .int .i64 x6, .int .i64 x7]) (.agg #[.int .i64 y0, .string y1, .int .i64 y2, .string y3, .int .i64 y4, .int .i64 y5, .int .i64 y6, .int .i64 y7])).run Tryz.prog w = .ok (((x0 == y0) && ((x1.toList == y1.toList) && ((x2 == y2) && ((x3.toList == y3.toList) && ((x4 == y4) && (x5 == y5)))))) && ((x6 == y6) && (x7 == y7))) w := by
  refine eqA_of Tryz.underlying52 (by kernel_rfl) ?_
  refine eqf_cons (by rfl) (by go_simp <;> rfl) (by go_simp <;> rfl) (eqA41 (d + 0) w x0 y0 x1 y1 x2 y2 x3 y3 x4 y4 x5 y5) ?_
  refine eqf_cons (by rfl) (by go_simp <;> rfl) (by go_simp <;> rfl) (by go_simp) ?_
  exact eqf_last (by rfl) (by go_simp <;> rfl) (by go_simp <;> rfl) (by go_simp)
def eqF25 : EqF := fun cs ds => match cs, ds with
  | [.v (.i .i64 x0), .v (.i .i64 x1), .v (.i .i64 x2), .v (.s x3)], [.v (.i .i64 y0), .v (.i .i64 y1), .v (.i .i64 y2), .v (.s y3)] => some ((x0 == y0) && ((x1 == y1) && ((x2 == y2) && (x3.toList == y3.toList))))
  | _, _ => none
theorem eqOk25 : EqFact Tryz.prog 25 eqF25 := by
  refine ⟨by kernel_rfl, fun cs ds b hb G w xs ys hx hy => ?_⟩
  unfold eqF25 at hb
  split at hb
  · injection hb with hb
    subst hb
    simp only [RepsL, Reps, RepC] at hx hy
    obtain ⟨_, _, hx1, rfl, _, _, rfl, rfl, _, _, rfl, rfl, _, _, rfl, rfl, rfl⟩ := hx
    obtain ⟨_, _, hy1, rfl, _, _, rfl, rfl, _, _, rfl, rfl, _, _, rfl, rfl, rfl⟩ := hy
    obtain rfl := show xs = #[.int .i64 _, .int .i64 _, .int .i64 _, .string _] by rw [← Array.toList_inj, hx1]
    obtain rfl := show ys = #[.int .i64 _, .int .i64 _, .int .i64 _, .string _] by rw [← Array.toList_inj, hy1]
    exact eqA25 9998 w _ _ _ _ _ _ _ _
  · cases hb
def eqF41 : EqF := fun cs ds => match cs, ds with
  | [.v (.i .i64 x0), .v (.s x1), .v (.i .i64 x2), .v (.s x3), .v (.i .i64 x4), .v (.i .i64 x5)], [.v (.i .i64 y0), .v (.s y1), .v (.i .i64 y2), .v (.s y3), .v (.i .i64 y4), .v (.i .i64 y5)] => some ((x0 == y0) && ((x1.toList == y1.toList) && ((x2 == y2) && ((x3.toList == y3.toList) && ((x4 == y4) && (x5 == y5))))))
  | _, _ => none
theorem eqOk41 : EqFact Tryz.prog 41 eqF41 := by
  refine ⟨by kernel_rfl, fun cs ds b hb G w xs ys hx hy => ?_⟩
  unfold eqF41 at hb
  split at hb
  · injection hb with hb
    subst hb
    simp only [RepsL, Reps, RepC] at hx hy
    obtain ⟨_, _, hx1, rfl, _, _, rfl, rfl, _, _, rfl, rfl, _, _, rfl, rfl, _, _, rfl, rfl, _, _, rfl, rfl, rfl⟩ := hx
    obtain ⟨_, _, hy1, rfl, _, _, rfl, rfl, _, _, rfl, rfl, _, _, rfl, rfl, _, _, rfl, rfl, _, _, rfl, rfl, rfl⟩ := hy
    obtain rfl := show xs = #[.int .i64 _, .string _, .int .i64 _, .string _, .int .i64 _, .int .i64 _] by rw [← Array.toList_inj, hx1]
    obtain rfl := show ys = #[.int .i64 _, .string _, .int .i64 _, .string _, .int .i64 _, .int .i64 _] by rw [← Array.toList_inj, hy1]
    exact eqA41 9998 w _ _ _ _ _ _ _ _ _ _ _ _
  · cases hb
def eqF52 : EqF := fun cs ds => match cs, ds with
  | [.v (.i .i64 x0), .v (.s x1), .v (.i .i64 x2), .v (.s x3), .v (.i .i64 x4), .v (.i .i64 x5), .v (.i .i64 x6), .v (.i .i64 x7)], [.v (.i .i64 y0), .v (.s y1), .v (.i .i64 y2), .v (.s y3), .v (.i .i64 y4), .v (.i .i64 y5), .v (.i .i64 y6), .v (.i .i64 y7)] => some (((x0 == y0) && ((x1.toList == y1.toList) && ((x2 == y2) && ((x3.toList == y3.toList) && ((x4 == y4) && (x5 == y5)))))) && ((x6 == y6) && (x7 == y7)))
  | _, _ => none
theorem eqOk52 : EqFact Tryz.prog 52 eqF52 := by
  refine ⟨by kernel_rfl, fun cs ds b hb G w xs ys hx hy => ?_⟩
  unfold eqF52 at hb
  split at hb
  · injection hb with hb
    subst hb
    simp only [RepsL, Reps, RepC] at hx hy
    obtain ⟨_, _, hx1, rfl, _, _, rfl, rfl, _, _, rfl, rfl, _, _, rfl, rfl, _, _, rfl, rfl, _, _, rfl, rfl, _, _, rfl, rfl, _, _, rfl, rfl, rfl⟩ := hx
    obtain ⟨_, _, hy1, rfl, _, _, rfl, rfl, _, _, rfl, rfl, _, _, rfl, rfl, _, _, rfl, rfl, _, _, rfl, rfl, _, _, rfl, rfl, _, _, rfl, rfl, rfl⟩ := hy
    obtain rfl := show xs = #[.int .i64 _, .string _, .int .i64 _, .string _, .int .i64 _, .int .i64 _, .int .i64 _, .int .i64 _] by rw [← Array.toList_inj, hx1]
    obtain rfl := show ys = #[.int .i64 _, .string _, .int .i64 _, .string _, .int .i64 _, .int .i64 _, .int .i64 _, .int .i64 _] by rw [← Array.toList_inj, hy1]
    exact eqA52 9997 w _ _ _ _ _ _ _ _ _ _ _ _ _ _ _ _
  · cases hb
def eqs : List (Nat × EqF) := [(25, eqF25), (41, eqF41), (52, eqF52)]
theorem eqs_ok : ∀ x ∈ eqs, EqFact Tryz.prog x.1 x.2 := by
  intro x hx
  simp only [eqs, List.mem_cons, List.not_mem_nil, or_false] at hx
  rcases hx with rfl | rfl | rfl
  · exact eqOk25
  · exact eqOk41
  · exact eqOk52
noncomputable def env : Env := ⟨Tryz.prog, mixed, tys, tys_ok, eqs, eqs_ok⟩
end Go.Proofs.YthkepmicdpgbbaaGreatDoor.E

-- PRINTED BY print.sh 35421559b90ae4d0a3588c463048766b98c2df88dd9212a6774a882060cdf62d: not written by this session
/-
  PRINTED WORDS, second file: A REGION THAT DRAWS ITS ORDER, WALKED BY HAND, where its last store writes what its own loads read ('x.f = append(x.f, f(i))'). Plain theorems; no macro, no elab. A claim may hold it (turn the namespace's name).
  A load may be taken first in every world that meets S; behind the operations of ds nothing is shown; sound because each of ds waits for what is taken (Region.lastB). The kernel checks it.
  By an AI agent of Go's test side, Mon Nov 16 2026. No person has read it.
-/
namespace Go.Proofs.YthkepmicdpgbbaaGreatDoorW.PrintLast

section
variable {P : Program} {ops : Array Oper} {Q : Exit → Act → World → Prop} {md : Region.Mode} {S : World → Prop} {ds : List Nat}

/-- Operation d waits for operation i, by a chain of at most 'fuel' edges. -/
def Region.reachB (md : Region.Mode) (ops : Array Oper) (i : Nat) : Nat → Nat → Bool
  | 0, _ => false
  | fuel + 1, d => match ops[d]? with
    | some o => o.after.any fun e => Region.binds md e && (e.on == i || Region.reachB md ops i fuel e.on)
    | none => false

/-- Each of ds that has not come up yet waits for number i. -/
def Region.lastB (md : Region.Mode) (ops : Array Oper) (listed : Array Bool) (ds : List Nat) (i : Nat) : Bool :=
  ds.all fun d => listed.getD d true || Region.reachB md ops i ops.size d

def ListedClosed (md : Region.Mode) (ops : Array Oper) (listed : Array Bool) : Prop :=
  ∀ j oj, ops[j]? = some oj → listed.getD j false = true → ∀ e ∈ oj.after, Region.binds md e = true → listed.getD e.on false = true

theorem ListedClosed.set {listed : Array Bool} {i : Nat} (h : ListedClosed md ops listed) (hi : i ∈ Region.ready md ops listed) : ListedClosed md ops (listed.setIfInBounds i true) := by
  obtain ⟨_, oi, hoi, hall⟩ := mem_ready.1 hi
  intro j oj hj hl e he hb
  by_cases hij : i = j
  · subst hij
    have : oj = oi := Option.some.inj (hj.symm.trans hoi)
    subst this
    exact getD_set_true (hall e he hb)
  · rw [getD_set_ne false hij] at hl
    exact getD_set_true (h j oj hj hl e he hb)

/-- Whatever order is picked from here on, AND 'S' HOLDS BEHIND EVERY OPERATION THAT IS CARRIED OUT, those of ds apart. -/
def wpAnyLast (P : Program) (md : Region.Mode) (ops : Array Oper) (Q : Exit → Act → World → Prop) (S : World → Prop) (ds : List Nat) : Nat → Array Bool → Act → World → Prop
  | 0, listed, a, w => Region.ready md ops listed = [] ∧ Q .normal a w
  | fuel + 1, listed, a, w =>
    (Region.ready md ops listed = [] → Q .normal a w) ∧
    ∀ i ∈ Region.ready md ops listed, wpOp P ops Q i (fun a' w' => (i ∉ ds → S w → S w') ∧ wpAnyLast P md ops Q S ds fuel (listed.setIfInBounds i true) a' w') a w

end

section
variable {P : Program} {ops : Array Oper} {Q : Exit → Act → World → Prop} {md : Region.Mode} {S : World → Prop} {ds : List Nat}

def AllReadyL (P : Program) (md : Region.Mode) (ops : Array Oper) (Q : Exit → Act → World → Prop) (S : World → Prop) (ds : List Nat) (fuel : Nat) (listed : Array Bool) (a : Act) (w : World) (rs : List Nat) : Prop :=
  ∀ i ∈ rs, wpOp P ops Q i (fun a' w' => (i ∉ ds → S w → S w') ∧ wpAnyLast P md ops Q S ds fuel (listed.setIfInBounds i true) a' w') a w
theorem AllReadyL.nil {fuel : Nat} {listed : Array Bool} {a : Act} {w : World} : AllReadyL P md ops Q S ds fuel listed a w [] := fun _ h => by cases h
theorem AllReadyL.cons {fuel : Nat} {listed : Array Bool} {a : Act} {w : World} {i : Nat} {o : Oper} {rs : List Nat} (ho : ops[i]? = some o) (hd : i ∉ ds)
    (h : ∀ K' : Act → World → Prop, Shut (∀ a w, S w → (S w → wpAnyLast P md ops Q S ds fuel (listed.setIfInBounds i true) a w) → K' a w) → if Region.wanted o (yielded ops a.tmps) = true then Oper.wp P o a w K' Q else K' (a.put o.dst undef) w)
    (hs : AllReadyL P md ops Q S ds fuel listed a w rs) : AllReadyL P md ops Q S ds fuel listed a w (i :: rs) := fun j hj => by
  rcases List.mem_cons.1 hj with rfl | hj
  · exact wpOp_step ho (fun K' hK => h K' (fun a w hS hW => hK a w ⟨fun _ _ => hS, hW hS⟩))
  · exact hs j hj
/-! ### Several operations that write or call may come up: each order is walked, what follows is shown once (join_) -/
/-- A call of a Go function, by its contract. -/
theorem call_ {oi : Oper} {N : Option Tmp} {a : Act} {w : World} {K : Act → World → Prop} (f : FuncId) (args : Array Value) (hw : Region.wanted oi (yielded ops a.tmps) = true) (hN : oi.dst = N) (hrun : (execOp a.eval oi).run P w = .ok (.enter f args) w)
    (h : Calls P f args w fun e w' => ∃ v, e = .returned v ∧ K (a.put N v) w') : if Region.wanted oi (yielded ops a.tmps) = true then Oper.wp P oi a w K Q else K (a.put N undef) w := by
  rw [if_pos hw]
  subst hN
  unfold Oper.wp
  rw [hrun, Oper.upon_enter]
  refine h.mono fun e w'' hh => ?_
  obtain ⟨v, rfl, hk⟩ := hh
  exact hk
end
end Go.Proofs.YthkepmicdpgbbaaGreatDoorW.PrintLast

-- PRINTED BY print.sh 35421559b90ae4d0a3588c463048766b98c2df88dd9212a6774a882060cdf62d: not written by this session
/-! ### 40. Elements whose inner rows lie apart: what is stored into one says nothing of the others.
   S: as R, with an owner function f (block to element's index). H: as S with a hole: of element i its cells alone are told, its blocks are oki. -/
namespace Go.Proofs.YthkepmicdpgbbaaGreatDoorW.PrintWords
open Go.RowKit
namespace Kd
/-- An element with its index: its blocks are those that f gives to it. -/
def tag {α : Type} (f : Nat → Nat) (d : Kd α) : Kd (α × Nat) where
  sz := d.sz
  E := d.E
  K := fun w x cs => d.K w x.1 cs
  M := fun w base ok x cs => d.M w base (fun k => ok k ∧ f k = x.2) x.1 cs
  K_len := fun h => d.K_len h
  K_one := fun h => d.K_one h
  K_below := fun hb h => d.K_below hb h
  K_of_M := fun h => d.K_of_M h
  M_mono := fun hok h => d.M_mono (fun k hk => ⟨hok k hk.1, hk.2⟩) h
  M_bound := fun h => d.M_mono (fun _ hk => ⟨⟨hk.1.1, hk.2⟩, hk.1.2⟩) (d.M_bound h)
  M_move := fun hm h => d.M_move (fun k hk => hm k hk.1) h
  M_lower := fun hb h => d.M_lower hb h
/-- The cells themselves. -/
def raw (sz : Nat) : Kd (List Value) where
  sz := sz
  E := []
  K := fun _ x cs => cs = x ∧ cs.length = sz ∧ ∀ u ∈ cs, u.oneCell' = true
  M := fun _ _ _ x cs => cs = x ∧ cs.length = sz ∧ ∀ u ∈ cs, u.oneCell' = true
  K_len := fun h => h.2.1
  K_one := fun h => h.2.2
  K_below := fun _ h => h
  K_of_M := fun h => h
  M_mono := fun _ h => h
  M_bound := fun h => h
  M_move := fun _ h => h
  M_lower := fun _ h => h
/-- A row of elements (type e) of the call's own, no two of which lead to one block. -/
def S {α : Type} (d : Kd α) (e : Nat) (w : World) (base : Nat) (ok : Nat → Prop) (v : Value) (xs : List α) : Prop := ∃ f, (tag f d).R e w base ok v xs.zipIdx
section
variable {α β : Type} {d : Kd α} {d' : Kd β} {e e' : Nat} {w w1 W : World} {base b : Nat} {ok ok' okv oku : Nat → Prop} {u v : Value} {xs : List α} {ys : List β}
end
section
variable {α β : Type} {d : Kd α} {d' : Kd β} {e e' g : Nat} {w w1 W : World} {base b : Nat} {ok ok' okv oku : Nat → Prop} {u v : Value} {xs : List α} {ys : List β}
end
/-! #### append, make, literals: the new element's blocks are none of the elder ones' -/
section
variable {P : Program} {ops : Array Oper} {rest : List Oper} {o : Oper} {a : Act} {Q : Exit → Act → World → Prop} {Kc : Act → World → Prop} {α : Type}
end
/-! #### a row with a hole: element i is lent, its blocks are oki; of it the row says its cells alone -/
/-- Element i is these cells; the others are d's. -/
def gap {α : Type} (f : Nat → Nat) (d : Kd α) (i : Nat) (c : List Value) : Kd (α × Nat) where
  sz := d.sz
  E := d.E
  K := fun w x cs => (x.2 = i → cs = c ∧ cs.length = d.sz ∧ ∀ u ∈ cs, u.oneCell' = true) ∧ (x.2 ≠ i → d.K w x.1 cs)
  M := fun w base ok x cs => (x.2 = i → cs = c ∧ cs.length = d.sz ∧ ∀ u ∈ cs, u.oneCell' = true) ∧ (x.2 ≠ i → d.M w base (fun k => ok k ∧ f k = x.2) x.1 cs)
  K_len := fun {w x cs} h => by
    by_cases hx : x.2 = i
    · exact (h.1 hx).2.1
    · exact d.K_len (h.2 hx)
  K_one := fun {w x cs} h => by
    by_cases hx : x.2 = i
    · exact (h.1 hx).2.2
    · exact d.K_one (h.2 hx)
  K_below := fun hb h => ⟨h.1, fun hx => d.K_below hb (h.2 hx)⟩
  K_of_M := fun h => ⟨h.1, fun hx => d.K_of_M (h.2 hx)⟩
  M_mono := fun hok h => ⟨h.1, fun hx => d.M_mono (fun k hk => ⟨hok k hk.1, hk.2⟩) (h.2 hx)⟩
  M_bound := fun h => ⟨h.1, fun hx => d.M_mono (fun _ hk => ⟨⟨hk.1.1, hk.2⟩, hk.1.2⟩) (d.M_bound (h.2 hx))⟩
  M_move := fun hm h => ⟨h.1, fun hx => d.M_move (fun k hk => hm k hk.1) (h.2 hx)⟩
  M_lower := fun hb h => ⟨h.1, fun hx => d.M_lower hb (h.2 hx)⟩
def H {α : Type} (d : Kd α) (e : Nat) (w : World) (base : Nat) (ok : Nat → Prop) (v : Value) (xs : List α) (i : Int) (oki : Nat → Prop) (c : List Value) : Prop :=
  (∀ k, oki k → ok k) ∧ ∃ f, (gap f d i.toNat c).R e w base (fun k => ok k ∧ ¬ oki k) v xs.zipIdx
section
variable {α β : Type} {d : Kd α} {e e' g n cap : Nat} {w w1 W : World} {base : Nat} {ok ok' oki okp : Nat → Prop} {u v : Value} {xs : List α} {i : Int} {c : List Value}
end
section
variable {P : Program} {ops : Array Oper} {rest : List Oper} {o : Oper} {a : Act} {Q : Exit → Act → World → Prop} {α : Type}
end
end Kd
end Go.Proofs.YthkepmicdpgbbaaGreatDoorW.PrintWords

-- PRINTED BY print.sh 35421559b90ae4d0a3588c463048766b98c2df88dd9212a6774a882060cdf62d: not written by this session
/-! ### 41. Arrays '[n]T' as_ values: a kind (a field, an element of a row), an element read, an element set -/
namespace Go.Proofs.YthkepmicdpgbbaaGreatDoorW.PrintWords
open Go.RowKit
namespace Kd
theorem reps_one {α : Type} {R : α → List Value → Prop} {size : Nat} {ps : List α} {cs : List Value} (h : Reps R size ps cs) (hs0 : 0 < size) (hR : ∀ p c, R p c → ∀ u ∈ c, u.oneCell' = true) : ∀ u ∈ cs, u.oneCell' = true := by
  intro u hu
  obtain ⟨q, hq, rfl⟩ := List.mem_iff_getElem.1 hu
  have hql : q / size < ps.length := by
    rw [Nat.div_lt_iff_lt_mul hs0, ← h.1]
    exact hq
  refine hR _ _ (h.2 (q / size) _ (List.getElem?_eq_getElem hql)) _ ?_
  rw [List.mem_iff_getElem?]
  refine ⟨q % size, ?_⟩
  rw [List.getElem?_take, if_pos (Nat.mod_lt _ hs0), List.getElem?_drop, Nat.mul_comm, Nat.div_add_mod, List.getElem?_eq_getElem hq]
/-- An array of n elements of kind d. -/
def arr {α : Type} (n : Nat) (d : Kd α) (hs : 0 < d.sz) : Kd (List α) where
  sz := n * d.sz
  E := d.E
  K := fun w xs cs => xs.length = n ∧ Reps (d.K w) d.sz xs cs
  M := fun w base ok xs cs => xs.length = n ∧ Reps (d.M w base ok) d.sz xs cs
  K_len := fun h => by rw [← h.1]; exact h.2.1
  K_one := fun h => reps_one h.2 hs (fun _ _ hk => d.K_one hk)
  K_below := fun hb h => ⟨h.1, h.2.imp_ (fun _ _ hk => d.K_below hb hk)⟩
  K_of_M := fun h => ⟨h.1, h.2.imp_ (fun _ _ hk => d.K_of_M hk)⟩
  M_mono := fun hok h => ⟨h.1, h.2.imp_ (fun _ _ hk => d.M_mono hok hk)⟩
  M_bound := fun h => ⟨h.1, h.2.imp_ (fun _ _ hk => d.M_bound hk)⟩
  M_move := fun hm h => ⟨h.1, h.2.imp_ (fun _ _ hk => d.M_move hm hk)⟩
  M_lower := fun hb h => ⟨h.1, h.2.imp_ (fun _ _ hk => d.M_lower hb hk)⟩
section
variable {α : Type} {n : Nat} {d : Kd α} {hs : 0 < d.sz} {w : World} {base : Nat} {ok : Nat → Prop} {xs : List α} {cs : List Value}
end
section
variable {α : Type} {n : Nat} {enc : α → Value} {h1 : ∀ x, (enc x).oneCell' = true} {hs : 0 < (scalar enc h1).sz} {w : World} {base : Nat} {ok : Nat → Prop} {xs : List α} {cs : List Value}
end
end Kd
end Go.Proofs.YthkepmicdpgbbaaGreatDoorW.PrintWords

-- PRINTED BY print.sh 35421559b90ae4d0a3588c463048766b98c2df88dd9212a6774a882060cdf62d: not written by this session
/-! ### 43. What is read beside a state: it stays read whatever the state's calls turn ('∀ W', KeepBut w W' g none → d.C W' A n xs') -/
namespace Go.Proofs.YthkepmicdpgbbaaGreatDoorW.PrintWords
open Go.RowKit
namespace Kd
/-- What a kind reads lies in the blocks: nothing else of the world is looked at. -/
structure Heap {α : Type} (d : Kd α) : Prop where
  K : ∀ {w w1 : World} {x : α} {cs : List Value}, (∀ k, k < w.heap.size → w1.heap[k]? = w.heap[k]?) → d.K w x cs → d.K w1 x cs
theorem cell_heap {w w1 : World} (hb : ∀ k, k < w.heap.size → w1.heap[k]? = w.heap[k]?) {a : Addr} {v : Value} (h : w.cell? a = some v) : w1.cell? a = some v := by
  have := hb a.block (World.block_lt_of_cell? w a h)
  simpa [World.cell?, this] using h
theorem Heap.C {α : Type} {d : Kd α} (hd : Heap d) {w w1 : World} {A : Option Addr} {n : Nat} {xs : List α} (hb : ∀ k, k < w.heap.size → w1.heap[k]? = w.heap[k]?) (h : d.C w A n xs) : d.C w1 A n xs :=
  ⟨h.1, h.2.1, fun hn => by
    obtain ⟨ad, e, hc⟩ := h.2.2 hn
    refine ⟨ad, e, fun j p hj => ?_⟩
    obtain ⟨c, hs, hr, hcell⟩ := hc j p hj
    exact ⟨c, hs, hd.K hb hr, fun i u hu => cell_heap hb (hcell i u hu)⟩⟩
section
variable {α : Type} {d : Kd α} {e base g n c : Nat} {ok : Nat → Prop} {w w0 W : World} {A : Option Addr} {xs : List α}
end
end Kd
end Go.Proofs.YthkepmicdpgbbaaGreatDoorW.PrintWords

-- PRINTED BY print.sh 35421559b90ae4d0a3588c463048766b98c2df88dd9212a6774a882060cdf62d: not written by this session
/-! ### 45. What a call keeps: all but the blocks of S (the rows that it was given to write) and what is new since -/
namespace Go.Proofs.YthkepmicdpgbbaaGreatDoorW.PrintWords
open Go.RowKit
def Kept (w W : World) (S : Nat → Prop) : Prop := w.heap.size ≤ W.heap.size ∧ ∀ i, i < w.heap.size → ¬ S i → W.heap[i]? = w.heap[i]?
section
variable {w W W2 : World} {S S2 S' : Nat → Prop}
theorem Kept.refl (w : World) (S : Nat → Prop) : Kept w w S := ⟨Nat.le_refl _, fun _ _ _ => rfl⟩
theorem Kept.of_below (h : Below w.heap.size w W) (S : Nat → Prop) : Kept w W S := ⟨h.size, fun i hi _ => h.block i hi⟩
theorem Kept.mono (h : Kept w W S) (hs : ∀ k, S k → S' k) : Kept w W S' := ⟨h.1, fun i hi hn => h.2 i hi (fun hk => hn (hs i hk))⟩
theorem Kept.then_ (h : Kept w W S) (k : Kept W W2 S2) (hs : ∀ k, S2 k → S k ∨ w.heap.size ≤ k) : Kept w W2 S :=
  ⟨Nat.le_trans h.1 k.1, fun i hi hn => (k.2 i (Nat.lt_of_lt_of_le hi h.1) (fun h2 => (hs i h2).elim hn (fun h3 => by omega))).trans (h.2 i hi hn)⟩
theorem Kept.below (h : Kept w W S) (hb : Below W.heap.size W W2) : Kept w W2 S := h.then_ (Kept.of_below hb (fun _ => False)) (fun _ hk => hk.elim)
theorem Kept.alloc (h : Kept w W S) (o : Obj) : Kept w (W.alloc o) S := h.below (below_alloc (Below.refl _ _) o)
theorem Kept.drew (h : Kept w W S) : Kept w W.drew S := h
theorem Kept.drewN (h : Kept w W S) (m : Nat) : Kept w (W.drewN m) S := h
/-- Beside a state: what was written is new since. -/
theorem Kept.keep {g : Nat} (h : KeepBut w W g none) (k : Kept W W2 S2) (hs : ∀ k, S2 k → w.heap.size ≤ k) : KeepBut w W2 g none :=
  ⟨Nat.le_trans h.1 k.1, fun i hi hg hr => (k.2 i (Nat.lt_of_lt_of_le hi h.1) (fun h2 => by have := hs i h2; omega)).trans (h.2 i hi hg hr)⟩
end
namespace Kd
section
variable {α : Type} {d : Kd α} {e base n c : Nat} {ok oki S S2 : Nat → Prop} {w w0 W W1 W2 : World} {v : Value} {A : Option Addr} {xs : List α} {i : Int} {cs : List Value}
end
end Kd
end Go.Proofs.YthkepmicdpgbbaaGreatDoorW.PrintWords

-- PRINTED BY print.sh 35421559b90ae4d0a3588c463048766b98c2df88dd9212a6774a882060cdf62d: not written by this session
/-! ### 46. Values that share: what is only read, with the blocks it lies in (its footprint 'ok'): Foot, F (a row that is read), FK (an element's cells) -/
namespace Go.Proofs.YthkepmicdpgbbaaGreatDoorW.PrintWords
open Go.RowKit
/-- P holds in W and in every world that has W's blocks of ok. -/
def Foot (P : World → Prop) (W : World) (ok : Nat → Prop) : Prop := ∀ W' : World, (∀ k, ok k → k < W.heap.size → W'.heap[k]? = W.heap[k]?) → P W'
theorem heap_lt {W W1 : World} {k : Nat} (h : W1.heap[k]? = W.heap[k]?) (hlt : k < W.heap.size) : k < W1.heap.size := by
  rw [Array.getElem?_eq_getElem hlt] at h
  exact (Array.getElem?_eq_some_iff.1 h).1
namespace Foot
variable {P Q : World → Prop} {W W1 : World} {ok ok' : Nat → Prop}
theorem mono (h : Foot P W ok) (hok : ∀ k, ok k → ok' k) : Foot P W ok' := fun W' hW => h W' (fun k hk hlt => hW k (hok k hk) hlt)
theorem bound (h : Foot P W ok) : Foot P W (fun k => ok k ∧ k < W.heap.size) := fun W' hW => h W' (fun k hk hlt => hW k ⟨hk, hlt⟩ hlt)
theorem step (h : Foot P W ok) (hm : ∀ k, ok k → k < W.heap.size → W1.heap[k]? = W.heap[k]?) : Foot P W1 ok := fun W' hW => h W' (fun k hk hlt => (hW k hk (heap_lt (hm k hk hlt) hlt)).trans (hm k hk hlt))
/-- Moved, and still elder than what is new since W. -/
theorem old (h : Foot P W ok) (hb : Below W.heap.size W W1) : Foot P W1 (fun k => ok k ∧ k < W.heap.size) := (h.bound).step (fun k _ hlt => hb.block k hlt)
end Foot
namespace Kd
/-- A row that is only read: what it leads to lies in ok. -/
def F {α : Type} (d : Kd α) (W : World) (ok : Nat → Prop) (A : Option Addr) (n : Nat) (xs : List α) : Prop := Foot (fun W => d.C W A n xs) W ok
/-- An element's cells: what they lead to lies in ok. -/
def FK {α : Type} (d : Kd α) (W : World) (ok : Nat → Prop) (x : α) (c : List Value) : Prop := Foot (fun W => d.K W x c) W ok
section
variable {α β : Type} {d : Kd α} {e base n n' cc g N : Nat} {ok ok' okp S : Nat → Prop} {w w0 w1 W W1 : World} {A A' : Option Addr} {u v v1 : Value} {xs : List α} {xs' : List β} {d' : Kd β} {x : α} {c : List Value}
end
end Kd
end Go.Proofs.YthkepmicdpgbbaaGreatDoorW.PrintWords

-- PRINTED BY print.sh 35421559b90ae4d0a3588c463048766b98c2df88dd9212a6774a882060cdf62d: not written by this session
/-! ### 47. N: a row of the call's own whose elements share (what they lead to is only read) -/
namespace Go.Proofs.YthkepmicdpgbbaaGreatDoorW.PrintWords
open Go.RowKit
namespace Kd
/-- The cells one behind the other, element by element. -/
def chunks (sz : Nat) (n : Nat) (inner : List Value) : List (List Value) := (List.range n).map fun j => (inner.drop (j * sz)).take sz
theorem chunks_length (sz n : Nat) (inner : List Value) : (chunks sz n inner).length = n := by simp [chunks]
section
variable {α : Type} {d : Kd α} {e base n cc g : Nat} {ok ok' okp S : Nat → Prop} {w w1 W W1 : World} {A : Option Addr} {u v v1 : Value} {xs : List α} {x : α} {c : List Value}
/-- A row of elements (type e) of the call's own; what the elements lead to is only read, and is not this row. -/
def N {α : Type} (d : Kd α) (e : Nat) (w : World) (base : Nat) (ok : Nat → Prop) (v : Value) (xs : List α) : Prop :=
  (∀ k, v.ownBlock = some k → ok k) ∧ ∃ rows : List (List Value), rows.length = xs.length ∧ (raw d.sz).R e w base (fun k => some k = v.ownBlock) v rows ∧ ∀ (j : Nat) (x : α) (c : List Value), xs[j]? = some x → rows[j]? = some c → FK d w (fun k => ok k ∧ some k ≠ v.ownBlock) x c
end
end Kd
end Go.Proofs.YthkepmicdpgbbaaGreatDoorW.PrintWords

-- PRINTED BY print.sh 35421559b90ae4d0a3588c463048766b98c2df88dd9212a6774a882060cdf62d: not written by this session
/-! ### 55. Reps told from the front, no append: for rows of one-cell elements and of wider ones -/
namespace Go.Proofs.YthkepmicdpgbbaaGreatDoorW.PrintWords
/-- One cell an element. -/
theorem Reps.one {α : Type} {R : α → List Value → Prop} {ps : List α} {cs : List Value} {p : α} {v : Value} (hp : R p [v]) (h : Reps R 1 ps cs) : Reps R 1 (p :: ps) (v :: cs) := by
  refine ⟨by simp [h.1], fun j q hq => ?_⟩
  cases j with
  | zero =>
    simp only [List.getElem?_cons_zero, Option.some.injEq] at hq
    subst hq
    simpa using hp
  | succ j =>
    simp only [List.getElem?_cons_succ] at hq
    have h1 := h.2 j q hq
    simpa [Nat.mul_one] using h1
/-- More cells an element: told apart by the cells' list. -/
theorem Reps.front {α : Type} {R : α → List Value → Prop} {size : Nat} {ps : List α} {cs c all : List Value} {p : α} (hp : R p c) (hc : c.length = size) (h : Reps R size ps cs) (ha : c ++ cs = all) : Reps R size (p :: ps) all := by
  subst ha
  refine ⟨by rw [List.length_append, hc, h.1, List.length_cons, Nat.succ_mul, Nat.add_comm], fun j q hq => ?_⟩
  cases j with
  | zero =>
    simp only [List.getElem?_cons_zero, Option.some.injEq] at hq
    subst hq
    rw [Nat.zero_mul, List.drop_zero, List.take_append_of_le_length (by omega), List.take_of_length_le (by omega)]
    exact hp
  | succ j =>
    simp only [List.getElem?_cons_succ] at hq
    have h1 := h.2 j q hq
    rw [Nat.succ_mul, List.drop_append, List.drop_of_length_le (by rw [hc]; exact Nat.le_add_left _ _), List.nil_append, hc, Nat.add_sub_cancel]
    exact h1
theorem Reps.c2 {α : Type} {R : α → List Value → Prop} {ps : List α} {cs : List Value} {p : α} {va vb : Value} (hp : R p [va, vb]) (h : Reps R 2 ps cs) : Reps R 2 (p :: ps) (va :: vb :: cs) := Reps.front hp rfl h rfl
theorem Reps.c3 {α : Type} {R : α → List Value → Prop} {ps : List α} {cs : List Value} {p : α} {va vb vc : Value} (hp : R p [va, vb, vc]) (h : Reps R 3 ps cs) : Reps R 3 (p :: ps) (va :: vb :: vc :: cs) := Reps.front hp rfl h rfl
theorem Reps.c4 {α : Type} {R : α → List Value → Prop} {ps : List α} {cs : List Value} {p : α} {va vb vc vd : Value} (hp : R p [va, vb, vc, vd]) (h : Reps R 4 ps cs) : Reps R 4 (p :: ps) (va :: vb :: vc :: vd :: cs) := Reps.front hp rfl h rfl
theorem Reps.c5 {α : Type} {R : α → List Value → Prop} {ps : List α} {cs : List Value} {p : α} {va vb vc vd ve : Value} (hp : R p [va, vb, vc, vd, ve]) (h : Reps R 5 ps cs) : Reps R 5 (p :: ps) (va :: vb :: vc :: vd :: ve :: cs) := Reps.front hp rfl h rfl
end Go.Proofs.YthkepmicdpgbbaaGreatDoorW.PrintWords

-- PRINTED BY print.sh 35421559b90ae4d0a3588c463048766b98c2df88dd9212a6774a882060cdf62d: not written by this session
/-! ### 57. A region of open order by ONE relation over what is listed so far: each operation is shown once, whatever came up before it -/
namespace Go.Proofs.YthkepmicdpgbbaaGreatDoorW.PrintLast
/-- Number i is listed too. -/
def up (b : Nat → Bool) (i : Nat) : Nat → Bool := fun j => if j = i then true else b j
section
variable {P : Program} {ops : Array Oper} {Q : Exit → Act → World → Prop} {md : Region.Mode} {T : Bool × List (List Nat × List Nat)} {B : List Nat} {O : List Nat} {b : Nat → Bool} {i j n : Nat}
/-- The step of operation i: out of the relation, it not being listed, all it waits for being so, and nothing that waits for it. -/
def StepAt (P : Program) (ops : Array Oper) (Q : Exit → Act → World → Prop) (B : List Nat) (O : List Nat) (I : (Nat → Bool) → Act → World → Prop) (i : Nat) : Prop :=
  ∀ b a w, I b a w → b i = false → (∀ j, (O.contains j && (B.getD i 0).testBit j) = true → b j = true) → (∀ d, (O.contains d && (B.getD d 0).testBit i) = true → b d = false) →
    ∃ oi, ops[i]? = some oi ∧ ∀ K : Act → World → Prop, Shut (∀ a' w', I (up b i) a' w' → K a' w') → if Region.wanted oi (yielded ops a.tmps) = true then Oper.wp P oi a w K Q else K (a.put oi.dst undef) w
/-! The frame: what is listed has its destination filled. -/
end
end Go.Proofs.YthkepmicdpgbbaaGreatDoorW.PrintLast

-- PRINTED BY print.sh 35421559b90ae4d0a3588c463048766b98c2df88dd9212a6774a882060cdf62d: not written by this session
-- PRINTED WORDS (module Derived/Print/More.lean): go-gate-2's additions: an AI agent of Go's test side, Tue Nov 17 2026; no person has read it. Lean checks it.
namespace Go.Proofs.YthkepmicdpgbbaaGreatDoorW.PrintMore
open Go.RowKit Go.Proofs.YthkepmicdpgbbaaGreatDoorW.PrintWords
namespace Kd
open Go.Proofs.YthkepmicdpgbbaaGreatDoorW.PrintWords.Kd
end Kd

namespace Kd
open Go.Proofs.YthkepmicdpgbbaaGreatDoorW.PrintWords.Kd
section
variable {α : Type} {d : Kd α} {e base g N : Nat} {ok : Nat → Prop} {W w1 : World} {u v : Value} {xs : List α}
end
end Kd
/-- 'max' and 'min' of two whole numbers. -/
theorem max2_int (k k' : IntKind) (x y : Int) : Builtin.max2 (.int k x) (.int k' y) = pure (.int k (if x < y then y else x)) := by simp only [Builtin.max2, gt_iff_lt]
theorem min2_int (k k' : IntKind) (x y : Int) : Builtin.min2 (.int k x) (.int k' y) = pure (.int k (if y < x then y else x)) := by simp only [Builtin.min2]
theorem max_two (ats : Array TypeId) (ty : TypeId) (a b : Value) : Builtin.max_ ats ty #[a, b] = (Builtin.max2 a b >>= fun s => pure s) := by simp only [Builtin.max_, List.foldlM_cons, List.foldlM_nil]
theorem min_two (ats : Array TypeId) (ty : TypeId) (a b : Value) : Builtin.min_ ats ty #[a, b] = (Builtin.min2 a b >>= fun s => pure s) := by simp only [Builtin.min_, List.foldlM_cons, List.foldlM_nil]
theorem max_three (ats : Array TypeId) (ty : TypeId) (a b c : Value) : Builtin.max_ ats ty #[a, b, c] = (Builtin.max2 a b >>= fun s => Builtin.max2 s c >>= fun s => pure s) := by simp only [Builtin.max_, List.foldlM_cons, List.foldlM_nil]
theorem min_three (ats : Array TypeId) (ty : TypeId) (a b c : Value) : Builtin.min_ ats ty #[a, b, c] = (Builtin.min2 a b >>= fun s => Builtin.min2 s c >>= fun s => pure s) := by simp only [Builtin.min_, List.foldlM_cons, List.foldlM_nil]
theorem max_four (ats : Array TypeId) (ty : TypeId) (a b c d : Value) : Builtin.max_ ats ty #[a, b, c, d] = (Builtin.max2 a b >>= fun s => Builtin.max2 s c >>= fun s => Builtin.max2 s d >>= fun s => pure s) := by simp only [Builtin.max_, List.foldlM_cons, List.foldlM_nil]
theorem min_four (ats : Array TypeId) (ty : TypeId) (a b c d : Value) : Builtin.min_ ats ty #[a, b, c, d] = (Builtin.min2 a b >>= fun s => Builtin.min2 s c >>= fun s => Builtin.min2 s d >>= fun s => pure s) := by simp only [Builtin.min_, List.foldlM_cons, List.foldlM_nil]
end Go.Proofs.YthkepmicdpgbbaaGreatDoorW.PrintMore
namespace Go.Proofs.YthkepmicdpgbbaaGreatDoorW.PrintWords
open Go.RowKit
section
variable {P : Program} {ops : Array Oper} {rest : List Oper} {o : Oper} {a : Act} {Q : Exit → Act → World → Prop} {W : World}
/-- The operation is a builtin over these places. -/
theorem gate_builtin {b : Builtin} {xs : Array Operand} {ts : Array TypeId} (_ho : o.op = .call { callee := .builtin b, args := xs, argTypes := ts }) (h : wpList P ops Q (o :: rest) a W) : wpList P ops Q (o :: rest) a W := h
end
/-- The greater of two whole numbers, as Go's max tells it. -/
def mx (a b : Int) : Int := if a < b then b else a
/-- A shift to the left, as Go tells it: a count beyond the width leaves nothing. -/
def shl (k : IntKind) (x y : Int) : Int := k.wrap (x * 2 ^ min y.toNat k.bits)
/-- A shift to the right: a count beyond the width leaves the sign. -/
def shr (k : IntKind) (x y : Int) : Int := x / 2 ^ min y.toNat k.bits
namespace Kd
section
variable {α : Type} {d : Kd α} {e base : Nat} {ok : Nat → Prop} {W w1 : World} {v : Value} {xs : List α}
end
section
variable {α : Type} {d : Kd α} {e base g n cap : Nat} {ok oki okp : Nat → Prop} {W : World} {xs : List α} {i : Int} {c : List Value}
end
section
variable {α : Type} {d : Kd α} {e base b b' g N : Nat} {ok ok1 : Nat → Prop} {W W2 w1 : World} {u v : Value} {xs ys : List α} {S : Nat → Prop}
end
end Kd
end Go.Proofs.YthkepmicdpgbbaaGreatDoorW.PrintWords
namespace Go.Proofs.YthkepmicdpgbbaaGreatDoorW.PrintWords
open Go.RowKit
namespace Kd
section
variable {α β : Type} {d : Kd α} {e base base' n m c g N' lo hi : Nat} {ok ok' S : Nat → Prop} {w W w1 : World} {A : Option Addr} {ad : Addr} {u v v1 : Value} {xs : List α}
end
end Kd
end Go.Proofs.YthkepmicdpgbbaaGreatDoorW.PrintWords

-- Written by xprint.py (by way of the kit's print program) out of the translation.
namespace Go.Proofs.YthkepmicdpgbbaaGreatDoor.P
open Go.RowKit Go.Proofs.YthkepmicdpgbbaaGreatDoorW.PrintWords Go.Proofs.YthkepmicdpgbbaaGreatDoorW.PrintLast Go.Proofs.YthkepmicdpgbbaaGreatDoorW.PrintMore
attribute [local go_sem] max2_int min2_int max_two min_two max_three min_three max_four min_four   -- for this text's walks alone
set_option linter.unusedVariables false
set_option linter.unusedSimpArgs false

def errW : Option Int → Value
 | none => .nilIface
 | some c => .iface 0 (.int .i64 c)
theorem errW_none : errW none = .nilIface := rfl
theorem errW_some (c : Int) : errW (some c) = .iface 0 (.int .i64 c) := rfl

theorem info5 : (Tryz.prog.info? 5).map (fun i => (i.zero, i.size, i.bytes)) = some (some (.int .u8 0), 1, 1) := by kernel_rfl
-- the values' own types
/-! #### struct type 138 -/
structure S138 where
 f0 : ByteArray
 f1 : Int
 f2 : Int
 f3 : Int
 f4 : Int
def z138 : S138 := ⟨(⟨#[]⟩ : ByteArray), (0 : Int), (0 : Int), (0 : Int), (0 : Int)⟩
def k138 : Kd S138 := Kd.iso (Kd.pair Kd.string (Kd.pair (Kd.int .i64) (Kd.pair (Kd.int .i64) (Kd.pair (Kd.int .i64) (Kd.int .i64))))) (fun x : S138 => (x.f0, x.f1, x.f2, x.f3, x.f4))
theorem k138_open {w : World} {x : S138} {cs : List Value} (h : k138.K w x cs) : cs = [.string x.f0, .int .i64 x.f1, .int .i64 x.f2, .int .i64 x.f3, .int .i64 x.f4] := by
 obtain ⟨_, _, rfl, rfl, ⟨_, _, rfl, rfl, ⟨_, _, rfl, rfl, ⟨_, _, rfl, rfl, rfl⟩⟩⟩⟩ := h
 exact rfl
def rd_T138 (xs : List S138) (i : Int) : S138 := xs.getD i.toNat z138
theorem at_T138 {w : World} {A : Option Addr} {n : Nat} {xs : List S138} (h : Kd.C k138 w A n xs) (i : Int) (h0 : 0 ≤ i) (h1 : i < n) : ∃ ad , A = some ad ∧ w.cell? (ad.add (i.toNat * 5)) = some (.string (rd_T138 xs i).f0) ∧ w.cell? ⟨(ad.add (i.toNat * 5)).block, (ad.add (i.toNat * 5)).off + 1, none⟩ = some (.int .i64 (rd_T138 xs i).f1) ∧ w.cell? ⟨(ad.add (i.toNat * 5)).block, (ad.add (i.toNat * 5)).off + 2, none⟩ = some (.int .i64 (rd_T138 xs i).f2) ∧ w.cell? ⟨(ad.add (i.toNat * 5)).block, (ad.add (i.toNat * 5)).off + 3, none⟩ = some (.int .i64 (rd_T138 xs i).f3) ∧ w.cell? ⟨(ad.add (i.toNat * 5)).block, (ad.add (i.toNat * 5)).off + 4, none⟩ = some (.int .i64 (rd_T138 xs i).f4) := by
 obtain ⟨ad, c, e, _, hK, hc0⟩ := Kd.C_get h z138 i h0 h1
 have hc : ∀ j u, c[j]? = some u → w.cell? (ad.add (i.toNat * 5 + j)) = some u := hc0
 obtain rfl := k138_open hK
 exact ⟨ad, e, hc 0 _ rfl, by rw [← add_field _ _ 1 (by omega)]; exact hc 1 _ rfl, by rw [← add_field _ _ 2 (by omega)]; exact hc 2 _ rfl, by rw [← add_field _ _ 3 (by omega)]; exact hc 3 _ rfl, by rw [← add_field _ _ 4 (by omega)]; exact hc 4 _ rfl⟩

/-! #### struct type 125 -/

/-! #### struct type 109 -/

/-! #### struct type 38 -/

/-! #### struct type 25 -/

end Go.Proofs.YthkepmicdpgbbaaGreatDoor.P

-- Written by xprint.py (by way of the kit's print program) out of the translation.
namespace Go.Proofs.YthkepmicdpgbbaaGreatDoor.P
open Go.RowKit Go.Proofs.YthkepmicdpgbbaaGreatDoorW.PrintWords Go.Proofs.YthkepmicdpgbbaaGreatDoorW.PrintLast Go.Proofs.YthkepmicdpgbbaaGreatDoorW.PrintMore
attribute [local go_sem] max2_int min2_int max_two min_two max_three min_three max_four min_four   -- for this text's walks alone
set_option linter.unusedVariables false
set_option linter.unusedSimpArgs false

def laws_big.f (l0 : List Int) : Option (Bool) := some (decide ((l0.length : Int) > 1048576))
def spec_l1New.l0 : Nat → List Int → Int → Int → Option (List Int × Int × Int)
  | 0, _, _, _ => none
  | k + 1, x0, x3, x4 => if x4 < (x0.length : Int) then (if x4 < 4000 then (if 0 ≤ x4 then (spec_l1New.l0 k x0 (Go.bits .and .i64 (wrap64 ((wrap64 ((wrap64 (x3 * 137)) + (wrap64 (rd x0 x4)))) + 11)) 1073741823) (wrap64 (x4 + 1))) else (none)) else (some (x0, 0, x3))) else (some (x0, 0, x3))
def spec_l1New.f (k : Nat) (l0 : List Int) : Option (List Int × Int × Int) := spec_l1New.l0 k l0 (wrap64 (128871 + (l0.length : Int))) 0
def spec_l1Byte.f (s0_0 : List Int) (s0_1 : Int) (s0_2 : Int) : Option (Int × Int × Int) := if s0_1 < (s0_0.length : Int) then (if 0 ≤ s0_1 then (some (Go.bits .and .i64 (wrap64 ((Go.bits .and .i64 (Go.bits .xor .i64 ((wrap64 ((wrap64 (s0_2 * 6364136223846793005)) + 1442695040888963407)) / 8589934592) ((wrap64 ((wrap64 (s0_2 * 6364136223846793005)) + 1442695040888963407)) / 140737488355328)) 255) + (wrap64 (rd s0_0 s0_1)))) 255, wrap64 (s0_1 + 1), wrap64 ((wrap64 (s0_2 * 6364136223846793005)) + 1442695040888963407))) else (none)) else (some (Go.bits .and .i64 (Go.bits .xor .i64 ((wrap64 ((wrap64 (s0_2 * 6364136223846793005)) + 1442695040888963407)) / 8589934592) ((wrap64 ((wrap64 (s0_2 * 6364136223846793005)) + 1442695040888963407)) / 140737488355328)) 255, s0_1, wrap64 ((wrap64 (s0_2 * 6364136223846793005)) + 1442695040888963407)))
def spec_l1Below.f (s0_0 : List Int) (s0_1 : Int) (s0_2 : Int) (a1 : Int) : Option (Int × Int × Int) := if a1 ≤ 0 then (some (0, s0_1, s0_2)) else (if a1 ≤ 256 then ((spec_l1Byte.f s0_0 s0_1 s0_2).bind fun bt105 => (if a1 = 0 then (none) else (some (Int.tmod bt105.1 a1, bt105.2.1, bt105.2.2)))) else ((spec_l1Byte.f s0_0 s0_1 s0_2).bind fun bt108 => ((spec_l1Byte.f s0_0 bt108.2.1 bt108.2.2).bind fun bt111 => ((spec_l1Byte.f s0_0 bt111.2.1 bt111.2.2).bind fun bt114 => (if a1 = 0 then (none) else (some (Int.tmod (wrap64 ((wrap64 ((wrap64 (bt108.1 * 65536)) + (wrap64 (bt111.1 * 256)))) + bt114.1)) a1, bt114.2.1, bt114.2.2)))))))
def spec_l1Int.f (s0_0 : List Int) (s0_1 : Int) (s0_2 : Int) (l1 : List Int) : Option (Int × Int × Int) := (spec_l1Below.f s0_0 s0_1 s0_2 (l1.length : Int)).bind fun bt117 => (if 0 ≤ bt117.1 then (if bt117.1 < (l1.length : Int) then (some (rd l1 bt117.1, bt117.2.1, bt117.2.2)) else (none)) else (none))
def spec_l1In.f (a0 : Int) (a1 : Int) (a2 : Int) : Option (Bool) := if a0 ≥ a1 then (some (decide (a0 ≤ a2))) else (some false)
def spec_l1Name.l0 : Nat → ByteArray → Int → Option (Bool)
  | 0, _, _ => none
  | k + 1, x0, x3 => if x3 < (x0.size : Int) then (if 0 ≤ x3 then (if (bt x0 x3) < 97 then (some false) else (if (bt x0 x3) > 122 then (some false) else (spec_l1Name.l0 k x0 (wrap64 (x3 + 1))))) else (none)) else ((spec_l1In.f (x0.size : Int) 1 8).bind fun t121 => (some t121))
def spec_l1Name.f (k : Nat) (a0 : ByteArray) : Option (Bool) := spec_l1Name.l0 k a0 0
def spec_l3Db.f (k : Nat) (a0_0 : ByteArray) (a0_1 : Int) (a0_2 : Int) (a0_3 : Int) (a0_4 : Int) : Option (Bool) := (spec_l1Name.f k a0_0).bind fun t123 => (if t123 = true then ((spec_l1In.f a0_1 1 3).bind fun t124 => (if t124 = true then ((spec_l1In.f a0_2 0 4).bind fun t125 => (if t125 = true then ((spec_l1In.f a0_3 1 20).bind fun t126 => (if t126 = true then ((spec_l1In.f a0_4 1 20).bind fun t127 => (some t127)) else (some false))) else (some false))) else (some false))) else (some false))
mutual
def spec_ConfOk.l0 : Nat → List (S138) → Int → Option (Bool)
  | 0, _, _ => none
  | k + 1, x0, x3 => if x3 < (x0.length : Int) then (if 0 ≤ x3 then ((spec_l3Db.f k ((rd_T138 x0 x3).f0) ((rd_T138 x0 x3).f1) ((rd_T138 x0 x3).f2) ((rd_T138 x0 x3).f3) ((rd_T138 x0 x3).f4)).bind fun t130 => (if t130 = true then (spec_ConfOk.l1 k x0 x3 0) else (some false))) else (none)) else ((spec_l1In.f (x0.length : Int) 1 3).bind fun t128 => (some t128))
def spec_ConfOk.l1 : Nat → List (S138) → Int → Int → Option (Bool)
  | 0, _, _, _ => none
  | k + 1, x0, x3, x4 => if x4 < x3 then (if 0 ≤ x4 then (if x4 < (x0.length : Int) then (if 0 ≤ x3 then (if x3 < (x0.length : Int) then (if ((rd_T138 x0 x4).f0).toList = ((rd_T138 x0 x3).f0).toList then (some false) else (spec_ConfOk.l1 k x0 x3 (wrap64 (x4 + 1)))) else (none)) else (none)) else (none)) else (none)) else (spec_ConfOk.l0 k x0 (wrap64 (x3 + 1)))
end
def spec_ConfOk.f (k : Nat) (l0 : List (S138)) : Option (Bool) := spec_ConfOk.l0 k l0 0
def spec_NumText.l0 : Nat → Int → ByteArray → Int → Option (ByteArray)
  | 0, _, _, _ => none
  | k + 1, x0, x3, x4 => if x4 = 0 then (if x0 < 0 then (if 1 + x3.size ≤ 9223372036854775807 then (some ((⟨#[45]⟩ : ByteArray) ++ x3)) else (none)) else (some x3)) else (if (Int.tmod x4 10) < 0 then ((some (([(wrap64 (48 + (wrap64 (-(Int.tmod x4 10))))) % 256] : List Int) : List Int)).bind fun y133 => (if (strOfNums y133).size + x3.size ≤ 9223372036854775807 then (spec_NumText.l0 k x0 ((strOfNums y133) ++ x3) (wrap64 (Int.tdiv x4 10))) else (none))) else ((some (([(wrap64 (48 + (Int.tmod x4 10))) % 256] : List Int) : List Int)).bind fun y136 => (if (strOfNums y136).size + x3.size ≤ 9223372036854775807 then (spec_NumText.l0 k x0 ((strOfNums y136) ++ x3) (wrap64 (Int.tdiv x4 10))) else (none))))
def spec_NumText.f (k : Nat) (a0 : Int) : Option (ByteArray) := if a0 = 0 then (some (⟨#[48]⟩ : ByteArray)) else (spec_NumText.l0 k a0 (⟨#[]⟩ : ByteArray) a0)
mutual
def spec_ConfText.l0 : Nat → List (S138) → ByteArray → Int → Option (ByteArray)
  | 0, _, _, _ => none
  | k + 1, x0, x3, x4 => if x4 < (x0.length : Int) then ((spec_ConfOk.f k x0).bind fun t139 => (spec_ConfText.j1 k x0 x3 x4 t139)) else (spec_ConfText.j1 k x0 x3 x4 false)
def spec_ConfText.j1 : Nat → List (S138) → ByteArray → Int → Bool → Option (ByteArray)
  | 0, _, _, _, _ => none
  | k + 1, x0, x3, x4, x12 => if x12 = true then (if x4 > 0 then (if x3.size + 1 ≤ 9223372036854775807 then (spec_ConfText.j2 k x0 (x3 ++ (⟨#[59]⟩ : ByteArray)) x4) else (none)) else (spec_ConfText.j2 k x0 x3 x4)) else (some x3)
def spec_ConfText.j2 : Nat → List (S138) → ByteArray → Int → Option (ByteArray)
  | 0, _, _, _ => none
  | k + 1, x0, x3, x4 => if 0 ≤ x4 then (if x4 < (x0.length : Int) then (if x3.size + ((rd_T138 x0 x4).f0).size ≤ 9223372036854775807 then (if (x3 ++ ((rd_T138 x0 x4).f0)).size + 1 ≤ 9223372036854775807 then ((spec_NumText.f k ((rd_T138 x0 x4).f1)).bind fun t142 => (if ((x3 ++ ((rd_T138 x0 x4).f0)) ++ (⟨#[58]⟩ : ByteArray)).size + t142.size ≤ 9223372036854775807 then (if (((x3 ++ ((rd_T138 x0 x4).f0)) ++ (⟨#[58]⟩ : ByteArray)) ++ t142).size + 1 ≤ 9223372036854775807 then ((spec_NumText.f k ((rd_T138 x0 x4).f2)).bind fun t144 => (if ((((x3 ++ ((rd_T138 x0 x4).f0)) ++ (⟨#[58]⟩ : ByteArray)) ++ t142) ++ (⟨#[47]⟩ : ByteArray)).size + t144.size ≤ 9223372036854775807 then (if (((((x3 ++ ((rd_T138 x0 x4).f0)) ++ (⟨#[58]⟩ : ByteArray)) ++ t142) ++ (⟨#[47]⟩ : ByteArray)) ++ t144).size + 1 ≤ 9223372036854775807 then ((spec_NumText.f k ((rd_T138 x0 x4).f3)).bind fun t146 => (if ((((((x3 ++ ((rd_T138 x0 x4).f0)) ++ (⟨#[58]⟩ : ByteArray)) ++ t142) ++ (⟨#[47]⟩ : ByteArray)) ++ t144) ++ (⟨#[47]⟩ : ByteArray)).size + t146.size ≤ 9223372036854775807 then (if (((((((x3 ++ ((rd_T138 x0 x4).f0)) ++ (⟨#[58]⟩ : ByteArray)) ++ t142) ++ (⟨#[47]⟩ : ByteArray)) ++ t144) ++ (⟨#[47]⟩ : ByteArray)) ++ t146).size + 1 ≤ 9223372036854775807 then ((spec_NumText.f k ((rd_T138 x0 x4).f4)).bind fun t148 => (if ((((((((x3 ++ ((rd_T138 x0 x4).f0)) ++ (⟨#[58]⟩ : ByteArray)) ++ t142) ++ (⟨#[47]⟩ : ByteArray)) ++ t144) ++ (⟨#[47]⟩ : ByteArray)) ++ t146) ++ (⟨#[47]⟩ : ByteArray)).size + t148.size ≤ 9223372036854775807 then (spec_ConfText.l0 k x0 (((((((((x3 ++ ((rd_T138 x0 x4).f0)) ++ (⟨#[58]⟩ : ByteArray)) ++ t142) ++ (⟨#[47]⟩ : ByteArray)) ++ t144) ++ (⟨#[47]⟩ : ByteArray)) ++ t146) ++ (⟨#[47]⟩ : ByteArray)) ++ t148) (wrap64 (x4 + 1))) else (none))) else (none)) else (none))) else (none)) else (none))) else (none)) else (none))) else (none)) else (none)) else (none)) else (none)
end
def spec_ConfText.f (k : Nat) (l0 : List (S138)) : Option (ByteArray) := spec_ConfText.l0 k l0 (⟨#[]⟩ : ByteArray) 0
def spec_l1Str.f (s0_0 : List Int) (s0_1 : Int) (s0_2 : Int) (l1 : List ByteArray) : Option (ByteArray × Int × Int) := (spec_l1Below.f s0_0 s0_1 s0_2 (l1.length : Int)).bind fun bt149 => (if 0 ≤ bt149.1 then (if bt149.1 < (l1.length : Int) then (some (rdOf ByteArray.empty l1 bt149.1, bt149.2.1, bt149.2.2)) else (none)) else (none))
def spec_l3One.f (s0_0 : List Int) (s0_1 : Int) (s0_2 : Int) : Option (ByteArray × Int × Int × Int × Int × Int × Int) := (spec_l1Str.f s0_0 s0_1 s0_2 (([(⟨#[109, 97, 105, 110]⟩ : ByteArray), (⟨#[109, 97, 105, 110]⟩ : ByteArray), (⟨#[108, 111, 103, 115]⟩ : ByteArray), (⟨#[120]⟩ : ByteArray)] : List ByteArray))).bind fun bt157 => ((spec_l1Below.f s0_0 bt157.2.1 bt157.2.2 3).bind fun bt160 => ((spec_l1Below.f s0_0 bt160.2.1 bt160.2.2 5).bind fun bt163 => ((spec_l1Int.f s0_0 bt163.2.1 bt163.2.2 (([1, 2, 5, 20] : List Int))).bind fun bt169 => ((spec_l1Int.f s0_0 bt169.2.1 bt169.2.2 (([1, 3, 20] : List Int))).bind fun bt175 => (some (bt157.1, wrap64 (1 + bt160.1), bt163.1, bt169.1, bt175.1, bt175.2.1, bt175.2.2))))))
def spec_DbAt.l0 : Nat → List (S138) → ByteArray → Int → Option (ByteArray × Int × Int × Int × Int × Bool)
  | 0, _, _, _ => none
  | k + 1, x0, x1, x6 => if x6 < (x0.length : Int) then (if 0 ≤ x6 then (if ((rd_T138 x0 x6).f0).toList = x1.toList then (some ((rd_T138 x0 x6).f0, (rd_T138 x0 x6).f1, (rd_T138 x0 x6).f2, (rd_T138 x0 x6).f3, (rd_T138 x0 x6).f4, true)) else (spec_DbAt.l0 k x0 x1 (wrap64 (x6 + 1)))) else (none)) else (some ((⟨#[]⟩ : ByteArray), 0, 0, 0, 0, false))
def spec_DbAt.f (k : Nat) (l0 : List (S138)) (a1 : ByteArray) : Option (ByteArray × Int × Int × Int × Int × Bool) := spec_DbAt.l0 k l0 a1 0
def spec_l3Draw.l0 : Nat → List (S138) → Int → List Int → Int → Int → Option ((List (S138)) × Int × Int)
  | 0, _, _, _, _, _ => none
  | k + 1, x3, x4, x1000, x1001, x1002 => if x4 > 0 then ((spec_l3One.f x1000 x1001 x1002).bind fun bt187 => ((spec_DbAt.f k x3 bt187.1).bind fun bt195 => (if bt195.2.2.2.2.2 = true then (spec_l3Draw.l0 k x3 (wrap64 (x4 - 1)) x1000 bt187.2.2.2.2.2.1 bt187.2.2.2.2.2.2) else (if x3.length < 2932031007402 then (spec_l3Draw.l0 k (x3 ++ [(⟨bt187.1, bt187.2.1, bt187.2.2.1, bt187.2.2.2.1, bt187.2.2.2.2.1⟩ : S138)]) (wrap64 (x4 - 1)) x1000 bt187.2.2.2.2.2.1 bt187.2.2.2.2.2.2) else (none))))) else (some (x3, x1001, x1002))
def spec_l3Draw.f (k : Nat) (s0_0 : List Int) (s0_1 : Int) (s0_2 : Int) : Option ((List (S138)) × Int × Int) := (spec_l1Below.f s0_0 s0_1 s0_2 3).bind fun bt184 => (spec_l3Draw.l0 k (([] : List (S138))) (wrap64 (1 + bt184.1)) s0_0 bt184.2.1 bt184.2.2)
def spec_l4Draw.f (k : Nat) (s0_0 : List Int) (s0_1 : Int) (s0_2 : Int) : Option (Int × Int × Int × ByteArray × Int × Int) := (spec_l1Below.f s0_0 s0_1 s0_2 3).bind fun bt206 => ((spec_l1Below.f s0_0 bt206.2.1 bt206.2.2 6).bind fun bt209 => (if (wrap64 (1 + bt206.1)) = 1 then ((spec_l3Draw.f k s0_0 bt209.2.1 bt209.2.2).bind fun bt213 => ((spec_ConfText.f k bt213.1).bind fun t218 => (if (wrap64 (1 + bt206.1)) = 3 then ((spec_l1Below.f s0_0 bt213.2.1 bt213.2.2 2).bind fun bt219 => (some (wrap64 (1 + bt206.1), wrap64 (1 + bt209.1), bt219.1, t218, bt219.2.1, bt219.2.2))) else (some (wrap64 (1 + bt206.1), wrap64 (1 + bt209.1), 0, t218, bt213.2.1, bt213.2.2))))) else (if (wrap64 (1 + bt206.1)) = 3 then ((spec_l1Below.f s0_0 bt209.2.1 bt209.2.2 2).bind fun bt222 => (some (wrap64 (1 + bt206.1), wrap64 (1 + bt209.1), bt222.1, (⟨#[]⟩ : ByteArray), bt222.2.1, bt222.2.2))) else (some (wrap64 (1 + bt206.1), wrap64 (1 + bt209.1), 0, (⟨#[]⟩ : ByteArray), bt209.2.1, bt209.2.2)))))
def spec_l1Once.f (s0_0 : List Int) (s0_1 : Int) (s0_2 : Int) (a1 : Int) : Option (Bool × Int × Int) := (spec_l1Below.f s0_0 s0_1 s0_2 a1).bind fun bt225 => (some ((bt225.1 == 0), bt225.2.1, bt225.2.2))
def spec_l3Text.f (k : Nat) (s0_0 : List Int) (s0_1 : Int) (s0_2 : Int) : Option (ByteArray × Int × Int) := (spec_l1Once.f s0_0 s0_1 s0_2 3).bind fun bt228 => (if bt228.1 = true then ((spec_l1Str.f s0_0 bt228.2.1 bt228.2.2 (([(⟨#[]⟩ : ByteArray), (⟨#[109, 97, 105, 110]⟩ : ByteArray), (⟨#[109, 97, 105, 110, 58, 49]⟩ : ByteArray), (⟨#[109, 97, 105, 110, 58, 49, 47, 50, 47, 51]⟩ : ByteArray), (⟨#[109, 97, 105, 110, 58, 48, 49, 47, 50, 47, 51, 47, 52]⟩ : ByteArray), (⟨#[109, 97, 105, 110, 58, 49, 47, 50, 47, 51, 47, 52, 59]⟩ : ByteArray), (⟨#[59, 109, 97, 105, 110, 58, 49, 47, 50, 47, 51, 47, 52]⟩ : ByteArray), (⟨#[109, 97, 105, 110, 58, 49, 47, 50, 47, 51, 47, 52, 59, 109, 97, 105, 110, 58, 49, 47, 49, 47, 49, 47, 49]⟩ : ByteArray), (⟨#[109, 97, 105, 110, 58, 49, 47, 50, 47, 51, 47, 52, 47, 53]⟩ : ByteArray), (⟨#[109, 97, 105, 110, 58, 52, 47, 50, 47, 51, 47, 52]⟩ : ByteArray), (⟨#[109, 97, 105, 110, 58, 49, 47, 53, 47, 51, 47, 52]⟩ : ByteArray), (⟨#[109, 97, 105, 110, 58, 49, 47, 50, 47, 48, 47, 52]⟩ : ByteArray), (⟨#[109, 97, 105, 110, 58, 49, 47, 50, 47, 51, 47, 49, 48, 48]⟩ : ByteArray), (⟨#[77, 97, 105, 110, 58, 49, 47, 50, 47, 51, 47, 52]⟩ : ByteArray), (⟨#[109, 97, 105, 110, 58, 49, 47, 50, 47, 51, 47, 52, 32]⟩ : ByteArray), (⟨#[58, 49, 47, 50, 47, 51, 47, 52]⟩ : ByteArray), (⟨#[97, 58, 49, 47, 48, 47, 49, 47, 49, 59, 98, 58, 49, 47, 48, 47, 49, 47, 49, 59, 99, 58, 49, 47, 48, 47, 49, 47, 49, 59, 100, 58, 49, 47, 48, 47, 49, 47, 49]⟩ : ByteArray), (⟨#[97, 58, 98, 58, 49, 47, 50, 47, 51, 47, 52]⟩ : ByteArray)] : List ByteArray))).bind fun bt234 => (some (bt234.1, bt234.2.1, bt234.2.2))) else ((spec_l3Draw.f k s0_0 bt228.2.1 bt228.2.2).bind fun bt237 => ((spec_ConfText.f k bt237.1).bind fun t242 => (some (t242, bt237.2.1, bt237.2.2)))))
def spec_l4Any.f (k : Nat) (s0_0 : List Int) (s0_1 : Int) (s0_2 : Int) : Option (Int × Int × Int × ByteArray × Int × Int) := (spec_l4Draw.f k s0_0 s0_1 s0_2).bind fun bt244 => ((spec_l1Below.f s0_0 bt244.2.2.2.2.1 bt244.2.2.2.2.2 12).bind fun bt251 => (if bt251.1 = 0 then ((spec_l1Int.f s0_0 bt251.2.1 bt251.2.2 (([0, 1, 2, 4] : List Int))).bind fun bt257 => (some (bt257.1, bt244.2.1, bt244.2.2.1, bt244.2.2.2.1, bt257.2.1, bt257.2.2))) else (if bt251.1 = 1 then ((spec_l1Int.f s0_0 bt251.2.1 bt251.2.2 (([0, 60000, 60001, (-1)] : List Int))).bind fun bt263 => (some (bt244.1, bt263.1, bt244.2.2.1, bt244.2.2.2.1, bt263.2.1, bt263.2.2))) else (if bt251.1 = 2 then ((spec_l1Int.f s0_0 bt251.2.1 bt251.2.2 (([(-1), 1, 2] : List Int))).bind fun bt269 => (some (bt244.1, bt244.2.1, bt269.1, bt244.2.2.2.1, bt269.2.1, bt269.2.2))) else (if bt251.1 = 3 then ((spec_l3Text.f k s0_0 bt251.2.1 bt251.2.2).bind fun bt272 => (some (bt244.1, bt244.2.1, bt244.2.2.1, bt272.1, bt272.2.1, bt272.2.2))) else (some (bt244.1, bt244.2.1, bt244.2.2.1, bt244.2.2.2.1, bt251.2.1, bt251.2.2)))))))
def spec_DrawPutRec.f (k : Nat) (l0 : List Int) : Option (Int × Int × Int × Int × Int × ByteArray) := (spec_l1New.f k l0).bind fun bt276 => ((spec_l4Any.f k bt276.1 bt276.2.1 bt276.2.2).bind fun bt280 => ((spec_l1Int.f bt276.1 bt280.2.2.2.2.1 bt280.2.2.2.2.2 (([0, 1, 300, 65535, 65536, (-1)] : List Int))).bind fun bt290 => ((spec_l1Int.f bt276.1 bt290.2.1 bt290.2.2 (([0, 1, 15, 65535, 65536, (-1)] : List Int))).bind fun bt296 => (some (bt290.1, bt296.1, bt280.1, bt280.2.1, bt280.2.2.1, bt280.2.2.2.1)))))
def impl_isIn.f (a0 : Int) (a1 : Int) (a2 : Int) : Option (Bool) := if a1 ≤ a0 then (some (decide (a0 ≤ a2))) else (some false)
def strings_Split.f (a0 : ByteArray) (a1 : ByteArray) : Option (List ByteArray) := if a0.size < 4294967281 ∧ 1 ≤ a1.size then some (Lib.splitB a1 0 (Lib.countB a0 a1) a0) else none
def strings_Cut.f (a0 : ByteArray) (a1 : ByteArray) : Option (ByteArray × ByteArray × Bool) := if a0.size < 4294967281 then some (⟨(Lib.cut a0.data.toList a1.data.toList).1.toArray⟩, ⟨(Lib.cut a0.data.toList a1.data.toList).2.1.toArray⟩, (Lib.cut a0.data.toList a1.data.toList).2.2) else none
def strings_SplitN.f (a0 : ByteArray) (a1 : ByteArray) (a2 : Int) : Option (List ByteArray) := if a0.size < 4294967281 ∧ 1 ≤ a1.size ∧ 1 ≤ a2 ∧ a2 ≤ 9223372036854775807 then some (Lib.splitB a1 0 (min a2.toNat (a0.size + 1) - 1) a0) else none
mutual
def impl_ParseNum.j0 : Nat → ByteArray → Int → Bool → Option (Int × Bool)
  | 0, _, _, _ => none
  | k + 1, x0, x1, x25 => if x25 = true then (some (0, false)) else (impl_ParseNum.l0 k x0 x1 0 (x0.size : Int) 0)
def impl_ParseNum.l0 : Nat → ByteArray → Int → Int → Int → Int → Option (Int × Bool)
  | 0, _, _, _, _, _ => none
  | k + 1, x0, x1, x6, x27, x28 => if x28 < x27 then (if 0 ≤ x28 then (if x28 < (x0.size : Int) then (if (bt x0 x28) < 48 then (some (0, false)) else (if (bt x0 x28) > 57 then (some (0, false)) else (impl_ParseNum.l0 k x0 x1 (wrap64 ((wrap64 (10 * x6)) + (((bt x0 x28) - 48) % 256))) x27 (wrap64 (x28 + 1))))) else (none)) else (none)) else (if x6 > x1 then (some (0, false)) else (some (x6, true)))
end
def impl_ParseNum.f (k : Nat) (a0 : ByteArray) (a1 : Int) : Option (Int × Bool) := if a1 > 65535 then (impl_ParseNum.j0 k a0 a1 true) else ((impl_isIn.f (a0.size : Int) 1 5).bind fun t299 => (if t299 = true then (if (a0.size : Int) > 1 then (if 0 < (a0.size : Int) then (impl_ParseNum.j0 k a0 a1 ((bt a0 0) == 48)) else (none)) else (impl_ParseNum.j0 k a0 a1 false)) else (impl_ParseNum.j0 k a0 a1 true)))
def impl_nameOk.l0 : Nat → ByteArray → Int → Int → Option (Bool)
  | 0, _, _, _ => none
  | k + 1, x0, x5, x6 => if x6 < x5 then (if 0 ≤ x6 then (if x6 < (x0.size : Int) then (if (bt x0 x6) < 97 then (some false) else (if (bt x0 x6) > 122 then (some false) else (impl_nameOk.l0 k x0 x5 (wrap64 (x6 + 1))))) else (none)) else (none)) else ((impl_isIn.f (x0.size : Int) 1 8).bind fun t300 => (some t300))
def impl_nameOk.f (k : Nat) (a0 : ByteArray) : Option (Bool) := impl_nameOk.l0 k a0 (a0.size : Int) 0
def impl_dbPlace.l0 (l : List S138) (name : ByteArray) : Int → Int
  | i => match l with
    | [] => -1
    | x :: xs => if x.f0.toList = name.toList then i else impl_dbPlace.l0 xs name (i + 1)
def impl_dbPlace.f (l0 : List S138) (a1 : ByteArray) : Option (Int) := some (impl_dbPlace.l0 l0 a1 0)
def impl_ConfOk.l0 : Nat → List (S138) → List (S138) → Int → Int → Option (Bool)
  | 0, _, _, _, _ => none
  | k + 1, x0, x5, x6, x7 => if x7 < x6 then (if 0 ≤ x7 then (if x7 < (x5.length : Int) then ((impl_nameOk.f k ((rd_T138 x5 x7).f0)).bind fun t304 => (if t304 = true then ((impl_dbPlace.f x0 ((rd_T138 x5 x7).f0)).bind fun t305 => (if t305 = x7 then ((impl_isIn.f ((rd_T138 x5 x7).f1) 1 3).bind fun t306 => (if t306 = true then ((impl_isIn.f ((rd_T138 x5 x7).f2) 0 4).bind fun t307 => (if t307 = true then ((impl_isIn.f ((rd_T138 x5 x7).f3) 1 20).bind fun t308 => (if t308 = true then ((impl_isIn.f ((rd_T138 x5 x7).f4) 1 20).bind fun t309 => (if t309 = true then (impl_ConfOk.l0 k x0 x5 x6 (wrap64 (x7 + 1))) else (some false))) else (some false))) else (some false))) else (some false))) else (some false))) else (some false))) else (none)) else (none)) else ((impl_isIn.f (x0.length : Int) 1 3).bind fun t301 => (some t301))
def impl_ConfOk.f (k : Nat) (l0 : List (S138)) : Option (Bool) := impl_ConfOk.l0 k l0 l0 (l0.length : Int) 0
def strconv_Itoa_152.f (a0 : Int) : Option (ByteArray) := if -9223372036854775808 ≤ a0 ∧ a0 ≤ 9223372036854775807 then some ⟨(Lib.itoa a0).toArray⟩ else none
def impl_NumText.f (a0 : Int) : Option (ByteArray) := (strconv_Itoa_152.f a0).bind fun t310 => (some t310)
def strings_Join.f (l0 : List ByteArray) (a1 : ByteArray) : Option (ByteArray) := if l0.length ≤ 140737488355328 ∧ (Lib.join (l0.map (·.data.toList)) a1.data.toList).length ≤ 140737488355328 then some ⟨(Lib.join (l0.map (·.data.toList)) a1.data.toList).toArray⟩ else none
def impl_ConfText.l0 : Nat → List ByteArray → List (S138) → Int → Int → Option (ByteArray)
  | 0, _, _, _, _ => none
  | k + 1, x3, x10, x11, x12 => if x12 < x11 then (if 0 ≤ x12 then (if x12 < (x10.length : Int) then (if ((rd_T138 x10 x12).f0).size + 1 ≤ 9223372036854775807 then ((impl_NumText.f ((rd_T138 x10 x12).f1)).bind fun t318 => (if (((rd_T138 x10 x12).f0) ++ (⟨#[58]⟩ : ByteArray)).size + t318.size ≤ 9223372036854775807 then (if ((((rd_T138 x10 x12).f0) ++ (⟨#[58]⟩ : ByteArray)) ++ t318).size + 1 ≤ 9223372036854775807 then ((impl_NumText.f ((rd_T138 x10 x12).f2)).bind fun t319 => (if (((((rd_T138 x10 x12).f0) ++ (⟨#[58]⟩ : ByteArray)) ++ t318) ++ (⟨#[47]⟩ : ByteArray)).size + t319.size ≤ 9223372036854775807 then (if ((((((rd_T138 x10 x12).f0) ++ (⟨#[58]⟩ : ByteArray)) ++ t318) ++ (⟨#[47]⟩ : ByteArray)) ++ t319).size + 1 ≤ 9223372036854775807 then ((impl_NumText.f ((rd_T138 x10 x12).f3)).bind fun t320 => (if (((((((rd_T138 x10 x12).f0) ++ (⟨#[58]⟩ : ByteArray)) ++ t318) ++ (⟨#[47]⟩ : ByteArray)) ++ t319) ++ (⟨#[47]⟩ : ByteArray)).size + t320.size ≤ 9223372036854775807 then (if ((((((((rd_T138 x10 x12).f0) ++ (⟨#[58]⟩ : ByteArray)) ++ t318) ++ (⟨#[47]⟩ : ByteArray)) ++ t319) ++ (⟨#[47]⟩ : ByteArray)) ++ t320).size + 1 ≤ 9223372036854775807 then ((impl_NumText.f ((rd_T138 x10 x12).f4)).bind fun t321 => (if (((((((((rd_T138 x10 x12).f0) ++ (⟨#[58]⟩ : ByteArray)) ++ t318) ++ (⟨#[47]⟩ : ByteArray)) ++ t319) ++ (⟨#[47]⟩ : ByteArray)) ++ t320) ++ (⟨#[47]⟩ : ByteArray)).size + t321.size ≤ 9223372036854775807 then (if x3.length < 8796093022208 then (impl_ConfText.l0 k (x3 ++ [(((((((((rd_T138 x10 x12).f0) ++ (⟨#[58]⟩ : ByteArray)) ++ t318) ++ (⟨#[47]⟩ : ByteArray)) ++ t319) ++ (⟨#[47]⟩ : ByteArray)) ++ t320) ++ (⟨#[47]⟩ : ByteArray)) ++ t321]) x10 x11 (wrap64 (x12 + 1))) else (none)) else (none))) else (none)) else (none))) else (none)) else (none))) else (none)) else (none))) else (none)) else (none)) else (none)) else ((strings_Join.f x3 (⟨#[59]⟩ : ByteArray)).bind fun t315 => (some t315))
def impl_ConfText.f (k : Nat) (l0 : List (S138)) : Option (ByteArray) := (impl_ConfOk.f k l0).bind fun t311 => (if t311 = true then (impl_ConfText.l0 k (([] : List ByteArray)) l0 (l0.length : Int) 0) else (some (⟨#[]⟩ : ByteArray)))
mutual
def impl_ParseConf.l0 : Nat → ByteArray → List (S138) → List ByteArray → Int → Int → Option ((List (S138)) × Bool)
  | 0, _, _, _, _, _ => none
  | k + 1, x0, x4, x15, x16, x17 => if x17 < x16 then (if 0 ≤ x17 then (if x17 < (x15.length : Int) then ((strings_Cut.f (rdOf ByteArray.empty x15 x17) (⟨#[58]⟩ : ByteArray)).bind fun bt339 => ((strings_SplitN.f bt339.2.1 (⟨#[47]⟩ : ByteArray) 4).bind fun t343 => (impl_ParseConf.l1 k x0 x4 bt339.1 x15 x16 x17 t343 (t343.length : Int) 0 0 0 0 0))) else (none)) else (none)) else (if x0.toList = ([] : List UInt8) then (some ((([] : List (S138))), false)) else ((impl_ConfText.f k x4).bind fun t334 => (if t334.toList = x0.toList then (some (x4, true)) else (some ((([] : List (S138))), false)))))
def impl_ParseConf.l1 : Nat → ByteArray → List (S138) → ByteArray → List ByteArray → Int → Int → List ByteArray → Int → Int → Int → Int → Int → Int → Option ((List (S138)) × Bool)
  | 0, _, _, _, _, _, _, _, _, _, _, _, _, _ => none
  | k + 1, x0, x4, x7, x15, x16, x17, x29, x30, x31, x343000, x343001, x343002, x343003 => if x31 < x30 then (if 0 ≤ x31 then (if x31 < (x29.length : Int) then ((impl_ParseNum.f k (rdOf ByteArray.empty x29 x31) 20).bind fun bt347 => (if x31 < 4 then (if x31 = 0 then (impl_ParseConf.l1 k x0 x4 x7 x15 x16 x17 x29 x30 (wrap64 (x31 + 1)) bt347.1 x343001 x343002 x343003) else (if x31 = 1 then (impl_ParseConf.l1 k x0 x4 x7 x15 x16 x17 x29 x30 (wrap64 (x31 + 1)) x343000 bt347.1 x343002 x343003) else (if x31 = 2 then (impl_ParseConf.l1 k x0 x4 x7 x15 x16 x17 x29 x30 (wrap64 (x31 + 1)) x343000 x343001 bt347.1 x343003) else (if x31 = 3 then (impl_ParseConf.l1 k x0 x4 x7 x15 x16 x17 x29 x30 (wrap64 (x31 + 1)) x343000 x343001 x343002 bt347.1) else (none))))) else (none))) else (none)) else (none)) else (if x4.length < 2932031007402 then (impl_ParseConf.l0 k x0 (x4 ++ [(⟨x7, x343000, x343001, x343002, x343003⟩ : S138)]) x15 x16 (wrap64 (x17 + 1))) else (none))
end
def impl_ParseConf.f (k : Nat) (a0 : ByteArray) : Option ((List (S138)) × Bool) := (strings_Split.f a0 (⟨#[59]⟩ : ByteArray)).bind fun t328 => (impl_ParseConf.l0 k a0 (([] : List (S138))) t328 (t328.length : Int) 0)
def impl_confOk.f (k : Nat) (a0 : ByteArray) : Option (Bool) := (impl_ParseConf.f k a0).bind fun bt352 => (some bt352.2)
def impl_RecOk.f (k : Nat) (a0_0 : Int) (a0_1 : Int) (a0_2 : Int) (a0_3 : ByteArray) : Option (Bool) := (impl_isIn.f a0_1 1 60000).bind fun t357 => (if t357 = true then (if a0_0 = 1 then (if a0_2 = 0 then ((impl_confOk.f k a0_3).bind fun t358 => (some t358)) else (some false)) else (if a0_0 = 2 then (if a0_2 = 0 then (some (a0_3.toList == ([] : List UInt8))) else (some false)) else (if a0_0 = 3 then ((impl_isIn.f a0_2 0 1).bind fun t359 => (if t359 = true then (some (a0_3.toList == ([] : List UInt8))) else (some false))) else (some false)))) else (some false))
def impl_wordOk.f (a0 : Int) : Option (Bool) := (impl_isIn.f a0 0 65535).bind fun t360 => (some t360)
def slices_Clone_byte_byte.f (l0 : List Int) : Option (List Int) := (some (([] : List Int) : List Int)).bind fun y361 => (if y361.length + l0.length < 140737488355328 then (some (y361 ++ l0)) else (none))
def impl_PutWord.f (l0 : List Int) (a1 : Int) : Option (List Int) := (slices_Clone_byte_byte.f l0).bind fun t367 => ((some (([(a1 / 256) % 256, (a1) % 256] : List Int) : List Int)).bind fun y370 => (if t367.length + y370.length < 140737488355328 then (some (t367 ++ y370)) else (none)))
def impl_TextOk.l0 : Nat → ByteArray → Int → Int → Option (Bool)
  | 0, _, _, _ => none
  | k + 1, x0, x5, x6 => if x6 < x5 then (if 0 ≤ x6 then (if x6 < (x0.size : Int) then (if (bt x0 x6) < 32 then (some false) else (if (bt x0 x6) > 126 then (some false) else (impl_TextOk.l0 k x0 x5 (wrap64 (x6 + 1))))) else (none)) else (none)) else (some (decide ((x0.size : Int) ≤ 100)))
def impl_TextOk.f (k : Nat) (a0 : ByteArray) : Option (Bool) := impl_TextOk.l0 k a0 (a0.size : Int) 0
def impl_PutText.f (k : Nat) (l0 : List Int) (a1 : ByteArray) : Option (List Int) := (slices_Clone_byte_byte.f l0).bind fun t376 => ((impl_TextOk.f k a1).bind fun t379 => (if t379 = true then (if t376.length < 140737488355328 then ((some (t376 ++ [((a1.size : Int)) % 256] : List Int)).bind fun y380 => (if y380.length + a1.size < 140737488355328 then (some (y380 ++ bytesOf a1)) else (none))) else (none)) else (some t376)))
mutual
def impl_Sum.l0 : Nat → Int → List Int → Int → Int → Option (Int)
  | 0, _, _, _, _ => none
  | k + 1, x3, x6, x7, x8 => if x8 < x7 then (if 0 ≤ x8 then (if x8 < (x6.length : Int) then (impl_Sum.l1 k (Go.bits .xor .i64 x3 (wrap64 (256 * (wrap64 (rd x6 x8))))) x6 x7 x8 0) else (none)) else (none)) else (some (Go.bits .and .i64 x3 65535))
def impl_Sum.l1 : Nat → Int → List Int → Int → Int → Int → Option (Int)
  | 0, _, _, _, _, _ => none
  | k + 1, x3, x6, x7, x8, x17 => if x17 < 8 then (if (wrap64 (x3 * 2)) > 65535 then (impl_Sum.l1 k (Go.bits .xor .i64 (wrap64 (x3 * 2)) 69665) x6 x7 x8 (wrap64 (x17 + 1))) else (impl_Sum.l1 k (wrap64 (x3 * 2)) x6 x7 x8 (wrap64 (x17 + 1)))) else (impl_Sum.l0 k x3 x6 x7 (wrap64 (x8 + 1)))
end
def impl_Sum.f (k : Nat) (l0 : List Int) : Option (Int) := impl_Sum.l0 k 65535 l0 (l0.length : Int) 0
def impl_PutRec.j0 : Nat → Int → Int → Bool → Int → Int → Int → ByteArray → Option (List Int)
  | 0, _, _, _, _, _, _, _ => none
  | k + 1, x0, x1, x20, x388000, x388001, x388002, x388003 => if x20 = true then (some (([] : List Int))) else ((impl_PutWord.f ([] : List Int) x0).bind fun t394 => ((impl_PutWord.f t394 x1).bind fun t397 => ((some (([(x388000) % 256] : List Int) : List Int)).bind fun y400 => (if t397.length + y400.length < 140737488355328 then ((impl_PutWord.f (t397 ++ y400) x388001).bind fun t406 => ((some (([(x388002) % 256] : List Int) : List Int)).bind fun y409 => (if t406.length + y409.length < 140737488355328 then ((impl_PutText.f k (t406 ++ y409) x388003).bind fun t415 => ((impl_Sum.f k t415).bind fun t418 => ((impl_PutWord.f t415 t418).bind fun t419 => (some t419)))) else (none)))) else (none)))))
def impl_PutRec.f (k : Nat) (a0 : Int) (a1 : Int) (a2_0 : Int) (a2_1 : Int) (a2_2 : Int) (a2_3 : ByteArray) : Option (List Int) := (impl_RecOk.f k a2_0 a2_1 a2_2 a2_3).bind fun t388 => (if t388 = true then ((impl_wordOk.f a0).bind fun t389 => (if t389 = true then ((impl_wordOk.f a1).bind fun t390 => (impl_PutRec.j0 k a0 a1 (!t390) a2_0 a2_1 a2_2 a2_3)) else (impl_PutRec.j0 k a0 a1 true a2_0 a2_1 a2_2 a2_3))) else (impl_PutRec.j0 k a0 a1 true a2_0 a2_1 a2_2 a2_3))
def spec_l3Split.l0 : Nat → ByteArray → Int → List ByteArray → Int → Int → Option (List ByteArray)
  | 0, _, _, _, _, _ => none
  | k + 1, x0, x1, x5, x6, x7 => if x7 ≤ (x0.size : Int) then (if x7 = (x0.size : Int) then (if 0 ≤ x6 then (if x6 ≤ x7 then (if x5.length < 8796093022208 then (spec_l3Split.l0 k x0 x1 (x5 ++ [x0.extract (x6 : Int).toNat (x7 : Int).toNat]) (wrap64 (x7 + 1)) (wrap64 (x7 + 1))) else (none)) else (none)) else (none)) else (if 0 ≤ x7 then (if x7 < (x0.size : Int) then (if (bt x0 x7) = x1 then (if 0 ≤ x6 then (if x6 ≤ x7 then (if x5.length < 8796093022208 then (spec_l3Split.l0 k x0 x1 (x5 ++ [x0.extract (x6 : Int).toNat (x7 : Int).toNat]) (wrap64 (x7 + 1)) (wrap64 (x7 + 1))) else (none)) else (none)) else (none)) else (spec_l3Split.l0 k x0 x1 x5 x6 (wrap64 (x7 + 1)))) else (none)) else (none))) else (some x5)
def spec_l3Split.f (k : Nat) (a0 : ByteArray) (a1 : Int) : Option (List ByteArray) := spec_l3Split.l0 k a0 a1 (([] : List ByteArray)) 0 0
mutual
def spec_ParseNum.j0 : Nat → ByteArray → Int → Bool → Option (Int × Bool)
  | 0, _, _, _ => none
  | k + 1, x0, x1, x29 => if x29 = true then (some (0, false)) else (spec_ParseNum.l0 k x0 x1 0 0)
def spec_ParseNum.l0 : Nat → ByteArray → Int → Int → Int → Option (Int × Bool)
  | 0, _, _, _, _ => none
  | k + 1, x0, x1, x6, x7 => if x7 < (x0.size : Int) then (if 0 ≤ x7 then ((spec_l1In.f (wrap64 (bt x0 x7)) 48 57).bind fun t431 => (if t431 = true then (spec_ParseNum.l0 k x0 x1 (wrap64 ((wrap64 (10 * x6)) + (((bt x0 x7) - 48) % 256))) (wrap64 (x7 + 1))) else (some (0, false)))) else (none)) else (if x6 > x1 then (some (0, false)) else (some (x6, true)))
end
def spec_ParseNum.f (k : Nat) (a0 : ByteArray) (a1 : Int) : Option (Int × Bool) := if (a0.size : Int) = 0 then (spec_ParseNum.j0 k a0 a1 true) else (if (a0.size : Int) > 5 then (spec_ParseNum.j0 k a0 a1 true) else (if (a0.size : Int) > 1 then (if 0 < (a0.size : Int) then (if (bt a0 0) = 48 then (spec_ParseNum.j0 k a0 a1 true) else (spec_ParseNum.j0 k a0 a1 (decide (a1 > 65535)))) else (none)) else (spec_ParseNum.j0 k a0 a1 (decide (a1 > 65535)))))
mutual
def spec_ParseConf.l0 : Nat → List ByteArray → List (S138) → Int → Option ((List (S138)) × Bool)
  | 0, _, _, _ => none
  | k + 1, x4, x5, x6 => if x6 < (x4.length : Int) then (if 0 ≤ x6 then ((spec_l3Split.f k (rdOf ByteArray.empty x4 x6) 58).bind fun t446 => (if (t446.length : Int) = 2 then (if 1 < (t446.length : Int) then ((spec_l3Split.f k (rdOf ByteArray.empty t446 1) 47).bind fun t453 => (if (t453.length : Int) = 4 then (spec_ParseConf.l1 k x4 x5 x6 t446 t453 (([0, 0, 0, 0] : List Int)) 0) else (some ((([] : List (S138))), false)))) else (none)) else (some ((([] : List (S138))), false)))) else (none)) else ((spec_ConfOk.f k x5).bind fun t441 => (if t441 = true then (some (x5, true)) else (some ((([] : List (S138))), false))))
def spec_ParseConf.l1 : Nat → List ByteArray → List (S138) → Int → List ByteArray → List ByteArray → List Int → Int → Option ((List (S138)) × Bool)
  | 0, _, _, _, _, _, _, _ => none
  | k + 1, x4, x5, x6, x7, x8, x9, x10 => if x10 < 4 then (if 0 ≤ x10 then (if x10 < (x8.length : Int) then ((spec_ParseNum.f k (rdOf ByteArray.empty x8 x10) 99).bind fun bt463 => (if bt463.2 = true then (if x10 < (x9.length : Int) then (spec_ParseConf.l1 k x4 x5 x6 x7 x8 (x9.set (x10 : Int).toNat bt463.1) (wrap64 (x10 + 1))) else (none)) else (some ((([] : List (S138))), false)))) else (none)) else (none)) else (if 0 < (x7.length : Int) then (if 0 < (x9.length : Int) then (if 1 < (x9.length : Int) then (if 2 < (x9.length : Int) then (if 3 < (x9.length : Int) then (if x5.length < 2932031007402 then (spec_ParseConf.l0 k x4 (x5 ++ [(⟨rdOf ByteArray.empty x7 0, rd x9 0, rd x9 1, rd x9 2, rd x9 3⟩ : S138)]) (wrap64 (x6 + 1))) else (none)) else (none)) else (none)) else (none)) else (none)) else (none))
end
def spec_ParseConf.f (k : Nat) (a0 : ByteArray) : Option ((List (S138)) × Bool) := if (a0.size : Int) > 100 then (some ((([] : List (S138))), false)) else ((spec_l3Split.f k a0 59).bind fun t435 => (spec_ParseConf.l0 k t435 (([] : List (S138))) 0))
def spec_l4Text.f (k : Nat) (a0 : ByteArray) : Option (Bool) := (spec_ParseConf.f k a0).bind fun bt477 => (some bt477.2)
def spec_RecOk.f (k : Nat) (a0_0 : Int) (a0_1 : Int) (a0_2 : Int) (a0_3 : ByteArray) : Option (Bool) := (spec_l1In.f a0_1 1 60000).bind fun t482 => (if t482 = true then (if a0_0 = 1 then (if a0_2 = 0 then ((spec_l4Text.f k a0_3).bind fun t483 => (some t483)) else (some false)) else (if a0_0 = 2 then (if a0_2 = 0 then (some (a0_3.toList == ([] : List UInt8))) else (some false)) else (if a0_0 = 3 then ((spec_l1In.f a0_2 0 1).bind fun t484 => (if t484 = true then (some (a0_3.toList == ([] : List UInt8))) else (some false))) else (some false)))) else (some false))
def spec_PutWord.f (l0 : List Int) (a1 : Int) : Option (List Int) := (some (([] : List Int) : List Int)).bind fun y485 => (if y485.length + l0.length < 140737488355328 then ((some (y485 ++ l0 : List Int)).bind fun y488 => ((some (([(Go.bits .and .i64 (a1 / 256) 255) % 256, (Go.bits .and .i64 a1 255) % 256] : List Int) : List Int)).bind fun y491 => (if y488.length + y491.length < 140737488355328 then (some (y488 ++ y491)) else (none)))) else (none))
mutual
def spec_Sum.l0 : Nat → List Int → Int → Int → Option (Int)
  | 0, _, _, _ => none
  | k + 1, x0, x3, x4 => if x4 < (x0.length : Int) then (if 0 ≤ x4 then (spec_Sum.l1 k x0 (Go.bits .xor .i64 x3 (wrap64 ((wrap64 (rd x0 x4)) * 256))) x4 0) else (none)) else (some (Go.bits .and .i64 x3 65535))
def spec_Sum.l1 : Nat → List Int → Int → Int → Int → Option (Int)
  | 0, _, _, _, _ => none
  | k + 1, x0, x3, x4, x5 => if x5 < 8 then (if (wrap64 (x3 * 2)) > 65535 then (spec_Sum.l1 k x0 (Go.bits .xor .i64 (wrap64 (x3 * 2)) 69665) x4 (wrap64 (x5 + 1))) else (spec_Sum.l1 k x0 (wrap64 (x3 * 2)) x4 (wrap64 (x5 + 1)))) else (spec_Sum.l0 k x0 x3 (wrap64 (x4 + 1)))
end
def spec_Sum.f (k : Nat) (l0 : List Int) : Option (Int) := spec_Sum.l0 k l0 65535 0
def spec_l4Word.f (a0 : Int) : Option (Bool) := (spec_l1In.f a0 0 65535).bind fun t498 => (some t498)
mutual
def spec_TextOk.l0 : Nat → ByteArray → Int → Option (Bool)
  | 0, _, _ => none
  | k + 1, x0, x3 => if x3 < (x0.size : Int) then (spec_TextOk.j1 k x0 x3 (decide (x3 ≤ 100))) else (spec_TextOk.j1 k x0 x3 false)
def spec_TextOk.j1 : Nat → ByteArray → Int → Bool → Option (Bool)
  | 0, _, _, _ => none
  | k + 1, x0, x3, x11 => if x11 = true then (if 0 ≤ x3 then (if x3 < (x0.size : Int) then (if (bt x0 x3) < 32 then (some false) else (if (bt x0 x3) > 126 then (some false) else (spec_TextOk.l0 k x0 (wrap64 (x3 + 1))))) else (none)) else (none)) else (some (decide ((x0.size : Int) ≤ 100)))
end
def spec_TextOk.f (k : Nat) (a0 : ByteArray) : Option (Bool) := spec_TextOk.l0 k a0 0
def spec_PutText.f (k : Nat) (l0 : List Int) (a1 : ByteArray) : Option (List Int) := (some (([] : List Int) : List Int)).bind fun y499 => (if y499.length + l0.length < 140737488355328 then ((some (y499 ++ l0 : List Int)).bind fun y502 => ((spec_TextOk.f k a1).bind fun t505 => (if t505 = true then (if y502.length < 140737488355328 then ((some (y502 ++ [((a1.size : Int)) % 256] : List Int)).bind fun y506 => (if y506.length + a1.size < 140737488355328 then (some (y506 ++ bytesOf a1)) else (none))) else (none)) else (some y502)))) else (none))
def spec_PutRec.j0 : Nat → Int → Int → Bool → Int → Int → Int → ByteArray → Option (List Int)
  | 0, _, _, _, _, _, _, _ => none
  | k + 1, x0, x1, x20, x513000, x513001, x513002, x513003 => if x20 = true then (some (([] : List Int))) else ((spec_PutWord.f (([] : List Int)) x0).bind fun t522 => ((spec_PutWord.f t522 x1).bind fun t525 => ((some (([(x513000) % 256] : List Int) : List Int)).bind fun y528 => (if t525.length + y528.length < 140737488355328 then ((spec_PutWord.f (t525 ++ y528) x513001).bind fun t534 => ((some (([(x513002) % 256] : List Int) : List Int)).bind fun y537 => (if t534.length + y537.length < 140737488355328 then ((spec_PutText.f k (t534 ++ y537) x513003).bind fun t543 => ((spec_Sum.f k t543).bind fun t546 => ((spec_PutWord.f t543 t546).bind fun t547 => (some t547)))) else (none)))) else (none)))))
def spec_PutRec.f (k : Nat) (a0 : Int) (a1 : Int) (a2_0 : Int) (a2_1 : Int) (a2_2 : Int) (a2_3 : ByteArray) : Option (List Int) := (spec_RecOk.f k a2_0 a2_1 a2_2 a2_3).bind fun t513 => (if t513 = true then ((spec_l4Word.f a0).bind fun t514 => (if t514 = true then ((spec_l4Word.f a1).bind fun t515 => (spec_PutRec.j0 k a0 a1 (!t515) a2_0 a2_1 a2_2 a2_3)) else (spec_PutRec.j0 k a0 a1 true a2_0 a2_1 a2_2 a2_3))) else (spec_PutRec.j0 k a0 a1 true a2_0 a2_1 a2_2 a2_3))
def spec_l1Bend.f (s0_0 : List Int) (s0_1 : Int) (s0_2 : Int) (l1 : List Int) : Option (List Int × Int × Int) := (some (([] : List Int) : List Int)).bind fun y550 => (if y550.length + l1.length < 140737488355328 then ((some (y550 ++ l1 : List Int)).bind fun y553 => ((spec_l1Below.f s0_0 s0_1 s0_2 8).bind fun bt556 => (if bt556.1 = 0 then (if (y553.length : Int) > 0 then ((spec_l1Below.f s0_0 bt556.2.1 bt556.2.2 (y553.length : Int)).bind fun bt559 => (if 0 ≤ bt559.1 then (if bt559.1 < (y553.length : Int) then ((spec_l1Below.f s0_0 bt559.2.1 bt559.2.2 255).bind fun bt563 => (some ((y553.set (bt559.1 : Int).toNat (Go.bits .xor .u8 (rd y553 bt559.1) ((wrap64 (1 + bt563.1)) % 256))), bt563.2.1, bt563.2.2))) else (none)) else (none))) else (some (y553, bt556.2.1, bt556.2.2))) else (if bt556.1 = 1 then (if (y553.length : Int) > 0 then ((spec_l1Below.f s0_0 bt556.2.1 bt556.2.2 (y553.length : Int)).bind fun bt567 => (if 0 ≤ bt567.1 then (if bt567.1 ≤ (y553.length : Int) then (some ((y553.take (bt567.1 : Int).toNat), bt567.2.1, bt567.2.2)) else (none)) else (none))) else (some (y553, bt556.2.1, bt556.2.2))) else (if bt556.1 = 2 then ((spec_l1Byte.f s0_0 bt556.2.1 bt556.2.2).bind fun bt573 => (if y553.length < 140737488355328 then (some ((y553 ++ [(bt573.1) % 256]), bt573.2.1, bt573.2.2)) else (none))) else (some (y553, bt556.2.1, bt556.2.2))))))) else (none))
def spec_DrawGetRec.j0 : Nat → List Int → Bool → List Int → Int → Int → Option (List Int)
  | 0, _, _, _, _, _ => none
  | k + 1, x4, x21, x583000, x583001, x583002 => if x21 = true then ((some (([] : List Int) : List Int)).bind fun y601 => (if 0 ≤ (wrap64 ((x4.length : Int) - 2)) then (if (wrap64 ((x4.length : Int) - 2)) ≤ (x4.length : Int) then ((some (x4.take ((wrap64 ((x4.length : Int) - 2)) : Int).toNat : List Int)).bind fun y604 => (if y601.length + y604.length < 140737488355328 then ((some (y601 ++ y604 : List Int)).bind fun y608 => ((spec_l1Below.f x583000 x583001 x583002 4).bind fun bt611 => ((spec_l1Below.f x583000 bt611.2.1 bt611.2.2 5).bind fun bt614 => (if 0 ≤ (wrap64 (4 + bt611.1)) then (if (wrap64 (4 + bt611.1)) < (y608.length : Int) then ((some (y608.set ((wrap64 (4 + bt611.1)) : Int).toNat ((bt614.1) % 256) : List Int)).bind fun y617 => ((spec_Sum.f k y617).bind fun t618 => ((spec_PutWord.f y617 t618).bind fun t619 => (some t619)))) else (none)) else (none))))) else (none))) else (none)) else (none))) else ((spec_l1Bend.f x583000 x583001 x583002 x4).bind fun bt622 => (some bt622.1))
def spec_DrawGetRec.f (k : Nat) (l0 : List Int) : Option (List Int) := (spec_l1New.f k l0).bind fun bt579 => ((spec_l1Below.f bt579.1 bt579.2.1 bt579.2.2 9).bind fun bt583 => ((spec_l1Below.f bt579.1 bt583.2.1 bt583.2.2 16).bind fun bt586 => ((spec_l4Draw.f k bt579.1 bt586.2.1 bt586.2.2).bind fun bt589 => ((spec_PutRec.f k bt583.1 bt586.1 bt589.1 bt589.2.1 bt589.2.2.1 bt589.2.2.2.1).bind fun t595 => ((spec_l1Once.f bt579.1 bt589.2.2.2.2.1 bt589.2.2.2.2.2 4).bind fun bt598 => (if bt598.1 = true then (spec_DrawGetRec.j0 k t595 (decide ((t595.length : Int) > 11)) bt579.1 bt598.2.1 bt598.2.2) else (spec_DrawGetRec.j0 k t595 false bt579.1 bt598.2.1 bt598.2.2)))))))
def impl_GetWord.f (l0 : List Int) (a1 : Int) : Option (Int × Int × Bool) := (impl_isIn.f a1 0 (wrap64 ((l0.length : Int) - 2))).bind fun t627 => (if t627 = true then (if 0 ≤ a1 then (if a1 < (l0.length : Int) then (if 0 ≤ (wrap64 (a1 + 1)) then (if (wrap64 (a1 + 1)) < (l0.length : Int) then (some (Go.bits .or .i64 (wrap64 ((wrap64 (rd l0 a1)) * 256)) (wrap64 (rd l0 (wrap64 (a1 + 1)))), wrap64 (a1 + 2), true)) else (none)) else (none)) else (none)) else (none)) else (some (0, 0, false)))
def impl_GetText.j0 : Nat → List Int → Int → Bool → Option (ByteArray × Int × Bool)
  | 0, _, _, _ => none
  | k + 1, x0, x1, x27 => if x27 = true then (some ((⟨#[]⟩ : ByteArray), 0, false)) else (if 0 ≤ x1 then (if x1 < (x0.length : Int) then (if 0 ≤ (wrap64 (x1 + 1)) then (if (wrap64 (x1 + 1)) ≤ (wrap64 ((wrap64 (x1 + 1)) + (wrap64 (rd x0 x1)))) then (if (wrap64 ((wrap64 (x1 + 1)) + (wrap64 (rd x0 x1)))) ≤ (x0.length : Int) then ((impl_TextOk.f k (strOfNums ((x0.take ((wrap64 ((wrap64 (x1 + 1)) + (wrap64 (rd x0 x1)))) : Int).toNat).drop ((wrap64 (x1 + 1)) : Int).toNat))).bind fun t634 => (if t634 = true then (some (strOfNums ((x0.take ((wrap64 ((wrap64 (x1 + 1)) + (wrap64 (rd x0 x1)))) : Int).toNat).drop ((wrap64 (x1 + 1)) : Int).toNat), wrap64 ((wrap64 (x1 + 1)) + (wrap64 (rd x0 x1))), true)) else (some ((⟨#[]⟩ : ByteArray), 0, false)))) else (none)) else (none)) else (none)) else (none)) else (none))
def impl_GetText.f (k : Nat) (l0 : List Int) (a1 : Int) : Option (ByteArray × Int × Bool) := (impl_isIn.f a1 0 (wrap64 ((l0.length : Int) - 1))).bind fun t630 => (if t630 = true then (if 0 ≤ a1 then (if a1 < (l0.length : Int) then (impl_GetText.j0 k l0 a1 (decide ((wrap64 (rd l0 a1)) > (wrap64 ((wrap64 ((l0.length : Int) - a1)) - 1))))) else (none)) else (none)) else (impl_GetText.j0 k l0 a1 true))
def bytes_Equal.f (l0 : List Int) (l1 : List Int) : Option (Bool) := some ((strOfNums l0).toList == (strOfNums l1).toList)
def impl_GetRec.f (k : Nat) (l0 : List Int) : Option (Int × Int × Int × Int × Int × ByteArray × Bool) := if (l0.length : Int) < 9 then (some (0, 0, 0, 0, 0, (⟨#[]⟩ : ByteArray), false)) else ((impl_GetWord.f l0 0).bind fun bt636 => ((impl_GetWord.f l0 2).bind fun bt639 => ((impl_GetWord.f l0 5).bind fun bt642 => ((impl_GetText.f k l0 8).bind fun bt645 => (if 4 < (l0.length : Int) then (if 7 < (l0.length : Int) then ((impl_PutRec.f k bt636.1 bt639.1 (wrap64 (rd l0 4)) bt642.1 (wrap64 (rd l0 7)) bt645.1).bind fun t651 => ((bytes_Equal.f t651 l0).bind fun t654 => (if t654 = true then (some (bt636.1, bt639.1, wrap64 (rd l0 4), bt642.1, wrap64 (rd l0 7), bt645.1, true)) else (some (0, 0, 0, 0, 0, (⟨#[]⟩ : ByteArray), false))))) else (none)) else (none))))))
def spec_GetWord.f (l0 : List Int) (a1 : Int) : Option (Int × Int × Bool) := if a1 < 0 then (some (0, 0, false)) else (if a1 > (wrap64 ((l0.length : Int) - 2)) then (some (0, 0, false)) else (if 0 ≤ a1 then (if a1 < (l0.length : Int) then (if 0 ≤ (wrap64 (a1 + 1)) then (if (wrap64 (a1 + 1)) < (l0.length : Int) then (some (wrap64 ((wrap64 ((wrap64 (rd l0 a1)) * 256)) + (wrap64 (rd l0 (wrap64 (a1 + 1))))), wrap64 (a1 + 2), true)) else (none)) else (none)) else (none)) else (none)))
def spec_GetText.j0 : Nat → List Int → Int → Bool → Option (ByteArray × Int × Bool)
  | 0, _, _, _ => none
  | k + 1, x0, x1, x15 => if x15 = true then (some ((⟨#[]⟩ : ByteArray), 0, false)) else (if 0 ≤ x1 then (if x1 < (x0.length : Int) then (if (wrap64 (rd x0 x1)) > (wrap64 ((wrap64 ((x0.length : Int) - x1)) - 1)) then (some ((⟨#[]⟩ : ByteArray), 0, false)) else (if 0 ≤ (wrap64 (x1 + 1)) then (if (wrap64 (x1 + 1)) ≤ (wrap64 ((wrap64 (x1 + 1)) + (wrap64 (rd x0 x1)))) then (if (wrap64 ((wrap64 (x1 + 1)) + (wrap64 (rd x0 x1)))) ≤ (x0.length : Int) then ((spec_TextOk.f k (strOfNums ((x0.take ((wrap64 ((wrap64 (x1 + 1)) + (wrap64 (rd x0 x1)))) : Int).toNat).drop ((wrap64 (x1 + 1)) : Int).toNat))).bind fun t659 => (if t659 = true then (some (strOfNums ((x0.take ((wrap64 ((wrap64 (x1 + 1)) + (wrap64 (rd x0 x1)))) : Int).toNat).drop ((wrap64 (x1 + 1)) : Int).toNat), wrap64 ((wrap64 (x1 + 1)) + (wrap64 (rd x0 x1))), true)) else (some ((⟨#[]⟩ : ByteArray), 0, false)))) else (none)) else (none)) else (none))) else (none)) else (none))
def spec_GetText.f (k : Nat) (l0 : List Int) (a1 : Int) : Option (ByteArray × Int × Bool) := if a1 < 0 then (spec_GetText.j0 k l0 a1 true) else (spec_GetText.j0 k l0 a1 (decide (a1 ≥ (l0.length : Int))))
def spec_l1Same.f (l0 : List Int) (l1 : List Int) : Option (Bool) := some ((strOfNums l0).toList == (strOfNums l1).toList)
def spec_GetRec.f (k : Nat) (l0 : List Int) : Option (Int × Int × Int × Int × Int × ByteArray × Bool) := if (l0.length : Int) < 11 then (some (0, 0, 0, 0, 0, (⟨#[]⟩ : ByteArray), false)) else ((spec_GetWord.f l0 0).bind fun bt662 => ((spec_GetWord.f l0 2).bind fun bt665 => ((spec_GetWord.f l0 5).bind fun bt668 => ((spec_GetText.f k l0 8).bind fun bt671 => (if 4 < (l0.length : Int) then (if 7 < (l0.length : Int) then (if bt671.2.2 = true then ((spec_RecOk.f k (wrap64 (rd l0 4)) bt668.1 (wrap64 (rd l0 7)) bt671.1).bind fun t677 => (if t677 = true then ((spec_PutRec.f k bt662.1 bt665.1 (wrap64 (rd l0 4)) bt668.1 (wrap64 (rd l0 7)) bt671.1).bind fun t678 => ((spec_l1Same.f t678 l0).bind fun t681 => (if t681 = true then (some (bt662.1, bt665.1, wrap64 (rd l0 4), bt668.1, wrap64 (rd l0 7), bt671.1, true)) else (some (0, 0, 0, 0, 0, (⟨#[]⟩ : ByteArray), false))))) else (some (0, 0, 0, 0, 0, (⟨#[]⟩ : ByteArray), false)))) else (some (0, 0, 0, 0, 0, (⟨#[]⟩ : ByteArray), false))) else (none)) else (none))))))
def laws_same.f (l0 : List Int) (l1 : List Int) : Option (Bool) := some ((strOfNums l0).toList == (strOfNums l1).toList)
def laws_at.f (l0 : List Int) (a1 : Int) : Option (Int) := if a1 < (l0.length : Int) then (if 0 ≤ a1 then (some (wrap64 (rd l0 a1))) else (none)) else (some (Int.tmod (wrap64 ((wrap64 (a1 * 31)) + (wrap64 ((l0.length : Int) * 7)))) 256))
def laws_bent.f (l0 : List Int) (l1 : List Int) : Option (List Int) := (some (([] : List Int) : List Int)).bind fun y683 => (if y683.length + l1.length < 140737488355328 then ((some (y683 ++ l1 : List Int)).bind fun y686 => (if (y686.length : Int) > 0 then ((laws_at.f l0 2).bind fun t689 => ((laws_at.f l0 3).bind fun t690 => (if (y686.length : Int) = 0 then (none) else (if 0 ≤ (Int.tmod (wrap64 ((wrap64 (t689 * 256)) + t690)) (y686.length : Int)) then (if (Int.tmod (wrap64 ((wrap64 (t689 * 256)) + t690)) (y686.length : Int)) < (y686.length : Int) then ((laws_at.f l0 4).bind fun t692 => (some (y686.set ((Int.tmod (wrap64 ((wrap64 (t689 * 256)) + t690)) (y686.length : Int)) : Int).toNat (Go.bits .xor .u8 (rd y686 (Int.tmod (wrap64 ((wrap64 (t689 * 256)) + t690)) (y686.length : Int))) ((wrap64 (1 + (Int.tmod t692 255))) % 256))))) else (none)) else (none))))) else (some y686))) else (none))
mutual
def laws_FnRecs.j0 : Nat → List Int → Int → Int → List Int → Bool → Int → Int → Int → ByteArray → Option (Bool)
  | 0, _, _, _, _, _, _, _, _, _ => none
  | k + 1, x0, x3, x4, x6, x73, x702000, x702001, x702002, x702003 => if x73 = true then (some false) else ((impl_RecOk.f k x702000 x702001 x702002 x702003).bind fun t730 => (if t730 = true then (if x3 < 0 then (laws_FnRecs.j1 k x0 x3 x4 x6 true x702000 x702001 x702002 x702003) else (if x3 > 65535 then (laws_FnRecs.j1 k x0 x3 x4 x6 true x702000 x702001 x702002 x702003) else (if x4 < 0 then (laws_FnRecs.j1 k x0 x3 x4 x6 true x702000 x702001 x702002 x702003) else (laws_FnRecs.j1 k x0 x3 x4 x6 (decide (x4 > 65535)) x702000 x702001 x702002 x702003)))) else (laws_FnRecs.j1 k x0 x3 x4 x6 true x702000 x702001 x702002 x702003)))
def laws_FnRecs.j1 : Nat → List Int → Int → Int → List Int → Bool → Int → Int → Int → ByteArray → Option (Bool)
  | 0, _, _, _, _, _, _, _, _, _ => none
  | k + 1, x0, x3, x4, x6, x92, x702000, x702001, x702002, x702003 => if x92 = true then (some ((x6.length : Int) == 0)) else ((impl_GetRec.f k x6).bind fun bt731 => ((laws_bent.f x0 x6).bind fun t739 => ((impl_GetRec.f k t739).bind fun bt742 => (if bt731.2.2.2.2.2.2 = true then (if bt731.1 = x3 then (if bt731.2.1 = x4 then (if (bt731.2.2.1 == x702000 && (bt731.2.2.2.1 == x702001 && (bt731.2.2.2.2.1 == x702002 && (bt731.2.2.2.2.2.1.toList == x702003.toList)))) = true then (if bt742.2.2.2.2.2.2 = true then (some false) else (some (decide ((x6.length : Int) ≤ 160)))) else (some false)) else (some false)) else (some false)) else (some false)))))
end
def laws_FnRecs.f (k : Nat) (l0 : List Int) : Option (Bool) := (laws_big.f l0).bind fun t694 => (if t694 = true then (some true) else ((spec_DrawPutRec.f k l0).bind fun bt695 => ((impl_PutRec.f k bt695.1 bt695.2.1 bt695.2.2.1 bt695.2.2.2.1 bt695.2.2.2.2.1 bt695.2.2.2.2.2).bind fun t702 => ((spec_DrawGetRec.f k l0).bind fun t705 => ((impl_GetRec.f k t705).bind fun bt708 => ((spec_GetRec.f k t705).bind fun bt716 => ((impl_RecOk.f k bt695.2.2.1 bt695.2.2.2.1 bt695.2.2.2.2.1 bt695.2.2.2.2.2).bind fun t724 => ((spec_RecOk.f k bt695.2.2.1 bt695.2.2.2.1 bt695.2.2.2.2.1 bt695.2.2.2.2.2).bind fun t725 => (if (t724 != t725) = true then (laws_FnRecs.j0 k l0 bt695.1 bt695.2.1 t702 true bt695.2.2.1 bt695.2.2.2.1 bt695.2.2.2.2.1 bt695.2.2.2.2.2) else (if (bt708.2.2.2.2.2.2 != bt716.2.2.2.2.2.2) = true then (laws_FnRecs.j0 k l0 bt695.1 bt695.2.1 t702 true bt695.2.2.1 bt695.2.2.2.1 bt695.2.2.2.2.1 bt695.2.2.2.2.2) else (if bt708.2.2.2.2.2.2 = true then ((impl_PutRec.f k bt708.1 bt708.2.1 bt708.2.2.1 bt708.2.2.2.1 bt708.2.2.2.2.1 bt708.2.2.2.2.2.1).bind fun t726 => ((laws_same.f t726 t705).bind fun t729 => (laws_FnRecs.j0 k l0 bt695.1 bt695.2.1 t702 (!t729) bt695.2.2.1 bt695.2.2.2.1 bt695.2.2.2.2.1 bt695.2.2.2.2.2))) else (laws_FnRecs.j0 k l0 bt695.1 bt695.2.1 t702 false bt695.2.2.1 bt695.2.2.2.1 bt695.2.2.2.2.1 bt695.2.2.2.2.2))))))))))))
def laws_FnRecs.Pure : Prop := ∀ (l0 : List Int), l0.length ≤ maxLen → l0.length * 1 ≤ 140737488351232 → (∀ x ∈ l0, (Lit.int .u8 x).wf = true) → ∃ k, laws_FnRecs.f k l0 = some true
end Go.Proofs.YthkepmicdpgbbaaGreatDoor.P
