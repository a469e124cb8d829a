/- Texts of this seat's claims, put together: EvD, EvE, EvF, EvFa, EvG, EvH -/
import Derived.Lib.AppendStr
import Derived.Test.YthkepmicdpgbbaaGreatDoorPkYzB1
namespace Go.Proofs.YthkepmicdpgbbaaGreatDoor.E
open Go Go.RowKit Go.Proofs.YthkepmicdpgbbaaGreatDoorW.PrintWords
set_option linter.unusedVariables false
set_option linter.unusedSimpArgs false
theorem len_eq {α : Type} : ∀ (l : List α), len l = l.length
 | [] => rfl
 | _ :: r => by simp [len, len_eq r]
section
variable {G : Gh} {w : World} {I : Nat → Prop}
theorem RepsL.length : ∀ {l : List PV} {vs : List Value}, RepsL G w l vs → vs.length = l.length
 | [], vs, h => by simp only [RepsL] at h; simp [h]
 | p :: ps, vs, h => by
  simp only [RepsL] at h
  obtain ⟨v, vs', rfl, _, h2⟩ := h
  simp [RepsL.length h2]
theorem RepsL.drop : ∀ {l : List PV} {vs : List Value} (n : Nat), RepsL G w l vs → RepsL G w (l.drop n) (vs.drop n)
 | _, _, 0, h => by simpa using h
 | [], vs, n + 1, h => by
  simp only [RepsL] at h
  subst h
  simp [RepsL]
 | p :: ps, vs, n + 1, h => by
  simp only [RepsL] at h
  obtain ⟨v, vs', rfl, _, h2⟩ := h
  simpa using RepsL.drop n h2
theorem RepsL.take : ∀ {l : List PV} {vs : List Value} (n : Nat), RepsL G w l vs → RepsL G w (l.take n) (vs.take n)
 | _, _, 0, h => by simp [RepsL]
 | [], vs, n + 1, h => by
  simp only [RepsL] at h
  subst h
  simp [RepsL]
 | p :: ps, vs, n + 1, h => by
  simp only [RepsL] at h
  obtain ⟨v, vs', rfl, h1, h2⟩ := h
  simp only [List.take_succ_cons, RepsL]
  exact ⟨v, _, rfl, h1, RepsL.take n h2⟩
theorem RepsL.append : ∀ {l k : List PV} {vs us : List Value}, RepsL G w l vs → RepsL G w k us → RepsL G w (l ++ k) (vs ++ us)
 | [], k, vs, us, h, h' => by
  simp only [RepsL] at h
  subst h
  simpa using h'
 | p :: ps, k, vs, us, h, h' => by
  simp only [RepsL] at h
  obtain ⟨v, vs', rfl, h1, h2⟩ := h
  simp only [List.cons_append, RepsL]
  exact ⟨v, _, rfl, h1, RepsL.append h2 h'⟩
theorem RepsL.nth : ∀ {l : List PV} {vs : List Value} (n : Nat), RepsL G w l vs → n < l.length → ∃ v, vs[n]? = some v ∧ Reps G w (E.nth l n) v
 | [], vs, n, h, hn => by simp at hn
 | p :: ps, vs, 0, h, _ => by
  simp only [RepsL] at h
  obtain ⟨v, vs', rfl, h1, _⟩ := h
  exact ⟨v, rfl, h1⟩
 | p :: ps, vs, n + 1, h, hn => by
  simp only [RepsL] at h
  obtain ⟨v, vs', rfl, _, h2⟩ := h
  simpa [E.nth] using RepsL.nth n h2 (by simpa using hn)
theorem RepP.drop : ∀ {l : List CV} {vs : List Value} (n : Nat), RepP I w l vs → RepP I w (l.drop n) (vs.drop n)
 | _, _, 0, h => by simpa using h
 | [], vs, n + 1, h => by simp [RepP]
 | p :: ps, vs, n + 1, h => by
  simp only [RepP] at h
  obtain ⟨v, vs', rfl, _, h2⟩ := h
  simpa using RepP.drop n h2
theorem RepP.len : ∀ {l : List CV} {vs : List Value}, RepP I w l vs → l.length ≤ vs.length
 | [], vs, h => by simp
 | p :: ps, vs, h => by
  simp only [RepP] at h
  obtain ⟨v, vs', rfl, _, h2⟩ := h
  have := RepP.len h2
  simp
  omega
theorem RepP.all : ∀ {l : List CV} {vs : List Value}, RepP G.imm w l vs → RepsL G w (l.map .v) (vs.take l.length)
 | [], vs, h => by simp [RepsL]
 | p :: ps, vs, h => by
  simp only [RepP] at h
  obtain ⟨v, vs', rfl, h1, h2⟩ := h
  simp only [List.map_cons, List.length_cons, List.take_succ_cons, RepsL, Reps]
  exact ⟨v, _, rfl, h1, RepP.all h2⟩
theorem RepP.take : ∀ {l : List CV} {vs : List Value} (n : Nat), RepP I w l vs → RepP I w (l.take n) (vs.take n)
 | _, _, 0, h => by simp [RepP]
 | [], vs, n + 1, h => by simp [RepP]
 | p :: ps, vs, n + 1, h => by
  simp only [RepP] at h
  obtain ⟨v, vs', rfl, h1, h2⟩ := h
  simp only [List.take_succ_cons, RepP]
  exact ⟨v, _, rfl, h1, RepP.take n h2⟩
theorem RepP.of_take : ∀ {l : List CV} {vs : List Value} (n : Nat), RepP I w l (vs.take n) → RepP I w l vs
 | [], vs, n, h => by simp [RepP]
 | p :: ps, [], n, h => by simp [RepP] at h
 | p :: ps, v :: vs, 0, h => by simp [RepP] at h
 | p :: ps, v :: vs, n + 1, h => by
  simp only [List.take_succ_cons, RepP] at h
  obtain ⟨u, us, h0, h1, h2⟩ := h
  injection h0 with e1 e2
  subst e1 e2
  simp only [RepP]
  exact ⟨v, vs, rfl, h1, RepP.of_take n h2⟩
theorem RepP.append : ∀ {l k : List CV} {vs us : List Value}, RepP I w l vs → vs.length = l.length → RepP I w k us → RepP I w (l ++ k) (vs ++ us)
 | [], k, vs, us, _, hl, h' => by
  have : vs = [] := List.eq_nil_of_length_eq_zero hl
  subst this
  simpa using h'
 | p :: ps, k, vs, us, h, hl, h' => by
  simp only [RepP] at h
  obtain ⟨v, vs', rfl, h1, h2⟩ := h
  simp only [List.cons_append, RepP]
  exact ⟨v, _, rfl, h1, RepP.append h2 (by simpa using hl) h'⟩
theorem RepE.at {sz : Nat} : ∀ {l : List (List CV)} {vs : List Value} (e : Nat) (el : List CV), RepE I w sz l vs → l[e]? = some el → el.length = sz ∧ RepP I w el (vs.drop (e * sz))
 | [], vs, e, el, h, h' => by simp at h'
 | x :: xs, vs, 0, el, h, h' => by
  simp only [RepE] at h
  simp at h'
  subst h'
  simpa using ⟨h.1, h.2.1⟩
 | x :: xs, vs, e + 1, el, h, h' => by
  simp only [RepE] at h
  obtain ⟨a, b⟩ := RepE.at e el h.2.2 (by simpa using h')
  refine ⟨a, ?_⟩
  rw [List.drop_drop] at b
  rw [Nat.add_mul, Nat.one_mul, Nat.add_comm]
  exact b
theorem RepE.size {sz : Nat} : ∀ {l : List (List CV)} {vs : List Value}, RepE I w sz l vs → ∀ x ∈ l, x.length = sz
 | [], _, _, x, hx => by cases hx
 | y :: ys, vs, h, x, hx => by
  simp only [RepE] at h
  rcases List.mem_cons.1 hx with rfl | hx
  ·exact h.1
  ·exact RepE.size h.2.2 x hx
theorem RepE.mk {sz : Nat} : ∀ {l : List (List CV)} {vs : List Value}, (∀ e el, l[e]? = some el → el.length = sz ∧ RepP I w el (vs.drop (e * sz))) → RepE I w sz l vs
 | [], vs, h => by simp [RepE]
 | x :: xs, vs, h => by
  simp only [RepE]
  have h0 := h 0 x (by simp)
  refine ⟨h0.1, by simpa using h0.2, RepE.mk fun e el he => ?_⟩
  have h1 := h (e + 1) el (by simpa using he)
  refine ⟨h1.1, ?_⟩
  rw [List.drop_drop, Nat.add_comm, ← Nat.succ_mul]
  exact h1.2
theorem RepE.drop {sz : Nat} : ∀ {l : List (List CV)} {vs : List Value} (n : Nat), RepE I w sz l vs → RepE I w sz (l.drop n) (vs.drop (n * sz))
 | _, _, 0, h => by simpa using h
 | [], vs, n + 1, h => by simp [RepE]
 | x :: xs, vs, n + 1, h => by
  simp only [RepE] at h
  have := RepE.drop n h.2.2
  rw [List.drop_drop, Nat.add_comm] at this
  rw [Nat.add_mul, Nat.one_mul]
  simpa using this
theorem RepE.take {sz : Nat} : ∀ {l : List (List CV)} {vs : List Value} (n : Nat), RepE I w sz l vs → RepE I w sz (l.take n) vs
 | _, _, 0, h => by simp [RepE]
 | [], vs, n + 1, h => by simp [RepE]
 | x :: xs, vs, n + 1, h => by
  simp only [RepE] at h
  simp only [List.take_succ_cons, RepE]
  exact ⟨h.1, h.2.1, RepE.take n h.2.2⟩
theorem RepE.of_take {sz : Nat} {l : List (List CV)} {vs : List Value} (n : Nat) (h : RepE I w sz l (vs.take n)) : RepE I w sz l vs :=
 RepE.mk fun e el he => by
  obtain ⟨a, b⟩ := h.at e el he
  rw [List.drop_take] at b
  exact ⟨a, b.of_take _⟩
theorem RepE.len {sz : Nat} (hs : 0 < sz) : ∀ {l : List (List CV)} {vs : List Value}, RepE I w sz l vs → l.length * sz ≤ vs.length
 | [], vs, h => by simp
 | x :: xs, vs, h => by
  simp only [RepE] at h
  have h1 := RepE.len hs h.2.2
  have h2 := h.2.1.len
  rw [List.length_drop] at h1
  rw [List.length_cons, Nat.add_mul, Nat.one_mul]
  omega
theorem RepE.keep {sz : Nat} {l : List (List CV)} {vs us : List Value} (h : RepE I w sz l vs) (n : Nat) (hn : l.length * sz ≤ n) (hu : us.take n = vs.take n) : RepE I w sz l us := by
 refine RepE.mk fun e el he => ?_
 obtain ⟨a, b⟩ := h.at e el he
 have hlt : e < l.length := (List.getElem?_eq_some_iff.1 he).1
 have h1 : RepP I w el (us.drop (e * sz)) := by
  have h2 := RepP.take el.length b
  rw [List.take_length] at h2
  have hm : e * sz + sz ≤ n := Nat.le_trans (by rw [← Nat.succ_mul]; exact Nat.mul_le_mul_right _ hlt) hn
  have e1 : (vs.drop (e * sz)).take el.length = (us.drop (e * sz)).take el.length := by
   rw [a]
   have : ∀ zs : List Value, (zs.drop (e * sz)).take sz = ((zs.take n).drop (e * sz)).take sz := fun zs => by
    rw [List.drop_take, List.take_take, Nat.min_eq_left (by omega)]
   rw [this vs, this us, hu]
  rw [e1] at h2
  exact h2.of_take _
 exact ⟨a, h1⟩
end
section
variable {E : Env} {t : Nat} {i : TI}
theorem look_mem {α : Type} : ∀ {l : List (Nat × α)} {t : Nat} {x : α}, look l t = some x → (t, x) ∈ l
 | [], t, x, h => by cases h
 | y :: r, t, x, h => by
  unfold look at h
  cases hb : Nat.beq y.1 t with
  | true =>
   rw [hb] at h
   injection h with h
   have := Nat.eq_of_beq_eq_true hb
   subst h this
   simp
  | false =>
   rw [hb] at h
   exact List.mem_cons_of_mem _ (look_mem h)
theorem Env.fact (h : look E.T t = some i) : TyFact E.P t i := E.ok _ (look_mem h)
theorem TyFact.info {P : Program} (h : TyFact P t i) : ∃ x, P.info? t = some x ∧ x.size = i.size ∧ x.bytes = i.bytes ∧ x.zero = some i.zero := by
 have h1 := h.1
 cases hx : P.info? t with
 | none => rw [hx] at h1; cases h1
 | some x =>
  rw [hx] at h1
  simp only [Option.map_some, Option.some.injEq, Prod.mk.injEq] at h1
  exact ⟨x, rfl, h1.1, h1.2.1, h1.2.2⟩
theorem TyFact.sizeOf {P : Program} (h : TyFact P t i) (w : World) : (sizeOf t).run P w = .ok i.size w := by
 obtain ⟨x, h1, h2, _, _⟩ := h.info
 simp [Go.sizeOf, typeInfo, h1, h2]
theorem TyFact.isAgg {P : Program} (h : TyFact P t i) (w : World) : (isAgg t).run P w = .ok i.k.isAgg w := by
 have h2 := h.2.1
 unfold Go.isAgg
 cases hk : i.k with
 | struct fs =>
  rw [hk] at h2
  simp only [TK.is] at h2
  cases hu : P.underlying t with
  | none => rw [hu] at h2; cases h2
  | some d =>
   rw [hu] at h2
   cases d <;> first | cases h2 | simp [run_underlying hu, TK.isAgg]
 | _ =>
  rw [hk] at h2
  simp only [TK.is] at h2
  simp [run_underlying h2, TK.isAgg]
theorem TyFact.zeroOf {P : Program} (h : TyFact P t i) (w : World) : (zeroValue t).run P w = .ok i.zero w := by
 obtain ⟨x, h1, _, _, h2⟩ := h.info
 simp [zeroValue, typeInfo, h1, h2]
theorem nthF_map {α : Type} (P : Program) : ∀ (fs : List (Nat × Nat)) (l : List (Nat × TypeId)) (f : Nat) (q : Nat × Nat), l.map (fun x => (x.1, (P.info? x.2).map (·.size))) = fs.map (fun x => (x.1, some x.2)) → nthF fs f = some q →
  ∃ x, l[f]? = some x ∧ x.1 = q.1 ∧ (P.info? x.2).map (·.size) = some q.2
 | [], l, f, q, h, hq => by cases hq
 | y :: fs, [], f, q, h, hq => by simp at h
 | y :: fs, x :: l, 0, q, h, hq => by
  simp only [List.map_cons, List.cons.injEq, Prod.mk.injEq] at h
  simp only [nthF, Option.some.injEq] at hq
  subst hq
  exact ⟨x, rfl, h.1.1, h.1.2⟩
 | y :: fs, x :: l, f + 1, q, h, hq => by
  simp only [List.map_cons, List.cons.injEq] at h
  obtain ⟨z, h1, h2⟩ := nthF_map (α := α) P fs l f q h.2 (by simpa [nthF] using hq)
  exact ⟨z, by simpa using h1, h2⟩
theorem TyFact.struct {P : Program} {fs : List (Nat × Nat)} (h : TyFact P t i) (hk : i.k = .struct fs) : ∃ fields : Array Field, P.underlying t = some (.struct fields) ∧
  (fields.toList.map fun f => (f.offset, f.type)).map (fun x => (x.1, (P.info? x.2).map (·.size))) = fs.map (fun x => (x.1, some x.2)) := by
 have h2 := h.2.1
 rw [hk] at h2
 simp only [TK.is] at h2
 cases hu : P.underlying t with
 | none => rw [hu] at h2; cases h2
 | some d =>
  rw [hu] at h2
  cases d <;> first | cases h2 | skip
  rename_i fields
  refine ⟨fields, rfl, ?_⟩
  simpa only [Option.bind_some, structOf, Option.map_some, Option.some.injEq] using h2
end
end Go.Proofs.YthkepmicdpgbbaaGreatDoor.E

namespace Go.Proofs.YthkepmicdpgbbaaGreatDoor.E
open Go Go.RowKit Go.Proofs.YthkepmicdpgbbaaGreatDoorW.PrintWords
set_option linter.unusedVariables false
set_option linter.unusedSimpArgs false
def Keeps (h h' : List Blk) (wr : List Nat) : Prop := ∀ id, id ∉ wr → nthB h' id = nthB h id
def Step (P : Program) (h : List Blk) (s : Gh → World → Sem Value → Prop) (K : Kont) : Prop :=
 ∃ q h' rd wr, K q h' rd wr ∧ Keeps h h' wr ∧ len h ≤ len h' ∧ ∀ G w m, Inv G w → s G w m → (∀ id, id ∈ rd ∨ id ∈ wr → RelB G w id (nthB h id)) →
  ∃ u w' G', m.run P w = .ok u w' ∧ Ext wr G w G' w' ∧ Reps G' w' q u ∧ ∀ id ∈ wr, RelB G' w' id (nthB h' id)
section
variable {E : Env} {h : List Blk} {K : Kont} {s : Gh → World → Sem Value → Prop}
theorem Step.reads {P : Program} {q : PV} {rd : List Nat} (hk : K q h rd []) (hs : ∀ G w m, Inv G w → s G w m → (∀ id, id ∈ rd → RelB G w id (nthB h id)) → ∃ u, m.run P w = .ok u w ∧ Reps G w q u) : Step P h s K :=
 ⟨q, h, rd, [], hk, fun _ _ => rfl, Nat.le_refl _, fun G w m hi hm hr => by
  obtain ⟨u, h1, h2⟩ := hs G w m hi hm (fun id hid => hr id (.inl hid))
  exact ⟨u, w, G, h1, Ext.refl hi [], h2, fun id hid => by cases hid⟩⟩
theorem Step.pure {P : Program} {q : PV} (hk : K q h [] []) (hs : ∀ G w m, Inv G w → s G w m → ∃ u, m.run P w = .ok u w ∧ Reps G w q u) : Step P h s K :=
 Step.reads (rd := []) hk fun G w m hi hm _ => hs G w m hi hm
def RStep (P : Program) (h : List Blk) (s : Gh → World → Sem Value → Prop) (K : Kont) : Prop :=
 ∃ q rd, K q h rd [] ∧ ∀ G w m, Inv G w → s G w m → (∀ id, id ∈ rd → RelB G w id (nthB h id)) → ∃ u, m.run P w = .ok u w ∧ Reps G w q u
theorem RStep.step {P : Program} (r : RStep P h s K) : Step P h s K := by
 obtain ⟨q, rd, h1, h2⟩ := r
 exact Step.reads h1 h2
theorem RStep.reads {P : Program} {q : PV} {rd : List Nat} (hk : K q h rd []) (hs : ∀ G w m, Inv G w → s G w m → (∀ id, id ∈ rd → RelB G w id (nthB h id)) → ∃ u, m.run P w = .ok u w ∧ Reps G w q u) : RStep P h s K := ⟨q, rd, hk, hs⟩
theorem RStep.pure {P : Program} {q : PV} (hk : K q h [] []) (hs : ∀ G w m, Inv G w → s G w m → ∃ u, m.run P w = .ok u w ∧ Reps G w q u) : RStep P h s K := ⟨q, [], hk, fun G w m hi hm _ => hs G w m hi hm⟩
theorem nthB_append (h k : List Blk) : ∀ id, id < len h → nthB (h ++ k) id = nthB h id := by
 induction h with
 | nil => intro id hid; simp [len] at hid
 | cons b r ih =>
  intro id hid
  cases id with
  | zero => rfl
  | succ n => simpa [nthB] using ih n (by simpa [len] using hid)
theorem nthB_ge : ∀ (h : List Blk) (id : Nat), len h ≤ id → nthB h id = none
 | [], _, _ => rfl
 | b :: r, 0, hid => by simp [len] at hid
 | b :: r, n + 1, hid => nthB_ge r n (by simpa [len] using hid)
theorem nthB_new (b : Blk) (k : List Blk) : ∀ h : List Blk, nthB (h ++ b :: k) (len h) = some b
 | [] => rfl
 | _ :: r => nthB_new b k r
theorem len_append (h k : List Blk) : len (h ++ k) = len h + len k := by rw [len_eq, len_eq, len_eq, List.length_append]
theorem nthB_lt : ∀ {h : List Blk} {id : Nat} {B : Blk}, nthB h id = some B → id < len h
 | [], _, _, e => by cases e
 | _ :: _, 0, _, _ => by simp [len]
 | _ :: r, n + 1, B, e => by
  have := nthB_lt (h := r) (id := n) e
  simp only [len]
  omega
theorem nthB_push (h : List Blk) (b : Blk) (id : Nat) (hn : id ≠ len h) : nthB (h ++ [b]) id = nthB h id := by
 by_cases hl : id < len h
 ·exact nthB_append h [b] id hl
 ·rw [nthB_ge h id (by omega), nthB_ge]
  rw [len_append]
  simp [len]
  omega
theorem nthB_putB_same : ∀ {h : List Blk} {id : Nat} {B : Blk} (C : Blk), nthB h id = some B → nthB (putB h id C) id = some C
 | [], _, _, _, e => by cases e
 | _ :: _, 0, _, _, _ => rfl
 | _ :: r, n + 1, B, C, e => nthB_putB_same (h := r) (id := n) C e
theorem nthB_putB_ne : ∀ (h : List Blk) (id j : Nat) (C : Blk), j ≠ id → nthB (putB h id C) j = nthB h j
 | [], _, _, _, _ => rfl
 | _ :: _, 0, 0, _, e => absurd rfl e
 | _ :: _, 0, _ + 1, _, _ => rfl
 | _ :: _, _ + 1, 0, _, _ => rfl
 | _ :: r, n + 1, j + 1, C, e => nthB_putB_ne r n j C (by omega)
theorem len_putB : ∀ (h : List Blk) (id : Nat) (C : Blk), len (putB h id C) = len h
 | [], _, _ => rfl
 | _ :: _, 0, _ => rfl
 | _ :: r, n + 1, C => by simp [putB, len, len_putB r n C]
theorem rep_cell {G : Gh} {w : World} : ∀ {p : PV} {v : Value}, cellB p = true → Reps G w p v → v.oneCell' = true
 | .v c, v, _, r => by
  simp only [Reps] at r
  cases c with
  | row l =>
   simp only [RepC] at r
   obtain ⟨A, c, rfl, _⟩ := r
   rfl
  | _ =>
   simp only [RepC] at r
   subst r
   rfl
 | .nil, v, _, r => by simp only [Reps] at r; subst r; rfl
 | .own _ _, v, _, r => by
  simp only [Reps] at r
  obtain ⟨_, _, _, _, _, r, _⟩ := r
  exact r
 | .ptr _ _, v, _, r => by
  simp only [Reps] at r
  obtain ⟨_, _, _, _, r, _⟩ := r
  exact r
 | .eptr _ _ _ _, v, _, r => by
  simp only [Reps] at r
  obtain ⟨_, _, _, _, r, _⟩ := r
  exact r
 | .rptr _, v, _, r => by
  simp only [Reps] at r
  obtain ⟨b, o, vs, ty, fr, rfl, _⟩ := r
  rfl
theorem rep_cells {G : Gh} {w : World} : ∀ {l : List PV} {vs : List Value}, cellsB l = true → RepsL G w l vs → ∀ v ∈ vs, v.oneCell' = true
 | [], vs, _, r, v, hv => by
  simp only [RepsL] at r
  subst r
  cases hv
 | p :: ps, vs, hb, r, v, hv => by
  simp only [RepsL] at r
  obtain ⟨u, us, rfl, r1, r2⟩ := r
  simp only [cellsB, Bool.and_eq_true] at hb
  rcases List.mem_cons.1 hv with rfl | hv
  ·exact rep_cell hb.1 r1
  ·exact rep_cells hb.2 r2 v hv
theorem cells_one {v : Value} (h : v.oneCell' = true) : v.cells = #[v] := by cases v <;> first | rfl | cases h
theorem pcells_ok {G : Gh} {w : World} {p : PV} {l : List PV} {v : Value} (h : pcells p = some l) (r : Reps G w p v) : RepsL G w l v.cells.toList ∧ ∀ u ∈ v.cells.toList, u.oneCell' = true := by
 have one : cellB p = true → pcells p = cond (cellB p) (some [p]) none → RepsL G w l v.cells.toList ∧ ∀ u ∈ v.cells.toList, u.oneCell' = true := fun hb he => by
  rw [hb] at he
  rw [h] at he
  injection he with he
  subst he
  have h1 := rep_cell hb r
  rw [cells_one h1]
  simp only [RepsL]
  exact ⟨⟨v, [], rfl, r, rfl⟩, by simpa using h1⟩
 cases p with
 | agg cs =>
  simp only [pcells] at h
  simp only [Reps] at r
  obtain ⟨vs, rfl, r⟩ := r
  cases hb : cellsB cs with
  | false => rw [hb] at h; cases h
  | true =>
   rw [hb] at h
   injection h with h
   subst h
   exact ⟨r, rep_cells hb r⟩
 | tup vs => simp [pcells, cellB] at h
 | un => simp [pcells, cellB] at h
 | _ => exact one rfl rfl
theorem range_of {w : World} {b o : Nat} {vs : Array Value} {ty : TypeId} {fr : Nat × Nat} (hb : w.heap[b]? = some (.cells vs ty fr)) (n : Nat) : w.rangeAt b o ((vs.toList.drop o).take n) := by
 intro j v hv
 rw [cell_of_row w b (o + j) vs ty fr hb]
 rw [List.getElem?_take] at hv
 split at hv
 ·rw [List.getElem?_drop] at hv
  simpa using hv
 ·cases hv
theorem run_load_agg {w : World} {b o t : Nat} {i : TI} {vs : Array Value} {ty : TypeId} {fr : Nat × Nat} (hf : TyFact E.P t i) (ha : i.k.isAgg = true) (hb : w.heap[b]? = some (.cells vs ty fr)) (hl : o + i.size ≤ vs.size) :
  (Instr.loadAt t (.pointer (some ⟨b, o, none⟩))).run E.P w = .ok (.agg ((vs.toList.drop o).take i.size).toArray) w := by
 have hr := range_of hb (o := o) i.size
 have hlen : ((vs.toList.drop o).take i.size).length = i.size := by
  rw [List.length_take, List.length_drop, Array.length_toList]
  omega
 have hc := run_loadCells_list (P := E.P) w ⟨b, o, none⟩ _ (fun j v hv => by rw [Addr.add_mid]; exact hr j v hv)
 rw [hlen] at hc
 have h1 := hf.isAgg w
 rw [ha] at h1
 simp [Instr.loadAt, Instr.sureAddr, loadVar, h1, hf.sizeOf w, hc]
theorem run_load_one {w : World} {b o t : Nat} {i : TI} {vs : Array Value} {ty : TypeId} {fr : Nat × Nat} {v : Value} (hf : TyFact E.P t i) (ha : i.k.isAgg = false) (hb : w.heap[b]? = some (.cells vs ty fr)) (hv : vs.toList[o]? = some v) :
  (Instr.loadAt t (.pointer (some ⟨b, o, none⟩))).run E.P w = .ok v w := by
 have h1 := hf.isAgg w
 rw [ha] at h1
 have hc : w.cell? ⟨b, o, none⟩ = some v := by rw [cell_of_row w b o vs ty fr hb]; simpa using hv
 simp [Instr.loadAt, Instr.sureAddr, loadVar, h1, load, Sem.run, hc]
theorem RelB.box_at {G : Gh} {w : World} {id : Nat} {ty : TypeId} {cs : List PV} (r : RelB G w id (some (.box ty cs))) {o : Nat} {v : Value} (p : Reps G w (.ptr id o) v) :
  ∃ b vs, v = .pointer (some ⟨b, o, none⟩) ∧ G.own b = some id ∧ w.heap[b]? = some (.cells vs ty (0, 0)) ∧ (∀ u ∈ vs.toList, u.oneCell' = true) ∧ RepsL G w cs vs.toList := by
 obtain ⟨r1, r2, b, vs, r3, r4, r5, r6⟩ := r
 simp only [Reps] at p
 obtain ⟨sz, m, f, p1, _, p2⟩ := p
 rw [r1] at p1
 injection p1 with p1
 injection p1 with p1 p3
 injection p3 with p3 p4
 subst p3
 rcases p2 with p2 | ⟨_, b', p5, p6⟩
 ·omega
 ·have := r2 b' b p6.1 r3.1
  subst this
  exact ⟨b', vs, by simpa using p5, r3.1, r4, r5, r6⟩
theorem RelB.arr_at {G : Gh} {w : World} {id sz n e o : Nat} {ty : TypeId} {fz : Bool} {els : List (List CV)} (r : RelB G w id (some (.arr sz ty fz els))) (hn : n = els.length) (he : e < n) {v : Value} (p : Reps G w (.eptr id n e o) v) :
  ∃ b cs, v = .pointer (some ⟨b, e * sz + o, none⟩) ∧ G.own b = some id ∧ w.heap[b]? = some (.cells cs ty (0, 0)) ∧ els.length * sz ≤ cs.size ∧ RepE G.imm w sz els cs.toList := by
 obtain ⟨r1, r2, r3, r4⟩ := r
 simp only [Reps] at p
 obtain ⟨sz', m, f, p1, _, p2⟩ := p
 rw [r1] at p1
 injection p1 with p1
 injection p1 with p1 p3
 injection p3 with p3 p4
 subst p1 p3
 rcases p2 with p2 | ⟨_, b', p5, p6⟩
 ·omega
 ·rcases r4 with ⟨r5, r6⟩ | ⟨b, cs, r5, r6, r7, r8⟩
  ·exact absurd p6.1 (r6 b')
  ·have := r3 b' b p6.1 r5.1
   subst this
   exact ⟨b', cs, p5, r5.1, r6, r7, r8⟩
theorem RelB.top_box {G : Gh} {w : World} {id : Nat} {ty : TypeId} {cs : List PV} (r : RelB G w id (some (.box ty cs))) {b : Nat} (h : G.own b = some id) : G.top b := by
 obtain ⟨_, r2, b0, vs, r3, _⟩ := r
 rw [r2 b b0 h r3.1]
 exact r3.2
theorem RelB.top_arr {G : Gh} {w : World} {id sz : Nat} {ty : TypeId} {fz : Bool} {els : List (List CV)} (r : RelB G w id (some (.arr sz ty fz els))) {b : Nat} (h : G.own b = some id) : G.top b := by
 obtain ⟨_, _, r2, r3⟩ := r
 rcases r3 with ⟨_, r3⟩ | ⟨b0, cs, r3, _⟩
 ·exact absurd h (r3 b)
 ·rw [r2 b b0 h r3.1]
  exact r3.2
theorem load_r {t : Nat} {p : PV} (hk : aLoad E h t p K) : RStep E.P h (fun G w m => ∃ v, Reps G w p v ∧ m = Instr.loadAt t v) K := by
 unfold aLoad at hk
 cases hl : look E.T t with
 | none => rw [hl] at hk; exact hk.elim
 | some i =>
  rw [hl] at hk
  simp only at hk
  have hf := Env.fact hl
  cases p with
  | ptr id o =>
   simp only at hk
   cases hb : nthB h id with
   | none => rw [hb] at hk; exact hk.elim
   | some B =>
    rw [hb] at hk
    cases B with
    | arr sz ty fz els => exact hk.elim
    | tree _ _ _ _ => exact hk.elim
    | junk => exact hk.elim
    | box ty cs =>
     simp only at hk
     cases ha : i.k.isAgg with
     | true =>
      rw [ha, cond_true] at hk
      obtain ⟨hk1, hk⟩ := hk
      refine RStep.reads hk fun G w m hi hm hr => ?_
      obtain ⟨v, hv, rfl⟩ := hm
      have r := hr id (by simp)
      rw [hb] at r
      obtain ⟨b, vs, rfl, _, h2, _, h4⟩ := r.box_at hv
      have hlen := h4.length
      rw [Array.length_toList] at hlen
      refine ⟨_, run_load_agg hf ha h2 (by omega), ?_⟩
      simp only [Reps]
      exact ⟨_, rfl, (h4.drop o).take i.size⟩
     | false =>
      rw [ha, cond_false] at hk
      obtain ⟨hk1, hk⟩ := hk
      refine RStep.reads hk fun G w m hi hm hr => ?_
      obtain ⟨v, hv, rfl⟩ := hm
      have r := hr id (by simp)
      rw [hb] at r
      obtain ⟨b, vs, rfl, _, h2, _, h4⟩ := r.box_at hv
      obtain ⟨u, h5, h6⟩ := h4.nth o hk1
      exact ⟨u, run_load_one hf ha h2 h5, h6⟩
  | eptr id n e o =>
   simp only at hk
   cases hb : nthB h id with
   | none => rw [hb] at hk; exact hk.elim
   | some B =>
    rw [hb] at hk
    cases B with
    | box ty cs => exact hk.elim
    | tree _ _ _ _ => exact hk.elim
    | junk => exact hk.elim
    | arr sz ty fz els =>
     simp only at hk
     obtain ⟨hn, el, hel, hk⟩ := hk
     have hlt : e < n := by rw [hn]; exact (List.getElem?_eq_some_iff.1 hel).1
     cases ha : i.k.isAgg with
     | true =>
      rw [ha, cond_true] at hk
      obtain ⟨hk1, hk⟩ := hk
      refine RStep.reads hk fun G w m hi hm hr => ?_
      obtain ⟨v, hv, rfl⟩ := hm
      have r := hr id (by simp)
      rw [hb] at r
      obtain ⟨b, cs, rfl, _, h2, h3, h4⟩ := r.arr_at hn hlt hv
      obtain ⟨h5, h6⟩ := h4.at e el hel
      have h7 := (RepP.take i.size (h6.drop o)).all
      have h8 := h6.len
      rw [List.length_drop, Array.length_toList (xs := cs)] at h8
      have h8b : e * sz + sz ≤ els.length * sz := by rw [← Nat.succ_mul]; exact Nat.mul_le_mul_right _ (by omega)
      have h9 : e * sz + o + i.size ≤ cs.size := by omega
      refine ⟨_, run_load_agg hf ha h2 h9, ?_⟩
      simp only [Reps]
      refine ⟨_, rfl, ?_⟩
      rw [List.drop_drop, List.take_take] at h7
      have h10 : ((el.drop o).take i.size).length = i.size := by rw [List.length_take, List.length_drop]; omega
      rw [h10, Nat.min_self] at h7
      exact h7
     | false =>
      rw [ha, cond_false] at hk
      split at hk
      rotate_left
      ·exact hk.elim
      rename_i c cr h8
      refine RStep.reads hk fun G w m hi hm hr => ?_
      obtain ⟨v, hv, rfl⟩ := hm
      have r := hr id (by simp)
      rw [hb] at r
      obtain ⟨b, cs, rfl, _, h2, h3, h4⟩ := r.arr_at hn hlt hv
      obtain ⟨h5, h6⟩ := h4.at e el hel
      have h7 := h6.drop o
      rw [h8] at h7
      simp only [RepP] at h7
      obtain ⟨u, us, h11, h12, _⟩ := h7
      refine ⟨u, run_load_one hf ha h2 ?_, h12⟩
      rw [List.drop_drop] at h11
      have := congrArg (fun l => l[0]?) h11
      simpa using this
  | rptr cs =>
   simp only at hk
   cases ha : i.k.isAgg with
   | true =>
    rw [ha, cond_true] at hk
    obtain ⟨hk1, hk⟩ := hk
    refine RStep.pure hk fun G w m hi hm => ?_
    obtain ⟨v, hv, rfl⟩ := hm
    simp only [Reps] at hv
    obtain ⟨b, o, vs, ty, fr, rfl, _, h2, h3⟩ := hv
    have h7 := (RepP.take i.size h3).all
    have h8 := h3.len
    rw [List.length_drop, Array.length_toList (xs := vs)] at h8
    refine ⟨_, run_load_agg hf ha h2 (by omega), ?_⟩
    simp only [Reps]
    refine ⟨_, rfl, ?_⟩
    rw [List.take_take] at h7
    have h10 : (cs.take i.size).length = i.size := by rw [List.length_take]; omega
    rw [h10, Nat.min_self] at h7
    exact h7
   | false =>
    rw [ha, cond_false] at hk
    split at hk
    rotate_left
    ·exact hk.elim
    rename_i c cr
    refine RStep.pure hk fun G w m hi hm => ?_
    obtain ⟨v, hv, rfl⟩ := hm
    simp only [Reps] at hv
    obtain ⟨b, o, vs, ty, fr, rfl, _, h2, h3⟩ := hv
    simp only [RepP] at h3
    obtain ⟨u, us, h11, h12, _⟩ := h3
    refine ⟨u, run_load_one hf ha h2 ?_, h12⟩
    have := congrArg (fun l => l[0]?) h11
    simpa using this
  | _ => exact hk.elim
theorem load_ok {t : Nat} {p : PV} (hk : aLoad E h t p K) : Step E.P h (fun G w m => ∃ v, Reps G w p v ∧ m = Instr.loadAt t v) K := (load_r hk).step
end
end Go.Proofs.YthkepmicdpgbbaaGreatDoor.E

namespace Go.Proofs.YthkepmicdpgbbaaGreatDoor.E
open Go Go.RowKit Go.Proofs.YthkepmicdpgbbaaGreatDoorW.PrintWords
set_option linter.unusedVariables false
set_option linter.unusedSimpArgs false
section
variable {E : Env} {h : List Blk} {K : Kont}
theorem imm_old {ids : List Nat} {G G' : Gh} {w w' : World} (x : Ext ids G w G' w') (hi : Inv G w) : ∀ b o, w.heap[b]? = some o → G.imm b → G'.imm b ∧ w'.heap[b]? = some o := fun b o => imm_ext x hi
theorem new_box {G : Gh} {w : World} (hi : Inv G w) {id : Nat} (h0 : RelB G w id none) {cs : List PV} {vs : Array Value} {ty : TypeId} (hr : RepsL G w cs vs.toList) (h1 : ∀ u ∈ vs.toList, u.oneCell' = true) :
  Ext [id] G w (G.put w.heap.size id (cs.length, 1, false)) (w.alloc (.cells vs ty)) ∧ Reps (G.put w.heap.size id (cs.length, 1, false)) (w.alloc (.cells vs ty)) (.ptr id 0) (.pointer (some ⟨w.heap.size, 0, none⟩)) ∧
   RelB (G.put w.heap.size id (cs.length, 1, false)) (w.alloc (.cells vs ty)) id (some (.box ty cs)) := by
 have x := ext_alloc hi id (cs.length, 1, false) h0 (.cells vs ty)
 refine ⟨x, ?_, put_inf _ _ _ _, put_uniq h0 _ _, w.heap.size, vs, ⟨put_own _ _ _ _, hi.top _ (Nat.le_refl _)⟩, heap_alloc_new w _, h1, RepsL.ext x hi _ _ hr⟩
 simp only [Reps]
 exact ⟨_, _, _, put_inf _ _ _ _, rfl, .inr ⟨rfl, w.heap.size, by simp, put_own _ _ _ _, hi.top _ (Nat.le_refl _)⟩⟩
theorem new_arr {G : Gh} {w : World} (hi : Inv G w) {id sz cap : Nat} (hsz : 0 < sz) (h0 : RelB G w id none) {els : List (List CV)} {vs : Array Value} {ty : TypeId} (hr : RepE G.imm w sz els vs.toList) (hv : vs.size = cap * sz) (hl : els.length ≤ cap) (hc : cap ≤ maxLen) :
  Ext [id] G w (G.put w.heap.size id (sz, els.length, false)) (w.alloc (.cells vs ty)) ∧ Reps (G.put w.heap.size id (sz, els.length, false)) (w.alloc (.cells vs ty)) (.own id els.length) (.slice (some ⟨w.heap.size, 0, none⟩) els.length cap) ∧
   RelB (G.put w.heap.size id (sz, els.length, false)) (w.alloc (.cells vs ty)) id (some (.arr sz ty false els)) := by
 have x := ext_alloc hi id (sz, els.length, false) h0 (.cells vs ty)
 refine ⟨x, ?_, put_inf _ _ _ _, hsz, put_uniq h0 _ _, .inr ⟨w.heap.size, vs, ⟨put_own _ _ _ _, hi.top _ (Nat.le_refl _)⟩, heap_alloc_new w _, ?_, RepE.mono (imm_old x hi) sz els _ hr⟩⟩
 ·simp only [Reps]
  exact ⟨_, _, _, put_inf _ _ _ _, hsz, rfl, .inr ⟨rfl, .inr ⟨w.heap.size, cap, vs, ty, rfl, ⟨put_own _ _ _ _, hi.top _ (Nat.le_refl _)⟩, heap_alloc_new w _, hv, hl, hc⟩⟩⟩
 ·rw [hv]
  exact Nat.mul_le_mul_right _ hl
theorem keeps_push (h : List Blk) (B : Blk) : Keeps h (h ++ [B]) [len h] := fun id hn => nthB_push h B id (by simpa using hn)
theorem len_push (h : List Blk) (B : Blk) : len h ≤ len (h ++ [B]) := by rw [len_append]; omega
theorem none_at (h : List Blk) {G : Gh} {w : World} (hr : RelB G w (len h) (nthB h (len h))) : RelB G w (len h) none := by rw [nthB_ge h _ (Nat.le_refl _)] at hr; exact hr
theorem box_ok {t : Nat} {x : PV} (hk : aBox h t x K) : Step E.P h (fun G w m => ∃ v, Reps G w x v ∧ m = Instr.box t v) K := by
 unfold aBox at hk
 cases hc : pcells x with
 | none => rw [hc] at hk; exact hk.elim
 | some cs =>
  rw [hc] at hk
  refine ⟨_, _, _, _, hk, keeps_push h _, len_push h _, fun G w m hi hm hr => ?_⟩
  obtain ⟨v, hv, rfl⟩ := hm
  obtain ⟨h1, h2⟩ := pcells_ok hc hv
  obtain ⟨x1, x2, x3⟩ := new_box hi (none_at h (hr (len h) (by simp))) (ty := t) h1 h2
  refine ⟨_, _, _, ?_, x1, x2, fun id hid => ?_⟩
  ·rfl
  ·simp only [List.mem_singleton] at hid
   subst hid
   rw [nthB_new]
   exact x3
theorem ofV1_ok (G : Gh) (w : World) : ∀ v : Value, Reps G w (ofV1 v) v := by
 intro v
 unfold ofV1
 split <;> simp [Reps, RepC]
theorem ofV1_map (G : Gh) (w : World) : ∀ l : List Value, RepsL G w (l.map ofV1) l
 | [] => by simp [RepsL]
 | v :: r => by
  simp only [List.map_cons, RepsL]
  exact ⟨v, r, rfl, ofV1_ok G w v, ofV1_map G w r⟩
theorem ofV_ok (G : Gh) (w : World) (v : Value) : Reps G w (ofV v) v := by
 unfold ofV
 split
 ·simp only [Reps]
  exact ⟨_, rfl, ofV1_map G w _⟩
 ·exact ofV1_ok G w v
theorem alloc_ok {t : Nat} (hk : aAlloc E h t K) : Step E.P h (fun G w m => m = Instr.alloc t true (.tuple #[])) K := by
 unfold aAlloc at hk
 cases hl : look E.T t with
 | none => rw [hl] at hk; exact hk.elim
 | some i =>
  rw [hl] at hk
  simp only at hk
  cases hc : pcells (ofV i.zero) with
  | none => rw [hc] at hk; exact hk.elim
  | some cs =>
   rw [hc] at hk
   refine ⟨_, _, _, _, hk, keeps_push h _, len_push h _, fun G w m hi hm hr => ?_⟩
   subst hm
   obtain ⟨h1, h2⟩ := pcells_ok hc (ofV_ok G w i.zero)
   obtain ⟨x1, x2, x3⟩ := new_box hi (none_at h (hr (len h) (by simp))) (ty := t) h1 h2
   refine ⟨_, _, _, ?_, x1, x2, fun id hid => ?_⟩
   ·unfold Instr.alloc
    rw [Sem.run_bind, (Env.fact hl).zeroOf w]
    rfl
   ·simp only [List.mem_singleton] at hid
    subst hid
    rw [nthB_new]
    exact x3
theorem Blk.freeze_freeze (B : Blk) : B.freeze.freeze = B.freeze := by cases B <;> rfl
theorem nthB_frz1 (h : List Blk) (a id : Nat) : nthB (frz1 h a) id = if id = a then (nthB h id).map Blk.freeze else nthB h id := by
 unfold frz1
 cases ha : nthB h a with
 | none =>
  by_cases e : id = a
  ·subst e
   simp [ha]
  ·simp [e]
 | some B =>
  by_cases e : id = a
  ·subst e
   simp [ha, nthB_putB_same B.freeze ha]
  ·simp [e, nthB_putB_ne h a id _ e]
theorem nthB_frz : ∀ (f : List Nat) (h : List Blk) (id : Nat), nthB (frz f h) id = if id ∈ f then (nthB h id).map Blk.freeze else nthB h id
 | [], h, id => by simp [frz]
 | a :: r, h, id => by
  simp only [frz]
  rw [nthB_frz r _ id, nthB_frz1]
  by_cases e : id = a
  ·subst e
   by_cases m : id ∈ r
   ·simp only [if_pos m, List.mem_cons, true_or, if_true]
    cases nthB h id <;> simp [Blk.freeze_freeze]
   ·simp [m]
  ·by_cases m : id ∈ r <;> simp [e, m]
theorem len_frz : ∀ (f : List Nat) (h : List Blk), len (frz f h) = len h
 | [], h => rfl
 | a :: r, h => by
  simp only [frz]
  rw [len_frz r]
  unfold frz1
  cases nthB h a with
  | none => rfl
  | some B => exact len_putB h a _
def IsArr : Option Blk → Prop
 | some (.arr _ _ _ _) => True
 | _ => False
theorem frz_rel {G : Gh} {w : World} (hi : Inv G w) {f : List Nat} (hr : ∀ id ∈ f, RelB G w id (nthB h id)) (ha : ∀ id ∈ f, IsArr (nthB h id)) : ∀ id ∈ f, RelB (G.frz f) w id (nthB (frz f h) id) := by
 intro id hid
 rw [nthB_frz, if_pos hid]
 have r := hr id hid
 have a := ha id hid
 cases hb : nthB h id with
 | none => rw [hb] at a; exact a.elim
 | some B =>
  rw [hb] at a r
  cases B with
  | box _ _ => exact a.elim
  | tree _ _ _ _ => exact a.elim
  | junk => exact a.elim
  | arr sz ty fz els =>
   obtain ⟨r1, r2, r3, r4⟩ := r
   refine ⟨by simp [Gh.frz, hid, r1], r2, r3, ?_⟩
   rcases r4 with r4 | ⟨b, cs, r5, r6, r7, r8⟩
   ·exact .inl r4
   ·exact .inr ⟨b, cs, r5, r6, r7, RepE.mono (imm_old (ext_frz hi f) hi) sz els _ r8⟩
theorem own_row {G : Gh} {w : World} {id n sz : Nat} {ty : TypeId} {fz : Bool} {els : List (List CV)} {v : Value} {I : Nat → Prop} (hI : ∀ b o, w.heap[b]? = some o → G.imm b → I b) (hb : ∀ b, G.own b = some id → I b)
  (r : RelB G w id (some (.arr sz ty fz els))) (hn : n = els.length) (p : Reps G w (.own id n) v) : RepC I w (.row els) v := by
 obtain ⟨r1, r2, r3, r4⟩ := r
 simp only [Reps] at p
 obtain ⟨sz', m, f, p1, _, _, p2⟩ := p
 rw [r1] at p1
 injection p1 with p1
 injection p1 with p1 p3
 injection p3 with p3 p4
 subst p1 p3
 simp only [RepC]
 rcases p2 with p2 | ⟨_, p2⟩
 ·omega
 ·rcases p2 with ⟨rfl, p2⟩ | ⟨b, c, cs, ty', rfl, p5, p6, p7, p8, p9⟩
  ·have : els = [] := List.eq_nil_of_length_eq_zero (by omega)
   subst this
   exact ⟨none, 0, by simp, by simp, by simp [maxLen], .inl rfl⟩
  ·refine ⟨some ⟨b, 0, none⟩, c, by rw [hn], by omega, Nat.le_trans (by omega) p9, ?_⟩
   rcases r4 with ⟨r5, _⟩ | ⟨b', cs', r5, r6, r7, r8⟩
   ·exact .inl r5
   ·have := r3 b b' p5.1 r5.1
    subst this
    refine .inr ⟨b, 0, sz, cs', ty, (0, 0), rfl, hb b p5.1, r6, r2, ?_⟩
    simpa using RepE.mono (fun x o h1 h2 => ⟨hI x o h1 h2, h1⟩) sz els _ r8
theorem toCs_ok : ∀ {ps : List PV} {R : List CV → List Nat → Prop}, toCs h ps R → ∃ cvs f, R cvs f ∧ (∀ id ∈ f, IsArr (nthB h id)) ∧ cvs.length = ps.length ∧
  ∀ (G : Gh) (w : World) (vs : List Value) (F : List Nat), Inv G w → RepsL G w ps vs → (∀ id ∈ f, RelB G w id (nthB h id)) → (∀ id ∈ f, id ∈ F) → RepP (G.frz F).imm w cvs vs
 | [], R, hk => by
  simp only [toCs] at hk
  exact ⟨[], [], hk, fun id hid => (by cases hid), rfl, fun G w vs F _ hr _ _ => by simp [RepP]⟩
 | .v c :: ps, R, hk => by
  simp only [toCs] at hk
  obtain ⟨cvs, f, h1, h2, h3, h4⟩ := toCs_ok hk
  refine ⟨_, _, h1, h2, by simp [h3], fun G w vs F hi hr hf hF => ?_⟩
  simp only [RepsL, Reps] at hr
  obtain ⟨v, vs', rfl, h5, h6⟩ := hr
  simp only [RepP]
  exact ⟨v, vs', rfl, RepC.mono (imm_old (ext_frz hi F) hi) c v h5, h4 G w vs' F hi h6 hf hF⟩
 | .nil :: ps, R, hk => by
  simp only [toCs] at hk
  obtain ⟨cvs, f, h1, h2, h3, h4⟩ := toCs_ok hk
  refine ⟨_, _, h1, h2, by simp [h3], fun G w vs F hi hr hf hF => ?_⟩
  simp only [RepsL, Reps] at hr
  obtain ⟨v, vs', rfl, rfl, h6⟩ := hr
  simp only [RepP, RepC]
  exact ⟨_, vs', rfl, ⟨none, 0, by simp, by simp, by simp [maxLen], by simp⟩, h4 G w vs' F hi h6 hf hF⟩
 | .own id n :: ps, R, hk => by
  simp only [toCs] at hk
  cases hb : nthB h id with
  | none => rw [hb] at hk; exact hk.elim
  | some B =>
   rw [hb] at hk
   cases B with
   | box _ _ => exact hk.elim
   | tree _ _ _ _ => exact hk.elim
   | junk => exact hk.elim
   | arr sz ty fz els =>
    simp only at hk
    obtain ⟨hn, hk⟩ := hk
    obtain ⟨cvs, f, h1, h2, h3, h4⟩ := toCs_ok hk
    refine ⟨_, _, h1, ?_, by simp [h3], fun G w vs F hi hr hf hF => ?_⟩
    ·intro j hj
     rcases List.mem_cons.1 hj with rfl | hj
     ·rw [hb]; trivial
     ·exact h2 j hj
    ·simp only [RepsL] at hr
     obtain ⟨v, vs', rfl, h5, h6⟩ := hr
     simp only [RepP]
     have r := hf id (by simp)
     rw [hb] at r
     refine ⟨v, vs', rfl, own_row (fun b o h1 h2 => (imm_old (ext_frz hi F) hi b o h1 h2).1) (fun b hb' => ?_) r hn h5, h4 G w vs' F hi h6 (fun j hj => hf j (by simp [hj])) (fun j hj => hF j (by simp [hj]))⟩
     refine .inr (.inr ⟨id, sz, els.length, hb', ?_⟩)
     simp only [Gh.frz]
     rw [if_pos (hF id (by simp)), r.1]
     rfl
 | .ptr _ _ :: _, _, hk => by simp only [toCs] at hk
 | .eptr _ _ _ _ :: _, _, hk => by simp only [toCs] at hk
 | .rptr _ :: _, _, hk => by simp only [toCs] at hk
 | .agg _ :: _, _, hk => by simp only [toCs] at hk
 | .tup _ :: _, _, hk => by simp only [toCs] at hk
 | .un :: _, _, hk => by simp only [toCs] at hk
end
end Go.Proofs.YthkepmicdpgbbaaGreatDoor.E

namespace Go.Proofs.YthkepmicdpgbbaaGreatDoor.E
open Go Go.RowKit Go.Proofs.YthkepmicdpgbbaaGreatDoorW.PrintWords
set_option linter.unusedVariables false
set_option linter.unusedSimpArgs false
section
variable {G G' : Gh} {w w' : World} {id : Nat} {ty2 : TypeId}
theorem TrP.append : ∀ {l k : List CV} {vs us : List Value}, TrP G w id ty2 l vs → vs.length = l.length → TrP G w id ty2 k us → TrP G w id ty2 (l ++ k) (vs ++ us)
 | [], k, vs, us, _, hl, h => by
  have : vs = [] := List.eq_nil_of_length_eq_zero (by simpa using hl)
  subst this
  simpa using h
 | p :: ps, k, vs, us, h, hl, hk => by
  simp only [TrP] at h
  obtain ⟨v, vs', rfl, h1, h2⟩ := h
  simp only [List.cons_append, TrP]
  exact ⟨v, vs' ++ us, rfl, h1, TrP.append h2 (by simpa using hl) hk⟩
theorem TrP.len : ∀ {l : List CV} {vs : List Value}, TrP G w id ty2 l vs → l.length ≤ vs.length
 | [], _, _ => by simp
 | p :: ps, vs, h => by
  simp only [TrP] at h
  obtain ⟨v, vs', rfl, _, h2⟩ := h
  simpa using TrP.len h2
theorem TrP.split : ∀ {l k : List CV} {vs : List Value}, TrP G w id ty2 (l ++ k) vs → TrP G w id ty2 l (vs.take l.length) ∧ TrP G w id ty2 k (vs.drop l.length)
 | [], k, vs, h => by simpa [TrP] using h
 | p :: ps, k, vs, h => by
  simp only [List.cons_append, TrP] at h
  obtain ⟨v, vs', rfl, h1, h2⟩ := h
  obtain ⟨a, b⟩ := TrP.split h2
  refine ⟨?_, by simpa using b⟩
  simp only [List.length_cons, List.take_succ_cons, TrP]
  exact ⟨v, _, rfl, h1, a⟩
theorem TrP.keep : ∀ {l : List CV} {vs us : List Value}, TrP G w id ty2 l vs → us.take l.length = vs.take l.length → TrP G w id ty2 l us
 | [], _, _, _, _ => by simp [TrP]
 | p :: ps, vs, us, h, e => by
  simp only [TrP] at h
  obtain ⟨v, vs', rfl, h1, h2⟩ := h
  cases us with
  | nil => simp at e
  | cons u us' =>
   simp only [List.length_cons, List.take_succ_cons, List.cons.injEq] at e
   simp only [TrP]
   exact ⟨u, us', rfl, by rw [e.1]; exact h1, TrP.keep h2 e.2⟩
theorem blkP_append : ∀ {l k : List CV} {vs us : List Value}, vs.length = l.length → blkP (l ++ k) (vs ++ us) = blkP l vs ++ blkP k us
 | [], k, vs, us, hl => by
  have : vs = [] := List.eq_nil_of_length_eq_zero (by simpa using hl)
  subst this
  simp [blkP]
 | p :: ps, k, [], us, hl => by simp at hl
 | p :: ps, k, v :: vs, us, hl => by simp [blkP, blkP_append (l := ps) (vs := vs) (by simpa using hl)]
theorem blkP_keep : ∀ {l : List CV} {vs us : List Value}, us.take l.length = vs.take l.length → blkP l us = blkP l vs
 | [], _, _, _ => by simp [blkP]
 | p :: ps, [], us, e => by
  cases us with
  | nil => rfl
  | cons u us => simp at e
 | p :: ps, v :: vs, us, e => by
  cases us with
  | nil => simp at e
  | cons u us =>
   simp only [List.length_cons, List.take_succ_cons, List.cons.injEq] at e
   simp only [blkP]
   rw [e.1, blkP_keep e.2]
theorem blkC_own : ∀ {c : CV} {v : Value}, TrC G w id ty2 c v → ∀ b ∈ blkC c v, G.own b = some id
 | .b _, v, _, b, hb => by simp [blkC] at hb
 | .i _ _, v, _, b, hb => by simp [blkC] at hb
 | .s _, v, _, b, hb => by simp [blkC] at hb
 | .row l, v, h, b, hb => by
  simp only [TrC] at h
  rcases h with ⟨rfl, rfl⟩ | ⟨b', c, cs, rfl, h2, _⟩
  ·simp [blkC] at hb
  ·simp only [blkC, List.mem_singleton] at hb
   subst hb
   exact h2
theorem blkP_own : ∀ {l : List CV} {vs : List Value}, TrP G w id ty2 l vs → ∀ b ∈ blkP l vs, G.own b = some id
 | [], vs, _, b, hb => by simp [blkP] at hb
 | p :: ps, vs, h, b, hb => by
  simp only [TrP] at h
  obtain ⟨v, vs', rfl, h1, h2⟩ := h
  simp only [blkP, List.mem_append] at hb
  rcases hb with hb | hb
  ·exact blkC_own h1 b hb
  ·exact blkP_own h2 b hb
theorem TrP.one : ∀ {l : List CV} {vs : List Value}, TrP G w id ty2 l vs → ∀ u ∈ vs.take l.length, u.oneCell' = true
 | [], vs, _, u, hu => by simp at hu
 | p :: ps, vs, h, u, hu => by
  simp only [TrP] at h
  obtain ⟨v, vs', rfl, h1, h2⟩ := h
  simp only [List.length_cons, List.take_succ_cons, List.mem_cons] at hu
  rcases hu with rfl | hu
  ·cases p with
   | row l =>
    simp only [TrC] at h1
    rcases h1 with ⟨rfl, rfl⟩ | ⟨b', c, cs, rfl, _⟩ <;> rfl
   | _ =>
    simp only [TrC] at h1
    subst h1
    rfl
  ·exact TrP.one h2 u hu
theorem InnR.rep {I : Nat → Prop} (hI : ∀ b, G.own b = some id → I b) {l : List (List CV)} {v : Value} (r : InnR G w id ty2 l v) : RepC I w (.row l) v := by
 simp only [RepC]
 rcases r with ⟨rfl, rfl⟩ | ⟨b, c, cs, rfl, h2, h3, h4, h5, h6, h7, h8⟩
 ·exact ⟨none, 0, by simp, by simp, by simp [maxLen], .inl rfl⟩
 ·exact ⟨some ⟨b, 0, none⟩, c, rfl, h6, Nat.le_trans h6 h7, .inr ⟨b, 0, 1, cs, ty2, (0, 0), rfl, hI b h2, h4, Nat.one_pos, by simpa using RepE.mono (fun _ _ _ e => e.elim) 1 l _ h8⟩⟩
theorem TrP.rep {I : Nat → Prop} (hI : ∀ b, G.own b = some id → I b) : ∀ {l : List CV} {vs : List Value}, TrP G w id ty2 l vs → RepP I w l vs
 | [], _, _ => by simp [RepP]
 | p :: ps, vs, h => by
  simp only [TrP] at h
  obtain ⟨v, vs', rfl, h1, h2⟩ := h
  simp only [RepP]
  refine ⟨v, vs', rfl, ?_, TrP.rep hI h2⟩
  cases p with
  | row l => exact InnR.rep hI h1
  | _ => simpa only [TrC, RepC] using h1
theorem TrP.repE {I : Nat → Prop} (hI : ∀ b, G.own b = some id → I b) {sz : Nat} : ∀ {els : List (List CV)} {vs : List Value}, (∀ x ∈ els, x.length = sz) → TrP G w id ty2 els.flatten vs → RepE I w sz els vs
 | [], _, _, _ => by simp [RepE]
 | e :: es, vs, hs, h => by
  rw [List.flatten_cons] at h
  obtain ⟨h1, h2⟩ := h.split
  have he := hs e (by simp)
  simp only [RepE]
  refine ⟨he, (TrP.rep hI h1).of_take _, ?_⟩
  rw [he] at h2
  exact TrP.repE hI (fun x hx => hs x (by simp [hx])) h2
theorem flatten_len {sz : Nat} : ∀ {els : List (List CV)}, (∀ x ∈ els, x.length = sz) → els.flatten.length = els.length * sz
 | [], _ => by simp
 | e :: es, hs => by
  rw [List.flatten_cons, List.length_append, flatten_len (fun x hx => hs x (by simp [hx])), hs e (by simp), List.length_cons, Nat.add_mul]
  omega
theorem flatten_set {sz : Nat} : ∀ {els : List (List CV)} {e : Nat} {el : List CV} (y : List CV), (∀ x ∈ els, x.length = sz) → els[e]? = some el → (els.set e y).flatten = els.flatten.take (e * sz) ++ y ++ els.flatten.drop (e * sz + sz)
 | [], e, el, y, _, h => by simp at h
 | x :: es, 0, el, y, hs, h => by
  have hx := hs x (by simp)
  simp only [List.set_cons_zero, List.flatten_cons, Nat.zero_mul, List.take_zero, List.nil_append, Nat.zero_add]
  rw [List.drop_append_of_le_length (by omega), ← hx, List.drop_length]
  simp
 | x :: es, e + 1, el, y, hs, h => by
  have hx := hs x (by simp)
  have ih := flatten_set (els := es) (e := e) (el := el) y (fun z hz => hs z (by simp [hz])) (by simpa using h)
  simp only [List.set_cons_succ, List.flatten_cons, ih]
  have e1 : (e + 1) * sz = x.length + e * sz := by rw [Nat.add_mul, hx]; omega
  rw [e1, List.take_append_of_le_length (l₁ := x) (l₂ := es.flatten) (i := x.length + e * sz) |> fun _ => (by
   rw [List.take_length_add_append] : (x ++ es.flatten).take (x.length + e * sz) = x ++ es.flatten.take (e * sz))]
  rw [Nat.add_assoc, List.drop_length_add_append]
  simp
def Gh.absorb (G : Gh) (a d : Nat) : Gh :=
 {G with own := fun x => if G.own x = some a then some d else G.own x, top := fun x => G.own x ≠ some a ∧ G.top x, inf := fun x => if x = a then (G.inf a).map (fun r => (r.1, r.2.1 + 1, r.2.2)) else G.inf x }
theorem ext_absorb (hi : Inv G w) {a d sz n : Nat} (ha : G.inf a = some (sz, n, false)) (hne : a ≠ d) : Ext [d, a] G w (G.absorb a d) w where
 os := rfl
 tape := rfl
 output := rfl
 size := Nat.le_refl _
 base := rfl
 old := rfl
 nn := fun b _ h => ⟨by simp [Gh.absorb, h], rfl⟩
 sm := fun b i h => by
  by_cases e : i = a
  ·subst e
   exact ⟨fun hn => absurd (by simp) hn, .inr (.inr ⟨by simp, d, by simp, by simp [Gh.absorb, h], by simp [Gh.absorb, h]⟩)⟩
  ·have : (G.absorb a d).own b = some i := by
    simp only [Gh.absorb]
    rw [if_neg (by rw [h]; simpa using e)]
    exact h
   exact ⟨fun _ => ⟨this, rfl⟩, .inl this⟩
 same := fun b i cs ty _ _ _ h => ⟨cs, h, rfl⟩
 fz := fun b i s k h hf => by
  have e : i ≠ a := fun e => by subst e; rw [ha] at hf; cases hf
  refine ⟨?_, rfl⟩
  simp only [Gh.absorb]
  rw [if_neg (by rw [h]; simpa using e)]
  exact h
 inf := fun i s k f hf => by
  by_cases e : i = a
  ·subst e
   rw [ha] at hf
   cases hf
   exact ⟨n + 1, false, by simp [Gh.absorb, ha], by omega, (fun e => by cases e), fun e => by omega⟩
  ·refine ⟨k, f, by simp [Gh.absorb, e, hf], Nat.le_refl _, fun e => ⟨e, rfl⟩, fun _ b hb => ?_⟩
   simp only [Gh.absorb]
   rw [if_neg (by rw [hb]; simpa using e)]
   exact hb
 out := fun i hn => by
  simp only [List.mem_cons, List.not_mem_nil, or_false, not_or] at hn
  simp only [Gh.absorb]
  rw [if_neg hn.2]
 new := fun b i h1 h2 => by
  simp only [Gh.absorb] at h2
  split at h2
  ·rename_i e
   exact absurd (hi.own b a e) (by omega)
  ·exact absurd (hi.own b i h2) (by omega)
 keep := fun b i h => by
  simp only [Gh.absorb] at h
  split at h
  ·rename_i e
   exact hi.own b a e
  ·exact hi.own b i h
 tp := fun b i h0 h1 h2 ht => by
  refine ⟨fun e => ?_, ht⟩
  simp only [Gh.absorb] at h1
  rw [if_pos e] at h1
  rw [h0] at e
  injection e with e
  injection h1 with h1
  exact hne (e.symm.trans h1.symm)
 nt := fun b _ ht _ h => ht h.2
 tn := fun b hb => ⟨fun e => absurd (hi.own b a e) (by omega), hi.top b hb⟩
theorem InnR.absorb {a d : Nat} (hne : a ≠ d) {l : List (List CV)} {v : Value} (r : InnR G w d ty2 l v) : InnR (G.absorb a d) w d ty2 l v := by
 rcases r with r | ⟨b, c, cs, h1, h2, h3, h4⟩
 ·exact .inl r
 ·refine .inr ⟨b, c, cs, h1, ?_, fun ht => h3 ht.2, h4⟩
  simp only [Gh.absorb]
  rw [if_neg (by rw [h2]; simpa using (Ne.symm hne))]
  exact h2
theorem InnR.absorbed {a d : Nat} {l : List (List CV)} {v : Value} (r : InnR G w a ty2 l v) : InnR (G.absorb a d) w d ty2 l v := by
 rcases r with r | ⟨b, c, cs, h1, h2, h3, h4⟩
 ·exact .inl r
 ·exact .inr ⟨b, c, cs, h1, by simp [Gh.absorb, h2], fun ht => ht.1 h2, h4⟩
theorem RelB.absorb {a d sz : Nat} {ty : TypeId} {els : List (List CV)} (hne : a ≠ d) (r : RelB G w d (some (.tree sz ty ty2 els))) : RelB (G.absorb a d) w d (some (.tree sz ty ty2 els)) := by
 obtain ⟨r1, r2, r3, r4⟩ := r
 have hinf : (G.absorb a d).inf d = some (sz, els.length, false) := by
  simp only [Gh.absorb]
  rw [if_neg (Ne.symm hne)]
  exact r1
 have up : ∀ b, (G.absorb a d).own b = some d → (G.absorb a d).top b → G.own b = some d ∧ G.top b := fun b e1 e2 => by
  simp only [Gh.absorb] at e1
  rw [if_neg e2.1] at e1
  exact ⟨e1, e2.2⟩
 refine ⟨hinf, r2, fun b b' e1 e2 e3 e4 => r3 b b' (up b e1 e2).1 (up b e1 e2).2 (up b' e3 e4).1 (up b' e3 e4).2, ?_⟩
 rcases r4 with ⟨a1, a2⟩ | ⟨b, cs, a1, a2, a3, a0, a4, a5⟩
 ·exact .inl ⟨a1, fun b e1 e2 => a2 b (up b e1 e2).1 (up b e1 e2).2⟩
 ·have ho : G.own b ≠ some a := by rw [a1.1]; simpa using (Ne.symm hne)
  exact .inr ⟨b, cs, ⟨by simp only [Gh.absorb]; rw [if_neg ho]; exact a1.1, ho, a1.2⟩, a2, a3, a0, TrP.mono (fun l v q => q.absorb hne) a4, a5⟩
theorem junk_absorb {a d sz n : Nat} (ha : G.inf a = some (sz, n, false)) : RelB (G.absorb a d) w a (some .junk) := ⟨sz, n + 1, by simp [Gh.absorb, ha]⟩
theorem flat_rep {I J : Nat → Prop} {sz : Nat} {els : List (List CV)} {vs : List Value} (hf : Flat els) (r : RepE I w sz els vs) : RepE J w sz els vs := by
 refine RepE.mk fun e el he => ?_
 obtain ⟨a, b⟩ := r.at e el he
 refine ⟨a, ?_⟩
 have hp := hf el (List.mem_of_getElem? he)
 generalize vs.drop (e * sz) = us at b
 clear he a
 induction el generalizing us with
 | nil => simp [RepP]
 | cons c cs ih =>
  simp only [RepP] at b ⊢
  obtain ⟨v, vs', h1, h2, h3⟩ := b
  refine ⟨v, vs', h1, ?_, ih (fun x hx => hp x (by simp [hx])) vs' h3⟩
  have hc := hp c (by simp)
  cases c with
  | row l => cases hc
  | _ => simpa only [RepC] using h2
theorem inn_of {els : List (List CV)} (r : RelB G w id (some (.arr 1 ty2 false els))) (hf : Flat els) {v : Value} (p : Reps G w (.own id els.length) v) {d : Nat} : InnR (G.absorb id d) w d ty2 els v ∧ (∀ b ∈ blkC (.row els) v, G.own b = some id) ∧ v.oneCell' = true := by
 obtain ⟨r1, r2, r3, r4⟩ := r
 simp only [Reps] at p
 obtain ⟨sz', m, f, p1, _, pc, p2⟩ := p
 rw [r1] at p1
 injection p1 with p1
 injection p1 with p1 p3
 injection p3 with p3 p4
 subst p1 p3
 rcases p2 with p2 | ⟨_, p2⟩
 ·omega
 ·rcases p2 with ⟨rfl, p2⟩ | ⟨b, c, cs, ty', rfl, p5, p6, p7, p8, p9⟩
  ·have : els = [] := List.eq_nil_of_length_eq_zero (by omega)
   subst this
   exact ⟨.inl ⟨rfl, rfl⟩, by simp [blkC], pc⟩
  ·rcases r4 with ⟨r5, r6⟩ | ⟨b', cs', r5, r6, r7, r8⟩
   ·exact absurd p5.1 (r6 b)
   ·have := r3 b b' p5.1 r5.1
    subst this
    rw [r6] at p6
    injection p6 with p6
    injection p6 with p6 p10
    subst p6 p10
    refine ⟨.inr ⟨b, c, cs', rfl, by simp [Gh.absorb, r5.1], fun ht => ht.1 r5.1, r6, by omega, p8, p9, flat_rep hf r8⟩, fun x hx => ?_, rfl⟩
    simp only [blkC, List.mem_singleton] at hx
    subst hx
    exact r5.1
end
section
variable {E : Env} {h : List Blk} {K : Kont}
def TrIn (h : List Blk) (ty2 : TypeId) (cvs : List CV) (f : Option Nat) (G : Gh) (w : World) (us : List Value) : Prop :=
 match f with
 | none => ∀ d, TrP G w d ty2 cvs us ∧ blkP cvs us = []
 | some a => (∃ els, nthB h a = some (.arr 1 ty2 false els)) ∧ ∀ d, a ≠ d → TrP (G.absorb a d) w d ty2 cvs us ∧ (blkP cvs us).Nodup ∧ ∀ b ∈ blkP cvs us, G.own b = some a
theorem toTr_ok {ty2 : TypeId} : ∀ {ps : List PV} {R : List CV → Option Nat → Prop}, toTr h ty2 ps R → ∃ cvs f, R cvs f ∧ cvs.length = ps.length ∧ (∀ a, f = some a → ∃ els, nthB h a = some (.arr 1 ty2 false els)) ∧
  ∀ (G : Gh) (w : World) (us : List Value), RepsL G w ps us → (∀ a, f = some a → RelB G w a (nthB h a)) → TrIn h ty2 cvs f G w us
 | [], R, hk => ⟨[], none, by simpa only [toTr] using hk, rfl, (fun a e => by cases e), fun G w us _ _ d => by simp [TrP, blkP]⟩
 | .v c :: ps, R, hk => by
  have main : c.plain = true → toTr h ty2 ps (fun cs f => R (c :: cs) f) → ∃ cvs f, R cvs f ∧ cvs.length = (PV.v c :: ps).length ∧ (∀ a, f = some a → ∃ els, nthB h a = some (.arr 1 ty2 false els)) ∧
    ∀ (G : Gh) (w : World) (us : List Value), RepsL G w (.v c :: ps) us → (∀ a, f = some a → RelB G w a (nthB h a)) → TrIn h ty2 cvs f G w us := fun hc hk => by
   obtain ⟨cvs, f, h1, h2, h3, h4⟩ := toTr_ok hk
   refine ⟨_, f, h1, by simp [h2], h3, fun G w us hr hf => ?_⟩
   simp only [RepsL, Reps] at hr
   obtain ⟨v, us', rfl, h5, h6⟩ := hr
   have ih := h4 G w us' h6 hf
   have hb : blkC c v = [] := by cases c <;> first | rfl | cases hc
   have ht : ∀ (G' : Gh) d, TrC G' w d ty2 c v := fun G' d => by cases c <;> first | (simpa only [TrC, RepC] using h5) | cases hc
   cases f with
   | none =>
    intro d
    obtain ⟨a1, a2⟩ := ih d
    simp only [TrP, blkP, hb, List.nil_append]
    exact ⟨⟨v, us', rfl, ht _ d, a1⟩, a2⟩
   | some a =>
    refine ⟨ih.1, fun d hd => ?_⟩
    obtain ⟨a1, a2, a3⟩ := ih.2 d hd
    simp only [TrP, blkP, hb, List.nil_append]
    exact ⟨⟨v, us', rfl, ht _ d, a1⟩, a2, a3⟩
  cases c with
  | row l => simp only [toTr] at hk
  | _ => simp only [toTr] at hk; exact main rfl hk
 | .nil :: ps, R, hk => by
  simp only [toTr] at hk
  obtain ⟨cvs, f, h1, h2, h3, h4⟩ := toTr_ok hk
  refine ⟨_, f, h1, by simp [h2], h3, fun G w us hr hf => ?_⟩
  simp only [RepsL, Reps] at hr
  obtain ⟨v, us', rfl, rfl, h6⟩ := hr
  have ih := h4 G w us' h6 hf
  cases f with
  | none =>
   intro d
   obtain ⟨a1, a2⟩ := ih d
   simp only [TrP, blkP, blkC, List.nil_append]
   exact ⟨⟨_, us', rfl, .inl ⟨rfl, rfl⟩, a1⟩, a2⟩
  | some a =>
   refine ⟨ih.1, fun d hd => ?_⟩
   obtain ⟨a1, a2, a3⟩ := ih.2 d hd
   simp only [TrP, blkP, blkC, List.nil_append]
   exact ⟨⟨_, us', rfl, .inl ⟨rfl, rfl⟩, a1⟩, a2, a3⟩
 | .own a n :: ps, R, hk => by
  simp only [toTr] at hk
  split at hk
  rotate_left
  ·exact hk.elim
  rename_i sz ty els hb
  obtain ⟨rfl, rfl, rfl, hfl, hk⟩ := hk
  obtain ⟨cvs, f, h1, h2, h3, h4⟩ := toTr_ok hk
  cases f with
  | some _ => exact h1.elim
  | none =>
   refine ⟨_, some a, h1, by simp [h2], fun b e => by injection e with e; subst e; exact ⟨els, hb⟩, fun G w us hr hf => ?_⟩
   simp only [RepsL] at hr
   obtain ⟨v, us', rfl, h5, h6⟩ := hr
   have r := hf a rfl
   rw [hb] at r
   refine ⟨⟨els, hb⟩, fun d hd => ?_⟩
   obtain ⟨i1, i2, i3⟩ := inn_of r hfl h5 (d := d)
   obtain ⟨a1, a2⟩ := h4 G w us' h6 (fun _ e => by cases e) d
   have a1' : TrP (G.absorb a d) w d ty cvs us' := TrP.mono (fun l v q => q.absorb hd) a1
   refine ⟨?_, ?_⟩
   ·simp only [TrP]
    exact ⟨v, us', rfl, i1, a1'⟩
   ·simp only [blkP]
    rw [a2, List.append_nil]
    refine ⟨?_, i2⟩
    cases v <;> first | (simp [blkC]; done) | (rename_i A _ _; cases A <;> simp [blkC])
 | .ptr _ _ :: _, _, hk => by simp only [toTr] at hk
 | .eptr _ _ _ _ :: _, _, hk => by simp only [toTr] at hk
 | .rptr _ :: _, _, hk => by simp only [toTr] at hk
 | .agg _ :: _, _, hk => by simp only [toTr] at hk
 | .tup _ :: _, _, hk => by simp only [toTr] at hk
 | .un :: _, _, hk => by simp only [toTr] at hk
end
end Go.Proofs.YthkepmicdpgbbaaGreatDoor.E

namespace Go.Proofs.YthkepmicdpgbbaaGreatDoor.E
open Go Go.RowKit Go.Proofs.YthkepmicdpgbbaaGreatDoorW.PrintWords
set_option linter.unusedVariables false
set_option linter.unusedSimpArgs false
section
variable {E : Env} {h : List Blk} {K : Kont}
theorem putL_length {α : Type} (cs vs : List α) (o : Nat) (hl : o + vs.length ≤ cs.length) : (putL cs o vs).length = cs.length := by
 simp only [putL, List.length_append, List.length_take, List.length_drop]
 omega
theorem RepsL.put_list {G : Gh} {w : World} {cs ds : List PV} {vs us : List Value} (o : Nat) (h1 : RepsL G w cs vs) (h2 : RepsL G w ds us) : RepsL G w (putL cs o ds) (vs.take o ++ us ++ vs.drop (o + us.length)) := by
 unfold putL
 rw [h2.length]
 exact ((h1.take o).append h2).append (h1.drop _)
theorem run_store {w : World} {b o t : Nat} {i : TI} {vs : Array Value} {ty : TypeId} {x : Value} (hf : TyFact E.P t i) (hs : x.cells.size = i.size) (hb : w.heap[b]? = some (.cells vs ty (0, 0))) (hl : o + i.size ≤ vs.size) (h1 : ∀ u ∈ x.cells.toList, u.oneCell' = true) :
  (do Instr.storeAt t (.pointer (some ⟨b, o, none⟩)) x; pure undef : Sem Value).run E.P w = .ok undef (w.setRow b (vs.toList.take o ++ x.cells.toList ++ vs.toList.drop (o + x.cells.toList.length)).toArray) := by
 have hc := run_storeCells_at E.P b o ty x.cells.toList 0 vs w hb (by simp; omega) h1
 simp only [Nat.add_zero] at hc
 simp [Instr.storeAt, Instr.sureAddr, storeVar, hf.sizeOf w, hs, hc]
theorem InnR.write {G : Gh} {w w' : World} {id b : Nat} {ty2 : TypeId} {l : List (List CV)} {v : Value} (ht : G.top b) (ho : ∀ k, k ≠ b → w'.heap[k]? = w.heap[k]?) (r : InnR G w id ty2 l v) : InnR G w' id ty2 l v := by
 rcases r with r | ⟨b', c, cs, h1, h2, h3, h4, h5⟩
 ·exact .inl r
 ·refine .inr ⟨b', c, cs, h1, h2, h3, (ho b' (fun e => h3 (e ▸ ht))).trans h4, h5.1, h5.2.1, h5.2.2.1, RepE.mono (fun _ _ _ e => e.elim) 1 l _ h5.2.2.2⟩
theorem RelB.tree_at {G : Gh} {w : World} {id sz n e o : Nat} {ty ty2 : TypeId} {els : List (List CV)} (r : RelB G w id (some (.tree sz ty ty2 els))) (hn : n = els.length) (he : e < n) {v : Value} (p : Reps G w (.eptr id n e o) v) :
  ∃ b cs, v = .pointer (some ⟨b, e * sz + o, none⟩) ∧ (G.own b = some id ∧ G.top b) ∧ w.heap[b]? = some (.cells cs ty (0, 0)) ∧ els.length * sz ≤ cs.size ∧ (∀ x ∈ els, x.length = sz) ∧ TrP G w id ty2 els.flatten cs.toList ∧ (blkP els.flatten cs.toList).Nodup := by
 obtain ⟨r1, r2, r3, r4⟩ := r
 simp only [Reps] at p
 obtain ⟨sz', m, f, p1, _, p2⟩ := p
 rw [r1] at p1
 injection p1 with p1
 injection p1 with p1 p3
 injection p3 with p3 p4
 subst p1 p3
 rcases p2 with p2 | ⟨_, b', p5, p6⟩
 ·omega
 ·rcases r4 with ⟨r5, r6⟩ | ⟨b, cs, r5, r6, r7, r8⟩
  ·exact absurd p6.2 (r6 b' p6.1)
  ·have := r3 b' b p6.1 p6.2 r5.1 r5.2
   subst this
   exact ⟨b', cs, p5, r5, r6, r7, r8⟩
theorem flatten_get {sz : Nat} : ∀ {els : List (List CV)} {e : Nat} {el : List CV}, (∀ x ∈ els, x.length = sz) → els[e]? = some el → el = (els.flatten.drop (e * sz)).take sz
 | [], e, el, _, h => by simp at h
 | x :: es, 0, el, hs, h => by
  simp at h
  subst h
  have hx := hs x (by simp)
  simp only [List.flatten_cons, Nat.zero_mul, List.drop_zero]
  rw [← hx, List.take_left]
 | x :: es, e + 1, el, hs, h => by
  have hx := hs x (by simp)
  have ih := flatten_get (els := es) (e := e) (el := el) (fun z hz => hs z (by simp [hz])) (by simpa using h)
  have e1 : (e + 1) * sz = x.length + e * sz := by rw [Nat.add_mul, hx]; omega
  rw [List.flatten_cons, e1, List.drop_length_add_append]
  exact ih
theorem flatten_put {sz o : Nat} {els : List (List CV)} {e : Nat} {el : List CV} (y : List CV) (hs : ∀ x ∈ els, x.length = sz) (h : els[e]? = some el) (ho : o + y.length ≤ sz) :
  (els.set e (putL el o y)).flatten = els.flatten.take (e * sz + o) ++ y ++ els.flatten.drop (e * sz + o + y.length) := by
 rw [flatten_set _ hs h, flatten_get hs h]
 unfold putL
 generalize els.flatten = F
 have e1 : ((F.drop (e * sz)).take sz).take o = (F.drop (e * sz)).take o := by rw [List.take_take, Nat.min_eq_left (by omega)]
 have e2 : ((F.drop (e * sz)).take sz).drop (o + y.length) ++ F.drop (e * sz + sz) = F.drop (e * sz + o + y.length) := by
  rw [List.drop_take, List.drop_drop]
  have : F.drop (e * sz + sz) = (F.drop (e * sz + (o + y.length))).drop (sz - (o + y.length)) := by
   rw [List.drop_drop]
   congr 1
   omega
  rw [this, List.take_append_drop, Nat.add_assoc]
 rw [e1]
 rw [show F.take (e * sz) ++ ((F.drop (e * sz)).take o ++ y ++ ((F.drop (e * sz)).take sz).drop (o + y.length)) ++ F.drop (e * sz + sz) = (F.take (e * sz) ++ (F.drop (e * sz)).take o) ++ y ++ (((F.drop (e * sz)).take sz).drop (o + y.length) ++ F.drop (e * sz + sz)) by simp only [List.append_assoc], e2, ← List.take_add]
theorem tree_write {G : Gh} {w w' : World} {id p b : Nat} {ty2 : TypeId} {F cvs : List CV} {V us : List Value} (ht : G.top b) (ho : ∀ k, k ≠ b → w'.heap[k]? = w.heap[k]?)
  (h1 : TrP G w id ty2 F V) (h2 : TrP G w id ty2 cvs us) (hl : us.length = cvs.length) (hp : p + cvs.length ≤ F.length) (hN : (blkP F V).Nodup) (hM : (blkP cvs us).Nodup) (hd : ∀ x ∈ blkP cvs us, x ∉ blkP F V) :
  TrP G w' id ty2 (F.take p ++ cvs ++ F.drop (p + cvs.length)) (V.take p ++ us ++ V.drop (p + us.length)) ∧ (blkP (F.take p ++ cvs ++ F.drop (p + cvs.length)) (V.take p ++ us ++ V.drop (p + us.length))).Nodup := by
 have hV := h1.len
 have eF : F = F.take p ++ ((F.drop p).take cvs.length ++ F.drop (p + cvs.length)) := by
  rw [← List.drop_drop, List.take_append_drop, List.take_append_drop]
 have eV : V = V.take p ++ ((V.drop p).take cvs.length ++ V.drop (p + cvs.length)) := by
  rw [← List.drop_drop, List.take_append_drop, List.take_append_drop]
 have l1 : (V.take p).length = (F.take p).length := by rw [List.length_take, List.length_take]; omega
 have l2 : ((V.drop p).take cvs.length).length = ((F.drop p).take cvs.length).length := by simp only [List.length_take, List.length_drop]; omega
 have s1 : TrP G w id ty2 (F.take p) (V.take p) := by
  have := h1
  rw [eF] at this
  have := this.split.1
  rwa [← l1, List.length_take, Nat.min_eq_left (by omega)] at this
 have s2 : TrP G w id ty2 (F.drop (p + cvs.length)) (V.drop (p + cvs.length)) := by
  have := h1
  rw [eF] at this
  have := this.split.2.split.2
  rw [List.drop_drop] at this
  have e : (F.take p).length + ((F.drop p).take cvs.length).length = p + cvs.length := by simp only [List.length_take, List.length_drop]; omega
  rwa [e] at this
 have bF : blkP F V = blkP (F.take p) (V.take p) ++ (blkP ((F.drop p).take cvs.length) ((V.drop p).take cvs.length) ++ blkP (F.drop (p + cvs.length)) (V.drop (p + cvs.length))) := by
  conv => lhs; rw [eF, eV]
  rw [blkP_append l1, blkP_append l2]
 have mono : ∀ l v, InnR G w id ty2 l v → InnR G w' id ty2 l v := fun l v q => q.write ht ho
 have l3 : (V.take p ++ us).length = (F.take p ++ cvs).length := by rw [List.length_append, List.length_append, l1, hl]
 rw [hl]
 refine ⟨TrP.append (TrP.append (TrP.mono mono s1) l1 (TrP.mono mono h2)) l3 (TrP.mono mono s2), ?_⟩
 rw [blkP_append l3, blkP_append l1]
 rw [bF] at hN hd
 rw [List.nodup_append] at hN
 obtain ⟨n1, n2, n3⟩ := hN
 rw [List.nodup_append] at n2
 obtain ⟨n4, n5, n6⟩ := n2
 rw [List.nodup_append, List.nodup_append]
 refine ⟨⟨n1, hM, fun x hx y hy e => ?_⟩, n5, fun x hx y hy e => ?_⟩
 ·subst e
  exact hd x hy (List.mem_append_left _ hx)
 ·subst e
  rcases List.mem_append.1 hx with hx | hx
  ·exact n3 x hx x (List.mem_append_right _ hy) rfl
  ·exact hd x hx (List.mem_append_right _ (List.mem_append_right _ hy))
theorem store_tree {t id n e o : Nat} {x : PV} {i : TI} {cs : List PV} {sz : Nat} {ty ty2 : TypeId} {els : List (List CV)} (hf : TyFact E.P t i) (hc : pcells x = some cs) (hb : nthB h id = some (.tree sz ty ty2 els))
  (hk : toTr h ty2 cs fun cvs f => Side (cs.length = i.size) (Side (n = els.length) (ElemAt els e fun el => Side (o + i.size ≤ sz) (Norm ty (els.set e (putL el o cvs)) fun els' => match f with
   | none => K .un (putB h id (.tree sz ty ty2 els')) [] [id]
   | some id2 => K .un (putB (putB h id (.tree sz ty ty2 els')) id2 .junk) [] [id, id2])))) :
  Step E.P h (fun G w m => ∃ v u, Reps G w (.eptr id n e o) v ∧ Reps G w x u ∧ m = (do Instr.storeAt t v u; pure undef)) K := by
 obtain ⟨cvs, f, ⟨k1, k3, el, k4, k5, els', rfl, hk⟩, f1, f2, f3⟩ := toTr_ok hk
 have hne : ∀ a, f = some a → a ≠ id := fun a e e2 => by
  obtain ⟨els0, h0⟩ := f2 a e
  rw [e2, hb] at h0
  cases h0
 have core : ∀ (G G1 : Gh) (w : World) (v u : Value) (ids : List Nat), Inv G w → Ext ids G w G1 w → Reps G w (.eptr id n e o) v → Reps G w x u → RelB G w id (some (.tree sz ty ty2 els)) → RelB G1 w id (some (.tree sz ty ty2 els)) → (∀ b, G.own b = some id → G.top b → G1.own b = some id ∧ G1.top b) →
   (∀ us, RepsL G w cs us → TrP G1 w id ty2 cvs us ∧ (blkP cvs us).Nodup ∧ ∀ b ∈ blkP cvs us, G.own b ≠ some id) →
   ∃ w', (do Instr.storeAt t v u; pure undef : Sem Value).run E.P w = .ok undef w' ∧ Ext [id] G1 w G1 w' ∧ RelB G1 w' id (some (.tree sz ty ty2 (els.set e (putL el o cvs)))) := by
  intro G G1 w v u ids hi X0 hv hu r r1 hroot hcv
  have hlt : e < n := by rw [k3]; exact (List.getElem?_eq_some_iff.1 k4).1
  obtain ⟨b, vs, rfl, g1, g2, g3, g4, g5, g6⟩ := r.tree_at k3 hlt hv
  obtain ⟨h5, h6⟩ := pcells_ok hc hu
  have h7 := h5.length
  rw [Array.length_toList] at h7
  obtain ⟨q1, q2, q3⟩ := hcv _ h5
  have he : e * sz + sz ≤ els.length * sz := by rw [← Nat.succ_mul]; exact Nat.mul_le_mul_right _ (by omega)
  have hrun := run_store (w := w) (o := e * sz + o) hf (by omega) g2 (by omega) h6
  have hsz : (vs.toList.take (e * sz + o) ++ u.cells.toList ++ vs.toList.drop (e * sz + o + u.cells.toList.length)).toArray.size = vs.size := by
   simp only [List.size_toArray, List.length_append, List.length_take, List.length_drop, Array.length_toList]
   omega
  have hb' := setRow_heap w b vs (vs.toList.take (e * sz + o) ++ u.cells.toList ++ vs.toList.drop (e * sz + o + u.cells.toList.length)).toArray ty (0, 0) g2
  have hi1 := hi.ext X0
  obtain ⟨ho1, ht1⟩ := hroot b g1.1 g1.2
  have X1 := ext_written (G := G1) (w' := w.setRow b (vs.toList.take (e * sz + o) ++ u.cells.toList ++ vs.toList.drop (e * sz + o + u.cells.toList.length)).toArray) hi1 ho1 r1.1 g2 hb' hsz (by simp [World.setRow]) (fun k hk' => setRow_other w b k _ hk') rfl rfl rfl
  refine ⟨_, hrun, X1, ?_⟩
  obtain ⟨s1, s2, s3, s4⟩ := r1
  have hel := g4 el (List.mem_of_getElem? k4)
  have hlf := flatten_len g4
  have hTr : TrP G1 w id ty2 els.flatten vs.toList := by
   rcases s4 with ⟨a1, _⟩ | ⟨b2, cs2, c1, c2, c3, c4, c5, c6⟩
   ·rw [a1] at k4; simp at k4
   ·have := s3 b2 b c1.1 c1.2 ho1 ht1
    subst this
    rw [g2] at c2
    injection c2 with c2
    injection c2 with c2 _
    subst c2
    exact c5
  obtain ⟨z1, z2⟩ := tree_write (p := e * sz + o) (w' := w.setRow b (vs.toList.take (e * sz + o) ++ u.cells.toList ++ vs.toList.drop (e * sz + o + u.cells.toList.length)).toArray) ht1 (fun k hk' => setRow_other w b k _ hk') hTr q1 (by rw [h5.length, f1]) (by rw [hlf, f1]; omega) g6 q2 (fun y hy hy2 => q3 y hy (blkP_own g5 y hy2))
  refine ⟨by rw [List.length_set]; exact s1, s2, s3, .inr ⟨b, _, ⟨ho1, ht1⟩, hb', by rw [List.length_set, hsz]; exact g3, fun y hy => ?_, ?_, ?_⟩⟩
  ·rcases List.mem_or_eq_of_mem_set hy with hy | rfl
   ·exact g4 y hy
   ·rw [putL_length _ _ _ (by omega)]
    exact hel
  ·rw [flatten_put cvs g4 k4 (by omega)]
   exact z1
  ·rw [flatten_put cvs g4 k4 (by omega)]
   exact z2
 cases f with
 | none =>
  refine ⟨_, _, _, _, hk, fun j hj => nthB_putB_ne h id j _ (by simpa using hj), by rw [len_putB]; exact Nat.le_refl _, fun G w m hi hm hr => ?_⟩
  obtain ⟨v, u, hv, hu, rfl⟩ := hm
  have r := hr id (by simp)
  rw [hb] at r
  obtain ⟨w', a1, a2, a3⟩ := core G G w v u [] hi (Ext.refl hi []) hv hu r r (fun b h1 h2 => ⟨h1, h2⟩) (fun us hus => by
   obtain ⟨b1, b2⟩ := f3 G w us hus (fun a e => by cases e) id
   refine ⟨b1, by rw [b2]; exact List.nodup_nil, fun b hb => by rw [b2] at hb; cases hb⟩)
  refine ⟨_, w', G, a1, a2, by simp [Reps], fun j hj => ?_⟩
  simp only [List.mem_singleton] at hj
  subst hj
  rw [nthB_putB_same _ hb]
  exact a3
 | some a =>
  have hai := hne a rfl
  have hb1 : nthB (putB h id (.tree sz ty ty2 (els.set e (putL el o cvs)))) a = nthB h a := nthB_putB_ne h id a _ hai
  obtain ⟨elsA, hA⟩ := f2 a rfl
  refine ⟨_, _, _, _, hk, fun j hj => ?_, by rw [len_putB, len_putB]; exact Nat.le_refl _, fun G w m hi hm hr => ?_⟩
  ·simp only [List.mem_cons, List.not_mem_nil, or_false, not_or] at hj
   rw [nthB_putB_ne _ a j _ hj.2, nthB_putB_ne h id j _ hj.1]
  obtain ⟨v, u, hv, hu, rfl⟩ := hm
  have r := hr id (by simp)
  have ra := hr a (by simp)
  rw [hb] at r
  have raj := ra
  rw [hA] at ra
  have X0 := ext_absorb hi ra.1 hai
  obtain ⟨w', a1, a2, a3⟩ := core G (G.absorb a id) w v u _ hi X0 hv hu r (r.absorb hai) (fun b h1 h2 => by
   have ho : G.own b ≠ some a := by rw [h1]; simpa using (Ne.symm hai)
   exact ⟨by simp only [Gh.absorb]; rw [if_neg ho]; exact h1, ho, h2⟩) (fun us hus => by
   obtain ⟨_, b1⟩ := f3 G w us hus (fun a' e => by injection e with e; subst e; exact raj)
   obtain ⟨b2, b3, b4⟩ := b1 id hai
   exact ⟨b2, b3, fun b hb e => by rw [b4 b hb] at e; injection e with e; exact hai e⟩)
  have X := (Ext.trans hi X0 a2).mono (ids2 := [id, a]) (fun j hj => by
   simp only [List.mem_append, List.mem_cons, List.not_mem_nil, or_false] at hj ⊢
   rcases hj with (hj | hj) | hj <;> simp [hj])
  refine ⟨_, w', _, a1, X, by simp [Reps], fun j hj => ?_⟩
  simp only [List.mem_cons, List.not_mem_nil, or_false] at hj
  rcases hj with rfl | rfl
  ·rw [nthB_putB_ne _ a j _ (Ne.symm hai), nthB_putB_same _ hb]
   exact a3
  ·rw [nthB_putB_same _ (hb1.trans hA)]
   exact RelB.ext a2 (hi.ext X0) (by simpa using hai) (junk_absorb ra.1)
theorem store_ok {t : Nat} {p x : PV} (hk : aStore E h t p x K) : Step E.P h (fun G w m => ∃ v u, Reps G w p v ∧ Reps G w x u ∧ m = (do Instr.storeAt t v u; pure undef)) K := by
 unfold aStore at hk
 cases hl : look E.T t with
 | none => rw [hl] at hk; exact hk.elim
 | some i =>
  cases hc : pcells x with
  | none => rw [hl, hc] at hk; exact hk.elim
  | some cs =>
   rw [hl, hc] at hk
   simp only at hk
   have hf := Env.fact hl
   cases p with
   | ptr id o =>
    simp only at hk
    cases hb : nthB h id with
    | none => rw [hb] at hk; exact hk.elim
    | some B =>
     rw [hb] at hk
     cases B with
     | arr sz ty fz els => exact hk.elim
     | tree _ _ _ _ => exact hk.elim
     | junk => exact hk.elim
     | box ty ds =>
      simp only at hk
      obtain ⟨k1, k2, hk⟩ := hk
      refine ⟨_, _, _, _, hk, fun j hj => nthB_putB_ne h id j _ (by simpa using hj), by rw [len_putB]; exact Nat.le_refl _, fun G w m hi hm hr => ?_⟩
      obtain ⟨v, u, hv, hu, rfl⟩ := hm
      have r := hr id (by simp)
      rw [hb] at r
      obtain ⟨b, vs, rfl, h1, h2, h3, h4⟩ := r.box_at hv
      obtain ⟨h5, h6⟩ := pcells_ok hc hu
      have h7 := h5.length
      have h8 := h4.length
      rw [Array.length_toList] at h8 h7
      have hrun := run_store (w := w) (o := o) hf (by omega) h2 (by omega) h6
      have hsz : (vs.toList.take o ++ u.cells.toList ++ vs.toList.drop (o + u.cells.toList.length)).toArray.size = vs.size := by
       simp only [List.size_toArray, List.length_append, List.length_take, List.length_drop, Array.length_toList]
       omega
      have hb' := setRow_heap w b vs (vs.toList.take o ++ u.cells.toList ++ vs.toList.drop (o + u.cells.toList.length)).toArray ty (0, 0) h2
      have X := ext_written (w' := w.setRow b (vs.toList.take o ++ u.cells.toList ++ vs.toList.drop (o + u.cells.toList.length)).toArray) hi h1 r.1 h2 hb' hsz (by simp [World.setRow]) (fun k hk' => setRow_other w b k _ hk') rfl rfl rfl
      refine ⟨_, _, G, hrun, X, by simp [Reps], fun j hj => ?_⟩
      simp only [List.mem_singleton] at hj
      subst hj
      rw [nthB_putB_same _ hb]
      have hlen : (putL ds o cs).length = ds.length := putL_length ds cs o (by omega)
      refine ⟨by rw [hlen]; exact r.1, r.2.1, b, _, ⟨h1, r.top_box h1⟩, hb', ?_, ?_⟩
      ·intro z hz
       simp only [List.mem_append] at hz
       rcases hz with (hz | hz) | hz
       ·exact h3 z (List.mem_of_mem_take hz)
       ·exact h6 z hz
       ·exact h3 z (List.mem_of_mem_drop hz)
      ·exact RepsL.ext X hi _ _ (h4.put_list o h5)
   | eptr id n e o =>
    simp only at hk
    cases hb : nthB h id with
    | none => rw [hb] at hk; exact hk.elim
    | some B =>
     rw [hb] at hk
     cases B with
     | box ty ds => exact hk.elim
     | junk => exact hk.elim
     | tree sz ty ty2 els => exact store_tree hf hc hb hk
     | arr sz ty fz els =>
      cases fz with
      | true => exact hk.elim
      | false =>
       simp only at hk
       obtain ⟨cvs, f, ⟨k1, k2, k3, el, k4, k5, els', rfl, hk⟩, f1, f2, f3⟩ := toCs_ok hk
       have hnf : id ∉ f := by simpa using k2
       have hbf : nthB (frz f h) id = some (.arr sz ty false els) := by rw [nthB_frz, if_neg hnf, hb]
       refine ⟨_, _, _, _, hk, fun j hj => ?_, by rw [len_putB, len_frz]; exact Nat.le_refl _, fun G w m hi hm hr => ?_⟩
       ·simp only [List.mem_cons, not_or] at hj
        rw [nthB_putB_ne _ _ _ _ hj.1, nthB_frz, if_neg hj.2]
       obtain ⟨v, u, hv, hu, rfl⟩ := hm
       have r := hr id (by simp)
       rw [hb] at r
       have hlt : e < n := by rw [k3]; exact (List.getElem?_eq_some_iff.1 k4).1
       obtain ⟨b, vs, rfl, h1, h2, h3, h4⟩ := r.arr_at k3 hlt hv
       obtain ⟨h5, h6⟩ := pcells_ok hc hu
       have h7 := h5.length
       rw [Array.length_toList] at h7
       have he : e * sz + sz ≤ els.length * sz := by rw [← Nat.succ_mul]; exact Nat.mul_le_mul_right _ (by omega)
       have hrun := run_store (w := w) (o := e * sz + o) hf (by omega) h2 (by omega) h6
       have hsz : (vs.toList.take (e * sz + o) ++ u.cells.toList ++ vs.toList.drop (e * sz + o + u.cells.toList.length)).toArray.size = vs.size := by
        simp only [List.size_toArray, List.length_append, List.length_take, List.length_drop, Array.length_toList]
        omega
       have hb' := setRow_heap w b vs (vs.toList.take (e * sz + o) ++ u.cells.toList ++ vs.toList.drop (e * sz + o + u.cells.toList.length)).toArray ty (0, 0) h2
       have hrf : ∀ j ∈ f, RelB G w j (nthB h j) := fun j hj => hr j (by simp [hj])
       have X0 := ext_frz hi f
       have hi0 := hi.ext X0
       have hinf : (G.frz f).inf id = some (sz, els.length, false) := by
        simp only [Gh.frz]
        rw [if_neg hnf]
        exact r.1
       have X1 := ext_written (G := G.frz f) (w' := w.setRow b (vs.toList.take (e * sz + o) ++ u.cells.toList ++ vs.toList.drop (e * sz + o + u.cells.toList.length)).toArray) hi0 h1 hinf h2 hb' hsz (by simp [World.setRow]) (fun k hk' => setRow_other w b k _ hk') rfl rfl rfl
       have X := Ext.mono (ids2 := id :: f) (Ext.trans hi X0 X1) (fun j hj => by
        simp only [List.mem_append, List.mem_singleton] at hj
        rcases hj with hj | hj <;> simp [hj])
       refine ⟨_, _, G.frz f, hrun, X, by simp [Reps], fun j hj => ?_⟩
       have hfr := frz_rel hi hrf f1
       by_cases hj' : j = id
       ·subst hj'
        rw [nthB_putB_same _ hbf]
        have hI := RepE.mono (imm_old X0 hi) sz els _ h4
        have hcv := f3 G w _ f hi h5 hrf (fun j hj => hj)
        refine ⟨by rw [List.length_set]; exact hinf, r.2.1, r.2.2.1, .inr ⟨b, _, ⟨h1, r.top_arr h1⟩, hb', by rw [List.length_set, hsz]; exact h3, ?_⟩⟩
        refine RepE.mono (imm_old X1 hi0) sz _ _ (RepE.mk fun q y hy => ?_)
        rw [List.getElem?_set] at hy
        have hul : u.cells.toList.length = cs.length := by rw [Array.length_toList]; exact h7
        split at hy
        ·rename_i heq
         subst heq
         split at hy
         ·injection hy with hy
          subst hy
          obtain ⟨a1, a2⟩ := hI.at e el k4
          refine ⟨by rw [putL_length _ _ _ (by omega)]; exact a1, ?_⟩
          have e1 : (vs.toList.take (e * sz + o) ++ u.cells.toList ++ vs.toList.drop (e * sz + o + u.cells.toList.length)).drop (e * sz) = ((vs.toList.drop (e * sz)).take o ++ u.cells.toList) ++ (vs.toList.drop (e * sz)).drop (o + u.cells.toList.length) := by
           rw [List.drop_append_of_le_length (by simp; omega), List.drop_append_of_le_length (by simp; omega), List.drop_take, List.drop_drop, Nat.add_sub_cancel_left, Nat.add_assoc]
          show RepP _ w _ ((vs.toList.take (e * sz + o) ++ u.cells.toList ++ vs.toList.drop (e * sz + o + u.cells.toList.length)).drop (e * sz))
          rw [e1]
          unfold putL
          refine RepP.append (RepP.append (RepP.take o a2) ?_ hcv) ?_ ?_
          ·rw [List.length_take, List.length_take, List.length_drop, Array.length_toList]
           omega
          ·simp only [List.length_append, List.length_take, List.length_drop, Array.length_toList]
           omega
          ·rw [hul, f2]
           exact RepP.drop _ a2
         ·cases hy
        ·rename_i hne
         obtain ⟨a1, a2⟩ := hI.at q y hy
         refine ⟨a1, ?_⟩
         show RepP _ w _ ((vs.toList.take (e * sz + o) ++ u.cells.toList ++ vs.toList.drop (e * sz + o + u.cells.toList.length)).drop (q * sz))
         have a3 := RepP.take y.length a2
         rw [List.take_length] at a3
         have hq : q < els.length := (List.getElem?_eq_some_iff.1 hy).1
         have hqs : q * sz + sz ≤ els.length * sz := by rw [← Nat.succ_mul]; exact Nat.mul_le_mul_right _ (by omega)
         have e1 : ((vs.toList.take (e * sz + o) ++ u.cells.toList ++ vs.toList.drop (e * sz + o + u.cells.toList.length)).drop (q * sz)).take y.length = (vs.toList.drop (q * sz)).take y.length := by
          rw [a1]
          apply List.ext_getElem?
          intro z
          rw [List.getElem?_take, List.getElem?_take]
          split
          ·rename_i hz
           rw [List.getElem?_drop, List.getElem?_drop]
           rcases Nat.lt_or_gt_of_ne (Ne.symm hne) with hlt' | hgt
           ·have : q * sz + sz ≤ e * sz := by rw [← Nat.succ_mul]; exact Nat.mul_le_mul_right _ hlt'
            rw [List.getElem?_append_left (by simp; omega), List.getElem?_append_left (by simp; omega), List.getElem?_take, if_pos (by omega)]
           ·have : e * sz + sz ≤ q * sz := by rw [← Nat.succ_mul]; exact Nat.mul_le_mul_right _ hgt
            rw [List.getElem?_append_right (by simp; omega), List.getElem?_drop]
            congr 1
            simp
            omega
          ·rfl
         rw [← e1] at a3
         exact a3.of_take _
       ·have hjf : j ∈ f := by
         rcases List.mem_cons.1 hj with hj | hj
         ·exact absurd hj hj'
         ·exact hj
        rw [nthB_putB_ne _ _ _ _ hj']
        exact RelB.ext X1 hi0 (by simpa using hj') (hfr j hjf)
   | _ => exact hk.elim
end
end Go.Proofs.YthkepmicdpgbbaaGreatDoor.E

namespace Go.Proofs.YthkepmicdpgbbaaGreatDoor.E
open Go Go.RowKit Go.Proofs.YthkepmicdpgbbaaGreatDoorW.PrintWords
set_option linter.unusedVariables false
set_option linter.unusedSimpArgs false
section
variable {E : Env} {h : List Blk} {K : Kont}
def Gh.regrow (G : Gh) (id : Nat) (g : Option Nat) (r : Nat × Nat × Bool) : Gh :=
 {G with own := fun x => if some x = g then some id else if G.own x = some id then none else G.own x, inf := fun x => if x = id then some r else G.inf x }
theorem ext_regrow {G : Gh} {w w' : World} (hi : Inv G w) {id sz n m : Nat} {row g : Option Nat} (hinf : G.inf id = some (sz, n, false)) (hm : 0 < m) (hg : w.grownBy w' row) (hrow : ∀ b, row = some b → G.own b = some id)
  (hgn : ∀ b, g = some b → b < w'.heap.size ∧ (G.own b = some id ∨ w.heap.size ≤ b)) : Ext [id] G w (G.regrow id g (sz, n + m, false)) w' where
 os := hg.os
 tape := hg.tape
 output := hg.output
 size := hg.size
 base := rfl
 old := rfl
 nn := fun b hb h0 => by
  have hne : some b ≠ g := fun e => by
   rcases (hgn b e.symm).2 with a | a
   ·rw [h0] at a; cases a
   ·omega
  refine ⟨?_, hg.block b hb (fun e => by have := hrow b e.symm; rw [h0] at this; cases this)⟩
  simp only [Gh.regrow]
  rw [if_neg hne, h0]
  rfl
 sm := fun b j h0 => by
  by_cases e : j = id
  ·subst e
   refine ⟨fun hn => absurd (by simp) hn, ?_⟩
   simp only [Gh.regrow]
   split
   ·exact .inl rfl
   ·first
    | exact .inr (.inl rfl)
    | exact .inr (.inl (if_pos h0))
  ·have hne : some b ≠ g := fun e' => by
    rcases (hgn b e'.symm).2 with a | a
    ·rw [h0] at a
     injection a with a
     exact e a
    ·exact absurd (hi.own b j h0) (by omega)
   have h1 : (G.regrow id g (sz, n + m, false)).own b = some j := by
    simp only [Gh.regrow]
    rw [if_neg hne, if_neg (fun e' => e (by rw [h0] at e'; injection e'))]
    exact h0
   exact ⟨fun _ => ⟨h1, hg.block b (hi.own b j h0) (fun e' => by have := hrow b e'.symm; rw [h0] at this; injection this with this; exact e this)⟩, .inl h1⟩
 same := fun b j cs ty h0 h1 h2 hc => by
  by_cases e : j = id
  ·subst e
   obtain ⟨s1, n1, f1, f2, a1, a2⟩ := h2
   rw [hinf] at a1
   simp only [Gh.regrow, if_pos] at a2
   cases a1
   injection a2 with a2
   injection a2 with _ a2
   injection a2 with a2 _
   omega
  ·refine ⟨cs, ?_, rfl⟩
   rw [hg.block b (hi.own b j h0) (fun e' => by have := hrow b e'.symm; rw [h0] at this; injection this with this; exact e this)]
   exact hc
 fz := fun b j s k h0 hf => by
  have e : j ≠ id := fun e => by subst e; rw [hinf] at hf; cases hf
  have hne : some b ≠ g := fun e' => by
   rcases (hgn b e'.symm).2 with a | a
   ·rw [h0] at a
    injection a with a
    exact e a
   ·exact absurd (hi.own b j h0) (by omega)
  refine ⟨?_, hg.block b (hi.own b j h0) (fun e' => by have := hrow b e'.symm; rw [h0] at this; injection this with this; exact e this)⟩
  simp only [Gh.regrow]
  rw [if_neg hne, if_neg (fun e' => e (by rw [h0] at e'; injection e'))]
  exact h0
 inf := fun j s k f hf => by
  by_cases e : j = id
  ·subst e
   rw [hinf] at hf
   cases hf
   exact ⟨n + m, false, by simp [Gh.regrow], by omega, (fun e => by cases e), fun e => by omega⟩
  ·refine ⟨k, f, by simp [Gh.regrow, e, hf], Nat.le_refl _, fun e => ⟨e, rfl⟩, fun _ b hb => ?_⟩
   have hne : some b ≠ g := fun e' => by
    rcases (hgn b e'.symm).2 with a | a
    ·rw [hb] at a
     injection a with a
     exact e a
    ·exact absurd (hi.own b j hb) (by omega)
   simp only [Gh.regrow]
   rw [if_neg hne, if_neg (fun e' => e (by rw [hb] at e'; injection e'))]
   exact hb
 out := fun j hn => by
  simp only [Gh.regrow]
  rw [if_neg (by simpa using hn)]
 new := fun b j hb h1 => by
  simp only [Gh.regrow] at h1
  split at h1
  ·injection h1 with h1
   simp [h1]
  ·split at h1
   ·cases h1
   ·exact absurd (hi.own b j h1) (by omega)
 keep := fun b j h1 => by
  simp only [Gh.regrow] at h1
  split at h1
  ·rename_i e
   exact (hgn b e.symm).1
  ·split at h1
   ·cases h1
   ·exact Nat.lt_of_lt_of_le (hi.own b j h1) hg.size
 tp := fun _ _ _ _ _ h => h
 nt := fun _ _ h _ => h
 tn := fun b hb => hi.top b (Nat.le_trans hg.size hb)
theorem RepE.append {I : Nat → Prop} {w : World} {sz : Nat} {l k : List (List CV)} {vs us : List Value} (h1 : RepE I w sz l vs) (hl : vs.length = l.length * sz) (h2 : RepE I w sz k us) : RepE I w sz (l ++ k) (vs ++ us) := by
 refine RepE.mk fun e el he => ?_
 by_cases hlt : e < l.length
 ·rw [List.getElem?_append_left hlt] at he
  obtain ⟨a, b⟩ := h1.at e el he
  refine ⟨a, ?_⟩
  have hm : e * sz + sz ≤ vs.length := by rw [hl, ← Nat.succ_mul]; exact Nat.mul_le_mul_right _ hlt
  rw [List.drop_append_of_le_length (by omega)]
  have h3 := RepP.take el.length b
  rw [List.take_length] at h3
  have e1 : (vs.drop (e * sz)).take el.length = (vs.drop (e * sz) ++ us).take el.length := by
   rw [List.take_append_of_le_length (by rw [List.length_drop]; omega)]
  rw [e1] at h3
  exact h3.of_take _
 ·rw [List.getElem?_append_right (by omega)] at he
  obtain ⟨a, b⟩ := h2.at _ el he
  refine ⟨a, ?_⟩
  have e1 : e * sz = vs.length + (e - l.length) * sz := by
   rw [hl, ← Nat.add_mul]
   congr 1
   omega
  rw [e1, ← List.drop_drop, List.drop_left]
  exact b
theorem RepP.one {I : Nat → Prop} {w : World} : ∀ {l : List CV} {vs : List Value}, RepP I w l vs → ∀ u ∈ vs.take l.length, u.oneCell' = true
 | [], vs, _, u, hu => by simp at hu
 | p :: ps, vs, h, u, hu => by
  simp only [RepP] at h
  obtain ⟨v, vs', rfl, h1, h2⟩ := h
  simp only [List.length_cons, List.take_succ_cons, List.mem_cons] at hu
  rcases hu with rfl | hu
  ·cases p with
   | row l =>
    simp only [RepC] at h1
    obtain ⟨A, c, rfl, _⟩ := h1
    rfl
   | _ =>
    simp only [RepC] at h1
    subst h1
    rfl
  ·exact RepP.one h2 u hu
theorem RepE.one {I : Nat → Prop} {w : World} {sz : Nat} : ∀ {l : List (List CV)} {vs : List Value}, RepE I w sz l vs → ∀ u ∈ vs.take (l.length * sz), u.oneCell' = true
 | [], vs, _, u, hu => by simp at hu
 | e :: es, vs, h, u, hu => by
  simp only [RepE] at h
  rw [List.length_cons, Nat.add_mul, Nat.one_mul, Nat.add_comm, List.take_add] at hu
  rcases List.mem_append.1 hu with hu | hu
  ·have := h.2.1.one
   rw [h.1] at this
   exact this u hu
  ·exact RepE.one h.2.2 u hu
theorem run_app {P : Program} {w : World} {t t2 ty e : TypeId} {i : TypeInfo} {z : Value} {d2 : TypeDesc} (ht : P.underlying t = some (.slice e)) (hi : P.info? e = some i) (hz : i.zero = some z) (hzs : z.cells.size = i.size)
  (h2 : P.underlying t2 = some d2) (hd : d2 = .slice e ∨ d2 = .string) {v : Value} {n : Nat} {xs : List Value} (hown : w.ownsRow 0 e i.size v n xs) {x : Value} {m : Nat} {news : List Value} (hl : news.length = m * i.size)
  (hlen : ∀ w' : World, (Builtin.lenOf x).run P w' = .ok m w') (hf : ∀ w' : World, w'.heap = w.heap → (Builtin.firstCells i.size m x).run P w' = .ok news.toArray w') (h1 : ∀ u ∈ news, u.oneCell' = true)
  (hm : 0 < m) (h63 : n + m ≤ maxLen) (hby : (n + m) * i.bytes ≤ 140737488355328) :
  ∃ g cap cur w', (Builtin.append_ #[t, t2] ty #[v, x]).run P w = .ok (.slice (some ⟨g, 0, none⟩) (n + m) cap) w' ∧ w'.heap[g]? = some (.cells cur e (0, 0)) ∧ cur.size = cap * i.size ∧ n + m ≤ cap ∧ cap ≤ maxLen ∧
   cur.toList.take ((n + m) * i.size) = xs ++ news ∧ w.grownBy w' v.ownBlock ∧ (v.ownBlock = some g ∨ g = w.heap.size) := by
 have hsmall : n + m ≤ 9223372036854775807 := by simp only [maxLen] at h63; omega
 have hxl : xs.length = n * i.size := hown.1
 have hz1 : ∀ w', (match (#[t, t2] : Array TypeId)[1]? with | some xType => do pure ((← underlying xType) matches .int _) | none => pure false : Sem Bool).run P w' = .ok false w' := fun w' => by
  rcases hd with rfl | rfl <;> simp [run_underlying h2]
 have grow : ∀ (A : Option Addr) (cap : Nat), cap < n + m → (∀ w' : World, w'.heap = w.heap → (Builtin.firstCells i.size n (.slice A n cap)).run P w' = .ok xs.toArray w') →
   (Builtin.append_ #[t, t2] ty #[.slice A n cap, x]).run P w = .ok (.slice (some ⟨w.heap.size, 0, none⟩) (n + m) (grownCap w (n + m) cap e)) (w.drew.alloc (.cells (xs.toArray ++ news.toArray ++ Builtin.zeroCells z.cells (grownCap w (n + m) cap e - (n + m))) e)) := by
  intro A cap hc hold
  have hn : ¬ (n + m ≤ cap) := by omega
  have h63' : ¬ (9223372036854775807 < ((n : Int) + (m : Int))) := by omega
  have h48' : ¬ (281474976710656 < Builtin.nextslicecap (n + m) cap * i.bytes) := by have := growslice_fits (by omega : cap < n + m) hby; omega
  have ho := hold w.drew rfl
  have hn' := hf w.drew rfl
  rcases hd with rfl | rfl
  all_goals
   simp [Builtin.append_, run_underlying ht, run_underlying h2, sizeOf, typeInfo, zeroValue, hi, hz, hlen, hn, h63', h48', Question.forced, hn', ho, newRow, grownCap]
   congr 2
   apply Array.ext'
   simp [List.append_assoc]
 have fin : ∀ (A : Option Addr) (cap : Nat), v = .slice A n cap → cap < n + m → (∀ w' : World, w'.heap = w.heap → (Builtin.firstCells i.size n (.slice A n cap)).run P w' = .ok xs.toArray w') →
   ∃ g cap cur w', (Builtin.append_ #[t, t2] ty #[v, x]).run P w = .ok (.slice (some ⟨g, 0, none⟩) (n + m) cap) w' ∧ w'.heap[g]? = some (.cells cur e (0, 0)) ∧ cur.size = cap * i.size ∧ n + m ≤ cap ∧ cap ≤ maxLen ∧
   cur.toList.take ((n + m) * i.size) = xs ++ news ∧ w.grownBy w' v.ownBlock ∧ (v.ownBlock = some g ∨ g = w.heap.size) := by
  intro A cap hv hc hold
  subst hv
  have hge := grownCap_ge w (n + m) cap e
  refine ⟨_, _, _, _, grow A cap hc hold, Go.heap_alloc_new w.drew _, ?_, hge, grownCap_le_maxLen w (n + m) cap e h63, ?_, ⟨rfl, rfl, rfl, by simp, fun k hk _ => Below.heap_alloc w.drew _ k hk⟩, .inr rfl⟩
  ·simp only [Array.size_append, List.size_toArray, size_zeroCells, hzs, hxl, hl, ← Nat.add_mul]
   congr 1
   omega
  ·have : (n + m) * i.size = (xs ++ news).length := by rw [List.length_append, hxl, hl, Nat.add_mul]
   rw [this]
   simp only [Array.toList_append, List.append_assoc]
   rw [← List.append_assoc]
   exact List.take_left
 rcases hown.2 with ⟨hv, hn0⟩ | ⟨g, cap, cur, hv, _, hg, hnc, hcm, hcs, htake⟩
 ·subst hn0
  have hx : xs = [] := List.eq_nil_of_length_eq_zero (by simpa using hxl)
  subst hx
  exact fin none 0 hv (by omega) (fun w' _ => run_firstCells_none (P := P) w' _ _ _ _)
 ·by_cases hroom : n + m ≤ cap
  ·have hfit : n * i.size + news.length ≤ cur.size := by rw [hl, hcs, ← Nat.add_mul]; exact Nat.mul_le_mul_right _ hroom
   have hst := run_storeCells_at P g (n * i.size) e news 0 cur w hg (by simpa using hfit) h1
   simp only [Nat.add_zero] at hst
   have hn' := hf w rfl
   subst hv
   have hrun : (Builtin.append_ #[t, t2] ty #[.slice (some ⟨g, 0, none⟩) n cap, x]).run P w = .ok (.slice (some ⟨g, 0, none⟩) (n + m) cap) (w.setRow g (cur.toList.take (n * i.size) ++ news ++ cur.toList.drop (n * i.size + news.length)).toArray) := by
    rcases hd with rfl | rfl <;> simp [Builtin.append_, run_underlying ht, run_underlying h2, sizeOf, typeInfo, hi, hlen, hroom, hn', Addr.add_lit, hst]
   refine ⟨g, cap, _, _, hrun, setRow_heap w g cur _ e _ hg, ?_, hroom, hcm, ?_, ⟨rfl, rfl, rfl, by simp, fun k _ hk => setRow_other w g k _ (fun e => hk (by simp [Value.ownBlock, e]))⟩, .inl rfl⟩
   ·simp only [List.size_toArray, List.length_append, List.length_take, List.length_drop, Array.length_toList]
    omega
   ·have : (n + m) * i.size = (xs ++ news).length := by rw [List.length_append, hxl, hl, Nat.add_mul]
    rw [this, htake]
    exact List.take_left
  ·refine fin (some ⟨g, 0, none⟩) cap hv (by omega) (fun w' hw' => ?_)
   have hg' : w'.heap[g]? = some (.cells cur e (0, 0)) := by rw [hw']; exact hg
   refine run_firstCells_some (P := P) w' i.size n ⟨g, 0, none⟩ n cap xs hxl (fun j u hu => ?_)
   rw [Addr.add_mid, Nat.zero_add, cell_of_row w' g j cur e (0, 0) hg']
   rw [← htake, List.getElem?_take] at hu
   split at hu
   ·simpa using hu
   ·cases hu
theorem owns_of {G : Gh} {w : World} {id n sz : Nat} {ty : TypeId} {fz : Bool} {els : List (List CV)} {v : Value} (r : RelB G w id (some (.arr sz ty fz els))) (hn : n = els.length) (p : Reps G w (.own id n) v) :
  ∃ xs, w.ownsRow 0 ty sz v n xs ∧ RepE G.imm w sz els xs ∧ (∀ b, v.ownBlock = some b → G.own b = some id) ∧ xs.length = n * sz := by
 obtain ⟨r1, r2, r3, r4⟩ := r
 simp only [Reps] at p
 obtain ⟨sz', m, f, p1, _, _, p2⟩ := p
 rw [r1] at p1
 injection p1 with p1
 injection p1 with p1 p3
 injection p3 with p3 p4
 subst p1 p3
 rcases p2 with p2 | ⟨_, p2⟩
 ·omega
 ·rcases p2 with ⟨rfl, p2⟩ | ⟨b, c, cs, ty', rfl, p5, p6, p7, p8, p9⟩
  ·have : els = [] := List.eq_nil_of_length_eq_zero (by omega)
   subst this
   subst p2
   exact ⟨[], World.ownsRow_nil w 0 ty sz, by simp [RepE], (fun b hb => by cases hb), by simp⟩
  ·rcases r4 with ⟨r5, r6⟩ | ⟨b', cs', r5, r6, r7, r8⟩
   ·exact absurd p5.1 (r6 b)
   ·have := r3 b b' p5.1 r5.1
    subst this
    rw [r6] at p6
    injection p6 with p6
    injection p6 with p6 p10
    subst p6 p10
    have hle : n * sz ≤ cs'.size := by rw [hn]; exact r7
    refine ⟨cs'.toList.take (n * sz), ⟨by rw [List.length_take, Array.length_toList]; omega, .inr ⟨b, c, cs', rfl, Nat.zero_le _, r6, p8, p9, p7, rfl⟩⟩, ?_, fun x hx => ?_, by rw [List.length_take, Array.length_toList]; omega⟩
    ·exact r8.keep (n * sz) (by rw [hn]; exact Nat.le_refl _) (by rw [List.take_take, Nat.min_self])
    ·simp only [Value.ownBlock, Option.some.injEq] at hx
     subst hx
     exact r5.1
theorem owns_top {G : Gh} {w : World} {id sz g : Nat} {ty : TypeId} {fz : Bool} {els : List (List CV)} {v : Value} (r : RelB G w id (some (.arr sz ty fz els))) (p : Reps G w (.own id els.length) v) (hv : v.ownBlock = some g) : G.top g := by
 obtain ⟨r1, r2, r3, r4⟩ := r
 simp only [Reps] at p
 obtain ⟨sz', m, f, p1, _, _, p2⟩ := p
 rw [r1] at p1
 injection p1 with p1
 injection p1 with p1 p3
 injection p3 with p3 p4
 subst p1 p3
 rcases p2 with p2 | ⟨_, p2⟩
 ·omega
 ·rcases p2 with ⟨rfl, p2⟩ | ⟨b, c, cs, ty', rfl, p5, p6, p7, p8, p9⟩
  ·cases hv
  ·simp only [Value.ownBlock, Option.some.injEq] at hv
   subst hv
   exact p5.2
theorem own_end {G : Gh} {w w' : World} {id n k sz g cap : Nat} {ty : TypeId} {els els2 : List (List CV)} {v : Value} {xs news : List Value} {cur : Array Value} (hi : Inv G w) (hsz : 0 < sz) (hinf : G.inf id = some (sz, n, false)) (hn : n = els.length) (hk : k = els2.length) (hk0 : 0 < k)
  (hxs : RepE G.imm w sz els xs) (hxl : xs.length = n * sz) (hne : RepE G.imm w sz els2 news) (hg' : w'.heap[g]? = some (.cells cur ty (0, 0))) (hcs : cur.size = cap * sz) (hle : n + k ≤ cap) (hcm : cap ≤ maxLen) (htk : cur.toList.take ((n + k) * sz) = xs ++ news)
  (hg : w.grownBy w' v.ownBlock) (hv : ∀ b, v.ownBlock = some b → G.own b = some id) (hgg : v.ownBlock = some g ∨ g = w.heap.size) (ht : G.top g) :
  ∃ G', Ext [id] G w G' w' ∧ Reps G' w' (.own id (n + k)) (.slice (some ⟨g, 0, none⟩) (n + k) cap) ∧ RelB G' w' id (some (.arr sz ty false (els ++ els2))) := by
 have hb : g < w'.heap.size := (Array.getElem?_eq_some_iff.1 hg').1
 have X := ext_regrow (g := some g) hi hinf hk0 hg hv (fun b hb' => by
  injection hb' with hb'
  subst hb'
  refine ⟨hb, ?_⟩
  rcases hgg with a | a
  ·exact .inl (hv g a)
  ·exact .inr (by omega))
 have h1 : (G.regrow id (some g) (sz, n + k, false)).own g = some id := by simp [Gh.regrow]
 have h2 : (G.regrow id (some g) (sz, n + k, false)).inf id = some (sz, n + k, false) := by simp [Gh.regrow]
 have h3 : ∀ b, (G.regrow id (some g) (sz, n + k, false)).own b = some id → b = g := fun b hb' => by
  simp only [Gh.regrow] at hb'
  split at hb'
  ·rename_i e
   injection e
  ·split at hb'
   ·cases hb'
   ·rename_i e
    exact absurd hb' e
 have hm : (n + k) * sz ≤ cur.size := by rw [hcs]; exact Nat.mul_le_mul_right _ hle
 refine ⟨_, X, ?_, by rw [h2, List.length_append, hn, hk], hsz, fun b b' e e' => by rw [h3 b e, h3 b' e'], .inr ⟨g, cur, ⟨h1, ht⟩, hg', by rw [List.length_append, ← hn, ← hk]; exact hm, ?_⟩⟩
 ·simp only [Reps]
  exact ⟨_, _, _, h2, hsz, rfl, .inr ⟨rfl, .inr ⟨g, cap, cur, ty, rfl, ⟨h1, ht⟩, hg', hcs, hle, hcm⟩⟩⟩
 ·refine RepE.keep (vs := xs ++ news) (RepE.mono (imm_old X hi) sz _ _ (hxs.append (by rw [hxl, hn]) hne)) ((n + k) * sz) (by rw [List.length_append, ← hn, ← hk]; exact Nat.le_refl _) ?_
  have hlen : (xs ++ news).length = (n + k) * sz := by
   have := congrArg List.length htk
   rw [List.length_take, Array.length_toList] at this
   omega
  rw [htk, ← hlen, List.take_length]
def SliceSrc (G : Gh) (w : World) (els : List (List CV)) (v : Value) : Prop :=
 ∃ A c, v = .slice A els.length c ∧ els.length ≤ c ∧ els.length ≤ maxLen ∧ (els = [] ∨ ∃ b o sz cs ty fr, A = some ⟨b, o, none⟩ ∧ w.heap[b]? = some (.cells cs ty fr) ∧ 0 < sz ∧ RepE G.imm w sz els (cs.toList.drop o))
theorem rowOf_ok {q : PV} {R : List (List CV) → List Nat → Prop} (hk : rowOf h q R) : ∃ els rd, R els rd ∧ ∀ (G : Gh) (w : World) (v : Value), Inv G w → Reps G w q v → (∀ id ∈ rd, RelB G w id (nthB h id)) → SliceSrc G w els v := by
 unfold rowOf at hk
 cases q with
 | v c =>
  cases c with
  | row l =>
   refine ⟨_, _, hk, fun G w v hi hr _ => ?_⟩
   simp only [Reps, RepC] at hr
   obtain ⟨A, c, h1, h2, h3, h4⟩ := hr
   refine ⟨A, c, h1, h2, h3, ?_⟩
   rcases h4 with h4 | ⟨b, o, sz, cs, ty, fr, h5, h6, h7, h8, h9⟩
   ·exact .inl h4
   ·exact .inr ⟨b, o, sz, cs, ty, fr, h5, h7, h8, h9⟩
  | _ => exact hk.elim
 | nil =>
  refine ⟨_, _, hk, fun G w v hi hr _ => ?_⟩
  simp only [Reps] at hr
  subst hr
  exact ⟨none, 0, rfl, by simp, by simp [maxLen], .inl rfl⟩
 | own id n =>
  simp only at hk
  cases hb : nthB h id with
  | none => rw [hb] at hk; exact hk.elim
  | some B =>
   rw [hb] at hk
   cases B with
   | box _ _ => exact hk.elim
   | tree _ _ _ _ => exact hk.elim
   | junk => exact hk.elim
   | arr sz ty fz els =>
    obtain ⟨hn, hk⟩ := hk
    refine ⟨_, _, hk, fun G w v hi hr hrd => ?_⟩
    have r := hrd id (by simp)
    rw [hb] at r
    obtain ⟨r1, r2, r3, r4⟩ := r
    simp only [Reps] at hr
    obtain ⟨sz', m, f, p1, _, _, p2⟩ := hr
    rw [r1] at p1
    injection p1 with p1
    injection p1 with p1 p3
    injection p3 with p3 p4
    subst p1 p3
    rcases p2 with p2 | ⟨_, p2⟩
    ·omega
    ·rcases p2 with ⟨rfl, p2⟩ | ⟨b, c, cs, ty', rfl, p5, p6, p7, p8, p9⟩
     ·have : els = [] := List.eq_nil_of_length_eq_zero (by omega)
      subst this
      exact ⟨none, 0, rfl, by simp, by simp [maxLen], .inl rfl⟩
     ·refine ⟨some ⟨b, 0, none⟩, c, by rw [hn], by omega, Nat.le_trans (by omega) p9, ?_⟩
      rcases r4 with ⟨r5, _⟩ | ⟨b', cs', r5, r6, r7, r8⟩
      ·exact .inl r5
      ·have := r3 b b' p5.1 r5.1
       subst this
       exact .inr ⟨b, 0, sz, cs', ty, (0, 0), rfl, r6, r2, by simpa using r8⟩
 | _ => exact hk.elim
def SrcOk (P : Program) (G : Gh) (w : World) (t2 e sz : Nat) (els : List (List CV)) (x : Value) : Prop :=
 ∃ d2 news, P.underlying t2 = some d2 ∧ (d2 = .slice e ∨ d2 = .string) ∧ news.length = els.length * sz ∧ (∀ w' : World, (Builtin.lenOf x).run P w' = .ok els.length w') ∧
  (∀ w' : World, w'.heap = w.heap → (Builtin.firstCells sz els.length x).run P w' = .ok news.toArray w') ∧ (∀ u ∈ news, u.oneCell' = true) ∧ RepE G.imm w sz els news
theorem str_rep (I : Nat → Prop) (w : World) : ∀ l : List UInt8, RepE I w 1 ((l.map fun b => (b.toNat : Int)).map fun b => [CV.i .u8 b]) (l.map fun b => Value.int .u8 b.toNat)
 | [] => by simp [RepE]
 | b :: r => by
  simp only [List.map_cons, RepE, RepP, RepC]
  refine ⟨rfl, ⟨_, _, rfl, rfl, trivial⟩, ?_⟩
  simpa using str_rep I w r
theorem src_ok {sz t t2 e : Nat} {i2 : TI} {q : PV} {R : List (List CV) → List Nat → Prop} (hf2 : TyFact E.P t2 i2) (ht : E.P.underlying t = some (.slice e)) (hk : aSrc h sz t t2 i2.k q R) : ∃ els rd, R els rd ∧
  ((0 < sz ∧ ∀ x ∈ els, x.length = sz) → ∀ (G : Gh) (w : World) (v : Value), Inv G w → Reps G w q v → (∀ id ∈ rd, RelB G w id (nthB h id)) → SrcOk E.P G w t2 e sz els v) := by
 have h2 := hf2.2.1
 unfold aSrc at hk
 split at hk
 ·rename_i k2 q2 x hk2
  rw [hk2] at h2
  obtain ⟨hs, hk⟩ := hk
  subst hs
  refine ⟨_, _, hk, fun _ G w v hi hr _ => ?_⟩
  simp only [Reps, RepC] at hr
  subst hr
  have hlen : ((bytesOf x).map fun b => [CV.i .u8 b]).length = x.size := by rw [List.length_map, bytesOf_length]
  refine ⟨.string, x.data.toList.map (fun b => Value.int .u8 b.toNat), h2, .inr rfl, ?_, fun w' => ?_, fun w' _ => ?_, ?_, ?_⟩
  ·rw [hlen, List.length_map, Nat.mul_one]
   rfl
  ·rw [hlen]
   simp [Builtin.lenOf]
  ·rw [hlen]
   simp only [Builtin.firstCells, Sem.run_pure]
   congr 1
   apply Array.ext'
   simp
  ·intro u hu
   obtain ⟨b, _, rfl⟩ := List.mem_map.1 hu
   rfl
  ·exact str_rep G.imm w _
 ·rename_i k2 q2 e2 q3 hk2
  obtain ⟨rfl, hk⟩ := hk
  obtain ⟨els, rd, h3, h4⟩ := rowOf_ok hk
  refine ⟨els, rd, h3, fun hsz G w v hi hr hrd => ?_⟩
  obtain ⟨A, c, rfl, h5, h6, h7⟩ := h4 G w v hi hr hrd
  rcases h7 with rfl | ⟨b, o, sz', cs, ty, fr, rfl, h8, h9, h10⟩
  ·refine ⟨_, [], ht, .inl rfl, by simp, fun w' => by simp [Builtin.lenOf], fun w' _ => ?_, by simp, by simp [RepE]⟩
   cases A with
   | none => exact run_firstCells_none (P := E.P) w' _ _ _ _
   | some a => exact run_firstCells_some (P := E.P) w' _ _ a _ _ [] (by simp) (fun j u hu => by simp at hu)
  ·by_cases he : els = []
   ·subst he
    refine ⟨_, [], ht, .inl rfl, by simp, fun w' => by simp [Builtin.lenOf], fun w' _ => ?_, by simp, by simp [RepE]⟩
    exact run_firstCells_some (P := E.P) w' _ _ _ _ _ [] (by simp) (fun j u hu => by simp at hu)
   ·obtain ⟨y, hy⟩ := List.exists_mem_of_ne_nil els he
    have e1 : sz' = sz := (h10.size y hy).symm.trans (hsz.2 y hy)
    subst e1
    have hl := h10.len h9
    rw [List.length_drop, Array.length_toList] at hl
    refine ⟨_, (cs.toList.drop o).take (els.length * sz'), ht, .inl rfl, ?_, fun w' => by simp [Builtin.lenOf], fun w' hw' => ?_, h10.one, ?_⟩
    ·rw [List.length_take, List.length_drop, Array.length_toList]
     omega
    ·refine run_firstCells_some (P := E.P) w' _ _ _ _ _ _ (by rw [List.length_take, List.length_drop, Array.length_toList]; omega) (fun j u hu => ?_)
     rw [Addr.add_mid]
     exact range_of (by rw [hw']; exact h8) _ j u hu
    ·exact h10.keep (els.length * sz') (Nat.le_refl _) (by rw [List.take_take, Nat.min_self])
 ·exact hk.elim
def Gh.name (G : Gh) (id : Nat) (r : Nat × Nat × Bool) : Gh := { G with inf := fun x => if x = id then some r else G.inf x }
theorem ext_name {G : Gh} {w : World} (hi : Inv G w) (id : Nat) (r : Nat × Nat × Bool) (h0 : RelB G w id none) : Ext [id] G w (G.name id r) w where
 os := rfl
 tape := rfl
 output := rfl
 size := Nat.le_refl _
 base := rfl
 old := rfl
 nn := fun b _ h => ⟨h, rfl⟩
 sm := fun b i h => ⟨fun _ => ⟨h, rfl⟩, .inl h⟩
 same := fun b i cs ty _ _ _ h => ⟨cs, h, rfl⟩
 fz := fun b i sz n h _ => ⟨h, rfl⟩
 inf := fun i sz n f hf => by
  refine ⟨n, f, ?_, Nat.le_refl _, fun e => ⟨e, rfl⟩, fun _ b hb => hb⟩
  simp only [Gh.name]
  rw [if_neg]
  ·exact hf
  ·intro e
   subst e
   rw [h0.1] at hf
   cases hf
 out := fun i hn => by
  simp only [Gh.name]
  rw [if_neg (by simpa using hn)]
 new := fun b i h1 h2 => absurd (hi.own b i h2) (by omega)
 keep := hi.own
 tp := fun _ _ _ _ _ h => h
 nt := fun _ _ h _ => h
 tn := hi.top
theorem name_nil {G : Gh} {w : World} (hi : Inv G w) {id sz : Nat} (hsz : 0 < sz) (ty : TypeId) (h0 : RelB G w id none) :
  RelB (G.name id (sz, 0, false)) w id (some (.arr sz ty false [])) ∧ Reps (G.name id (sz, 0, false)) w (.own id 0) (.slice none 0 0) := by
 refine ⟨⟨by simp [Gh.name], hsz, fun b b' e => absurd e (h0.2 b), .inl ⟨rfl, h0.2⟩⟩, ?_⟩
 simp only [Reps]
 exact ⟨sz, 0, false, by simp [Gh.name], hsz, rfl, .inr ⟨rfl, .inl ⟨rfl, rfl⟩⟩⟩
theorem run_app0 {P : Program} {w : World} {t t2 ty e : TypeId} {i : TypeInfo} {d2 : TypeDesc} (ht : P.underlying t = some (.slice e)) (hi : P.info? e = some i)
  (h2 : P.underlying t2 = some d2) (hd : d2 = .slice e ∨ d2 = .string) {v : Value} {n : Nat} {xs : List Value} (hown : w.ownsRow 0 e i.size v n xs) {x : Value}
  (hlen : ∀ w' : World, (Builtin.lenOf x).run P w' = .ok 0 w') (hf : ∀ w' : World, w'.heap = w.heap → (Builtin.firstCells i.size 0 x).run P w' = .ok #[] w') :
  (Builtin.append_ #[t, t2] ty #[v, x]).run P w = .ok v w := by
 have hn' := hf w rfl
 have h3 : ∃ A c, v = .slice A n c ∧ n ≤ c := by
  rcases hown.2 with ⟨rfl, rfl⟩ | ⟨g, cap, cur, rfl, _, _, hnc, _⟩
  ·exact ⟨none, 0, rfl, Nat.le_refl _⟩
  ·exact ⟨_, cap, rfl, hnc⟩
 obtain ⟨A, c, rfl, hc⟩ := h3
 rcases hd with rfl | rfl <;> cases A <;> simp [Builtin.append_, run_underlying ht, run_underlying h2, sizeOf, typeInfo, hi, hlen, hc, hn', storeCells]
theorem append_core {w : World} {G : Gh} {t t2 ty id n sz : Nat} {j : TI} {e : Nat} {els els2 : List (List CV)} {v x : Value} (hi : Inv G w) (ht : E.P.underlying t = some (.slice e)) (hj : TyFact E.P e j) (hsz : sz = j.size) (hz : 0 < sz)
  (r : RelB G w id (some (.arr sz e false els))) (hn : n = els.length) (hv : Reps G w (.own id n) v) (hx : SrcOk E.P G w t2 e sz els2 x) (h63 : els.length + els2.length ≤ maxLen) (hby : (els.length + els2.length) * j.bytes ≤ 140737488355328) :
  ∃ v' w' G', (Builtin.append_ #[t, t2] ty #[v, x]).run E.P w = .ok v' w' ∧ Ext [id] G w G' w' ∧ Reps G' w' (.own id (els.length + els2.length)) v' ∧ RelB G' w' id (some (.arr sz e false (els ++ els2))) := by
 obtain ⟨inf, hi1, hi2, hi3, hi4⟩ := hj.info
 obtain ⟨xs, h1, h2, h3, h4⟩ := owns_of r hn hv
 obtain ⟨d2, news, s1, s2, s3, s4, s5, s6, s7⟩ := hx
 have hsz' : inf.size = sz := by rw [hi2, hsz]
 rw [← hsz'] at h1 s3 s5
 by_cases hm : els2 = []
 ·subst hm
  have hnews : news = [] := List.eq_nil_of_length_eq_zero (by simpa using s3)
  subst hnews
  refine ⟨v, w, G, run_app0 ht hi1 s1 s2 h1 (by simpa using s4) (by simpa using s5), Ext.refl hi _, ?_, by rw [List.append_nil]; exact r⟩
  rw [List.length_nil, Nat.add_zero, ← hn]
  exact hv
 ·have hm0 : 0 < els2.length := List.length_pos_iff.2 hm
  obtain ⟨g, cap, cur, w', a1, a2, a3, a4, a5, a6, a7, a8⟩ := run_app ht hi1 hi4 (by rw [hj.2.2, hi2]) s1 s2 h1 s3 s4 s5 s6 hm0 (by rw [hn]; exact h63) (by rw [hn, hi3]; exact hby)
  rw [hsz'] at a3 a6
  obtain ⟨G', b1, b2, b3⟩ := own_end hi hz (by rw [hn]; exact r.1) hn rfl hm0 h2 h4 s7 a2 a3 a4 a5 a6 a7 h3 a8 (by
   rcases a8 with a8 | a8
   ·exact owns_top r (hn ▸ hv) a8
   ·rw [a8]; exact hi.top _ (Nat.le_refl _))
  rw [hn] at b2 a1
  exact ⟨_, w', G', a1, b1, b2, b3⟩
noncomputable def Gh.regrowT (G : Gh) (id g : Nat) (r : Nat × Nat × Bool) : Gh :=
 {G with own := fun x => if x = g then some id else @ite _ (G.own x = some id ∧ G.top x) (Classical.propDecidable _) none (G.own x), inf := fun x => if x = id then some r else G.inf x }
theorem regrowT_far {G : Gh} {id g b : Nat} {r : Nat × Nat × Bool} (h1 : b ≠ g) (h2 : ¬ (G.own b = some id ∧ G.top b)) : (G.regrowT id g r).own b = G.own b := by
 simp only [Gh.regrowT]
 rw [if_neg h1, if_neg h2]
theorem ext_regrowT {G : Gh} {w w' : World} (hi : Inv G w) {id sz n m g : Nat} {row : Option Nat} (hinf : G.inf id = some (sz, n, false)) (hm : 0 < m) (hg : w.grownBy w' row) (hrow : ∀ b, row = some b → G.own b = some id ∧ G.top b)
  (hlt : g < w'.heap.size) (hgn : row = some g ∨ g = w.heap.size) : Ext [id] G w (G.regrowT id g (sz, n + m, false)) w' := by
 have hne : ∀ b j, G.own b = some j → j ≠ id → b ≠ g := fun b j h0 e e' => by
  subst e'
  rcases hgn with a | a
  ·have := (hrow b a).1
   rw [h0] at this
   injection this with this
   exact e this
  ·exact absurd (hi.own b j h0) (by omega)
 have hsame : ∀ b j, G.own b = some j → j ≠ id → (G.regrowT id g (sz, n + m, false)).own b = some j ∧ w'.heap[b]? = w.heap[b]? := fun b j h0 e => by
  refine ⟨by rw [regrowT_far (hne b j h0 e) (fun q => e (by rw [h0] at q; injection q.1))]; exact h0, hg.block b (hi.own b j h0) (fun e' => ?_)⟩
  have := (hrow b e'.symm).1
  rw [h0] at this
  injection this with this
  exact e this
 constructor
 ·exact hg.os
 ·exact hg.tape
 ·exact hg.output
 ·exact hg.size
 ·rfl
 ·rfl
 ·intro b hb h0
  have h1 : b ≠ g := fun e => by
   subst e
   rcases hgn with a | a
   ·have := (hrow b a).1; rw [h0] at this; cases this
   ·omega
  refine ⟨by rw [regrowT_far h1 (fun q => by rw [h0] at q; cases q.1)]; exact h0, hg.block b hb (fun e => ?_)⟩
  have := (hrow b e.symm).1
  rw [h0] at this
  cases this
 ·intro b j h0
  by_cases e : j = id
  ·subst e
   refine ⟨fun hn => absurd (by simp) hn, ?_⟩
   simp only [Gh.regrowT]
   by_cases h1 : b = g
   ·exact .inl (by rw [if_pos h1])
   ·rw [if_neg h1]
    by_cases h2 : G.own b = some j ∧ G.top b
    ·exact .inr (.inl (by rw [if_pos h2]))
    ·exact .inl (by rw [if_neg h2]; exact h0)
  ·exact ⟨fun _ => hsame b j h0 e, .inl (hsame b j h0 e).1⟩
 ·intro b j cs ty h0 h1 h2 hc
  by_cases e : j = id
  ·subst e
   obtain ⟨s1, n1, f1, f2, a1, a2⟩ := h2
   rw [hinf] at a1
   simp only [Gh.regrowT, if_pos] at a2
   cases a1
   injection a2 with a2
   injection a2 with _ a2
   injection a2 with a2 _
   omega
  ·exact ⟨cs, (hsame b j h0 e).2.trans hc, rfl⟩
 ·intro b j s k h0 hf
  have e : j ≠ id := fun e => by subst e; rw [hinf] at hf; cases hf
  exact hsame b j h0 e
 ·intro j s k f hf
  by_cases e : j = id
  ·subst e
   rw [hinf] at hf
   cases hf
   exact ⟨n + m, false, by simp [Gh.regrowT], by omega, (fun e => by cases e), fun e => by omega⟩
  ·exact ⟨k, f, by simp [Gh.regrowT, e, hf], Nat.le_refl _, fun e => ⟨e, rfl⟩, fun _ b hb => (hsame b j hb e).1⟩
 ·intro j hn
  simp only [Gh.regrowT]
  rw [if_neg (by simpa using hn)]
 ·intro b j hb h1
  by_cases h2 : b = g
  ·simp only [Gh.regrowT] at h1
   rw [if_pos h2] at h1
   injection h1 with h1
   simp [h1]
  ·simp only [Gh.regrowT] at h1
   rw [if_neg h2] at h1
   by_cases h3 : G.own b = some id ∧ G.top b
   ·rw [if_pos h3] at h1
    cases h1
   ·rw [if_neg h3] at h1
    exact absurd (hi.own b j h1) (by omega)
 ·intro b j h1
  by_cases h2 : b = g
  ·subst h2
   exact hlt
  ·simp only [Gh.regrowT] at h1
   rw [if_neg h2] at h1
   by_cases h3 : G.own b = some id ∧ G.top b
   ·rw [if_pos h3] at h1
    cases h1
   ·rw [if_neg h3] at h1
    exact Nat.lt_of_lt_of_le (hi.own b j h1) hg.size
 ·exact fun _ _ _ _ _ h => h
 ·exact fun _ _ h _ => h
 ·exact fun b hb => hi.top b (Nat.le_trans hg.size hb)
theorem InnR.grown {G : Gh} {w w' : World} (hi : Inv G w) {id g : Nat} {r : Nat × Nat × Bool} {row : Option Nat} (hg : w.grownBy w' row) (hrow : ∀ b, row = some b → G.own b = some id ∧ G.top b) (ht : G.top g) {ty2 : TypeId} {l : List (List CV)} {v : Value} (q : InnR G w id ty2 l v) : InnR (G.regrowT id g r) w' id ty2 l v := by
 rcases q with q | ⟨b', c, cs, h1, h2, h3, h4, h5⟩
 ·exact .inl q
 ·refine .inr ⟨b', c, cs, h1, ?_, h3, (hg.block b' (hi.own b' id h2) (fun e => h3 (hrow b' e.symm).2)).trans h4, h5.1, h5.2.1, h5.2.2.1, RepE.mono (fun _ _ _ e => e.elim) 1 l _ h5.2.2.2⟩
  rw [regrowT_far (fun e => h3 (by rw [e]; exact ht)) (fun q => h3 q.2)]
  exact h2
theorem owns_of_tree {G : Gh} {w : World} {id n sz : Nat} {ty ty2 : TypeId} {els : List (List CV)} {v : Value} (r : RelB G w id (some (.tree sz ty ty2 els))) (hn : n = els.length) (p : Reps G w (.own id n) v) :
  ∃ xs, w.ownsRow 0 ty sz v n xs ∧ (∀ x ∈ els, x.length = sz) ∧ TrP G w id ty2 els.flatten xs ∧ (blkP els.flatten xs).Nodup ∧ (∀ b, v.ownBlock = some b → G.own b = some id ∧ G.top b) ∧ xs.length = n * sz := by
 obtain ⟨r1, r2, r3, r4⟩ := r
 simp only [Reps] at p
 obtain ⟨sz', m, f, p1, _, _, p2⟩ := p
 rw [r1] at p1
 injection p1 with p1
 injection p1 with p1 p3
 injection p3 with p3 p4
 subst p1 p3
 rcases p2 with p2 | ⟨_, p2⟩
 ·omega
 ·rcases p2 with ⟨rfl, p2⟩ | ⟨b, c, cs, ty', rfl, p5, p6, p7, p8, p9⟩
  ·have : els = [] := List.eq_nil_of_length_eq_zero (by omega)
   subst this
   subst p2
   exact ⟨[], World.ownsRow_nil w 0 ty sz, by simp, by simp [TrP], by simp [blkP], (fun b hb => by cases hb), by simp⟩
  ·rcases r4 with ⟨r5, r6⟩ | ⟨b', cs', r5, r6, r7, r0, r8, r9⟩
   ·exact absurd p5.2 (r6 b p5.1)
   ·have := r3 b b' p5.1 p5.2 r5.1 r5.2
    subst this
    rw [r6] at p6
    injection p6 with p6
    injection p6 with p6 p10
    subst p6 p10
    have hle : n * sz ≤ cs'.size := by rw [hn]; exact r7
    have hk : (cs'.toList.take (n * sz)).take els.flatten.length = cs'.toList.take els.flatten.length := by rw [flatten_len r0, ← hn, List.take_take, Nat.min_self]
    refine ⟨cs'.toList.take (n * sz), ⟨by rw [List.length_take, Array.length_toList]; omega, .inr ⟨b, c, cs', rfl, Nat.zero_le _, r6, p8, p9, p7, rfl⟩⟩, r0, r8.keep hk, by rw [blkP_keep hk]; exact r9, fun x hx => ?_, by rw [List.length_take, Array.length_toList]; omega⟩
    simp only [Value.ownBlock, Option.some.injEq] at hx
    subst hx
    exact r5
theorem firstCells_of {P : Program} {w : World} {ty sz n : Nat} {v : Value} {xs : List Value} (h : w.ownsRow 0 ty sz v n xs) : (∀ w' : World, (Builtin.lenOf v).run P w' = .ok n w') ∧ ∀ w' : World, w'.heap = w.heap → (Builtin.firstCells sz n v).run P w' = .ok xs.toArray w' := by
 rcases h.2 with ⟨rfl, rfl⟩ | ⟨g, cap, cur, rfl, _, hg, hnc, hcm, hcs, htake⟩
 ·have hx : xs = [] := List.eq_nil_of_length_eq_zero (by simpa using h.1)
  subst hx
  exact ⟨fun w' => by simp [Builtin.lenOf], fun w' _ => run_firstCells_none (P := P) w' _ _ _ _⟩
 ·refine ⟨fun w' => by simp [Builtin.lenOf], fun w' hw' => ?_⟩
  have hg' : w'.heap[g]? = some (.cells cur ty (0, 0)) := by rw [hw']; exact hg
  refine run_firstCells_some (P := P) w' sz n ⟨g, 0, none⟩ n cap xs h.1 (fun j u hu => ?_)
  rw [Addr.add_mid, Nat.zero_add, cell_of_row w' g j cur ty (0, 0) hg']
  rw [← htake, List.getElem?_take] at hu
  split at hu
  ·simpa using hu
  ·cases hu
theorem append_tree {w : World} {G : Gh} {t ty id id3 n sz sz3 : Nat} {j : TI} {e ty3 ty2 : Nat} {els els3 : List (List CV)} {v x : Value} (hi : Inv G w) (ht : E.P.underlying t = some (.slice e)) (hj : TyFact E.P e j) (hsz : sz = j.size) (hsz3 : sz3 = j.size) (hz : 0 < sz) (hne : id3 ≠ id)
  (r : RelB G w id (some (.tree sz e ty2 els))) (r3 : RelB G w id3 (some (.tree sz3 ty3 ty2 els3))) (hn : n = els.length) (hv : Reps G w (.own id n) v) (hx : Reps G w (.own id3 els3.length) x) (h63 : els.length + els3.length ≤ maxLen) (hby : (els.length + els3.length) * j.bytes ≤ 140737488355328) :
  ∃ v' w' G', (Builtin.append_ #[t, t] ty #[v, x]).run E.P w = .ok v' w' ∧ Ext [id, id3] G w G' w' ∧ Reps G' w' (.own id (els.length + els3.length)) v' ∧ RelB G' w' id (some (.tree sz e ty2 (els ++ els3))) ∧ RelB G' w' id3 (some .junk) := by
 obtain ⟨inf, hi1, hi2, hi3, hi4⟩ := hj.info
 obtain ⟨xs, h1, h0, h2, h2n, h3, h4⟩ := owns_of_tree r hn hv
 obtain ⟨news, k1, k0, k2, k2n, k3, k4⟩ := owns_of_tree r3 rfl hx
 have hsz' : inf.size = sz := by rw [hi2, hsz]
 have hsz3' : sz3 = sz := by rw [hsz3, hsz]
 subst hsz3'
 obtain ⟨s4, s5⟩ := firstCells_of (P := E.P) k1
 have X0 := ext_absorb hi r3.1 hne
 have hi0 := hi.ext X0
 have ra := r.absorb hne
 have hjk := junk_absorb (w := w) (d := id) r3.1
 by_cases hm : els3 = []
 ·subst hm
  have hnews : news = [] := List.eq_nil_of_length_eq_zero (by simpa using k4)
  subst hnews
  rw [← hsz'] at h1
  refine ⟨v, w, G.absorb id3 id, run_app0 ht hi1 ht (.inl rfl) h1 (by simpa using s4) (by rw [hsz']; simpa using s5), X0, ?_, by rw [List.append_nil]; exact ra, hjk⟩
  rw [List.length_nil, Nat.add_zero, ← hn]
  exact Reps.ext X0 hi _ _ hv
 ·have hm0 : 0 < els3.length := List.length_pos_iff.2 hm
  have hone : ∀ u ∈ news, u.oneCell' = true := by
   have := k2.one
   rwa [flatten_len k0, ← k4, List.take_length] at this
  rw [← hsz'] at h1
  obtain ⟨g, cap, cur, w', a1, a2, a3, a4, a5, a6, a7, a8⟩ := run_app (ty := ty) ht hi1 hi4 (by rw [hj.2.2, hi2]) ht (.inl rfl) h1 (by rw [hsz']; exact k4) s4 (by rw [hsz']; exact s5) hone hm0 (by rw [hn]; exact h63) (by rw [hn, hi3]; exact hby)
  rw [hsz'] at a3 a6
  have hab : ∀ b, G.own b = some id → (G.absorb id3 id).own b = some id := fun b hb => by
   simp only [Gh.absorb]
   rw [if_neg (by rw [hb]; simpa using (Ne.symm hne))]
   exact hb
  have hrow : ∀ b, v.ownBlock = some b → (G.absorb id3 id).own b = some id ∧ (G.absorb id3 id).top b := fun b hb => by
   obtain ⟨q1, q2⟩ := h3 b hb
   exact ⟨hab b q1, by rw [q1]; simpa using (Ne.symm hne), q2⟩
  have hgt : (G.absorb id3 id).top g := by
   rcases a8 with a | a
   ·exact (hrow g a).2
   ·rw [a]; exact hi0.top _ (Nat.le_refl _)
  have hgl : g < w'.heap.size := (Array.getElem?_eq_some_iff.1 a2).1
  have hinf : (G.absorb id3 id).inf id = some (sz3, n, false) := by rw [ra.1, hn]
  have X1 := ext_regrowT hi0 hinf hm0 a7 hrow hgl a8
  have h6 : ((G.absorb id3 id).regrowT id g (sz3, n + els3.length, false)).own g = some id := by simp [Gh.regrowT]
  have h7 : ((G.absorb id3 id).regrowT id g (sz3, n + els3.length, false)).inf id = some (sz3, n + els3.length, false) := by simp [Gh.regrowT]
  have h8 : ∀ b, ((G.absorb id3 id).regrowT id g (sz3, n + els3.length, false)).own b = some id → (G.absorb id3 id).top b → b = g := fun b hb' ht' => by
   by_cases e1 : b = g
   ·exact e1
   ·exfalso
    by_cases e2 : (G.absorb id3 id).own b = some id ∧ (G.absorb id3 id).top b
    ·simp only [Gh.regrowT] at hb'
     rw [if_neg e1, if_pos e2] at hb'
     cases hb'
    ·rw [regrowT_far e1 e2] at hb'
     exact e2 ⟨hb', ht'⟩
  have mono : ∀ l v, InnR (G.absorb id3 id) w id ty2 l v → InnR ((G.absorb id3 id).regrowT id g (sz3, n + els3.length, false)) w' id ty2 l v := fun l v q => q.grown hi0 a7 hrow hgt
  have t1 : TrP ((G.absorb id3 id).regrowT id g (sz3, n + els3.length, false)) w' id ty2 els.flatten xs := TrP.mono (fun l v q => mono l v (q.absorb hne)) h2
  have t2 : TrP ((G.absorb id3 id).regrowT id g (sz3, n + els3.length, false)) w' id ty2 els3.flatten news := TrP.mono (fun l v q => mono l v q.absorbed) k2
  have lF : xs.length = els.flatten.length := by rw [h4, flatten_len h0, hn]
  have lF3 : news.length = els3.flatten.length := by rw [k4, flatten_len k0]
  have hcur : cur.toList.take (els ++ els3).flatten.length = (xs ++ news).take (els ++ els3).flatten.length := by
   have e1 : (els ++ els3).flatten.length = (n + els3.length) * sz3 := by rw [List.flatten_append, List.length_append, ← lF, ← lF3, h4, k4, Nat.add_mul]
   rw [e1, a6, List.take_of_length_le]
   rw [List.length_append, h4, k4, Nat.add_mul]
   exact Nat.le_refl _
  refine ⟨_, w', _, a1, (Ext.trans hi X0 X1).mono (fun y hy => by
   simp only [List.mem_append, List.mem_cons, List.not_mem_nil, or_false] at hy ⊢
   rcases hy with (hy | hy) | hy <;> simp [hy]), ?_, ⟨?_, hz, fun b b' e1 e2 e3 e4 => by rw [h8 b e1 e2, h8 b' e3 e4], .inr ⟨g, cur, ⟨h6, hgt⟩, a2, ?_, ?_, ?_, ?_⟩⟩, RelB.ext X1 hi0 (by simpa using hne) hjk⟩
  ·rw [← hn]
   simp only [Reps]
   exact ⟨_, _, _, h7, hz, rfl, .inr ⟨rfl, .inr ⟨g, cap, cur, e, rfl, ⟨h6, hgt⟩, a2, a3, a4, a5⟩⟩⟩
  ·rw [h7, List.length_append, hn]
  ·rw [List.length_append, ← hn, a3]
   exact Nat.mul_le_mul_right _ a4
  ·intro y hy
   rcases List.mem_append.1 hy with hy | hy
   ·exact h0 y hy
   ·exact k0 y hy
  ·refine TrP.keep ?_ hcur
   rw [List.flatten_append]
   exact t1.append lF t2
  ·rw [blkP_keep hcur, List.flatten_append, blkP_append lF, List.nodup_append]
   refine ⟨h2n, k2n, fun y hy z hz' e' => ?_⟩
   subst e'
   have q1 := blkP_own h2 y hy
   have q2 := blkP_own k2 y hz'
   rw [q1] at q2
   injection q2 with q2
   exact hne q2.symm
end
end Go.Proofs.YthkepmicdpgbbaaGreatDoor.E
