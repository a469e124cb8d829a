/- Texts of this seat's claims, put together: EvP, EvQ, EvR, EvS, EvT, EvW, EvU, EvMk, EvV, EvX -/
import Derived.Test.YtkpcieenikmbmaaPkXB3
/- Operations in order, told with values. -/
namespace Go.Proofs.Ytkpcieenikmbmaa.E
open Go Go.RowKit Go.Proofs.YtkpcieenikmbmaaW.PrintWords
set_option linter.unusedVariables false
set_option linter.unusedSimpArgs false

theorem put_length : ∀ (s : List PV) (t : Nat) (q : PV), (put s t q).length = s.length
  | [], _, _ => rfl
  | _ :: _, 0, _ => rfl
  | _ :: r, n + 1, q => by simp [put, put_length r n q]
theorem nth_put_ne : ∀ (s : List PV) (t u : Nat) (q : PV), u ≠ t → nth (put s t q) u = nth s u
  | [], _, _, _, _ => rfl
  | _ :: _, 0, 0, _, h => absurd rfl h
  | _ :: _, 0, _ + 1, _, _ => rfl
  | _ :: _, _ + 1, 0, _, _ => rfl
  | _ :: r, t + 1, u + 1, q, h => nth_put_ne r t u q (by omega)
theorem nth_put_same : ∀ (s : List PV) (t : Nat) (q : PV), t < s.length → nth (put s t q) t = q
  | [], _, _, h => by simp at h
  | _ :: _, 0, _, _ => rfl
  | _ :: r, t + 1, q, h => nth_put_same r t q (by simpa using h)
theorem nth_ge : ∀ (s : List PV) (t : Nat), s.length ≤ t → nth s t = .un
  | [], _, _ => rfl
  | _ :: _, 0, h => by simp at h
  | _ :: r, t + 1, h => nth_ge r t (by simpa using h)
theorem put_self : ∀ (s : List PV) (t : Nat), put s t (nth s t) = s
  | [], _ => rfl
  | _ :: _, 0 => rfl
  | _ :: r, t + 1 => by simp [put, nth, put_self r t]
theorem nthO_eq : ∀ (l : List Oper) (n : Nat), nthO l n = l[n]?
  | [], _ => rfl
  | _ :: _, 0 => rfl
  | _ :: r, n + 1 => by simpa [nthO] using nthO_eq r n

section
variable {s : List PV} {h : List Blk} {G G' : Gh} {a : Act} {w w' : World}
theorem Rel.ev (r : Rel s h G a w) (x : Operand) : Reps G w (E.ev s x) (a.eval x) := by
  cases x with
  | tmp t => exact r.t t
  | const v => exact ofV_ok G w v
  | _ => simp only [E.ev, Reps]

theorem reps_put {q : PV} {v : Value} {d : Tmp} (hs : a.tmps.size = s.length) (hq : Reps G w q v) (t : Nat) (ht : t = d) : Reps G w (nth (put s d q) t) ((a.put (some d) v).tmps.getD t undef) := by
  subst ht
  by_cases hl : t < s.length
  · rw [nth_put_same s t q hl]
    have : (a.put (some t) v).tmps.getD t undef = v := by
      simp [Act.put, Array.getElem?_setIfInBounds, hs, hl]
    rw [this]
    exact hq
  · rw [nth_ge _ t (by rw [put_length]; omega)]
    simp only [Reps]
theorem getD_put_ne {v : Value} {d : Tmp} {t : Nat} (hne : t ≠ d) : (a.put (some d) v).tmps.getD t undef = a.tmps.getD t undef := by
  simp [Act.put, Array.getElem?_setIfInBounds_ne (Ne.symm hne)]
theorem size_put (d : Option Tmp) (v : Value) : (a.put d v).tmps.size = a.tmps.size := by cases d <;> simp [Act.put]
theorem putO_length (d : Option Tmp) (q : PV) : (putO s d q).length = s.length := by cases d <;> simp [putO, put_length]

theorem Rel.step (r : Rel s h G a w) {h' : List Blk} {wr : List Nat} {q : PV} {v : Value} (hk : Keeps h h' wr) (d : Option Tmp) (X : Ext wr G w G' w') (hq : Reps G' w' q v) (hb : ∀ id ∈ wr, RelB G' w' id (nthB h' id)) :
    Rel (putO s d q) h' G' (a.put d v) w' where
  defers := by cases d <;> exact r.defers
  size := by rw [size_put, putO_length]; exact r.size
  t := fun t => by
    cases d with
    | none => exact Reps.ext X r.inv _ _ (r.t t)
    | some d =>
      by_cases ht : t = d
      · exact reps_put r.size hq t ht
      · rw [getD_put_ne ht]
        simp only [putO]
        rw [nth_put_ne s d t q ht]
        exact Reps.ext X r.inv _ _ (r.t t)
  b := fun id => by
    by_cases hm : id ∈ wr
    · exact hb id hm
    · rw [hk id hm]
      exact RelB.ext X r.inv hm (r.b id)
  inv := r.inv.ext X
theorem reps_undef (G : Gh) (w : World) : Reps G w (.tup []) undef := by
  simp only [Reps, RepsL]
  exact ⟨#[], rfl, rfl⟩
theorem Rel.skip (r : Rel s h G a w) (d : Option Tmp) : Rel (putO s d (.tup [])) h G (a.put d undef) w :=
  r.step (wr := []) (fun _ _ => rfl) d (Ext.refl r.inv []) (reps_undef _ _) (fun id hid => by cases hid)
end

def Fr (G0 : Gh) (w0 : World) (G : Gh) (w : World) : Prop := ∃ ids, Ext ids G0 w0 G w
theorem Fr.step {G0 G G' : Gh} {w0 w w' : World} {ids : List Nat} (hi : Inv G0 w0) (f : Fr G0 w0 G w) (X : Ext ids G w G' w') : Fr G0 w0 G' w' := by
  obtain ⟨is, Y⟩ := f
  exact ⟨_, Y.trans hi X⟩

theorem dst_of {ops : Array Oper} {j : Nat} {t : Tmp} (h : dstAt ops.toList j = some t) : (ops[j]?).bind (·.dst) = some t := by
  unfold dstAt at h
  rw [nthO_eq, Array.getElem?_toList] at h
  cases ho : ops[j]? with
  | none => rw [ho] at h; cases h
  | some o => rw [ho] at h; exact h

theorem yielded_of {ops : Array Oper} {tmps : Array Value} {j : Nat} {t : Tmp} {x : Bool} (h : dstAt ops.toList j = some t) (hv : tmps.getD t undef = .bool x) : yielded ops tmps j = some x := by
  unfold yielded
  rw [dst_of h]
  cases hq : tmps[t]? with
  | none =>
    rw [Array.getD_eq_getD_getElem?, hq] at hv
    cases hv
  | some v =>
    rw [Array.getD_eq_getD_getElem?, hq] at hv
    simp only [Option.getD_some] at hv
    subst hv
    simp [hq]

theorem yielded_undef {ops : Array Oper} {tmps : Array Value} {j : Nat} {t : Tmp} (h : dstAt ops.toList j = some t) (hv : tmps.getD t undef = .tuple #[]) : yielded ops tmps j = none := by
  unfold yielded
  rw [dst_of h]
  cases hq : tmps[t]? with
  | none => simp [hq]
  | some v =>
    rw [Array.getD_eq_getD_getElem?, hq] at hv
    simp only [Option.getD_some] at hv
    subst hv
    simp [hq]
theorem undef_of {G : Gh} {w : World} {v : Value} (h : Reps G w (.tup []) v) : v = .tuple #[] := by
  simp only [Reps, RepsL] at h
  obtain ⟨vs, rfl, e⟩ := h
  rw [Array.toList_eq_nil_iff.1 e]
section
variable {E : Env} {ops : Array Oper} {G0 : Gh} {w0 : World} {Q : Exit → Act → World → Prop}
theorem ops_seq (hi0 : Inv G0 w0) : ∀ (l : List Oper) (s : List PV) (h : List Blk) (K : List PV → List Blk → List (List Nat × List Nat) → Prop), aOps E ops.toList l s h K →
    ∀ (G : Gh) (a : Act) (w : World), Rel s h G a w → Fr G0 w0 G w → (∀ s' h' acc G' a' w', K s' h' acc → Rel s' h' G' a' w' → Fr G0 w0 G' w' → Q .normal a' w') → wpList E.P ops Q l a w
  | [], s, h, K, hk, G, a, w, r, f, hQ => hQ s h [] G a w hk r f
  | o :: l, s, h, K, hk, G, a, w, r, f, hQ => by
    have run : ∀ (s : List PV), Rel s h G a w → Region.wanted o (yielded ops a.tmps) = true → aOp E h s o.op (fun q h' rd wr => aOps E ops.toList l (putO s o.dst q) h' fun s2 h2 acc => K s2 h2 ((rd, wr) :: acc)) → wpList E.P ops Q (o :: l) a w := fun s r hw hk => by
      obtain ⟨q, h', rd, wr, hk, g1, g2, g3⟩ := op_ok hk
      unfold wpList
      rw [if_pos hw]
      left
      refine g3 G a w r.inv (fun x _ => r.ev x) (fun id _ => r.b id) _ _ fun v G' w' X hq hb => ?_
      exact ops_seq hi0 l _ _ _ hk G' _ w' (r.step g1 o.dst X hq hb) (f.step hi0 X) (fun s' h' acc G2 a2 w2 hK r2 f2 => hQ s' h' _ G2 a2 w2 hK r2 f2)
    unfold aOps at hk
    cases hg : o.guard with
    | none =>
      rw [hg] at hk
      exact run s r (by simp [Region.wanted, hg]) hk
    | some jw =>
      obtain ⟨j, want⟩ := jw
      rw [hg] at hk
      simp only at hk
      cases hd : dstAt ops.toList j with
      | none => rw [hd] at hk; exact hk.elim
      | some t =>
        rw [hd] at hk
        simp only at hk
        split at hk
        · rename_i x hx
          have hv : a.tmps.getD t undef = .bool x := by
            have := r.t t
            rw [hx] at this
            simpa only [Reps, RepC] using this
          have hy := yielded_of hd hv
          by_cases hxw : x = want
          · subst hxw
            have hs : put s t (.v (.b x)) = s := by rw [← hx]; exact put_self s t
            rw [hs] at hk
            exact run s r (by simp [Region.wanted, hg, hy]) (hk.1 rfl)
          · have hxn : x = (!want) := by cases x <;> cases want <;> simp_all
            have hs : put s t (.v (.b (!want))) = s := by rw [← hxn, ← hx]; exact put_self s t
            have hk2 := hk.2 hxn
            rw [hs] at hk2
            unfold wpList
            rw [if_neg (by simp [Region.wanted, hg, hy, hxw])]
            exact ops_seq hi0 l _ _ _ hk2 G _ w (r.skip o.dst) f (fun s' h' acc G2 a2 w2 hK r2 f2 => hQ s' h' _ G2 a2 w2 hK r2 f2)
        · rename_i hx
          have hv := r.t t
          rw [hx] at hv
          have hy := yielded_undef hd (undef_of hv)
          unfold wpList
          rw [if_neg (by simp [Region.wanted, hg, hy])]
          exact ops_seq hi0 l _ _ _ hk G _ w (r.skip o.dst) f (fun s' h' acc G2 a2 w2 hK r2 f2 => hQ s' h' _ G2 a2 w2 hK r2 f2)
        · exact hk.elim
end
end Go.Proofs.Ytkpcieenikmbmaa.E

/- Operations in whatever order their edges allow, told with values. -/
namespace Go.Proofs.Ytkpcieenikmbmaa.E
open Go Go.RowKit Go.Proofs.YtkpcieenikmbmaaW.PrintWords
set_option linter.unusedVariables false
set_option linter.unusedSimpArgs false

def Wanted (all : List Oper) (o : Oper) (s : List PV) : Prop := o.guard = none ∨ ∃ j want t, o.guard = some (j, want) ∧ dstAt all j = some t ∧ nth s t = .v (.b want)
def NotWanted (all : List Oper) (o : Oper) (s : List PV) : Prop := ∃ j want t, o.guard = some (j, want) ∧ dstAt all j = some t ∧ (nth s t = .v (.b (!want)) ∨ nth s t = .tup [])
def StepAt (P : Program) (all : List Oper) (o : Oper) (x y : List PV × List Blk) (c : List Nat × List Nat) : Prop :=
  (Wanted all o x.1 ∧ ∃ q, y.1 = putO x.1 o.dst q ∧ Keeps x.2 y.2 c.2 ∧ OpOk P o x.1 x.2 q y.2 c.1 c.2) ∨ (NotWanted all o x.1 ∧ y.1 = putO x.1 o.dst (.tup []) ∧ y.2 = x.2 ∧ c = ([], []))

theorem chain_of {E : Env} {all : List Oper} : ∀ (l : List Oper) (s : List PV) (h : List Blk) (K : List PV → List Blk → List (List Nat × List Nat) → Prop), aOps E all l s h K →
    ∃ (S : Nat → List PV × List Blk) (acc : List (List Nat × List Nat)), acc.length = l.length ∧ S 0 = (s, h) ∧ (∀ i o, l[i]? = some o → StepAt E.P all o (S i) (S (i + 1)) (acc.getD i ([], []))) ∧ K (S l.length).1 (S l.length).2 acc
  | [], s, h, K, hk => ⟨fun _ => (s, h), [], rfl, rfl, fun i o hi => by simp at hi, hk⟩
  | o :: l, s, h, K, hk => by
    have run : Wanted all o s → aOp E h s o.op (fun q h' rd wr => aOps E all l (putO s o.dst q) h' fun s2 h2 acc => K s2 h2 ((rd, wr) :: acc)) →
        ∃ (S : Nat → List PV × List Blk) (acc : List (List Nat × List Nat)), acc.length = (o :: l).length ∧ S 0 = (s, h) ∧ (∀ i o', (o :: l)[i]? = some o' → StepAt E.P all o' (S i) (S (i + 1)) (acc.getD i ([], []))) ∧ K (S (o :: l).length).1 (S (o :: l).length).2 acc := fun hw hk => by
      obtain ⟨q, h', rd, wr, hk, g1, g2, g3⟩ := op_ok hk
      obtain ⟨S, acc, a1, a2, a3, a4⟩ := chain_of l _ _ _ hk
      refine ⟨fun i => match i with | 0 => (s, h) | i + 1 => S i, (rd, wr) :: acc, by simp [a1], rfl, fun i o' hi => ?_, a4⟩
      cases i with
      | zero =>
        simp at hi
        subst hi
        refine .inl ⟨hw, q, ?_, ?_, ?_⟩
        · show (S 0).1 = _
          rw [a2]
        · show Keeps h (S 0).2 wr
          rw [a2]
          exact g1
        · show OpOk E.P o s h q (S 0).2 rd wr
          rw [a2]
          exact g3
      | succ i => exact a3 i o' (by simpa using hi)
    unfold aOps at hk
    cases hg : o.guard with
    | none =>
      rw [hg] at hk
      exact run (.inl hg) hk
    | some jw =>
      obtain ⟨j, want⟩ := jw
      rw [hg] at hk
      simp only at hk
      cases hd : dstAt all j with
      | none => rw [hd] at hk; exact hk.elim
      | some t =>
        rw [hd] at hk
        simp only at hk
        split at hk
        · rename_i x hx
          by_cases hxw : x = want
          · subst hxw
            have hs : put s t (.v (.b x)) = s := by rw [← hx]; exact put_self s t
            rw [hs] at hk
            exact run (.inr ⟨j, x, t, hg, hd, hx⟩) (hk.1 rfl)
          · have hxn : x = (!want) := by cases x <;> cases want <;> simp_all
            have hs : put s t (.v (.b (!want))) = s := by rw [← hxn, ← hx]; exact put_self s t
            have hk2 := hk.2 hxn
            rw [hs] at hk2
            obtain ⟨S, acc, a1, a2, a3, a4⟩ := chain_of l _ _ _ hk2
            refine ⟨fun i => match i with | 0 => (s, h) | i + 1 => S i, ([], []) :: acc, by simp [a1], rfl, fun i o' hi => ?_, a4⟩
            cases i with
            | zero =>
              simp at hi
              subst hi
              refine .inr ⟨⟨j, want, t, hg, hd, .inl (by rw [hx, hxn])⟩, ?_, ?_, rfl⟩
              · show (S 0).1 = _
                rw [a2]
              · show (S 0).2 = _
                rw [a2]
            | succ i => exact a3 i o' (by simpa using hi)
        · rename_i hx
          obtain ⟨S, acc, a1, a2, a3, a4⟩ := chain_of l _ _ _ hk
          refine ⟨fun i => match i with | 0 => (s, h) | i + 1 => S i, ([], []) :: acc, by simp [a1], rfl, fun i o' hi => ?_, a4⟩
          cases i with
          | zero =>
            simp at hi
            subst hi
            refine .inr ⟨⟨j, want, t, hg, hd, .inr hx⟩, ?_, ?_, rfl⟩
            · show (S 0).1 = _
              rw [a2]
            · show (S 0).2 = _
              rw [a2]
          | succ i => exact a3 i o' (by simpa using hi)
        · exact hk.elim

/-! ### the check of the order -/
def Lst (listed : Array Bool) (i : Nat) : Prop := listed.getD i false = true
def Down (all : List Oper) (listed : Array Bool) : Prop := ∀ k o, all[k]? = some o → Lst listed k → ∀ e ∈ o.after.toList, Region.binds .any e = true → Lst listed e.on
theorem dep_listed {all : List Oper} {listed : Array Bool} (hd : Down all listed) : ∀ (n i k : Nat), dep all n i k = true → Lst listed k → Lst listed i
  | 0, _, _, h, _ => by simp [dep] at h
  | n + 1, i, k, h, hl => by
    unfold dep at h
    rw [nthO_eq] at h
    cases ho : all[k]? with
    | none => rw [ho] at h; cases h
    | some o =>
      rw [ho] at h
      simp only [List.any_eq_true, Bool.and_eq_true, Bool.or_eq_true] at h
      obtain ⟨e, he, hb, h1 | h1⟩ := h
      · rw [← Nat.eq_of_beq_eq_true h1]
        exact hd k o ho hl e he hb
      · exact dep_listed hd n i e.on h1 (hd k o ho hl e he hb)
theorem dep_ready {all : List Oper} {listed : Array Bool} (hd : Down all listed) {n i k : Nat} {o : Oper} (h : dep all n i k = true) (ho : all[k]? = some o) (hr : ∀ e ∈ o.after.toList, Region.binds .any e = true → Lst listed e.on) : Lst listed i := by
  cases n with
  | zero => simp [dep] at h
  | succ n =>
    unfold dep at h
    rw [nthO_eq, ho] at h
    simp only [List.any_eq_true, Bool.and_eq_true, Bool.or_eq_true] at h
    obtain ⟨e, he, hb, h1 | h1⟩ := h
    · rw [← Nat.eq_of_beq_eq_true h1]
      exact hr e he hb
    · exact dep_listed hd n i e.on h1 (hr e he hb)
theorem ordFrom_ok {all : List Oper} {n i : Nat} {o : Oper} {x : List Nat × List Nat} : ∀ (l : List Oper) (acc : List (List Nat × List Nat)) (k : Nat), ordFrom all n i o x k l acc = true →
    ∀ j o', l[j]? = some o' → clash all o o' x (acc.getD j ([], [])) = true → dep all n i (k + j) = true
  | [], _, _, _, j, o', hj, _ => by simp at hj
  | y :: l, [], k, h, j, o', hj, _ => by simp [ordFrom] at h
  | y :: l, z :: acc, k, h, j, o', hj, hc => by
    simp only [ordFrom, Bool.and_eq_true, Bool.or_eq_true, Bool.not_eq_true'] at h
    cases j with
    | zero =>
      simp at hj
      subst hj
      simp at hc
      rcases h.1 with h1 | h1
      · rw [hc] at h1; cases h1
      · exact h1
    | succ j =>
      have := ordFrom_ok l acc (k + 1) h.2 j o' (by simpa using hj) (by simpa using hc)
      rw [show k + (j + 1) = k + 1 + j by omega]
      exact this
theorem ordOk_ok {all : List Oper} {n : Nat} : ∀ (l : List Oper) (acc : List (List Nat × List Nat)) (b : Nat), ordOk all n b l acc = true →
    ∀ i k o o', i < k → l[i]? = some o → l[k]? = some o' → clash all o o' (acc.getD i ([], [])) (acc.getD k ([], [])) = true → dep all n (b + i) (b + k) = true
  | [], _, _, _, i, k, o, o', _, hi, _, _ => by simp at hi
  | y :: l, [], b, h, i, k, o, o', _, hi, _, _ => by simp [ordOk] at h
  | y :: l, z :: acc, b, h, i, k, o, o', hlt, hi, hk, hc => by
    simp only [ordOk, Bool.and_eq_true] at h
    cases i with
    | zero =>
      simp at hi
      subst hi
      cases k with
      | zero => omega
      | succ k =>
        have := ordFrom_ok l acc (b + 1) h.1 k o' (by simpa using hk) (by simpa using hc)
        rw [show b + (k + 1) = b + 1 + k by omega]
        exact this
    | succ i =>
      cases k with
      | zero => omega
      | succ k =>
        have := ordOk_ok l acc (b + 1) h.2 i k o o' (by omega) (by simpa using hi) (by simpa using hk) (by simpa using hc)
        rw [show b + (i + 1) = b + 1 + i by omega, show b + (k + 1) = b + 1 + k by omega]
        exact this
theorem afterOk_ok : ∀ (l : List Oper) (b i : Nat) (o : Oper), afterOk b l = true → l[i]? = some o → ∀ e ∈ o.after.toList, Region.binds .any e = true → e.on < b + i
  | [], _, i, o, _, hi, _, _, _ => by simp at hi
  | y :: l, b, i, o, h, hi, e, he, hb => by
    simp only [afterOk, Bool.and_eq_true] at h
    cases i with
    | zero =>
      simp at hi
      subst hi
      have := List.all_eq_true.1 h.1 e he
      rw [hb] at this
      have h2 : Nat.blt e.on b = true := by simpa using this
      have := Nat.le_of_ble_eq_true h2
      omega
    | succ i =>
      have := afterOk_ok l (b + 1) i o h.2 (by simpa using hi) e he hb
      omega
theorem meets_of {xs ys : List Nat} {x : Nat} (h1 : x ∈ xs) (h2 : x ∈ ys) : meets xs ys = true := by
  unfold meets
  rw [List.any_eq_true]
  exact ⟨x, h1, by rw [List.any_eq_true]; exact ⟨x, h2, Nat.beq_refl x⟩⟩

theorem countP_lt {p q : Nat → Bool} : ∀ (l : List Nat) (x : Nat), x ∈ l → q x = true → p x = false → (∀ y, p y = true → q y = true) → l.countP p + 1 ≤ l.countP q
  | [], x, h, _, _, _ => by cases h
  | y :: r, x, h, hq, hp, hm => by
    have mono : ∀ r : List Nat, r.countP p ≤ r.countP q := fun r => List.countP_mono_left (fun z _ hz => hm z hz)
    simp only [List.countP_cons]
    rcases List.mem_cons.1 h with rfl | h
    · rw [hq, hp]
      have := mono r
      simp
      omega
    · have := countP_lt r x h hq hp hm
      cases hy : p y with
      | true => rw [hm y hy]; simp; omega
      | false => cases q y <;> simp <;> omega
end Go.Proofs.Ytkpcieenikmbmaa.E

/- Operations in whatever order their edges allow come to what they come to in the text's order. -/
namespace Go.Proofs.Ytkpcieenikmbmaa.E
open Go Go.RowKit Go.Proofs.YtkpcieenikmbmaaW.PrintWords
set_option linter.unusedVariables false
set_option linter.unusedSimpArgs false

section
variable {P : Program} {ops : Array Oper} {G0 : Gh} {w0 : World} {S : Nat → List PV × List Blk} {acc : List (List Nat × List Nat)} {len0 : Nat}

structure Mid (ops : Array Oper) (G0 : Gh) (w0 : World) (S : Nat → List PV × List Blk) (acc : List (List Nat × List Nat)) (len0 : Nat) (listed : Array Bool) (G : Gh) (a : Act) (w : World) : Prop where
  inv : Inv G w
  fr : Fr G0 w0 G w
  defers : a.defers = []
  size : a.tmps.size = len0
  lsize : listed.size = ops.size
  down : Down ops.toList listed
  t : ∀ t j, j ≤ ops.size → (∀ i o, ops.toList[i]? = some o → o.dst = some t → (Lst listed i ↔ i < j)) → Reps G w (nth (S j).1 t) (a.tmps.getD t undef)
  b : ∀ id j, j ≤ ops.size → (∀ i, i < ops.size → id ∈ (acc.getD i ([], [])).2 → (Lst listed i ↔ i < j)) → RelB G w id (nthB (S j).2 id)

theorem lst_set {listed : Array Bool} {i k : Nat} (hi : i < listed.size) : Lst (listed.setIfInBounds i true) k ↔ (k = i ∨ Lst listed k) := by
  unfold Lst
  by_cases h : k = i
  · subst h
    simp [Array.getElem?_setIfInBounds, hi]
  · simp [Array.getElem?_setIfInBounds_ne (Ne.symm h), h]

theorem same_t (hS : ∀ i o, ops.toList[i]? = some o → StepAt P ops.toList o (S i) (S (i + 1)) (acc.getD i ([], []))) (t : Nat) : ∀ (d j : Nat), j + d ≤ ops.size → (∀ i o, j ≤ i → i < j + d → ops.toList[i]? = some o → o.dst ≠ some t) → nth (S (j + d)).1 t = nth (S j).1 t
  | 0, j, _, _ => rfl
  | d + 1, j, hd, hn => by
    have ih := same_t hS t d j (by omega) (fun i o h1 h2 => hn i o h1 (by omega))
    have hlt : j + d < ops.toList.length := by rw [Array.length_toList]; omega
    have ho : ops.toList[j + d]? = some ops.toList[j + d] := List.getElem?_eq_getElem hlt
    have hne := hn (j + d) _ (by omega) (by omega) ho
    rw [← ih, show j + (d + 1) = j + d + 1 by omega]
    have put_far : ∀ q, nth (putO (S (j + d)).1 (ops.toList[j + d]).dst q) t = nth (S (j + d)).1 t := fun q => by
      cases hdst : (ops.toList[j + d]).dst with
      | none => rfl
      | some u => exact nth_put_ne _ u t q (fun e => hne (by rw [hdst, e]))
    rcases hS _ _ ho with ⟨_, q, h1, _⟩ | ⟨_, h1, _⟩
    · rw [h1]; exact put_far q
    · rw [h1]; exact put_far (.tup [])
theorem same_b (hS : ∀ i o, ops.toList[i]? = some o → StepAt P ops.toList o (S i) (S (i + 1)) (acc.getD i ([], []))) (id : Nat) : ∀ (d j : Nat), j + d ≤ ops.size → (∀ i, j ≤ i → i < j + d → id ∉ (acc.getD i ([], [])).2) → nthB (S (j + d)).2 id = nthB (S j).2 id
  | 0, j, _, _ => rfl
  | d + 1, j, hd, hn => by
    have ih := same_b hS id d j (by omega) (fun i h1 h2 => hn i h1 (by omega))
    have hlt : j + d < ops.toList.length := by rw [Array.length_toList]; omega
    have ho : ops.toList[j + d]? = some ops.toList[j + d] := List.getElem?_eq_getElem hlt
    have hne := hn (j + d) (by omega) (by omega)
    rw [← ih, show j + (d + 1) = j + d + 1 by omega]
    rcases hS _ _ ho with ⟨_, q, _, h1, _⟩ | ⟨_, _, h1, _⟩
    · exact h1 id hne
    · rw [h1]

theorem mid_step (hi0 : Inv G0 w0) (hS : ∀ i o, ops.toList[i]? = some o → StepAt P ops.toList o (S i) (S (i + 1)) (acc.getD i ([], [])))
    (hlen : ∀ j, (S j).1.length = len0 ∨ ops.size < j)
    (hord : ∀ i k o o', i < k → ops.toList[i]? = some o → ops.toList[k]? = some o' → clash ops.toList o o' (acc.getD i ([], [])) (acc.getD k ([], [])) = true → dep ops.toList (len ops.toList) i k = true)
    {listed : Array Bool} {G : Gh} {a : Act} {w : World} (M : Mid ops G0 w0 S acc len0 listed G a w) {i : Nat} (hr : i ∈ Region.ready .any ops listed) {J : Act → World → Prop} {Q : Exit → Act → World → Prop}
    (hJ : ∀ G' a' w', Mid ops G0 w0 S acc len0 (listed.setIfInBounds i true) G' a' w' → J a' w') : wpOp P ops Q i J a w := by
  obtain ⟨hun, o, ho, hready⟩ := mem_ready.1 hr
  have hol : ops.toList[i]? = some o := by rw [Array.getElem?_toList]; exact ho
  have hlt : i < ops.size := (Array.getElem?_eq_some_iff.1 ho).1
  have hni : ¬ Lst listed i := fun h => by
    unfold Lst at h
    have hl : i < listed.size := by rw [M.lsize]; exact hlt
    simp [hl] at hun h
    rw [hun] at h
    cases h
  have hrd : ∀ e ∈ o.after.toList, Region.binds .any e = true → Lst listed e.on := fun e he hb => hready e (Array.mem_toList_iff.1 he) hb
  have hi' : i < listed.size := by rw [M.lsize]; exact hlt
  -- what i clashes with stands before it and is done, or behind it and is not
  have before : ∀ k o', k < i → ops.toList[k]? = some o' → clash ops.toList o' o (acc.getD k ([], [])) (acc.getD i ([], [])) = true → Lst listed k := fun k o' hk hok hc =>
    dep_ready M.down (hord k i o' o hk hok hol hc) hol hrd
  have behind : ∀ k o', i < k → ops.toList[k]? = some o' → clash ops.toList o o' (acc.getD i ([], [])) (acc.getD k ([], [])) = true → ¬ Lst listed k := fun k o' hk hok hc hl =>
    hni (dep_listed M.down _ i k (hord i k o o' hk hol hok hc) hl)
  have wt : ∀ t, (t ∈ readsT ops.toList o ∨ o.dst = some t) → ∀ k o', ops.toList[k]? = some o' → o'.dst = some t → (Lst listed k ↔ k < i) := fun t ht k o' hok hd => by
    rcases Nat.lt_trichotomy k i with hk | hk | hk
    · refine ⟨fun _ => hk, fun _ => before k o' hk hok ?_⟩
      unfold clash
      rcases ht with ht | ht
      · rw [show meets o'.dst.toList (readsT ops.toList o) = true from meets_of (x := t) (by simp [hd]) ht]
        simp
      · rw [show meets o'.dst.toList o.dst.toList = true from meets_of (x := t) (by simp [hd]) (by simp [ht])]
        simp
    · subst hk
      exact ⟨fun h => absurd h hni, fun h => by omega⟩
    · refine ⟨fun h => absurd h (behind k o' hk hok ?_), fun h => by omega⟩
      unfold clash
      rcases ht with ht | ht
      · rw [show meets (readsT ops.toList o) o'.dst.toList = true from meets_of (x := t) ht (by simp [hd])]
        simp
      · rw [show meets o.dst.toList o'.dst.toList = true from meets_of (x := t) (by simp [ht]) (by simp [hd])]
        simp
  have wb : ∀ id, (id ∈ (acc.getD i ([], [])).1 ∨ id ∈ (acc.getD i ([], [])).2) → ∀ k, k < ops.size → id ∈ (acc.getD k ([], [])).2 → (Lst listed k ↔ k < i) := fun id hid k hks hk2 => by
    have hok : ops.toList[k]? = some (ops.toList[k]'(by rw [Array.length_toList]; exact hks)) := List.getElem?_eq_getElem _
    rcases Nat.lt_trichotomy k i with hk | hk | hk
    · refine ⟨fun _ => hk, fun _ => before k _ hk hok ?_⟩
      unfold clash
      rcases hid with hid | hid
      · rw [show meets (acc.getD k ([], [])).2 (acc.getD i ([], [])).1 = true from meets_of hk2 hid]
        simp
      · rw [show meets (acc.getD k ([], [])).2 (acc.getD i ([], [])).2 = true from meets_of hk2 hid]
        simp
    · subst hk
      exact ⟨fun h => absurd h hni, fun h => by omega⟩
    · refine ⟨fun h => absurd h (behind k _ hk hok ?_), fun h => by omega⟩
      unfold clash
      rcases hid with hid | hid
      · rw [show meets (acc.getD i ([], [])).1 (acc.getD k ([], [])).2 = true from meets_of hid hk2]
        simp
      · rw [show meets (acc.getD i ([], [])).2 (acc.getD k ([], [])).2 = true from meets_of hid hk2]
        simp
  have rt : ∀ t, t ∈ readsT ops.toList o → Reps G w (nth (S i).1 t) (a.tmps.getD t undef) := fun t ht => M.t t i (by omega) (wt t (.inl ht))
  have rb : ∀ id, (id ∈ (acc.getD i ([], [])).1 ∨ id ∈ (acc.getD i ([], [])).2) → RelB G w id (nthB (S i).2 id) := fun id hid => M.b id i (by omega) (wb id hid)
  have down' : Down ops.toList (listed.setIfInBounds i true) := fun k ok hok hl e he hb => by
    rw [lst_set hi'] at hl ⊢
    rcases hl with rfl | hl
    · rw [hol] at hok
      injection hok with hok
      subst hok
      exact .inr (hrd e he hb)
    · exact .inr (M.down k ok hok hl e he hb)
  -- behind the step
  have fin : ∀ (q : PV) (v : Value) (G' : Gh) (w' : World), (S (i + 1)).1 = putO (S i).1 o.dst q → Ext (acc.getD i ([], [])).2 G w G' w' → Reps G' w' q v → (∀ id ∈ (acc.getD i ([], [])).2, RelB G' w' id (nthB (S (i + 1)).2 id)) →
      Mid ops G0 w0 S acc len0 (listed.setIfInBounds i true) G' (a.put o.dst v) w' := fun q v G' w' hq X hqv hb =>
    { inv := M.inv.ext X
      fr := M.fr.step hi0 X
      defers := by cases o.dst <;> exact M.defers
      size := by rw [size_put]; exact M.size
      lsize := by simp [M.lsize]
      down := down'
      t := fun t j hj hw => by
        by_cases hd : o.dst = some t
        · have hij : i < j := (hw i o hol hd).1 ((lst_set hi').2 (.inl rfl))
          have hsame := same_t hS t (j - (i + 1)) (i + 1) (by omega) (fun k ok h1 h2 hok hkd => by
            have hl : Lst (listed.setIfInBounds i true) k := (hw k ok hok hkd).2 (by omega)
            rw [lst_set hi'] at hl
            rcases hl with rfl | hl
            · omega
            · have := (wt t (.inr hd) k ok hok hkd).1 hl
              omega)
          rw [show i + 1 + (j - (i + 1)) = j by omega] at hsame
          rw [hsame, hq, hd]
          refine reps_put ?_ hqv t rfl
          rcases hlen i with h | h
          · rw [M.size, h]
          · omega
        · have hold := M.t t j hj (fun k ok hok hkd => by
            rw [← hw k ok hok hkd, lst_set hi']
            refine ⟨.inr, fun h => h.resolve_left ?_⟩
            rintro rfl
            rw [hol] at hok
            injection hok with hok
            subst hok
            exact hd hkd)
          have e1 : (a.put o.dst v).tmps.getD t undef = a.tmps.getD t undef := by
            cases hdst : o.dst with
            | none => rfl
            | some u => exact getD_put_ne (fun e => hd (by rw [hdst, e]))
          rw [e1]
          exact Reps.ext X M.inv _ _ hold
      b := fun id j hj hw => by
        by_cases hd : id ∈ (acc.getD i ([], [])).2
        · have hij : i < j := (hw i hlt hd).1 ((lst_set hi').2 (.inl rfl))
          have hsame := same_b hS id (j - (i + 1)) (i + 1) (by omega) (fun k h1 h2 hk2 => by
            have hl : Lst (listed.setIfInBounds i true) k := (hw k (by omega) hk2).2 (by omega)
            rw [lst_set hi'] at hl
            rcases hl with rfl | hl
            · omega
            · have := (wb id (.inr hd) k (by omega) hk2).1 hl
              omega)
          rw [show i + 1 + (j - (i + 1)) = j by omega] at hsame
          rw [hsame]
          exact hb id hd
        · have hold := M.b id j hj (fun k hks hk2 => by
            rw [← hw k hks hk2, lst_set hi']
            refine ⟨.inr, fun h => h.resolve_left ?_⟩
            rintro rfl
            exact hd hk2)
          exact RelB.ext X M.inv hd hold }
  have guard_t : ∀ j want t, o.guard = some (j, want) → dstAt ops.toList j = some t → t ∈ readsT ops.toList o := fun j want t hg hd => by
    unfold readsT
    rw [hg]
    simp [hd]
  unfold wpOp
  rw [ho]
  simp only
  rcases hS i o hol with ⟨hw, q, h1, h2, h3⟩ | ⟨hw, h1, h2, h3⟩
  · have hwant : Region.wanted o (yielded ops a.tmps) = true := by
      rcases hw with hw | ⟨j, want, t, hg, hd, hx⟩
      · simp [Region.wanted, hw]
      · have hv := rt t (guard_t j want t hg hd)
        rw [hx] at hv
        simp only [Reps, RepC] at hv
        simp [Region.wanted, hg, yielded_of hd hv]
    rw [if_pos hwant]
    left
    refine h3 G a w M.inv (fun x hx => ?_) rb _ _ fun v G' w' X hq hb => hJ G' _ w' (fin q v G' w' h1 X hq hb)
    cases x with
    | tmp t =>
      refine rt t ?_
      unfold readsT
      refine List.mem_append_left _ (List.mem_filterMap.2 ⟨.tmp t, Array.mem_toList_iff.2 hx, rfl⟩)
    | const v => exact ofV_ok G w v
    | _ => simp only [E.ev, Reps]
  · obtain ⟨j, want, t, hg, hd, hx⟩ := hw
    have hv := rt t (guard_t j want t hg hd)
    have hwant : ¬ Region.wanted o (yielded ops a.tmps) = true := by
      rcases hx with hx | hx
      · rw [hx] at hv
        simp only [Reps, RepC] at hv
        simp [Region.wanted, hg, yielded_of hd hv]
      · rw [hx] at hv
        simp [Region.wanted, hg, yielded_undef hd (undef_of hv)]
    rw [if_neg hwant]
    exact hJ G _ w (fin (.tup []) undef G w h1 (Ext.refl M.inv _) (reps_undef _ _) (fun id hid => by rw [h3] at hid; cases hid))

theorem mid_any (hi0 : Inv G0 w0) (hS : ∀ i o, ops.toList[i]? = some o → StepAt P ops.toList o (S i) (S (i + 1)) (acc.getD i ([], [])))
    (hlen : ∀ j, (S j).1.length = len0 ∨ ops.size < j)
    (hord : ∀ i k o o', i < k → ops.toList[i]? = some o → ops.toList[k]? = some o' → clash ops.toList o o' (acc.getD i ([], [])) (acc.getD k ([], [])) = true → dep ops.toList (len ops.toList) i k = true)
    (haft : ∀ i o, ops.toList[i]? = some o → ∀ e ∈ o.after.toList, Region.binds .any e = true → e.on < i) {Q : Exit → Act → World → Prop}
    (hQ : ∀ G a w, Rel (S ops.size).1 (S ops.size).2 G a w → Fr G0 w0 G w → Q .normal a w) : ∀ (fuel : Nat) (listed : Array Bool) (G : Gh) (a : Act) (w : World), (List.range ops.size).countP (fun i => !listed.getD i false) ≤ fuel →
      Mid ops G0 w0 S acc len0 listed G a w → wpAny P .any ops Q fuel listed a w := by
  -- where nothing is ready, all is done
  have done : ∀ (listed : Array Bool) (G : Gh) (a : Act) (w : World), Mid ops G0 w0 S acc len0 listed G a w → Region.ready .any ops listed = [] → Q .normal a w := fun listed G a w M hr => by
    have all : ∀ n i, i < n → i < ops.size → Lst listed i := fun n => by
      induction n with
      | zero => intro i hi; omega
      | succ n ih =>
        intro i hi hio
        by_cases hl : Lst listed i
        · exact hl
        · exfalso
          have hol : ops.toList[i]? = some (ops.toList[i]'(by rw [Array.length_toList]; exact hio)) := List.getElem?_eq_getElem _
          have ho : ops[i]? = some (ops.toList[i]'(by rw [Array.length_toList]; exact hio)) := by rw [← Array.getElem?_toList]; exact hol
          have : i ∈ Region.ready .any ops listed := mem_ready.2 ⟨by
            have hil : i < listed.size := by rw [M.lsize]; exact hio
            unfold Lst at hl
            simp [hil] at hl ⊢
            exact hl, _, ho, fun e he hb => by
            have h1 := haft i _ hol e (Array.mem_toList_iff.2 he) hb
            exact ih e.on (by omega) (by omega)⟩
          rw [hr] at this
          cases this
    refine hQ G a w ⟨M.defers, ?_, fun t => M.t t ops.size (Nat.le_refl _) (fun i o hi _ => ?_), fun id => M.b id ops.size (Nat.le_refl _) (fun i hi _ => ⟨fun _ => hi, fun _ => all (i + 1) i (by omega) hi⟩), M.inv⟩ M.fr
    · rcases hlen ops.size with h | h
      · rw [M.size, h]
      · omega
    · have hlt : i < ops.size := by
        have := (List.getElem?_eq_some_iff.1 hi).1
        rwa [Array.length_toList] at this
      exact ⟨fun _ => hlt, fun _ => all (i + 1) i (by omega) hlt⟩
  intro fuel
  induction fuel with
  | zero =>
    intro listed G a w hc M
    have hr : Region.ready .any ops listed = [] := by
      rw [List.eq_nil_iff_forall_not_mem]
      intro i hi
      obtain ⟨hun, o, ho, _⟩ := mem_ready.1 hi
      have hlt : i < ops.size := (Array.getElem?_eq_some_iff.1 ho).1
      have : 0 < (List.range ops.size).countP (fun i => !listed.getD i false) := by
        rw [List.countP_pos_iff]
        refine ⟨i, by simpa using hlt, ?_⟩
        have hil : i < listed.size := by rw [M.lsize]; exact hlt
        simp [hil] at hun ⊢
        exact hun
      omega
    exact ⟨hr, done listed G a w M hr⟩
  | succ fuel ih =>
    intro listed G a w hc M
    refine ⟨done listed G a w M, fun i hi => mid_step hi0 hS hlen hord M hi fun G' a' w' M' => ih _ G' a' w' ?_ M'⟩
    obtain ⟨hun, o, ho, _⟩ := mem_ready.1 hi
    have hlt : i < ops.size := (Array.getElem?_eq_some_iff.1 ho).1
    have hil : i < listed.size := by rw [M.lsize]; exact hlt
    have := countP_lt (p := fun k => !(listed.setIfInBounds i true).getD k false) (q := fun k => !listed.getD k false) (List.range ops.size) i (by simpa using hlt) (by
      simp [hil] at hun ⊢
      exact hun) (by simp [Array.getElem?_setIfInBounds, hil]) (fun y hy => by
      have h1 : ¬ Lst (listed.setIfInBounds i true) y := by unfold Lst; simpa using hy
      rw [lst_set hil] at h1
      have h2 : ¬ Lst listed y := fun h => h1 (.inr h)
      unfold Lst at h2
      simpa using h2)
    omega

theorem S_len (hS : ∀ i o, ops.toList[i]? = some o → StepAt P ops.toList o (S i) (S (i + 1)) (acc.getD i ([], []))) : ∀ j, (S j).1.length = (S 0).1.length ∨ ops.size < j
  | 0 => .inl rfl
  | j + 1 => by
    rcases Nat.lt_or_ge j ops.size with h | h
    · rcases S_len hS j with h1 | h1
      · have hol : ops.toList[j]? = some (ops.toList[j]'(by rw [Array.length_toList]; exact h)) := List.getElem?_eq_getElem _
        left
        rcases hS j _ hol with ⟨_, q, e, _⟩ | ⟨_, e, _⟩
        · rw [e, putO_length, h1]
        · rw [e, putO_length, h1]
      · omega
    · right
      omega
end

theorem ops_draw {E : Env} {ops : Array Oper} {G0 : Gh} {w0 : World} {Q : Exit → Act → World → Prop} (hi0 : Inv G0 w0) {id : Nat} {s : List PV} {h : List Blk} {K : List PV → List Blk → List (List Nat × List Nat) → Prop} (hk : aOps E ops.toList ops.toList s h K)
    (hc : ∀ s' h' acc, K s' h' acc → afterOk 0 ops.toList = true ∧ ordOk ops.toList (len ops.toList) 0 ops.toList acc = true)
    {G : Gh} {a : Act} {w : World} (r : Rel s h G a w) (f : Fr G0 w0 G w) (hQ : ∀ s' h' acc G' a' w', K s' h' acc → Rel s' h' G' a' w' → Fr G0 w0 G' w' → Q .normal a' w') : (Code.region id ops true).wp E.P Q a w := by
  obtain ⟨S, acc, h1, h2, h3, h4⟩ := chain_of _ _ _ _ hk
  rw [Array.length_toList] at h1 h4
  obtain ⟨c1, c2⟩ := hc _ _ _ h4
  refine wp_region_any E.mixed ?_
  have r' : Rel s h G a { w with drawn := w.drawn + 1 } := r.step (wr := []) (q := .un) (v := undef) (fun _ _ => rfl) none (ext_drew r.inv) (by simp only [Reps]) (fun id hid => by cases hid)
  have f' : Fr G0 w0 G { w with drawn := w.drawn + 1 } := f.step hi0 (ext_drew r.inv)
  have hno : ∀ i, ¬ Lst (Array.replicate ops.size false) i := fun i h => by
    unfold Lst at h
    by_cases hi : i < ops.size
    · simp [hi] at h
    · simp [hi] at h
  refine mid_any (len0 := s.length) hi0 h3 (fun j => ?_) (fun i k o o' hlt hi hk hcl => ?_) (fun i o ho e he hb => ?_) (fun G' a' w' r2 f2 => hQ _ _ _ G' a' w' h4 r2 f2) ops.size _ G a _ (by
    have := List.countP_le_length (p := fun i => !(Array.replicate ops.size false).getD i false) (l := List.range ops.size)
    rwa [List.length_range] at this) ?_
  · have := S_len h3 j
    rw [h2] at this
    exact this
  · have := ordOk_ok _ _ 0 c2 i k o o' hlt hi hk hcl
    simpa using this
  · have := afterOk_ok _ 0 i o c1 ho e he hb
    omega
  · refine ⟨r'.inv, f', r'.defers, r'.size, by simp, fun k o _ hl => absurd hl (hno k), fun t j hj hw => ?_, fun id j hj hw => ?_⟩
    · have := same_t h3 t j 0 (by omega) (fun i o _ hi ho hd => hno i ((hw i o ho hd).2 (by omega)))
      rw [Nat.zero_add] at this
      rw [this, h2]
      exact r'.t t
    · have := same_b h3 id j 0 (by omega) (fun i _ hi hd => hno i ((hw i (by omega) hd).2 (by omega)))
      rw [Nat.zero_add] at this
      rw [this, h2]
      exact r'.b id
end Go.Proofs.Ytkpcieenikmbmaa.E

/- Code comes to what is told of it, and so does a call of it. -/
namespace Go.Proofs.Ytkpcieenikmbmaa.E
open Go Go.RowKit Go.Proofs.YtkpcieenikmbmaaW.PrintWords
set_option linter.unusedVariables false
set_option linter.unusedSimpArgs false

/-! ### other numbers -/
def Gh.gc (G : Gh) (keep : List Nat) : Gh := { G with own := fun b => (G.own b).bind (idx keep), inf := fun j => (keep[j]?).bind G.inf }
theorem nth_ren (m : Nat → Option Nat) : ∀ (s : List PV) (t : Nat), nth (renL m s) t = renP m (nth s t)
  | [], _ => by simp [renL, nth, renP]
  | _ :: _, 0 => by simp [renL, nth]
  | _ :: r, t + 1 => by simpa [renL, nth] using nth_ren m r t

/-- What a call begins with: which blocks it may write. -/
structure Refs (nref : Nat) (G0 : Gh) (w0 : World) : Prop where
  inv : Inv G0 w0
  own : ∀ b id, G0.own b = some id → id < nref
  inf : ∀ id r, G0.inf id = some r → id < nref

theorem weak_ok0 {s s' : List PV} {h h' : List Blk} {nref : Nat} {G0 G : Gh} {w0 w : World} {a : Act} (R0 : Refs nref G0 w0) (r : Rel s h G a w) (f : Fr G0 w0 G w) (hw : Weak0 s h nref s' h') : ∃ G', Rel s' h' G' a w ∧ Fr G0 w0 G' w := by
  obtain ⟨keep, hn, hp, hpk, rfl⟩ := hw
  obtain ⟨ids, X⟩ := f
  have hR : Ren (idx keep) G (G.gc keep) w :=
    { imm := fun b o hb m => by
        rcases m with ⟨h1, h2, h3⟩ | ⟨h1, h2⟩ | ⟨id, sz, n, h1, h2⟩
        · exact .inl ⟨h1, by simp only [Gh.gc]; rw [h2]; rfl, h3⟩
        · exact .inr (.inl ⟨h1, by simp only [Gh.gc]; rw [h2]; rfl⟩)
        · cases hx : idx keep id with
          | some j => exact .inr (.inr ⟨j, sz, n, by simp only [Gh.gc]; rw [h1]; exact hx, by simp only [Gh.gc]; rw [idx_some hx]; exact h2⟩)
          | none =>
            refine .inr (.inl ⟨?_, by simp only [Gh.gc]; rw [h1]; exact hx⟩)
            rcases Nat.lt_or_ge b G.base with hlt | hge
            · exfalso
              have hb0 : b < w0.heap.size := by have := R0.inv.base; rw [X.base] at hlt; omega
              cases h0 : G0.own b with
              | none => rw [(X.nn b hb0 h0).1] at h1; cases h1
              | some id0 =>
                have := (X.sm b id0 h0).2
                rw [h1] at this
                rcases this with e | e | ⟨_, j2, _, e, e2⟩
                · injection e with e
                  subst e
                  have := idx_of hn (hp id (R0.own b id h0))
                  rw [hx] at this
                  cases this
                · cases e
                · injection e with e
                  subst e
                  have rb := r.b id
                  cases hB : nthB h id with
                  | none => rw [hB] at rb; rw [rb.1] at h2; cases h2
                  | some B =>
                    rw [hB] at rb
                    cases B with
                    | arr sz2 ty2 fz2 els2 => exact e2 (rb.top_arr h1)
                    | box ty2 cs2 => rw [rb.1] at h2; cases h2
                    | tree sz2 ty2 ty3 els2 => rw [rb.1] at h2; cases h2
                    | junk =>
                      obtain ⟨sz2, n2, rb⟩ := rb
                      rw [rb] at h2
                      cases h2
            · exact hge
      own := fun i j b h1 h2 => by simp only [Gh.gc]; rw [h2]; exact h1
      inf := fun i j q h1 h2 => by simp only [Gh.gc]; rw [idx_some h1]; exact h2
      top := fun _ _ _ _ _ => Iff.rfl }
  have hlen := pickB_len hpk
  refine ⟨G.gc keep, ⟨r.defers, by rw [gcT, renL_length]; exact r.size, fun t => ?_, fun j => ?_, ⟨r.inv.base, fun b j e => ?_, r.inv.top, by obtain ⟨w0, g1, g2, g3⟩ := r.inv.gw; exact ⟨w0, g1, g2, fun b hb => by simp only [Gh.gc, g3 b hb, Option.bind_none]⟩⟩⟩, ids ++ List.range keep.length, ?_⟩
  · rw [gcT, nth_ren]
    exact Reps.ren hR _ _ (r.t t)
  · cases hj : keep[j]? with
    | none =>
      have hge : keep.length ≤ j := List.getElem?_eq_none_iff.1 hj
      rw [nthB_ge h' j (by omega)]
      refine ⟨by simp only [Gh.gc]; rw [hj]; rfl, fun b e => ?_⟩
      simp only [Gh.gc] at e
      obtain ⟨i, _, h2⟩ := Option.bind_eq_some_iff.1 e
      have := idx_some h2
      rw [hj] at this
      cases this
    | some i =>
      obtain ⟨B, h1, h2⟩ := pickB_at hpk hj
      rw [h2]
      have rb := r.b i
      rw [h1] at rb
      refine RelB.ren hR (idx_of hn hj) (fun b e => ?_) rb
      simp only [Gh.gc] at e
      obtain ⟨i', h3, h4⟩ := Option.bind_eq_some_iff.1 e
      have := idx_some h4
      rw [hj] at this
      injection this with this
      subst this
      exact h3
  · simp only [Gh.gc] at e
    obtain ⟨i, h1, _⟩ := Option.bind_eq_some_iff.1 e
    exact r.inv.own b i h1
  · have pre : ∀ id, id < nref → idx keep id = some id := fun id hid => idx_of hn (hp id hid)
    exact {
      os := X.os
      tape := X.tape
      output := X.output
      size := X.size
      base := X.base
      old := X.old
      nn := fun b hb h0 => ⟨by simp only [Gh.gc]; rw [(X.nn b hb h0).1]; rfl, (X.nn b hb h0).2⟩
      sm := fun b id h0 => by
        have hid := R0.own b id h0
        refine ⟨fun hx => ?_, ?_⟩
        · have hx' : id ∉ ids := fun e => hx (List.mem_append_left _ e)
          obtain ⟨a1, a2⟩ := (X.sm b id h0).1 hx'
          exact ⟨by simp only [Gh.gc]; rw [a1]; exact pre id hid, a2⟩
        · rcases (X.sm b id h0).2 with a1 | a1 | ⟨g1, j2, g2, g3, g4⟩
          · exact .inl (by simp only [Gh.gc]; rw [a1]; exact pre id hid)
          · exact .inr (.inl (by simp only [Gh.gc]; rw [a1]; rfl))
          · cases hj : idx keep j2 with
            | none => exact .inr (.inl (by simp only [Gh.gc]; rw [g3]; exact hj))
            | some j3 => exact .inr (.inr ⟨List.mem_append_left _ g1, j3, List.mem_append_right _ (List.mem_range.2 (idx_lt hj)), by simp only [Gh.gc]; rw [g3]; exact hj, g4⟩)
      same := fun b id cs ty h0 h1 hinf hc => by
        have hid := R0.own b id h0
        obtain ⟨sz, n, q, q', i1, i2⟩ := hinf
        have i3 : G.inf id = some (sz, n, q') := by
          simp only [Gh.gc] at i2
          rw [hp id hid] at i2
          exact i2
        have h2 : G.own b = some id := by
          obtain ⟨n', f2, a1, a2, a3, a4⟩ := X.inf id sz n q i1
          rw [i3] at a1
          injection a1 with a1
          injection a1 with _ a1
          injection a1 with a1 _
          exact a4 a1.symm b h0
        refine X.same b id cs ty h0 h2 ⟨sz, n, q, q', i1, ?_⟩ hc
        simp only [Gh.gc] at i2
        rw [hp id hid] at i2
        exact i2
      fz := fun b id sz n h0 hf => by
        obtain ⟨a1, a2⟩ := X.fz b id sz n h0 hf
        exact ⟨by simp only [Gh.gc]; rw [a1]; exact pre id (R0.own b id h0), a2⟩
      inf := fun id sz n q hf => by
        have hid := R0.inf id _ hf
        obtain ⟨n', q', a1, a2, a3, a4⟩ := X.inf id sz n q hf
        refine ⟨n', q', by simp only [Gh.gc]; rw [hp id hid]; exact a1, a2, a3, fun e b hb => ?_⟩
        simp only [Gh.gc]
        rw [a4 e b hb]
        exact pre id hid
      out := fun id hx => by
        simp only [List.mem_append, List.mem_range, not_or, Nat.not_lt] at hx
        have h1 : G0.inf id = none := by
          cases h2 : G0.inf id with
          | none => rfl
          | some q =>
            have hid := R0.inf id q h2
            have := (List.getElem?_eq_some_iff.1 (hp id hid)).1
            omega
        rw [h1]
        simp only [Gh.gc]
        rw [List.getElem?_eq_none hx.2]
        rfl
      new := fun b j hb e => by
        simp only [Gh.gc] at e
        obtain ⟨i, _, h2⟩ := Option.bind_eq_some_iff.1 e
        exact List.mem_append_right _ (List.mem_range.2 (idx_lt h2))
      keep := fun b j e => by
        simp only [Gh.gc] at e
        obtain ⟨i, h1, _⟩ := Option.bind_eq_some_iff.1 e
        exact X.keep b i h1
      tp := fun b id h0 h1 hinf ht => by
        have hid := R0.own b id h0
        obtain ⟨sz, n, q, q', i1, i2⟩ := hinf
        have i3 : G.inf id = some (sz, n, q') := by
          simp only [Gh.gc] at i2
          rw [hp id hid] at i2
          exact i2
        have h2 : G.own b = some id := by
          obtain ⟨n', f2, a1, a2, a3, a4⟩ := X.inf id sz n q i1
          rw [i3] at a1
          injection a1 with a1
          injection a1 with _ a1
          injection a1 with a1 _
          exact a4 a1.symm b h0
        exact X.tp b id h0 h2 ⟨sz, n, q, q', i1, i3⟩ ht
      nt := fun b h0 ht h1 => X.nt b h0 ht (fun e => h1 (by simp only [Gh.gc]; rw [e]; rfl))
      tn := X.tn }
theorem mask_len : ∀ (m : List Bool) (l : List PV), (mask m l).length = l.length
  | [], l => by simp [mask]
  | true :: m, [] => by simp [mask]
  | false :: m, [] => by simp [mask]
  | true :: m, p :: r => by simp [mask, mask_len m r]
  | false :: m, p :: r => by simp [mask, mask_len m r]
theorem nth_mask : ∀ (m : List Bool) (l : List PV) (t : Nat), nth (mask m l) t = nth l t ∨ nth (mask m l) t = .un
  | [], l, t => .inl (by simp [mask])
  | true :: m, [], t => .inl (by simp [mask])
  | false :: m, [], t => .inl (by simp [mask])
  | true :: m, p :: r, 0 => .inl (by simp [mask, nth])
  | true :: m, p :: r, t + 1 => by simpa [mask, nth] using nth_mask m r t
  | false :: m, p :: r, 0 => .inr (by simp [mask, nth])
  | false :: m, p :: r, t + 1 => by simpa [mask, nth] using nth_mask m r t
theorem name_all {G0 : Gh} {w0 w : World} (hi0 : Inv G0 w0) : ∀ (ex : List (Nat × Nat)) (h : List Blk) (G : Gh), Inv G w → Fr G0 w0 G w → (∀ id, RelB G w id (nthB h id)) → (∀ x ∈ ex, 0 < x.1) →
    ∃ G', Inv G' w ∧ Fr G0 w0 G' w ∧ (∀ id, RelB G' w id (nthB (h ++ ex.map fun x => .arr x.1 x.2 false []) id)) ∧ (∀ p v, Reps G w p v → Reps G' w p v) ∧ ∀ i, len h ≤ i → i < len h + ex.length → Reps G' w (.own i 0) (.slice none 0 0)
  | [], h, G, hi, f, hb, _ => ⟨G, hi, f, by simpa using hb, fun _ _ r => r, fun i h1 h2 => by simp at h2; omega⟩
  | x :: ex, h, G, hi, f, hb, hx => by
    have h0 : RelB G w (len h) none := none_at h (hb (len h))
    have X := ext_name hi (len h) (x.1, 0, false) h0
    obtain ⟨n1, n2⟩ := name_nil hi (hx x (by simp)) x.2 h0
    have hb' : ∀ id, RelB (G.name (len h) (x.1, 0, false)) w id (nthB (h ++ [.arr x.1 x.2 false []]) id) := fun id => by
      by_cases e : id = len h
      · subst e
        rw [nthB_new]
        exact n1
      · rw [nthB_push h _ id e]
        exact RelB.ext X hi (by simpa using e) (hb id)
    obtain ⟨G', a1, a2, a3, a4, a5⟩ := name_all hi0 ex (h ++ [.arr x.1 x.2 false []]) _ (hi.ext X) (f.step hi0 X) hb' (fun y hy => hx y (by simp [hy]))
    refine ⟨G', a1, a2, by simpa [List.append_assoc] using a3, fun p v r => a4 p v (Reps.ext X hi p v r), fun i h1 h2 => ?_⟩
    by_cases e : i = len h
    · subst e
      exact a4 _ _ n2
    · refine a5 i ?_ ?_
      · rw [len_append]
        simp [len]
        omega
      · rw [len_append]
        simp [len] at h2 ⊢
        omega
theorem nils_map : ∀ ex : List (Nat × Nat), nils ex = ex.map fun x => .arr x.1 x.2 false []
  | [] => rfl
  | x :: r => by simp only [nils, List.map_cons, nils_map r]
theorem posL_ok : ∀ {ex : List (Nat × Nat)}, posL ex = true → ∀ x ∈ ex, 0 < x.1
  | [], _, _, h => by cases h
  | x :: r, h, y, hy => by
    simp only [posL, Bool.and_eq_true] at h
    rcases List.mem_cons.1 hy with rfl | hy
    · exact Nat.le_of_ble_eq_true h.1
    · exact posL_ok h.2 y hy
theorem upT_len : ∀ (u : List (Option Nat)) (l : List PV), (upT u l).length = l.length
  | [], l => by cases l <;> simp [upT]
  | none :: u, [] => by simp [upT]
  | some i :: u, [] => by simp [upT]
  | none :: u, p :: r => by simp [upT, upT_len u r]
  | some i :: u, p :: r => by cases p <;> simp [upT, upT_len u r]
theorem nth_upT {m n : Nat} : ∀ (u : List (Option Nat)) (l : List PV) (t : Nat), upIn m n u = true → nth (upT u l) t = nth l t ∨ nth l t = .nil ∧ ∃ i, m ≤ i ∧ i < n ∧ nth (upT u l) t = .own i 0
  | [], l, t, _ => .inl (by cases l <;> simp [upT])
  | none :: u, [], t, _ => .inl (by simp [upT])
  | some i :: u, [], t, _ => .inl (by simp [upT])
  | none :: u, p :: r, 0, _ => .inl (by simp [upT, nth])
  | none :: u, p :: r, t + 1, h => by
    simp only [upIn] at h
    simpa [upT, nth] using nth_upT u r t h
  | some i :: u, p :: r, 0, h => by
    simp only [upIn, Bool.and_eq_true] at h
    cases p
    case nil => exact .inr ⟨rfl, i, Nat.le_of_ble_eq_true h.1.1, Nat.le_of_ble_eq_true h.1.2, by simp [upT, nth]⟩
    all_goals exact .inl (by simp [upT, nth])
  | some i :: u, p :: r, t + 1, h => by
    simp only [upIn, Bool.and_eq_true] at h
    have := nth_upT u r t h.2
    cases p <;> simpa [upT, nth] using this
theorem upT_ok {m n : Nat} {G : Gh} {w : World} (hn : ∀ i, m ≤ i → i < n → Reps G w (.own i 0) (.slice none 0 0)) : ∀ (u : List (Option Nat)) (l : List PV) (vs : List Value), upIn m n u = true → RepsL G w l vs → RepsL G w (upT u l) vs
  | [], l, vs, _, r => by cases l <;> simpa [upT] using r
  | none :: u, [], vs, _, r => by simpa [upT] using r
  | some i :: u, [], vs, _, r => by simpa [upT] using r
  | none :: u, p :: l, vs, h, r => by
    simp only [upIn] at h
    simp only [upT]
    simp only [RepsL] at r ⊢
    obtain ⟨v, vs', h1, h2, h3⟩ := r
    exact ⟨v, vs', h1, h2, upT_ok hn u l vs' h h3⟩
  | some i :: u, p :: l, vs, h, r => by
    simp only [upIn, Bool.and_eq_true] at h
    simp only [RepsL] at r
    obtain ⟨v, vs', h1, h2, h3⟩ := r
    have ih := upT_ok hn u l vs' h.2 h3
    cases p
    case nil =>
      simp only [Reps] at h2
      subst h2
      simp only [upT, RepsL]
      exact ⟨_, vs', h1, hn i (Nat.le_of_ble_eq_true h.1.1) (Nat.le_of_ble_eq_true h.1.2), ih⟩
    all_goals
      simp only [upT, RepsL]
      exact ⟨v, vs', h1, h2, ih⟩
theorem upBs_ok {m n : Nat} {G : Gh} {w : World} (hn : ∀ i, m ≤ i → i < n → Reps G w (.own i 0) (.slice none 0 0)) : ∀ (bs : List (List (Option Nat))) (h r : List Blk) (id : Nat), upIns m n bs = true → ∀ id2, RelB G w id2 (nthB (h ++ r) id) → RelB G w id2 (nthB (upBs bs h ++ r) id)
  | [], h, r, id, _, _, hb => by cases h <;> simpa [upBs] using hb
  | u :: us, [], r, id, _, _, hb => by simpa [upBs] using hb
  | u :: us, .arr sz ty fz els :: h, r, 0, _, _, hb => by simpa [upBs, nthB] using hb
  | u :: us, .tree sz ty fz els :: h, r, 0, _, _, hb => by simpa [upBs, nthB] using hb
  | u :: us, .junk :: h, r, 0, _, _, hb => by simpa [upBs, nthB] using hb
  | u :: us, .box ty cs :: h, r, 0, hu, _, hb => by
    simp only [upIns, Bool.and_eq_true] at hu
    simp only [upBs, List.cons_append, nthB, RelB, upT_len] at hb ⊢
    obtain ⟨h1, h2, b, vs, h3, h4, h5, h6⟩ := hb
    exact ⟨h1, h2, b, vs, h3, h4, h5, upT_ok hn u cs _ hu.1 h6⟩
  | u :: us, B :: h, r, id + 1, hu, id2, hb => by
    simp only [upIns, Bool.and_eq_true] at hu
    have := upBs_ok hn us h r id hu.2 id2 (by simpa [nthB] using hb)
    cases B <;> simpa [upBs, nthB] using this
theorem weak_ok {s s' : List PV} {h h' : List Blk} {nref : Nat} {G0 G : Gh} {w0 w : World} {a : Act} (R0 : Refs nref G0 w0) (r : Rel s h G a w) (f : Fr G0 w0 G w) (hw : Weak s h nref s' h') : ∃ G', Rel s' h' G' a w ∧ Fr G0 w0 G' w := by
  obtain ⟨ex, us, bs, hx, hu, hb, s1, h1, ms, rfl⟩ := hw
  obtain ⟨G2, a1, a2, a3, a4, a5⟩ := name_all R0.inv ex h G r.inv f r.b (posL_ok hx)
  have hl : ex.length = len ex := by
    clear hx hu hb h1 a3 a5
    induction ex with
    | nil => rfl
    | cons x l ih => simp [len, ih]
  rw [hl] at a5
  have r2 : Rel (upT us s) (upBs bs h ++ nils ex) G2 a w := ⟨r.defers, by rw [upT_len]; exact r.size, fun t => by
    rcases nth_upT us s t hu with e | ⟨e1, i, i1, i2, e2⟩
    · rw [e]
      exact a4 _ _ (r.t t)
    · rw [e2]
      have := r.t t
      rw [e1] at this
      simp only [Reps] at this
      rw [this]
      exact a5 i i1 i2, fun id => by
    rw [nils_map]
    exact upBs_ok a5 bs h _ id hb id (a3 id), a1⟩
  obtain ⟨G', r1, f1⟩ := weak_ok0 R0 r2 a2 h1
  refine ⟨G', ⟨r1.defers, by rw [mask_len]; exact r1.size, fun t => ?_, r1.b, r1.inv⟩, f1⟩
  rcases nth_mask ms s1 t with e | e
  · rw [e]
    exact r1.t t
  · rw [e]
    simp only [Reps]

/-! ### loops -/
def LoopAt (P : Program) (c : Code) (Q : Exit → Act → World → Prop) (a : Act) (w : World) : Prop :=
  ∀ (b : Frame) (k : List Item) (cs : List Frame), ∃ e a' w', Q e a' w' ∧ Arrives P (lone (b.at a (.code c :: .inLoop c :: k)) cs w) b k cs e a' w'
theorem loopAt_step {P : Program} {c : Code} {Q : Exit → Act → World → Prop} {a : Act} {w : World} (h : c.wp P (Exit.then (LoopAt P c Q) Q) a w) : LoopAt P c Q a w := by
  intro b k cs
  obtain ⟨e, a1, w1, hq, harr⟩ := h b (.inLoop c :: k) cs
  cases e with
  | normal =>
    obtain ⟨e2, a2, w2, hq2, harr2⟩ := hq b k cs
    exact ⟨e2, a2, w2, hq2, .of_steps (Steps.trans harr (.one step_inLoop)) harr2⟩
  | _ => exact ⟨_, a1, w1, hq, .pass (x := .inLoop c) rfl (fun _ _ => .inl (by simp)) harr⟩
theorem loop_of_at {P : Program} {c : Code} {Q : Exit → Act → World → Prop} {a : Act} {w : World} (h : LoopAt P c Q a w) : (Code.loop c).wp P Q a w := fun b k cs => by
  obtain ⟨e, a1, w1, hq, harr⟩ := h b k cs
  exact ⟨e, a1, w1, hq, .of_steps (.one step_loop) harr⟩

section
variable {E : Env} {nref : Nat} {G0 : Gh} {w0 : World}
theorem setC_self {s : List PV} {c : Operand} {x : Bool} (h : ev s c = .v (.b x)) : setC s c x = s := by
  cases c with
  | tmp t =>
    simp only [setC]
    rw [← h]
    exact put_self s t
  | _ => rfl

theorem code_ok (R0 : Refs nref G0 w0) : ∀ (c : Code) (s : List PV) (h : List Blk) (K : KontC), aCode E nref c s h K → ∀ (G : Gh) (a : Act) (w : World) (Q : Exit → Act → World → Prop), Rel s h G a w → Fr G0 w0 G w →
    (∀ e s' h' G' a' w', K e s' h' → Rel s' h' G' a' w' → Fr G0 w0 G' w' → Q e a' w') → c.wp E.P Q a w
  | .skip, s, h, K, hk, G, a, w, Q, r, f, hQ => wp_skip (hQ _ _ _ _ _ _ hk r f)
  | .region id ops draw, s, h, K, hk, G, a, w, Q, r, f, hQ => by
    simp only [aCode] at hk
    cases draw with
    | false => exact wp_region_list (ops_seq R0.inv _ _ _ _ hk G a w r f (fun s' h' acc G' a' w' hK r' f' => hQ _ _ _ _ _ _ hK r' f'))
    | true =>
      have two : ∀ {x y : Bool} {A : Prop}, cond (!true || (x && y)) A False → (x = true ∧ y = true) ∧ A := fun {x y A} h => by
        cases x <;> cases y <;> first | exact h.elim | exact ⟨⟨rfl, rfl⟩, h⟩
      exact ops_draw R0.inv hk (fun s' h' acc hK => (two hK).1) r f (fun s' h' acc G' a' w' hK r' f' => hQ _ _ _ _ _ _ (two hK).2 r' f')
  | .seq x y, s, h, K, hk, G, a, w, Q, r, f, hQ => by
    simp only [aCode] at hk
    cases hk with
    | go hk =>
      refine wp_seq (code_ok R0 x s h _ hk G a w _ r f (fun e s' h' G' a' w' hK r' f' => ?_))
      cases e with
      | normal => exact code_ok R0 y s' h' K hK G' a' w' Q r' f' hQ
      | _ => exact hQ _ _ _ _ _ _ hK r' f'
    | cut J hk hb =>
      refine wp_seq (code_ok R0 x s h _ hk G a w _ r f (fun e s' h' G' a' w' hK r' f' => ?_))
      cases e with
      | normal =>
        obtain ⟨s2, h2, hw, hJ⟩ := hK
        obtain ⟨G2, r2, f2⟩ := weak_ok R0 r' f' hw
        exact code_ok R0 y s2 h2 K (hb _ _ hJ) G2 a' w' Q r2 f2 hQ
      | _ => exact hQ _ _ _ _ _ _ hK r' f'
  | .cond c x y, s, h, K, hk, G, a, w, Q, r, f, hQ => by
    simp only [aCode] at hk
    split at hk
    · rename_i v hv
      have hc : a.eval c = .bool v := by
        have := r.ev c
        rw [hv] at this
        simpa only [Reps, RepC] using this
      refine wp_cond hc ?_
      cases v with
      | true =>
        have := hk.1 rfl
        rw [setC_self hv] at this
        exact code_ok R0 x s h K this G a w Q r f hQ
      | false =>
        have := hk.2 rfl
        rw [setC_self hv] at this
        exact code_ok R0 y s h K this G a w Q r f hQ
    · exact hk.elim
  | .block id c, s, h, K, hk, G, a, w, Q, r, f, hQ => by
    simp only [aCode] at hk
    cases hk with
    | hand p => exact p G a w r Q (fun s' h' G' a' w' hB r' hX => hQ .normal s' h' G' a' w' hB r' (by obtain ⟨ids, X⟩ := hX; exact f.step R0.inv X))
    | go hk =>
      refine wp_block (code_ok R0 c s h _ hk G a w _ r f (fun e s' h' G' a' w' hK r' f' => ?_))
      cases e with
      | exit j =>
        simp only at hK
        simp only [Exit.inBlock]
        cases hb : Nat.beq j id with
        | true =>
          rw [hb] at hK
          rw [if_pos (Nat.eq_of_beq_eq_true hb)]
          exact hQ _ _ _ _ _ _ hK r' f'
        | false =>
          rw [hb] at hK
          rw [if_neg (fun e => by subst e; rw [show Nat.beq j j = true from Nat.beq_refl j] at hb; cases hb)]
          exact hQ _ _ _ _ _ _ hK r' f'
      | _ => exact hQ _ _ _ _ _ _ hK r' f'
  | .loop c, s, h, K, hk, G, a, w, Q, r, f, hQ => by
    simp only [aCode] at hk
    obtain ⟨I, n, s1, h1, hw, hI, round⟩ := hk
    have key : ∀ n s h G a w, I n s h → Rel s h G a w → Fr G0 w0 G w → LoopAt E.P c Q a w := by
      intro n
      induction n using Nat.strongRecOn with
      | _ n ih =>
        intro s h G a w hI r f
        refine loopAt_step (code_ok R0 c s h _ (round n s h hI) G a w _ r f (fun e s' h' G' a' w' hK r' f' => ?_))
        cases e with
        | normal =>
          obtain ⟨m, s2, h2, hlt, hw, hI2⟩ := hK
          obtain ⟨G2, r2, f2⟩ := weak_ok R0 r' f' hw
          exact ih m hlt s2 h2 G2 a' w' hI2 r2 f2
        | _ => exact hQ _ _ _ _ _ _ hK r' f'
    obtain ⟨G1, r1, f1⟩ := weak_ok R0 r f hw
    exact loop_of_at (key n s1 h1 G1 a w hI r1 f1)
  | .exit id, s, h, K, hk, G, a, w, Q, r, f, hQ => wp_exit (hQ _ _ _ _ _ _ hk r f)
  | .ret, s, h, K, hk, G, a, w, Q, r, f, hQ => wp_ret (hQ _ _ _ _ _ _ hk r f)
  | .rangeFunc _ _ _ _, s, h, K, hk, G, a, w, Q, r, f, hQ => by simp only [aCode] at hk
  | .scope _, s, h, K, hk, G, a, w, Q, r, f, hQ => by simp only [aCode] at hk
  | .label _, s, h, K, hk, G, a, w, Q, r, f, hQ => by simp only [aCode] at hk
  | .goto _, s, h, K, hk, G, a, w, Q, r, f, hQ => by simp only [aCode] at hk
  | .refuse _, s, h, K, hk, G, a, w, Q, r, f, hQ => by simp only [aCode] at hk
end
end Go.Proofs.Ytkpcieenikmbmaa.E

/- A call of a function comes to what is told of its code. -/
namespace Go.Proofs.Ytkpcieenikmbmaa.E
open Go Go.RowKit Go.Proofs.YtkpcieenikmbmaaW.PrintWords
set_option linter.unusedVariables false
set_option linter.unusedSimpArgs false

/-! ### rows that are nil -/
mutual
theorem upP_le : ∀ (p : PV) (m : Nat), m ≤ (upP m p).2
  | .nil, m => by simp [upP]
  | .agg cs, m => by
    simp only [upP]
    exact upL_le cs m
  | .tup cs, m => by
    simp only [upP]
    exact upL_le cs m
  | .v _, m => by simp [upP]
  | .own _ _, m => by simp [upP]
  | .ptr _ _, m => by simp [upP]
  | .eptr _ _ _ _, m => by simp [upP]
  | .rptr _, m => by simp [upP]
  | .un, m => by simp [upP]
theorem upL_le : ∀ (l : List PV) (m : Nat), m ≤ (upL m l).2
  | [], m => by simp [upL]
  | p :: r, m => by
    simp only [upL]
    exact Nat.le_trans (upP_le p m) (upL_le r _)
end
mutual
theorem upP_ok {G : Gh} {w : World} : ∀ (p : PV) (m : Nat) (v : Value), (∀ i, m ≤ i → i < (upP m p).2 → Reps G w (.own i 0) (.slice none 0 0)) → Reps G w p v → Reps G w (upP m p).1 v
  | .nil, m, v, h, r => by
    simp only [Reps] at r
    subst r
    simp only [upP] at h ⊢
    exact h m (Nat.le_refl _) (by omega)
  | .agg cs, m, v, h, r => by
    simp only [Reps] at r
    obtain ⟨vs, rfl, r⟩ := r
    simp only [upP] at h ⊢
    simp only [Reps]
    exact ⟨vs, rfl, upL_ok cs m _ h r⟩
  | .tup cs, m, v, h, r => by
    simp only [Reps] at r
    obtain ⟨vs, rfl, r⟩ := r
    simp only [upP] at h ⊢
    simp only [Reps]
    exact ⟨vs, rfl, upL_ok cs m _ h r⟩
  | .v _, m, v, h, r => by simpa only [upP] using r
  | .own _ _, m, v, h, r => by simpa only [upP] using r
  | .ptr _ _, m, v, h, r => by simpa only [upP] using r
  | .eptr _ _ _ _, m, v, h, r => by simpa only [upP] using r
  | .rptr _, m, v, h, r => by simpa only [upP] using r
  | .un, m, v, h, r => by simpa only [upP] using r
theorem upL_ok {G : Gh} {w : World} : ∀ (l : List PV) (m : Nat) (vs : List Value), (∀ i, m ≤ i → i < (upL m l).2 → Reps G w (.own i 0) (.slice none 0 0)) → RepsL G w l vs → RepsL G w (upL m l).1 vs
  | [], m, vs, h, r => by simpa only [upL] using r
  | p :: l, m, vs, h, r => by
    simp only [RepsL] at r
    obtain ⟨v, vs', rfl, r1, r2⟩ := r
    simp only [upL] at h ⊢
    simp only [RepsL]
    refine ⟨v, vs', rfl, upP_ok p m v (fun i h1 h2 => h i h1 (Nat.lt_of_lt_of_le h2 (upL_le l _))) r1, upL_ok l _ vs' (fun i h1 h2 => h i (Nat.le_trans (upP_le p m) h1) h2) r2⟩
end

section
variable {E : Env}
theorem load_var {t : Nat} {v u : Value} {w : World} (h : (Instr.loadAt t v).run E.P w = .ok u w) : (do loadVar t (← asAddr v) : Sem Value).run E.P w = .ok u w := by
  cases v with
  | pointer p =>
    cases p with
    | some a => simpa [Instr.loadAt, Instr.sureAddr, asAddr] using h
    | none => simp [Instr.loadAt, Instr.sureAddr, stuck, Sem.run] at h
  | _ => simp [Instr.loadAt, Instr.sureAddr, stuck, Sem.run] at h

def resOne (tmps : Array Value) : ResultVar → Sem Value
  | .tmp t => pure (tmps.getD t undef)
  | .cell a t => do loadVar t (← asAddr (tmps.getD a undef))

theorem res_ok {s : List PV} {h : List Blk} : ∀ (rs : List ResultVar) (R : List PV → Prop), aRes E s h rs R → ∀ (G : Gh) (a : Act) (w : World), Rel s h G a w → ∃ ps vs, R ps ∧ (rs.mapM (resOne a.tmps)).run E.P w = .ok vs w ∧ RepsL G w ps vs
  | [], R, hk, G, a, w, r => ⟨[], [], hk, by simp, by simp [RepsL]⟩
  | .tmp t :: rs, R, hk, G, a, w, r => by
    simp only [aRes] at hk
    obtain ⟨ps, vs, h1, h2, h3⟩ := res_ok rs _ hk G a w r
    refine ⟨_, a.tmps.getD t undef :: vs, h1, ?_, ?_⟩
    · simp [List.mapM_cons, resOne, h2]
    · simp only [RepsL]
      exact ⟨_, _, rfl, r.t t, h3⟩
  | .cell t ty :: rs, R, hk, G, a, w, r => by
    simp only [aRes] at hk
    obtain ⟨q, rd, hk, hl⟩ := load_r hk
    obtain ⟨u, e1, e2⟩ := hl G w _ r.inv ⟨_, r.t t, rfl⟩ (fun id _ => r.b id)
    obtain ⟨ps, vs, h1, h2, h3⟩ := res_ok rs _ hk G a w r
    have e3 := load_var e1
    refine ⟨_, u :: vs, h1, ?_, ?_⟩
    · have : (resOne a.tmps (.cell t ty)).run E.P w = .ok u w := e3
      simp [List.mapM_cons, this, h2]
    · simp only [RepsL]
      exact ⟨_, _, rfl, e2, h3⟩

def retV : List Value → Value
  | [v] => v
  | vs => .tuple vs.toArray
theorem ret_rep {G : Gh} {w : World} : ∀ {ps : List PV} {vs : List Value}, RepsL G w ps vs → Reps G w (retOf ps) (retV vs)
  | [], vs, h => by
    simp only [RepsL] at h
    subst h
    simp only [retOf, retV, Reps, RepsL]
    exact ⟨#[], rfl, rfl⟩
  | [p], vs, h => by
    simp only [RepsL] at h
    obtain ⟨v, vs', rfl, h1, rfl⟩ := h
    exact h1
  | p :: q :: l, vs, h => by
    have h' := h
    simp only [RepsL] at h
    obtain ⟨v, vs', rfl, _, u, us, rfl, _⟩ := h
    simp only [retOf, retV, Reps]
    exact ⟨_, rfl, h'⟩

theorem run_results {fn : Func} {tmps : Array Value} {w : World} {vs : List Value} (h : (fn.results.toList.mapM (resOne tmps)).run E.P w = .ok vs w) :
    (results fn tmps).run E.P w = .ok (retV vs) w := by
  have e : (fn.results.mapM (resOne tmps)).run E.P w = .ok vs.toArray w := by
    rw [Array.mapM_eq_mapM_toList]
    simp [h]
  have e2 : results fn tmps = (do let vs ← fn.results.mapM (resOne tmps); pure (if h : vs.size = 1 then vs[0] else .tuple vs)) := by
    unfold results
    congr 1
  rw [e2, Sem.run_bind, e]
  simp only [Result.andThen_ok, Sem.run_pure]
  match vs with
  | [] => rfl
  | [v] => rfl
  | v :: u :: r => simp [retV]

theorem nth_args : ∀ {args : List PV} {vals : List Value} {G : Gh} {w : World}, RepsL G w args vals → ∀ (n t : Nat), Reps G w (nth (args ++ List.replicate n .un) t) ((vals ++ List.replicate n undef).getD t undef)
  | [], vals, G, w, h, n, t => by
    simp only [RepsL] at h
    subst h
    have : ∀ (n t : Nat), nth (List.replicate n .un) t = .un := fun n => by
      induction n with
      | zero => intro t; rfl
      | succ n ih => intro t; cases t with
        | zero => rfl
        | succ t => simpa [List.replicate_succ, nth] using ih t
    rw [List.nil_append, this]
    simp only [Reps]
  | p :: ps, vals, G, w, h, n, t => by
    simp only [RepsL] at h
    obtain ⟨v, vs, rfl, h1, h2⟩ := h
    cases t with
    | zero => simpa [nth] using h1
    | succ t => simpa [nth] using nth_args h2 n t

theorem callFunc_of {P : Program} {f : FuncId} {fn : Func} (hf : P.funcs[f]? = some fn) (hname : (fn.name == "runtime.NumGoroutine") = false) (hb : fn.body.isSome = true) : ∀ (as_ : Array Value) (w : World), (callFunc f as_).run P w = .ok (.enter f as_) w := by
  intro as_ w
  cases hb' : fn.body with
  | none => rw [hb'] at hb; cases hb
  | some c =>
    have hne : ¬ fn.name = "runtime.NumGoroutine" := by simpa using hname
    simp [callFunc, hf, hne, hb']

/-- WHAT A FUNCTION COMES TO. -/
theorem fn_ok {f : FuncId} {fn : Func} {c : Code} (hf : E.P.funcs[f]? = some fn) (hname : (fn.name == "runtime.NumGoroutine") = false) (hb : fn.body = some c) {args : List PV} {bin bl : List Blk} {r : PV} {n : Nat} (hn : fn.ntmps = args.length + n)
    (hk : aCode E (len bin) c (args ++ List.replicate n .un) bin (aFin E (len bin) fn.results.toList r bl)) : Spec E.P f args bin r bl := by
  refine ⟨callFunc_of hf hname (by rw [hb]; rfl), fun G w vals hi hargs hbin => ?_⟩
  have hlen := hargs.length
  rw [Array.length_toList] at hlen
  refine calls_of_wp hf hb ?_
  have R0 : Refs (len bin) G w := ⟨hi, fun b id h => by
    rcases Nat.lt_or_ge id (len bin) with h' | h'
    · exact h'
    · have := hbin id
      rw [nthB_ge bin id h'] at this
      exact absurd h (this.2 b), fun id q h => by
    rcases Nat.lt_or_ge id (len bin) with h' | h'
    · exact h'
    · have := hbin id
      rw [nthB_ge bin id h'] at this
      rw [this.1] at h
      cases h⟩
  have hr : fn.ntmps - vals.size = n := by omega
  rw [hr]
  refine code_ok R0 c _ bin _ hk G _ w _ ⟨rfl, by simp [hlen], fun t => ?_, hbin, hi⟩ ⟨[], Ext.refl hi []⟩ fun e s' h' G' a' w' hK r' f' => ?_
  · have := nth_args hargs n t
    have e1 : (vals ++ Array.replicate n undef).getD t undef = (vals.toList ++ List.replicate n undef).getD t undef := by
      rw [Array.getD_eq_getD_getElem?, List.getD_eq_getElem?_getD, ← Array.getElem?_toList]
      simp
    simp only
    rw [e1]
    exact this
  · have hK' : (e = .ret ∨ e = .normal) ∧ aRes E s' h' fn.results.toList fun ps => FinVC (len bin) (retOf ps) h' r bl := by
      cases e <;> first | exact ⟨.inl rfl, hK⟩ | exact ⟨.inr rfl, hK⟩ | exact hK.elim
    obtain ⟨he, hK⟩ := hK'
    obtain ⟨ps, vs, hfin, h2, h3⟩ := res_ok _ _ hK G' a' w' r'
    have hres := run_results (fn := fn) h2
    have hv0 := ret_rep h3
    generalize retV vs = v at hres hv0
    obtain ⟨Gf, qf, hf', ⟨ex, keep, k1, k2, k3, k4, k5, k6⟩, fi, ff, fb, hv⟩ : ∃ G2 q2 h2, Fin0 (len bin) q2 h2 r bl ∧ Inv G2 w' ∧ Fr G w G2 w' ∧ (∀ id, RelB G2 w' id (nthB h2 id)) ∧ Reps G2 w' q2 v := by
      cases hfin with
      | up k => exact ⟨G', _, h', k, r'.inv, f', r'.b, hv0⟩
      | dn id n sz ty fz els hq hb hn k =>
        have X := ext_frz r'.inv [id]
        rw [hq] at hv0
        have r0 := r'.b id
        rw [hb] at r0
        refine ⟨G'.frz [id], _, _, k, r'.inv.ext X, f'.step hi X, fun i => ?_, ?_⟩
        · by_cases e : i = id
          · subst e
            exact frz_rel r'.inv (fun j hj => r'.b j) (fun j hj => by rw [List.mem_singleton.1 hj, hb]; trivial) i (by simp)
          · rw [nthB_frz, if_neg (by simpa using e)]
            exact RelB.ext X r'.inv (by simpa using e) (r'.b i)
        · simp only [Reps]
          exact own_row (fun b o h1 h2 => (imm_old X r'.inv b o h1 h2).1) (fun b hb' => .inr (.inr ⟨id, sz, els.length, hb', by simp [Gh.frz, r0.1]⟩)) r0 hn hv0
    obtain ⟨G2, a1, a2, a3, a4, a5⟩ := name_all hi ex hf' Gf fi ff fb k1
    have hup := upP_ok qf (len hf') v (fun i h1 h2 => a5 i h1 (by rw [k2, len_eq] at h2; rw [len_eq] at h2 ⊢; exact h2)) (a4 _ _ hv)
    have rr : Rel [(upP (len hf') qf).1] (hf' ++ ex.map fun x => .arr x.1 x.2 false []) G2 { tmps := #[v], defers := [] } w' := by
      refine ⟨rfl, rfl, fun t => ?_, a3, a1⟩
      cases t with
      | zero => exact hup
      | succ t => simp only [nth, Reps]
    obtain ⟨G3, r3, f3⟩ := weak_ok0 R0 rr a2 ⟨keep, k3, k4, k5, rfl⟩
    have post : ∃ v2 G' ids, Ending.returned v = Ending.returned v2 ∧ Ext ids G w G' w' ∧ Reps G' w' r v2 ∧ ∀ id, RelB G' w' id (nthB bl id) := by
      obtain ⟨ids, X⟩ := f3
      refine ⟨v, G3, ids, rfl, X, ?_, r3.b⟩
      have := r3.t 0
      rw [gcT, nth_ren] at this
      simp only [nth] at this
      rw [k6] at this
      exact this
    cases e with
    | ret => exact ⟨r'.defers, _, hres, post⟩
    | normal => exact ⟨r'.defers, _, hres, post⟩
    | _ => rcases he with he | he <;> cases he
end
end Go.Proofs.Ytkpcieenikmbmaa.E

/- The same, with the state written out at every step. -/
namespace Go.Proofs.Ytkpcieenikmbmaa.E
open Go Go.RowKit Go.Proofs.YtkpcieenikmbmaaW.PrintWords
set_option linter.unusedVariables false
set_option linter.unusedSimpArgs false

mutual
def forceP : PV → (PV → Prop) → Prop
  | .v c, K => K (.v c)
  | .nil, K => K .nil
  | .own i n, K => K (.own i n)
  | .ptr i o, K => K (.ptr i o)
  | .eptr i n e o, K => K (.eptr i n e o)
  | .rptr cs, K => K (.rptr cs)
  | .agg cs, K => forceL cs fun cs => K (.agg cs)
  | .tup cs, K => forceL cs fun cs => K (.tup cs)
  | .un, K => K .un
def forceL : List PV → (List PV → Prop) → Prop
  | [], K => K []
  | p :: r, K => forceP p fun p => forceL r fun r => K (p :: r)
end
/-- One place changes. -/
def forceAt : List PV → Nat → PV → (List PV → Prop) → Prop
  | [], _, _, K => K []
  | _ :: r, 0, q, K => forceP q fun q => K (q :: r)
  | p :: r, n + 1, q, K => forceAt r n q fun r => K (p :: r)
def forceO (s : List PV) (d : Option Tmp) (q : PV) (K : List PV → Prop) : Prop :=
  match d with
  | some t => forceAt s t q K
  | none => K s
def forceB : List Blk → (List Blk → Prop) → Prop
  | [], K => K []
  | .arr a b c d :: r, K => forceB r fun r => K (.arr a b c d :: r)
  | .box t cs :: r, K => forceL cs fun cs => forceB r fun r => K (.box t cs :: r)
  | .tree a b c d :: r, K => forceB r fun r => K (.tree a b c d :: r)
  | .junk :: r, K => forceB r fun r => K (.junk :: r)
mutual
theorem forceP_eq : ∀ (p : PV) (K : PV → Prop), forceP p K = K p
  | .v c, K => by simp only [forceP]
  | .nil, K => by simp only [forceP]
  | .own i n, K => by simp only [forceP]
  | .ptr i o, K => by simp only [forceP]
  | .eptr i n e o, K => by simp only [forceP]
  | .rptr cs, K => by simp only [forceP]
  | .agg cs, K => by simp only [forceP]; rw [forceL_eq cs]
  | .tup cs, K => by simp only [forceP]; rw [forceL_eq cs]
  | .un, K => by simp only [forceP]
theorem forceL_eq : ∀ (l : List PV) (K : List PV → Prop), forceL l K = K l
  | [], K => by simp only [forceL]
  | p :: r, K => by
    simp only [forceL]
    rw [forceP_eq p, forceL_eq r]
end
theorem forceAt_eq : ∀ (s : List PV) (t : Nat) (q : PV) (K : List PV → Prop), forceAt s t q K = K (put s t q)
  | [], t, q, K => by simp only [forceAt, put]
  | _ :: r, 0, q, K => by simp only [forceAt, put]; rw [forceP_eq]
  | p :: r, n + 1, q, K => by simp only [forceAt, put]; rw [forceAt_eq r n q]
theorem forceO_eq (s : List PV) (d : Option Tmp) (q : PV) (K : List PV → Prop) : forceO s d q K = K (putO s d q) := by
  cases d with
  | none => rfl
  | some t => exact forceAt_eq s t q K
theorem forceB_eq : ∀ (h : List Blk) (K : List Blk → Prop), forceB h K = K h
  | [], K => by simp only [forceB]
  | .arr a b c d :: r, K => by simp only [forceB]; rw [forceB_eq r]
  | .box t cs :: r, K => by simp only [forceB]; rw [forceL_eq, forceB_eq r]
  | .tree a b c d :: r, K => by simp only [forceB]; rw [forceB_eq r]
  | .junk :: r, K => by simp only [forceB]; rw [forceB_eq r]

def aOpsF (E : Env) (all : List Oper) : List Oper → List PV → List Blk → (List PV → List Blk → List (List Nat × List Nat) → Prop) → Prop
  | [], s, h, K => K s h []
  | o :: r, s, h, K => match o.guard with
    | none => aOp E h s o.op fun q h' rd wr => forceO s o.dst q fun s' => forceB h' fun h' => aOpsF E all r s' h' fun s2 h2 acc => K s2 h2 ((rd, wr) :: acc)
    | some (j, want) => match dstAt all j with
      | none => False
      | some t => match nth s t with
        | .v (.b x) =>
          Br2 x want (forceAt s t (.v (.b want)) fun s1 => aOp E h s1 o.op fun q h' rd wr => forceO s1 o.dst q fun s' => forceB h' fun h' => aOpsF E all r s' h' fun s2 h2 acc => K s2 h2 ((rd, wr) :: acc))
            (forceAt s t (.v (.b (!want))) fun s1 => forceO s1 o.dst (.tup []) fun s' => aOpsF E all r s' h fun s2 h2 acc => K s2 h2 (([], []) :: acc))
        | .tup [] => forceO s o.dst (.tup []) fun s' => aOpsF E all r s' h fun s2 h2 acc => K s2 h2 (([], []) :: acc)
        | _ => False
theorem aOpsF_eq (E : Env) (all : List Oper) : ∀ (r : List Oper) (s : List PV) (h : List Blk) (K : List PV → List Blk → List (List Nat × List Nat) → Prop), aOpsF E all r s h K = aOps E all r s h K
  | [], s, h, K => by simp only [aOpsF, aOps]
  | o :: r, s, h, K => by
    simp only [aOpsF, aOps, forceO_eq, forceB_eq, forceAt_eq, aOpsF_eq E all r]
    rfl

def forceS (s : List PV) (c : Operand) (x : Bool) (K : List PV → Prop) : Prop :=
  match c with
  | .tmp t => forceAt s t (.v (.b x)) K
  | _ => K s
theorem forceS_eq (s : List PV) (c : Operand) (x : Bool) (K : List PV → Prop) : forceS s c x K = K (setC s c x) := by
  cases c <;> first | rfl | exact forceAt_eq ..
def aCodeF (E : Env) (nref : Nat) : Code → List PV → List Blk → KontC → Prop
  | .skip, s, h, K => K .normal s h
  | .region _ ops draw, s, h, K => aOpsF E ops.toList ops.toList s h fun s' h' acc => cond (!draw || (afterOk 0 ops.toList && ordOk ops.toList (len ops.toList) 0 ops.toList acc)) (K .normal s' h') False
  | .seq a b, s, h, K => SeqVC nref (fun B => aCodeF E nref a s h fun e s' h' => match e with
    | .normal => B s' h'
    | e => K e s' h') fun s' h' => forceL s' fun s' => forceB h' fun h' => aCodeF E nref b s' h' K
  | .cond c x y, s, h, K => match ev s c with
    | .v (.b v) => Br v (forceS s c true fun s' => aCodeF E nref x s' h K) (forceS s c false fun s' => aCodeF E nref y s' h K)
    | _ => False
  | .block id c, s, h, K => BlkVC E.P (.block id c) s h (aCodeF E nref c s h fun e s' h' => match e with
    | .exit j => cond (Nat.beq j id) (K .normal s' h') (K (.exit j) s' h')
    | e => K e s' h') (K .normal)
  | .loop c, s, h, K => LoopVC nref s h fun s h K' => forceL s fun s => forceB h fun h => aCodeF E nref c s h fun e s' h' => match e with
        | .normal => K' s' h'
        | e => K e s' h'
  | .exit id, s, h, K => K (.exit id) s h
  | .ret, s, h, K => K .ret s h
  | _, _, _, _ => False
theorem aCodeF_eq (E : Env) (nref : Nat) : ∀ (c : Code) (s : List PV) (h : List Blk) (K : KontC), aCodeF E nref c s h K = aCode E nref c s h K
  | .skip, s, h, K => by simp only [aCodeF, aCode]
  | .region _ ops draw, s, h, K => by simp only [aCodeF, aCode, aOpsF_eq]
  | .seq a b, s, h, K => by
    simp only [aCodeF, aCode, aCodeF_eq E nref b, aCodeF_eq E nref a, forceL_eq, forceB_eq]
    rfl
  | .cond c x y, s, h, K => by
    simp only [aCodeF, aCode, forceS_eq, aCodeF_eq E nref x, aCodeF_eq E nref y]
    rfl
  | .block id c, s, h, K => by
    simp only [aCodeF, aCode, aCodeF_eq E nref c]
    rfl
  | .loop c, s, h, K => by
    simp only [aCodeF, aCode, forceL_eq, forceB_eq, aCodeF_eq E nref c]
    rfl
  | .exit id, s, h, K => by simp only [aCodeF, aCode]
  | .ret, s, h, K => by simp only [aCodeF, aCode]
  | .rangeFunc .., s, h, K => by simp only [aCodeF, aCode]
  | .scope _, s, h, K => by simp only [aCodeF, aCode]
  | .label _, s, h, K => by simp only [aCodeF, aCode]
  | .goto _, s, h, K => by simp only [aCodeF, aCode]
  | .refuse _, s, h, K => by simp only [aCodeF, aCode]
theorem fn_okF {E : Env} {f : FuncId} {fn : Func} {c : Code} (hf : E.P.funcs[f]? = some fn) (hname : (fn.name == "runtime.NumGoroutine") = false) (hb : fn.body = some c) {args : List PV} {bin bl : List Blk} {r : PV} {n : Nat} (hn : fn.ntmps = args.length + n)
    (hk : forceL (args ++ List.replicate n .un) fun s => forceB bin fun h => aCodeF E (len bin) c s h (aFin E (len bin) fn.results.toList r bl)) : Spec E.P f args bin r bl :=
  fn_ok hf hname hb hn (by rw [forceL_eq, forceB_eq, aCodeF_eq] at hk; exact hk)
end Go.Proofs.Ytkpcieenikmbmaa.E

/- How a function's code is gone through, step by step. -/
namespace Go.Proofs.Ytkpcieenikmbmaa.E
open Go Go.RowKit Go.Proofs.YtkpcieenikmbmaaW.PrintWords
set_option linter.unusedVariables false
set_option linter.unusedSimpArgs false

theorem map_all {α : Type} (f : α → List CV) (n : Nat) (hf : ∀ x, (f x).length = n) (l : List α) : ∀ x ∈ List.map f l, x.length = n := by
  intro x hx
  obtain ⟨y, _, rfl⟩ := List.mem_map.1 hx
  exact hf y

theorem flat_map {α : Type} {f : α → List CV} (hf : ∀ x, (f x).all CV.plain = true) (l : List α) : Flat (List.map f l) := by
  intro x hx c hc
  obtain ⟨y, _, rfl⟩ := List.mem_map.1 hx
  exact List.all_eq_true.1 (hf y) c hc
theorem size_lit (l : List UInt8) : (ByteArray.mk l.toArray).size = l.length := by simp [ByteArray.size]
theorem eqn_ {a b : Nat} (h : a = b) : a = b := h
theorem side_ {p K : Prop} (k : K) (h : p := by first | with_reducible rfl | exact Nat.le_of_ble_eq_true rfl | with_reducible assumption | (refine map_all _ _ ?_ _; intro _; exact Eq.refl _) | (refine flat_map ?_ _; intro _; exact Eq.refl _) | decide | (refine eqn_ ?_; exact Eq.refl _) | (simp only [List.length_map, List.length_set]; done) | omega | (simp only [List.length_map, List.length_append, List.length_set, maxLen, size_lit, bytesOf_length, List.length_cons, List.length_nil]; first | with_reducible assumption | omega) | (simp only [List.length_map, List.length_append, List.length_set, maxLen, List.length_cons, List.length_nil, size_lit, bytesOf_length] at *; omega) | exact Eq.refl _ | (simp only [IntKind.bits]; omega)) : Side p K := ⟨h, k⟩
theorem bnd_ {α β : Type} {x : Option α} {f : α → Option β} {b : β} (h : x.bind f = some b) : ∃ a, x = some a ∧ f a = some b := Option.bind_eq_some_iff.1 h
theorem tl_ {α : Type} {x : Option α} {r : α} (h : x = some r) : ∃ w, x = some w ∧ some w = some r := ⟨r, h, rfl⟩
theorem peel_ {α : Type} {c : Prop} [Decidable c] {x : Option α} {r : α} (h : (if c then x else none) = some r) : c ∧ x = some r := by
  by_cases hc : c
  · rw [if_pos hc] at h
    exact ⟨hc, h⟩
  · rw [if_neg hc] at h
    cases h
end Go.Proofs.Ytkpcieenikmbmaa.E

/- A row within a tree is handed to a call that writes it. -/
namespace Go.Proofs.Ytkpcieenikmbmaa.E
open Go Go.RowKit Go.Proofs.YtkpcieenikmbmaaW.PrintWords
set_option linter.unusedVariables false
set_option linter.unusedSimpArgs false

theorem TrP.mono_of {G : Gh} {w w' : World} {id : Nat} {ty2 : TypeId} {S : List Nat} (h : ∀ l v, InnR G w id ty2 l v → (∀ x ∈ blkC (.row l) v, x ∉ S) → InnR G w' id ty2 l v) : ∀ {l : List CV} {vs : List Value}, TrP G w id ty2 l vs → (∀ x ∈ blkP l vs, x ∉ S) → TrP G w' id ty2 l vs
  | [], _, _, _ => by simp [TrP]
  | p :: ps, vs, r, hs => by
    simp only [TrP] at r ⊢
    obtain ⟨v, vs', rfl, h2, h3⟩ := r
    simp only [blkP, List.mem_append] at hs
    refine ⟨v, vs', rfl, ?_, TrP.mono_of h h3 (fun x hx => hs x (.inr hx))⟩
    cases p with
    | row l => exact h l v h2 (fun x hx => hs x (.inl hx))
    | _ => simpa only [TrC] using h2
/-- What the call leaves as it was. -/
structure RowDone (G : Gh) (w w' : World) (id : Nat) (ty2 : TypeId) (l l' : List (List CV)) (u : Value) : Prop where
  os : w'.os = w.os
  tape : w'.tape = w.tape
  output : w'.output = w.output
  size : w.heap.size ≤ w'.heap.size
  far : ∀ b, b < w.heap.size → b ∉ blkC (.row l) u → w'.heap[b]? = w.heap[b]?
  near : ∀ b cs ty, b ∈ blkC (.row l) u → w.heap[b]? = some (.cells cs ty (0, 0)) → ∃ cs', w'.heap[b]? = some (.cells cs' ty (0, 0)) ∧ cs'.size = cs.size
  inn : InnR G w' id ty2 l' u
theorem row_calls {P : Program} {f : FuncId} {l l' : List (List CV)} {k k' : Int} {ty2 : TypeId} (S : Spec P f [.own 0 l.length, .v (.i .i64 k)] [.arr 1 ty2 false l] (.v (.i .i64 k')) [.arr 1 ty2 false l']) (hl : l'.length = l.length) (hf : Flat l')
    {G : Gh} {w : World} {id : Nat} {u : Value} (hi : Inv G w) (hu : InnR G w id ty2 l u) : Calls P f #[u, .int .i64 k] w fun e w' => e = .returned (.int .i64 k') ∧ RowDone G w w' id ty2 l l' u := by
  rcases hu with ⟨rfl, rfl⟩ | ⟨b', c, cs', rfl, h2, h3, h4, h5, h6, h7, h8⟩
  · have hl' : l' = [] := List.eq_nil_of_length_eq_zero (by simpa using hl)
    subst hl'
    let G1 : Gh := { base := w.heap.size, old := fun _ => False, own := fun _ => none, inf := fun i => if i = 0 then some (1, 0, false) else none, top := fun _ => True }
    have hi1 : Inv G1 w := ⟨Nat.le_refl _, fun b j e => (by cases e), fun _ _ => trivial, by obtain ⟨w0, g1, g2, g3⟩ := hi.gw; exact ⟨w0, g1, g2, fun _ _ => rfl⟩⟩
    refine (S.2 G1 w _ hi1 ?_ fun j => ?_).mono fun e w' hq => ?_
    · simp only [RepsL, Reps, RepC]
      exact ⟨_, _, rfl, ⟨1, 0, false, rfl, Nat.one_pos, rfl, .inr ⟨rfl, .inl ⟨rfl, rfl⟩⟩⟩, _, _, rfl, rfl, rfl⟩
    · cases j with
      | zero => exact ⟨rfl, Nat.one_pos, fun b b' e => (by cases e), .inl ⟨rfl, fun b e => by cases e⟩⟩
      | succ j => exact ⟨rfl, fun b e => by cases e⟩
    · obtain ⟨v, G', ids, rfl, X, hv, hb⟩ := hq
      simp only [Reps, RepC] at hv
      subst hv
      exact ⟨rfl, X.os, X.tape, X.output, X.size, fun b hb _ => (X.nn b hb rfl).2, fun b cs ty hb => by simp [blkC] at hb, .inl ⟨rfl, rfl⟩⟩
  · have hlt := hi.own b' id h2
    let G1 : Gh := { base := w.heap.size, old := fun _ => False, own := fun x => if x = b' then some 0 else none, inf := fun i => if i = 0 then some (1, l.length, false) else none, top := fun _ => True }
    have ho : G1.own b' = some 0 := if_pos rfl
    have hown : ∀ b j, G1.own b = some j → b < w.heap.size := fun b j e => by
      by_cases e1 : b = b'
      · rw [e1]; exact hlt
      · have : G1.own b = none := if_neg e1
        rw [this] at e
        cases e
    have hi1 : Inv G1 w := ⟨Nat.le_refl _, hown, fun _ _ => trivial, by
      obtain ⟨w0, g1, g2, g3⟩ := hi.gw
      exact ⟨w0, g1, g2, fun b hb => if_neg (fun e => by rw [e] at hb; have := g3 b' hb; rw [h2] at this; cases this)⟩⟩
    have huniq : ∀ x, G1.own x = some 0 → x = b' := fun x e => by
      by_cases e1 : x = b'
      · exact e1
      · have : G1.own x = none := if_neg e1
        rw [this] at e; cases e
    refine (S.2 G1 w _ hi1 ?_ fun j => ?_).mono fun e w' hq => ?_
    · simp only [RepsL, Reps, RepC]
      exact ⟨_, _, rfl, ⟨1, l.length, false, rfl, Nat.one_pos, rfl, .inr ⟨rfl, .inr ⟨b', c, cs', ty2, rfl, ⟨ho, trivial⟩, h4, by omega, h6, h7⟩⟩⟩, _, _, rfl, rfl, rfl⟩
    · cases j with
      | zero => exact ⟨rfl, Nat.one_pos, fun x x' e e' => by rw [huniq x e, huniq x' e'], .inr ⟨b', cs', ⟨ho, trivial⟩, h4, by omega, RepE.mono (fun _ _ _ e => e.elim) 1 l _ h8⟩⟩
      | succ j => exact ⟨rfl, fun x e => by
          by_cases e1 : x = b'
          · have : G1.own x = some 0 := if_pos e1
            rw [this] at e; cases e
          · have : G1.own x = none := if_neg e1
            rw [this] at e; cases e⟩
    · obtain ⟨v, G', ids, rfl, X, hv, hb⟩ := hq
      simp only [Reps, RepC] at hv
      subst hv
      have r := hb 0
      obtain ⟨r1, r2, r3, r4⟩ := r
      obtain ⟨n', f', a1, a2, a3, a4⟩ := X.inf 0 1 l.length false rfl
      rw [r1] at a1
      injection a1 with a1
      injection a1 with _ a1
      injection a1 with a1 a5
      have ho' := a4 (by omega) b' ho
      obtain ⟨cs3, s1, s2⟩ := X.same b' 0 cs' ty2 ho ho' ⟨1, l.length, false, false, rfl, by rw [r1, hl]⟩ h4
      refine ⟨rfl, X.os, X.tape, X.output, X.size, fun b hb hn => (X.nn b hb (if_neg (fun e => hn (by simp [blkC, e])))).2, fun b cs ty hb hc => ?_, ?_⟩
      · simp only [blkC, List.mem_singleton] at hb
        subst hb
        rw [h4] at hc
        injection hc with hc
        injection hc with c1 c2
        subst c1 c2
        exact ⟨cs3, s1, s2⟩
      · rcases r4 with ⟨_, r5⟩ | ⟨b2, cs2, r5, r6, r7, r8⟩
        · exact absurd ho' (r5 b')
        · have := r3 b2 b' r5.1 ho'
          subst this
          rw [s1] at r6
          injection r6 with r6
          injection r6 with r6 _
          subst r6
          exact .inr ⟨b2, c, cs3, by rw [hl], h2, h3, s1, by omega, by omega, h7, flat_rep hf r8⟩
theorem wpList_one {P : Program} {ops : Array Oper} {Q : Exit → Act → World → Prop} {o : Oper} {l : List Oper} {a : Act} {w : World} (hg : o.guard = none) (h : o.wp P a w (fun a w => wpList P ops Q l a w) Q) : wpList P ops Q (o :: l) a w := by
  unfold wpList
  rw [if_pos (by simp [Region.wanted, hg])]
  left
  exact h
theorem getD_put_same {a : Act} {d : Tmp} {v : Value} (h : d < a.tmps.size) : (a.put (some d) v).tmps.getD d undef = v := by
  simp [Act.put, Array.getElem?_setIfInBounds, h]
theorem row_ops {E : Env} {ops : Array Oper} {Q : Exit → Act → World → Prop} {o1 o2 o3 : Oper} {rest : List Oper} {c : Call} {t tp tk q1 q2 q3 : Nat} {i : TI} {f : FuncId} {id n e o sz : Nat} {ty ty2 : TypeId} {els : List (List CV)} {el : List CV} {l l' : List (List CV)} {k k' : Int}
    (h1 : o1.op = .load t (.tmp tp) ∧ o1.guard = none ∧ o1.dst = some q1) (h2 : o2.op = .move (.tmp tk) ∧ o2.guard = none ∧ o2.dst = some q2) (h3 : o3.op = .call c ∧ o3.guard = none ∧ o3.dst = some q3) (hc : c.callee = .value (.func f) ∧ c.args = #[.tmp q1, .tmp q2])
    (ht : look E.T t = some i ∧ i.k.isAgg = false) {s : List PV} {h : List Blk} {G : Gh} {a : Act} {w : World} (r : Rel s h G a w) (hq : q1 < s.length ∧ q2 < s.length ∧ q1 ≠ q2 ∧ tk ≠ q1) (hp : nth s tp = .eptr id n e o) (hkk : nth s tk = .v (.i .i64 k)) (hB : nthB h id = some (.tree sz ty ty2 els)) (hn : n = els.length)
    (hel : els[e]? = some el) (hco : el[o]? = some (.row l)) (S : Spec E.P f [.own 0 l.length, .v (.i .i64 k)] [.arr 1 ty2 false l] (.v (.i .i64 k')) [.arr 1 ty2 false l']) (hl : l'.length = l.length) (hf : Flat l')
    (cont : ∀ a' w', Rel (put (put (put s q1 .un) q2 (.v (.i .i64 k))) q3 (.v (.i .i64 k'))) (putB h id (.tree sz ty ty2 (els.set e (putL el o [.row l'])))) G a' w' → Ext [id] G w G w' → wpList E.P ops Q rest a' w') :
    wpList E.P ops Q (o1 :: o2 :: o3 :: rest) a w := by
  have hi := r.inv
  have rb := r.b id
  rw [hB] at rb
  have hlt : e < n := by rw [hn]; exact (List.getElem?_eq_some_iff.1 hel).1
  have hpv := r.t tp
  rw [hp] at hpv
  obtain ⟨b, cs, hptr, g1, g2, g3, g4, g5, g6⟩ := rb.tree_at hn hlt hpv
  have hlf := flatten_len g4
  have hels := g4 el (List.mem_of_getElem? hel)
  have ho : o < el.length := (List.getElem?_eq_some_iff.1 hco).1
  have he : e * sz + sz ≤ els.length * sz := by rw [← Nat.succ_mul]; exact Nat.mul_le_mul_right _ (by omega)
  have hp1 : e * sz + o < els.flatten.length := by rw [hlf]; omega
  have hFp : els.flatten[e * sz + o]? = some (.row l) := by
    have hco' := hco
    rw [flatten_get g4 hel, List.getElem?_take, if_pos (by omega), List.getElem?_drop] at hco'
    exact hco'
  -- the three parts
  have eF : els.flatten = els.flatten.take (e * sz + o) ++ (CV.row l :: els.flatten.drop (e * sz + o + 1)) := by
    have hlt' : e * sz + o < els.flatten.length := hp1
    have hg : els.flatten[e * sz + o] = CV.row l := by
      have := List.getElem?_eq_getElem hlt'
      rw [hFp] at this
      injection this with this
      exact this.symm
    rw [← hg, ← List.drop_eq_getElem_cons hlt', List.take_append_drop]
  have hlV := g5.len
  have lA : (els.flatten.take (e * sz + o)).length = e * sz + o := by rw [List.length_take]; omega
  have g5' := g5
  rw [eF] at g5'
  obtain ⟨tA, tM⟩ := g5'.split
  rw [lA] at tA tM
  simp only [TrP] at tM
  obtain ⟨u, vs', hu1, hu2, tB⟩ := tM
  have eV : cs.toList = cs.toList.take (e * sz + o) ++ (u :: vs') := by rw [← hu1, List.take_append_drop]
  have hu : InnR G w id ty2 l u := hu2
  have hcell : cs.toList[e * sz + o]? = some u := by
    have := congrArg (fun q => q[0]?) hu1
    simpa [List.getElem?_drop] using this
  have lV : (cs.toList.take (e * sz + o)).length = (els.flatten.take (e * sz + o)).length := by rw [lA, List.length_take]; omega
  have bV : blkP els.flatten cs.toList = blkP (els.flatten.take (e * sz + o)) (cs.toList.take (e * sz + o)) ++ (blkC (.row l) u ++ blkP (els.flatten.drop (e * sz + o + 1)) vs') := by
    conv => lhs; rw [eF, eV]
    rw [blkP_append lV]
    rfl
  -- the load
  refine wpList_one h1.2.1 ?_
  have hrun1 := run_load_one (w := w) (o := e * sz + o) (Env.fact ht.1) ht.2 g2 hcell
  have ex1 : (execOp a.eval o1).run E.P w = .ok (.value u) w := by
    unfold execOp
    simp only [h1.1]
    refine run_value ?_
    show (Instr.loadAt t (a.eval (.tmp tp))).run E.P w = _
    have : a.eval (.tmp tp) = .pointer (some ⟨b, e * sz + o, none⟩) := hptr
    rw [this]
    exact hrun1
  unfold Oper.wp
  rw [ex1]
  simp only [Oper.upon, h1.2.2]
  -- the move
  have r1 : Rel (put s q1 .un) h G (a.put (some q1) u) w := r.step (wr := []) (q := .un) (fun _ _ => rfl) (some q1) (Ext.refl hi []) (by simp only [Reps]) (fun j hj => by cases hj)
  have hv1 : (a.put (some q1) u).tmps.getD q1 undef = u := getD_put_same (by rw [r.size]; exact hq.1)
  have hk1 : (a.put (some q1) u).eval (.tmp tk) = .int .i64 k := by
    have := r1.t tk
    rw [nth_put_ne s q1 tk _ hq.2.2.2, hkk] at this
    simp only [Reps, RepC] at this
    exact this
  refine wpList_one h2.2.1 ?_
  have ex2 : (execOp (a.put (some q1) u).eval o2).run E.P w = .ok (.value (.int .i64 k)) w := by
    unfold execOp
    simp only [h2.1]
    rw [hk1]
    rfl
  unfold Oper.wp
  rw [ex2]
  simp only [Oper.upon, h2.2.2]
  have r2 : Rel (put (put s q1 .un) q2 (.v (.i .i64 k))) h G ((a.put (some q1) u).put (some q2) (.int .i64 k)) w := r1.step (wr := []) (q := .v (.i .i64 k)) (fun _ _ => rfl) (some q2) (Ext.refl hi []) (by simp only [Reps, RepC]) (fun j hj => by cases hj)
  have hv2 : ((a.put (some q1) u).put (some q2) (.int .i64 k)).eval (.tmp q1) = u := by
    show ((a.put (some q1) u).put (some q2) (.int .i64 k)).tmps.getD q1 undef = u
    rw [getD_put_ne hq.2.2.1]
    exact hv1
  have hv3 : ((a.put (some q1) u).put (some q2) (.int .i64 k)).eval (.tmp q2) = .int .i64 k := getD_put_same (by rw [r1.size, put_length]; exact hq.2.1)
  -- the call
  refine wpList_one h3.2.1 ?_
  have ex3 : (execOp ((a.put (some q1) u).put (some q2) (.int .i64 k)).eval o3).run E.P w = .ok (.enter f #[u, .int .i64 k]) w := by
    unfold execOp
    have hS := S.1 #[u, .int .i64 k] w
    simp only [h3.1]
    simp [resolve, hc.1, hc.2, Deferred.ofValue, invoke, hv2, hv3]
    simpa [Act.eval] using hS
  unfold Oper.wp
  rw [ex3]
  simp only [Oper.upon, h3.2.2]
  refine (row_calls S hl hf hi hu).mono ?_
  rintro e2 w' ⟨rfl, D⟩
  have hinb : ∀ x ∈ blkC (.row l) u, G.own x = some id ∧ ¬ G.top x := fun x hx => by
    rcases hu with ⟨_, rfl⟩ | ⟨b', c', cs', rfl, k1, k2, _⟩
    · simp [blkC] at hx
    · simp only [blkC, List.mem_singleton] at hx
      subst hx
      exact ⟨k1, k2⟩
  have hfar : ∀ x, x < w.heap.size → (G.own x ≠ some id ∨ G.top x) → w'.heap[x]? = w.heap[x]? := fun x hx hor => D.far x hx (fun hm => by
    obtain ⟨k1, k2⟩ := hinb x hm
    rcases hor with hor | hor
    · exact hor k1
    · exact k2 hor)
  have X : Ext [id] G w G w' :=
    { os := D.os
      tape := D.tape
      output := D.output
      size := D.size
      base := rfl
      old := rfl
      nn := fun x hx h0 => ⟨h0, hfar x hx (.inl (by rw [h0]; simp))⟩
      sm := fun x j h0 => ⟨fun hn => ⟨h0, hfar x (hi.own x j h0) (.inl (by rw [h0]; intro e; injection e with e; exact hn (by simp [e])))⟩, .inl h0⟩
      same := fun x j cs0 ty0 h0 _ _ hc0 => by
        by_cases hx : x ∈ blkC (.row l) u
        · exact D.near x cs0 ty0 hx hc0
        · exact ⟨cs0, (D.far x (hi.own x j h0) hx).trans hc0, rfl⟩
      fz := fun x j s0 n0 h0 hfz => by
        refine ⟨h0, hfar x (hi.own x j h0) (.inl ?_)⟩
        rw [h0]
        intro e
        injection e with e
        subst e
        rw [rb.1] at hfz
        cases hfz
      inf := fun j s0 n0 f0 h0 => ⟨n0, f0, h0, Nat.le_refl _, fun e => ⟨e, rfl⟩, fun _ x hx => hx⟩
      out := fun _ _ => rfl
      new := fun x j hx h0 => absurd (hi.own x j h0) (by omega)
      keep := fun x j h0 => Nat.lt_of_lt_of_le (hi.own x j h0) D.size
      tp := fun _ _ _ _ _ h => h
      nt := fun _ _ h _ => h
      tn := fun x hx => hi.top x (Nat.le_trans D.size hx) }
  refine cont _ w' (r2.step (wr := [id]) (fun j hj => nthB_putB_ne h id j _ (by simpa using hj)) (some q3) X (by simp only [Reps, RepC]) fun j hj => ?_) X
  simp only [List.mem_singleton] at hj
  subst hj
  rw [nthB_putB_same _ hB]
  obtain ⟨s1, s2, s3, s4⟩ := rb
  have fp := flatten_put (o := o) [CV.row l'] g4 hel (by simp; omega)
  simp only [List.length_singleton] at fp
  have keepI : ∀ l0 v0, InnR G w j ty2 l0 v0 → (∀ x ∈ blkC (.row l0) v0, x ∉ blkC (.row l) u) → InnR G w' j ty2 l0 v0 := fun l0 v0 q hs => by
    rcases q with q | ⟨b0, c0, cs0, k1, k2, k3, k4, k5⟩
    · exact .inl q
    · subst k1
      exact .inr ⟨b0, c0, cs0, rfl, k2, k3, (D.far b0 (hi.own b0 j k2) (hs b0 (by simp [blkC]))).trans k4, k5.1, k5.2.1, k5.2.2.1, RepE.mono (fun _ _ _ e => e.elim) 1 l0 _ k5.2.2.2⟩
  have hN := g6
  rw [bV, List.nodup_append] at hN
  obtain ⟨n1, n2, n3⟩ := hN
  rw [List.nodup_append] at n2
  obtain ⟨n4, n5, n6⟩ := n2
  have tA' := TrP.mono_of keepI tA (fun x hx hm => n3 x hx x (List.mem_append_left _ hm) rfl)
  have tB' := TrP.mono_of keepI tB (fun x hx hm => n6 x hm x hx rfl)
  have hblk : blkC (.row l') u = blkC (.row l) u := by cases u <;> first | rfl | (rename_i A _ _; cases A <;> rfl)
  refine ⟨by rw [List.length_set]; exact s1, s2, s3, .inr ⟨b, cs, g1, (hfar b (hi.own b j g1.1) (.inr g1.2)).trans g2, by rw [List.length_set]; exact g3, fun y hy => ?_, ?_, ?_⟩⟩
  · rcases List.mem_or_eq_of_mem_set hy with hy | rfl
    · exact g4 y hy
    · rw [putL_length _ _ _ (by simp; omega)]
      exact hels
  · rw [fp, eV, List.append_assoc]
    refine TrP.append tA' lV ?_
    simp only [List.singleton_append, TrP]
    exact ⟨u, vs', rfl, D.inn, tB'⟩
  · rw [fp, eV, List.append_assoc, blkP_append lV]
    simp only [List.singleton_append, blkP]
    rw [hblk, List.nodup_append, List.nodup_append]
    exact ⟨n1, ⟨n4, n5, n6⟩, n3⟩
/-! ### regions with such a call -/
theorem ops_pre {E : Env} {ops : Array Oper} {Q : Exit → Act → World → Prop} {rest : List Oper} : ∀ (l : List Oper) (s : List PV) (h : List Blk) (K : List PV → List Blk → List (List Nat × List Nat) → Prop), (l.all fun o => o.guard.isNone) = true → aOps E ops.toList l s h K →
    ∀ (G : Gh) (a : Act) (w : World), Rel s h G a w → (∀ s' h' acc G' a' w' ids, K s' h' acc → Rel s' h' G' a' w' → Ext ids G w G' w' → wpList E.P ops Q rest a' w') → wpList E.P ops Q (l ++ rest) a w
  | [], s, h, K, _, hk, G, a, w, r, hQ => hQ s h [] G a w [] hk r (Ext.refl r.inv [])
  | o :: l, s, h, K, hg, hk, G, a, w, r, hQ => by
    simp only [List.all_cons, Bool.and_eq_true, Option.isNone_iff_eq_none] at hg
    unfold aOps at hk
    rw [hg.1] at hk
    obtain ⟨q, h', rd, wr, hk, g1, g2, g3⟩ := op_ok hk
    rw [List.cons_append]
    refine wpList_one hg.1 ?_
    refine g3 G a w r.inv (fun x _ => r.ev x) (fun id _ => r.b id) _ _ fun v G' w' X hq hb => ?_
    exact ops_pre l _ _ _ hg.2 hk G' _ w' (r.step g1 o.dst X hq hb) (fun s' h' acc G2 a2 w2 ids hK r2 X2 => hQ s' h' _ G2 a2 w2 _ hK r2 (X.trans r.inv X2))
inductive RowVC (E : Env) (s : List PV) (h : List Blk) (o1 o2 o3 : Oper) (K : List PV → List Blk → Prop) : Prop where
  | mk (c : Call) (t tp tk q1 q2 q3 : Nat) (i : TI) (f : FuncId) (id n e o sz : Nat) (ty ty2 : TypeId) (els : List (List CV)) (el : List CV) (l l' : List (List CV)) (k k' : Int)
    (h1 : o1.op = .load t (.tmp tp) ∧ o1.guard = none ∧ o1.dst = some q1) (h2 : o2.op = .move (.tmp tk) ∧ o2.guard = none ∧ o2.dst = some q2) (h3 : o3.op = .call c ∧ o3.guard = none ∧ o3.dst = some q3) (hc : c.callee = .value (.func f) ∧ c.args = #[.tmp q1, .tmp q2])
    (ht : look E.T t = some i ∧ i.k.isAgg = false) (hq : q1 < s.length ∧ q2 < s.length ∧ q1 ≠ q2 ∧ tk ≠ q1) (hp : nth s tp = .eptr id n e o) (hkk : nth s tk = .v (.i .i64 k)) (hB : nthB h id = some (.tree sz ty ty2 els)) (hn : n = els.length)
    (hel : els[e]? = some el) (hco : el[o]? = some (.row l)) (S : Spec E.P f [.own 0 l.length, .v (.i .i64 k)] [.arr 1 ty2 false l] (.v (.i .i64 k')) [.arr 1 ty2 false l']) (hl : l'.length = l.length) (hf : Flat l') (els' : List (List CV)) (he : els' = els.set e (putL el o [.row l']))
    (kk : K (put (put (put s q1 .un) q2 (.v (.i .i64 k))) q3 (.v (.i .i64 k'))) (putB h id (.tree sz ty ty2 els')))
def aRow (E : Env) (all pre : List Oper) (o1 o2 o3 : Oper) (post : List Oper) (s : List PV) (h : List Blk) (K : List PV → List Blk → Prop) : Prop :=
  aOps E all pre s h fun s1 h1 _ => RowVC E s1 h1 o1 o2 o3 fun s2 h2 => aOps E all post s2 h2 fun s3 h3 _ => K s3 h3
theorem row_region {E : Env} {rid : Nat} {ops : Array Oper} {pre post : List Oper} {o1 o2 o3 : Oper} (ho : ops.toList = pre ++ o1 :: o2 :: o3 :: post) (hg : (pre.all fun o => o.guard.isNone) = true) (hg2 : (post.all fun o => o.guard.isNone) = true) {s : List PV} {h : List Blk} {K : List PV → List Blk → Prop}
    (hk : aRow E ops.toList pre o1 o2 o3 post s h K) {G : Gh} {a : Act} {w : World} (r : Rel s h G a w) {Q : Exit → Act → World → Prop} (hQ : ∀ s' h' G' a' w', K s' h' → Rel s' h' G' a' w' → (∃ ids, Ext ids G w G' w') → Q .normal a' w') : (Code.region rid ops false).wp E.P Q a w := by
  refine wp_region_list ?_
  rw [ho]
  refine ops_pre pre s h _ hg hk G a w r fun s1 h1 acc G1 a1 w1 ids hK r1 X1 => ?_
  obtain ⟨c, t, tp, tk, q1, q2, q3, i, f, id, n, e, o, sz, ty, ty2, els, el, l, l', k, k', b1, b2, b3, b4, b5, b6, b7, b8, b9, b10, b11, b12, S, hl, hf, els', rfl, kk⟩ := hK
  refine row_ops b1 b2 b3 b4 b5 r1 b6 b7 b8 b9 b10 b11 b12 S hl hf fun a2 w2 r2 X2 => ?_
  have := ops_pre (rest := []) (Q := Q) post _ _ _ hg2 kk G1 a2 w2 r2 (fun s' h' acc G' a' w' ids' hK' r' X' => hQ s' h' G' a' w' hK' r' ⟨_, X1.trans r.inv (X2.trans r1.inv X')⟩)
  simpa using this
theorem list_region {E : Env} {rid : Nat} {ops : Array Oper} (hg : (ops.toList.all fun o => o.guard.isNone) = true) {s : List PV} {h : List Blk} {K : List PV → List Blk → List (List Nat × List Nat) → Prop}
    (hk : aOps E ops.toList ops.toList s h K) {G : Gh} {a : Act} {w : World} (r : Rel s h G a w) {Q : Exit → Act → World → Prop} (hQ : ∀ s' h' acc G' a' w', K s' h' acc → Rel s' h' G' a' w' → (∃ ids, Ext ids G w G' w') → Q .normal a' w') : (Code.region rid ops false).wp E.P Q a w := by
  refine wp_region_list ?_
  have := ops_pre (rest := []) (Q := Q) ops.toList s h K hg hk G a w r (fun s' h' acc G' a' w' ids' hK' r' X' => hQ s' h' acc G' a' w' hK' r' ⟨_, X'⟩)
  simpa using this
theorem map_rd {α : Type} (f : α → List CV) (d : α) (l : List α) {i : Int} (h0 : 0 ≤ i) (h1 : i < (l.length : Int)) : (List.map f l)[i.toNat]? = some (f (l.getD i.toNat d)) := by
  have h2 : i.toNat < l.length := by omega
  rw [List.getElem?_map, List.getD_eq_getElem?_getD, List.getElem?_eq_getElem h2]
  rfl
theorem map_rd_set {α : Type} (f : α → List CV) (l : List α) {i : Int} (y : α) (h0 : 0 ≤ i) (h1 : i < (l.length : Int)) : (List.map f (l.set i.toNat y))[i.toNat]? = some (f y) := by
  have h2 : i.toNat < l.length := by omega
  rw [List.getElem?_map, List.getElem?_set, if_pos rfl, if_pos h2]
  rfl
theorem rowid_ {E : Env} {s : List PV} {h : List Blk} {o1 o2 o3 : Oper} {K : List PV → List Blk → Prop} (k : RowVC E s h o1 o2 o3 K) : RowVC E s h o1 o2 o3 K := k
/-- A block of one region. -/
theorem row_block1 {E : Env} {bid rid : Nat} {ops : Array Oper} (pre post : List Oper) (o1 o2 o3 : Oper) {s : List PV} {h : List Blk} {A : Prop} {B : List PV → List Blk → Prop} (ho : ops.toList = pre ++ o1 :: o2 :: o3 :: post) (hg : (pre.all fun o => o.guard.isNone) = true) (hg2 : (post.all fun o => o.guard.isNone) = true)
    (hk : aRow E ops.toList pre o1 o2 o3 post s h B) : BlkVC E.P (.block bid (.region rid ops false)) s h A B :=
  .hand fun G a w r Q hQ => wp_block (row_region ho hg hg2 hk r fun s' h' G' a' w' hB r' hX => hQ s' h' G' a' w' hB r' hX)
/-- A block of three regions, the last of them with the call. -/
theorem row_block3 {E : Env} {bid i1 i2 i3 : Nat} {ops1 ops2 ops3 : Array Oper} (pre post : List Oper) (o1 o2 o3 : Oper) {s : List PV} {h : List Blk} {A : Prop} {B : List PV → List Blk → Prop} (g1 : (ops1.toList.all fun o => o.guard.isNone) = true) (g2 : (ops2.toList.all fun o => o.guard.isNone) = true) (ho : ops3.toList = pre ++ o1 :: o2 :: o3 :: post) (hg : (pre.all fun o => o.guard.isNone) = true) (hg2 : (post.all fun o => o.guard.isNone) = true)
    (hk : aOps E ops1.toList ops1.toList s h fun s1 h1 _ => aOps E ops2.toList ops2.toList s1 h1 fun s2 h2 _ => aRow E ops3.toList pre o1 o2 o3 post s2 h2 B) : BlkVC E.P (.block bid ((Code.region i1 ops1 false).seq ((Code.region i2 ops2 false).seq (.region i3 ops3 false)))) s h A B :=
  .hand fun G a w r Q hQ => wp_block (wp_seq (list_region g1 hk r fun s1 h1 acc1 G1 a1 w1 hk1 r1 hX1 => wp_seq (list_region g2 hk1 r1 fun s2 h2 acc2 G2 a2 w2 hk2 r2 hX2 => row_region ho hg hg2 hk2 r2 fun s' h' G' a' w' hB r' hX => hQ s' h' G' a' w' hB r' (by
    obtain ⟨x1, X1⟩ := hX1
    obtain ⟨x2, X2⟩ := hX2
    obtain ⟨x3, X3⟩ := hX
    exact ⟨_, X1.trans r.inv (X2.trans r1.inv X3)⟩))))
end Go.Proofs.Ytkpcieenikmbmaa.E

/- How a function's code is gone through beside what it computes. -/
namespace Go.Proofs.Ytkpcieenikmbmaa.E
open Go Go.RowKit Go.Proofs.YtkpcieenikmbmaaW.PrintWords
set_option linter.unusedVariables false
set_option linter.unusedSimpArgs false

/-! ### the side of the plain function -/
section
variable {α β : Type} {r : α}
theorem itet_ {a b : Option α} (h : (if true = true then a else b) = some r) : a = some r := by simpa using h
theorem itef_ {a b : Option α} (h : (if false = true then a else b) = some r) : b = some r := by simpa using h
theorem peeln_ {c : Prop} [Decidable c] {x : Option α} (h : (if c then none else x) = some r) : ¬c ∧ x = some r := by
  by_cases hc : c
  · rw [if_pos hc] at h
    cases h
  · rw [if_neg hc] at h
    exact ⟨hc, h⟩
theorem suc_ {k : Nat} {g : Nat → Option α} (h : g k = some r) (h0 : g 0 = none) : ∃ k', k = k' + 1 := by
  cases k with
  | zero => rw [h0] at h; cases h
  | succ k => exact ⟨k, rfl⟩
variable {c : Prop} [Decidable c] {A B : Option α} {P Q : Prop} {x : Bool}
theorem br_ (H : (if c then A else B) = some r) (h : x = decide c) (t : c → A = some r → P) (f : ¬c → B = some r → Q) : Br x P Q := by
  subst h
  refine ⟨fun e => ?_, fun e => ?_⟩
  · have e := of_decide_eq_true e
    rw [if_pos e] at H
    exact t e H
  · have e := of_decide_eq_false e
    rw [if_neg e] at H
    exact f e H
theorem brn_ (H : (if c then A else B) = some r) (h : x = !decide c) (t : ¬c → B = some r → P) (f : c → A = some r → Q) : Br x P Q := by
  subst h
  refine ⟨fun e => ?_, fun e => ?_⟩
  · have e := of_decide_eq_false (by simpa using e)
    rw [if_neg e] at H
    exact t e H
  · have e := of_decide_eq_true (by simpa using e)
    rw [if_pos e] at H
    exact f e H
theorem bd_ (b : Bool) : b = decide (b = true) := by cases b <;> rfl
theorem bs_ (x y : ByteArray) : (x.toList == y.toList) = decide (x.toList = y.toList) := by
  rw [Bool.eq_iff_iff]
  simp
theorem bs0_ (x y : ByteArray) : (!(x.toList == y.toList)) = !decide (x.toList = y.toList) := by rw [bs_]
theorem bi_ (x y : Int) : (x == y) = decide (x = y) := rfl
theorem bni_ (x y : Int) : (x != y) = !decide (x = y) := rfl
theorem bin_ (x y : Int) : (!(x == y)) = !decide (x = y) := rfl
theorem bn_ (b : Bool) : (!b) = !decide (b = true) := by cases b <;> rfl
theorem bnn_ (b : Bool) : b = !decide ((!b) = true) := by cases b <;> rfl
theorem nilB (a : ByteArray) : (a.toList == []) = (a.toList == (⟨#[]⟩ : ByteArray).toList) := by
  have : (⟨#[]⟩ : ByteArray).toList = [] := by unfold ByteArray.toList; unfold ByteArray.toList.loop; rfl
  rw [this]
theorem nilE (a : ByteArray) : (a.toList = []) = (a.toList = (⟨#[]⟩ : ByteArray).toList) := by
  have : (⟨#[]⟩ : ByteArray).toList = [] := by unfold ByteArray.toList; unfold ByteArray.toList.loop; rfl
  rw [this]
theorem sgo_ {nref : Nat} {A : (List PV → List Blk → Prop) → Prop} {B : List PV → List Blk → Prop} (k : A B) : SeqVC nref A B := .go k
theorem scut_ {E : Env} {nref : Nat} (id : Nat) {ops : Array Oper} {draw : Bool} {s : List PV} {h : List Blk} {B : List PV → List Blk → Prop} {C : (List PV → List Blk → Prop) → KontC} (J : List PV → List Blk → Prop)
    (a : aCodeF E nref (.region id ops draw) s h (C fun s h => ∃ s' h', Weak s h nref s' h' ∧ J s' h')) (b : ∀ s h, J s h → B s h) : SeqVC nref (fun B => aCodeF E nref (.region id ops draw) s h (C B)) B := .cut J a b
theorem brt_ (t : P) : Br true P Q := ⟨fun _ => t, fun h => by cases h⟩
theorem brf_ (f : Q) : Br false P Q := ⟨fun h => by (cases h), fun _ => f⟩
theorem brct_ {a b : Bool} (h : Br a P Q) : Br (cond true a b) P Q := h
theorem brcf_ {a b : Bool} (h : Br b P Q) : Br (cond false a b) P Q := h
theorem br2t_ (h : Br x P Q) : Br2 x true P Q := ⟨h.t, fun e => h.f e⟩
theorem br2f_ (h : Br x Q P) : Br2 x false P Q := ⟨h.f, fun e => h.t e⟩
end

/-! ### rows, written as lists -/
section
variable {e : Nat} {α : Type} {f : α → List CV} {K : List (List CV) → Prop}
theorem norm_nilapp {y : List α} (k : K (List.map f y)) : Norm e ([] ++ List.map f y) K := ⟨_, rfl, k⟩
theorem norm_appnil {y : List α} (k : K (List.map f y)) : Norm e (List.map f y ++ []) K := ⟨_, (List.append_nil _).symm, k⟩
theorem norm_app {x y : List α} (k : K (List.map f (x ++ y))) : Norm e (List.map f x ++ List.map f y) K := ⟨_, List.map_append, k⟩
theorem norm_set {l : List α} {i : Nat} {y : List CV} (v : α) (h : f v = y) (k : K (List.map f (l.set i v))) : Norm e ((List.map f l).set i y) K := ⟨_, by rw [List.map_set, h], k⟩
theorem norm_rep {n : Nat} {y : List CV} (v : α) (h : f v = y) (k : K (List.map f (List.replicate n v))) : Norm e (List.replicate n y) K := ⟨_, by rw [List.map_replicate, h], k⟩
theorem norm_td {l : List α} {m n : Nat} (k : K (List.map f ((l.take m).drop n))) : Norm e (((List.map f l).take m).drop n) K := ⟨_, by rw [List.map_drop, List.map_take], k⟩
theorem norm_t {l : List α} {m : Nat} (k : K (List.map f (l.take m))) : Norm e (((List.map f l).take m).drop ((0 : Int).toNat)) K := ⟨_, by rw [List.map_take]; rfl, k⟩
theorem norm_d {l : List α} {n : Nat} (k : K (List.map f (l.drop n))) : Norm e (((List.map f l).take (((List.map f l).length : Nat) : Int).toNat).drop n) K := ⟨_, by rw [List.map_drop, Int.toNat_natCast, List.take_length], k⟩
theorem norm_lit {sz n : Nat} {c : List CV} (l : List α) (h : List.map f l = chunks sz n c) (k : K (List.map f l)) : Norm e (chunks sz n c) K := ⟨_, h, k⟩
end
theorem elem_ {α : Type} {f : α → List CV} {l : List α} {j : Int} {K : List CV → Prop} (d v : α) (hv : l.getD j.toNat d = v) (k : K (f v)) (h0 : 0 ≤ j) (h1 : j < (l.length : Int)) : ElemAt (List.map f l) j.toNat K := by
  subst hv
  refine ⟨_, ?_, k⟩
  have h2 : j.toNat < l.length := by omega
  rw [List.getElem?_map, List.getD_eq_getElem?_getD, List.getElem?_eq_getElem h2]
  rfl
theorem lenm_ {α : Type} {f : α → List CV} {l : List α} {K : Nat → Prop} (k : K l.length) : LenAt (List.map f l) K := ⟨_, (List.length_map _).symm, k⟩
theorem stre_ {l : List Int} {K : List Int → Prop} (k : K l) : StrAt (List.map (fun x => [.i .u8 x]) l) K := ⟨l, rfl, k⟩
theorem stre0_ {K : List Int → Prop} (k : K []) : StrAt [] K := ⟨[], rfl, k⟩

theorem cons_eq {α : Type} {a b : α} {l m : List α} (h : a = b) (k : l = m) : a :: l = b :: m := by rw [h, k]
theorem vi_eq {k : IntKind} {a b : Int} (h : a = b) : PV.v (.i k a) = PV.v (.i k b) := by rw [h]
theorem wm_ (x : Int) : wrap64 (x % 256) = x % 256 := by unfold wrap64; omega
theorem own_eq {i n m : Nat} (h : n = m) : PV.own i n = PV.own i m := by rw [h]
theorem box_eq {t : TypeId} {l m : List PV} (h : l = m) : Blk.box t l = Blk.box t m := by rw [h]
theorem tup_eq {l m : List PV} (h : l = m) : PV.tup l = PV.tup m := by rw [h]
theorem agg_eq {l m : List PV} (h : l = m) : PV.agg l = PV.agg m := by rw [h]
/-! ### calls, loops, the end -/
theorem call_ {P : Program} {f : FuncId} {av av' : List PV} {bin bin' : List Blk} {K : PV → List Blk → Prop} {r : PV} {bl : List Blk} (h : Spec P f av' bin' r bl) (e : av' = av) (e2 : bin' = bin) (k : K r bl) : CallAt P f av bin K := by
  subst e e2
  exact ⟨r, bl, h, k⟩
section
variable {nref : Nat} {s : List PV} {h : List Blk}
theorem weak_ {keep : List Nat} {h' : List Blk} (ex : List (Nat × Nat)) (us : List (Option Nat)) (bs : List (List (Option Nat))) (ms : List Bool)
    (h0 : (posL ex && upIn (len h) (len h + len ex) us && upIns (len h) (len h + len ex) bs) = true) (hk : keepOf nref (upBs bs h ++ nils ex) (mask ms (upT us s)) = keep) (h2 : (nodup keep && pre 0 nref keep) = true)
    (h4 : pickB (idx keep) (upBs bs h ++ nils ex) keep = some h') : Weak s h nref (mask ms (gcT keep (upT us s))) h' := by
  simp only [Bool.and_eq_true] at h0 h2
  exact ⟨ex, us, bs, h0.1.1, h0.1.2, h0.2, _, ⟨keep, h2.1, fun i hi => by simpa using pre_ok nref 0 keep h2.2 i hi, h4, rfl⟩, ms, rfl⟩
theorem fin_ {q : PV} {r : PV} {bl : List Blk} (ex : List (Nat × Nat)) {keep : List Nat} (h0 : posL ex = true) (h1 : (upP (len h) q).2 = len h + len ex) (hk : keepOf nref (h ++ nils ex) [(upP (len h) q).1] = keep)
    (h2 : (nodup keep && pre 0 nref keep) = true) (h4 : pickB (idx keep) (h ++ nils ex) keep = some bl) (h5 : renP (idx keep) (upP (len h) q).1 = r) : Fin0 nref q h r bl := by
  simp only [Bool.and_eq_true] at h2
  exact ⟨ex, keep, posL_ok h0, h1, h2.1, fun i hi => by simpa using pre_ok nref 0 keep h2.2 i hi, by rw [← nils_map]; exact h4, h5⟩
end
/-! the same, written out as it goes -/
def forceN : List Nat → (List Nat → Prop) → Prop
  | [], K => K []
  | 0 :: r, K => forceN r fun r => K (0 :: r)
  | (n + 1) :: r, K => forceN r fun r => K ((n + 1) :: r)
theorem forceN_eq : ∀ (l : List Nat) (K : List Nat → Prop), forceN l K = K l
  | [], K => by simp only [forceN]
  | 0 :: r, K => by simp only [forceN]; rw [forceN_eq r]
  | (n + 1) :: r, K => by simp only [forceN]; rw [forceN_eq r]
def nodupB : List Nat → Bool
  | [] => true
  | x :: r => !(has r x) && nodupB r
theorem has_eq : ∀ (l : List Nat) (x : Nat), has l x = l.contains x
  | [], x => by simp [has]
  | y :: r, x => by
    simp only [has, has_eq r x, List.contains_cons]
    congr 1
    rw [Bool.eq_iff_iff]
    constructor
    · intro e
      rw [Nat.eq_of_beq_eq_true e]
      simp
    · intro e
      rw [eq_of_beq e]
      exact Nat.beq_refl _
theorem nodupB_eq : ∀ l : List Nat, nodupB l = nodup l
  | [] => rfl
  | x :: r => by simp only [nodupB, nodup, has_eq, nodupB_eq r]
structure FinEq (q : PV) (h : List Blk) (r : PV) (bl : List Blk) : Prop where
  a : h = bl
  b : q = r
def finK (nref : Nat) (q : PV) (h : List Blk) (ex : List (Nat × Nat)) (r : PV) (bl : List Blk) : Prop :=
  forceP q fun q => match upP (len h) q with
    | (q, n) => forceP q fun q => forceB (h ++ nils ex) fun h2 => forceN (keepOf nref h2 [q]) fun keep => cond (posL ex && Nat.beq n (len h2) && nodupB keep && pre 0 nref keep)
        (match pickB (idx keep) h2 keep with
          | some b => forceB b fun b => forceP (renP (idx keep) q) fun q => FinEq q b r bl
          | none => False) False
theorem len_nils : ∀ (h : List Blk) (ex : List (Nat × Nat)), len (h ++ nils ex) = len h + len ex
  | [], [] => rfl
  | [], x :: ex => by
    have := len_nils [] ex
    simp only [List.nil_append, nils, len] at this ⊢
    omega
  | b :: h, ex => by
    have := len_nils h ex
    simp only [List.cons_append, len] at this ⊢
    omega
theorem finK0_ {nref : Nat} {q : PV} {h : List Blk} {r : PV} {bl : List Blk} (ex : List (Nat × Nat)) (k : finK nref q h ex r bl) : Fin0 nref q h r bl := by
  simp only [finK, forceP_eq, forceB_eq, forceN_eq] at k
  generalize hc : (posL ex && Nat.beq (upP (len h) q).2 (len (h ++ nils ex)) && nodupB (keepOf nref (h ++ nils ex) [(upP (len h) q).1]) && pre 0 nref (keepOf nref (h ++ nils ex) [(upP (len h) q).1])) = c at k
  cases c with
  | false => exact k.elim
  | true =>
    simp only [Bool.and_eq_true, nodupB_eq] at hc
    obtain ⟨⟨⟨c1, c2⟩, c3⟩, c4⟩ := hc
    simp only [cond_true] at k
    have c2 := Nat.eq_of_beq_eq_true c2
    rw [len_nils] at c2
    cases hp : pickB (idx (keepOf nref (h ++ nils ex) [(upP (len h) q).1])) (h ++ nils ex) (keepOf nref (h ++ nils ex) [(upP (len h) q).1]) with
    | none => rw [hp] at k; exact k.elim
    | some b =>
      rw [hp] at k
      obtain ⟨rfl, rfl⟩ := k
      exact fin_ ex c1 c2 rfl (by rw [c3, c4]; rfl) hp rfl
theorem finK_ {nref : Nat} {q : PV} {h : List Blk} {r : PV} {bl : List Blk} (ex : List (Nat × Nat)) (k : finK nref q h ex r bl) : FinVC nref q h r bl := .up (finK0_ ex k)
def weakK (nref : Nat) (s : List PV) (h : List Blk) (ex : List (Nat × Nat)) (us : List (Option Nat)) (bs : List (List (Option Nat))) (ms : List Bool) (K : List PV → List Blk → Prop) : Prop :=
  forceL (mask ms (upT us s)) fun s1 => forceB (upBs bs h ++ nils ex) fun h1 => forceN (keepOf nref h1 s1) fun keep =>
    cond (posL ex && upIn (len h) (len h + len ex) us && upIns (len h) (len h + len ex) bs && nodupB keep && pre 0 nref keep)
      (match pickB (idx keep) h1 keep with
        | some b => forceB b fun b => forceL (gcT keep s1) fun s2 => K s2 b
        | none => False) False
theorem mask_ren (m : Nat → Option Nat) : ∀ (ms : List Bool) (l : List PV), mask ms (renL m l) = renL m (mask ms l)
  | [], l => by simp [mask]
  | true :: ms, [] => by simp [mask, renL]
  | false :: ms, [] => by simp [mask, renL]
  | true :: ms, p :: l => by simp [mask, renL, mask_ren m ms l]
  | false :: ms, p :: l => by simp [mask, renL, renP, mask_ren m ms l]
theorem weakK_ {nref : Nat} {s : List PV} {h : List Blk} {ex : List (Nat × Nat)} {us : List (Option Nat)} {bs : List (List (Option Nat))} {ms : List Bool} {K : List PV → List Blk → Prop} (k : weakK nref s h ex us bs ms K) :
    ∃ s' h', Weak s h nref s' h' ∧ K s' h' := by
  simp only [weakK, forceL_eq, forceB_eq, forceN_eq] at k
  generalize hk : keepOf nref (upBs bs h ++ nils ex) (mask ms (upT us s)) = keep at k
  generalize hc : (posL ex && upIn (len h) (len h + len ex) us && upIns (len h) (len h + len ex) bs && nodupB keep && pre 0 nref keep) = c at k
  cases c with
  | false => exact k.elim
  | true =>
    simp only [Bool.and_eq_true, nodupB_eq] at hc
    obtain ⟨⟨⟨⟨c1, c2⟩, c3⟩, c4⟩, c5⟩ := hc
    simp only [cond_true] at k
    cases hp : pickB (idx keep) (upBs bs h ++ nils ex) keep with
    | none => rw [hp] at k; exact k.elim
    | some b =>
      rw [hp] at k
      refine ⟨_, b, weak_ ex us bs ms (by rw [c1, c2, c3]; rfl) hk (by rw [c4, c5]; rfl) hp, ?_⟩
      simp only [gcT, mask_ren] at k ⊢
      exact k
theorem loopK_ {nref : Nat} {s : List PV} {h : List Blk} {B : List PV → List Blk → (List PV → List Blk → Prop) → Prop} (I : Nat → List PV → List Blk → Prop) (ex : List (Nat × Nat)) (us : List (Option Nat)) (bs : List (List (Option Nat))) (ms : List Bool) (N : Nat)
    (i : weakK nref s h ex us bs ms (I N)) (r : ∀ n s h, n ≤ N → I n s h → B s h (NextVC nref (fun n s h => n ≤ N ∧ I n s h) n)) : LoopVC nref s h B := by
  obtain ⟨s', h', w, i⟩ := weakK_ i
  exact ⟨fun n s h => n ≤ N ∧ I n s h, N, _, _, w, ⟨Nat.le_refl _, i⟩, fun n s h q => r n s h q.1 q.2⟩
theorem nextK_ {nref : Nat} {s : List PV} {h : List Blk} {I : Nat → List PV → List Blk → Prop} {n N m : Nat} {P : Nat → Prop} (H : P m) (ms : List Bool) (i : weakK nref s h [] [] [] ms (I m)) (le : m ≤ N) (lt : m < n) : NextVC nref (fun n s h => n ≤ N ∧ I n s h) n s h := by
  obtain ⟨s', h', w, i⟩ := weakK_ i
  exact ⟨m, _, _, lt, w, le, i⟩
/-! states by their places that hold something -/
def spr : Nat → Nat → List (Nat × PV) → List PV
  | 0, _, _ => []
  | n + 1, i, [] => .un :: spr n (i + 1) []
  | n + 1, i, x :: r => cond (Nat.beq i x.1) (x.2 :: spr n (i + 1) r) (.un :: spr n (i + 1) (x :: r))
def bsp : Nat → Nat → List Nat → List Bool
  | 0, _, _ => []
  | n + 1, i, [] => false :: bsp n (i + 1) []
  | n + 1, i, x :: r => cond (Nat.beq i x) (true :: bsp n (i + 1) r) (false :: bsp n (i + 1) (x :: r))
theorem scg_ {E : Env} {nref : Nat} (id : Nat) {ops : Array Oper} {draw : Bool} {s : List PV} {h : List Blk} {B : List PV → List Blk → Prop} {C : (List PV → List Blk → Prop) → KontC}
    (k : SeqVC nref (fun B => aCodeF E nref (.region id ops draw) s h (C B)) B) : SeqVC nref (fun B => aCodeF E nref (.region id ops draw) s h (C B)) B := k
/-! what is known already -/
theorem brkt_ {x : Bool} {P Q : Prop} (h : x = true) (t : P) : Br x P Q := ⟨fun _ => t, fun e => by rw [h] at e; cases e⟩
theorem brkf_ {x : Bool} {P Q : Prop} (h : ¬x = true) (f : Q) : Br x P Q := ⟨fun e => absurd e h, fun _ => f⟩
theorem brknf_ {x : Bool} {P Q : Prop} (h : x = true) (f : Q) : Br (!x) P Q := ⟨fun e => (by rw [h] at e; cases e), fun _ => f⟩
theorem brknt_ {x : Bool} {P Q : Prop} (h : ¬x = true) (t : P) : Br (!x) P Q := ⟨fun _ => t, fun e => absurd (by simpa using e) h⟩
/-! what a call is handed -/
theorem handid_ {A B C : Prop} (h : HandVC A B C) : HandVC A B C := h
theorem handa_ {A B C : Prop} (h : A) : HandVC A B C := .a h
theorem handc_ {E : Env} {h : List Blk} {args : List PV} {rf : List Nat} {K : Kont} {A B : Prop} (f : Nat) (k : aGoL E h f args rf K) : HandVC A B (aGoL E h f args rf K) := .c k
/-! what is made -/
theorem mkid_ {A : Prop} {B : Nat → Prop} (h : MkVC A B) : MkVC A B := h
theorem mka_ {A : Prop} {B : Nat → Prop} (h : A) : MkVC A B := .a h
theorem mkbs_ {E : Env} {h : List Blk} {n : Nat} {parts : List (Nat × PV)} {K : Kont} {A : Prop} (t ty2 : Nat) (k : aBuildTree E h t n parts ty2 K) : MkVC A (fun ty2 => aBuildTree E h t n parts ty2 K) := .b ty2 k
theorem mkbm_ {E : Env} {h : List Blk} {p q : PV} {K : Kont} {A : Prop} (t ty2 : Nat) (k : aMakeTree E h t p q ty2 K) : MkVC A (fun ty2 => aMakeTree E h t p q ty2 K) := .b ty2 k
theorem handb_ {E : Env} {h : List Blk} {args : List PV} {rf rf' : List Nat} {K : Kont} {C : Prop} (f : Nat) (k : aGoX E h f args rf' K) : HandVC (aGoX E h f args rf K) (aGoX E h f args rf' K) C := .b k
/-! an index into an array -/
/-! which kind of goal -/
section
variable {nref n : Nat} {A : (List PV → List Blk → Prop) → Prop} {B : List PV → List Blk → Prop} {p K : Prop} {x y : Bool} {P Q : Prop} {e j : Nat} {l : List (List CV)} {KL : List (List CV) → Prop} {KE : List CV → Prop} {KN : Nat → Prop} {KS : List Int → Prop}
theorem seqid_ (h : SeqVC nref A B) : SeqVC nref A B := h
theorem blkid_ {P : Program} {c : Code} {s0 : List PV} {h0 : List Blk} {A : Prop} {B : List PV → List Blk → Prop} (h : BlkVC P c s0 h0 A B) : BlkVC P c s0 h0 A B := h
theorem bgo_ {P : Program} {c : Code} {s0 : List PV} {h0 : List Blk} {A : Prop} {B : List PV → List Blk → Prop} (h : A) : BlkVC P c s0 h0 A B := .go h
theorem sideid_ (h : Side p K) : Side p K := h
theorem brid_ (h : Br x P Q) : Br x P Q := h
theorem br2id_ (h : Br2 x y P Q) : Br2 x y P Q := h
theorem normid_ (h : Norm e l KL) : Norm e l KL := h
theorem elemid_ (h : ElemAt l j KE) : ElemAt l j KE := h
theorem lenid_ (h : LenAt l KN) : LenAt l KN := h
theorem strid_ (h : StrAt l KS) : StrAt l KS := h
theorem callid_ {Pr : Program} {f : FuncId} {as_ : List PV} {bin : List Blk} {KC : PV → List Blk → Prop} (h : CallAt Pr f as_ bin KC) : CallAt Pr f as_ bin KC := h
theorem loopid_ {s : List PV} {h : List Blk} {C : List PV → List Blk → (List PV → List Blk → Prop) → Prop} (k : LoopVC nref s h C) : LoopVC nref s h C := k
theorem nextid_ {I : Nat → List PV → List Blk → Prop} {s : List PV} {h : List Blk} (k : NextVC nref I n s h) : NextVC nref I n s h := k
theorem finid_ {q r : PV} {h bl : List Blk} (k : FinVC nref q h r bl) : FinVC nref q h r bl := k
theorem idH_ {α : Type} {F : Nat → Option α} {k : Nat} {r : α} (h : F k = some r) : F k = some r := h
theorem exid_ {F : List PV → Prop} (k : ∃ s, F s) : ∃ s, F s := k
theorem allid_ {F : List PV → List Blk → Prop} {G : List PV → List Blk → Prop} (k : ∀ s h, F s h → G s h) : ∀ s h, F s h → G s h := k
end
/-! blocks with a row within a tree, the state written out -/
def aRowF (E : Env) (all pre : List Oper) (o1 o2 o3 : Oper) (post : List Oper) (s : List PV) (h : List Blk) (K : List PV → List Blk → Prop) : Prop :=
  aOpsF E all pre s h fun s1 h1 _ => forceL s1 fun s1 => forceB h1 fun h1 => RowVC E s1 h1 o1 o2 o3 fun s2 h2 => forceL s2 fun s2 => forceB h2 fun h2 => aOpsF E all post s2 h2 fun s3 h3 _ => forceL s3 fun s3 => forceB h3 fun h3 => K s3 h3
theorem aRowF_eq (E : Env) (all pre : List Oper) (o1 o2 o3 : Oper) (post : List Oper) (s : List PV) (h : List Blk) (K : List PV → List Blk → Prop) : aRowF E all pre o1 o2 o3 post s h K = aRow E all pre o1 o2 o3 post s h K := by
  simp only [aRowF, aRow, aOpsF_eq, forceL_eq, forceB_eq]
theorem row_block1F {E : Env} {bid rid : Nat} {ops : Array Oper} (pre post : List Oper) (o1 o2 o3 : Oper) {s : List PV} {h : List Blk} {A : Prop} {B : List PV → List Blk → Prop} (ho : ops.toList = pre ++ o1 :: o2 :: o3 :: post) (hg : (pre.all fun o => o.guard.isNone) = true) (hg2 : (post.all fun o => o.guard.isNone) = true)
    (hk : aRowF E ops.toList pre o1 o2 o3 post s h B) : BlkVC E.P (.block bid (.region rid ops false)) s h A B := row_block1 pre post o1 o2 o3 ho hg hg2 (by rw [aRowF_eq] at hk; exact hk)
theorem row_block3F {E : Env} {bid i1 i2 i3 : Nat} {ops1 ops2 ops3 : Array Oper} (pre post : List Oper) (o1 o2 o3 : Oper) {s : List PV} {h : List Blk} {A : Prop} {B : List PV → List Blk → Prop} (g1 : (ops1.toList.all fun o => o.guard.isNone) = true) (g2 : (ops2.toList.all fun o => o.guard.isNone) = true) (ho : ops3.toList = pre ++ o1 :: o2 :: o3 :: post) (hg : (pre.all fun o => o.guard.isNone) = true) (hg2 : (post.all fun o => o.guard.isNone) = true)
    (hk : aOpsF E ops1.toList ops1.toList s h fun s1 h1 _ => forceL s1 fun s1 => forceB h1 fun h1 => aOpsF E ops2.toList ops2.toList s1 h1 fun s2 h2 _ => forceL s2 fun s2 => forceB h2 fun h2 => aRowF E ops3.toList pre o1 o2 o3 post s2 h2 B) : BlkVC E.P (.block bid ((Code.region i1 ops1 false).seq ((Code.region i2 ops2 false).seq (.region i3 ops3 false)))) s h A B :=
  row_block3 pre post o1 o2 o3 g1 g2 ho hg hg2 (by simp only [aOpsF_eq, forceL_eq, forceB_eq, aRowF_eq] at hk; exact hk)
end Go.Proofs.Ytkpcieenikmbmaa.E

/- What functions that are told in other words come to: values, and rows of their own. -/
namespace Go.Proofs.Ytkpcieenikmbmaa.E
open Go Go.RowKit Go.Proofs.YtkpcieenikmbmaaW.PrintWords
set_option linter.unusedVariables false
set_option linter.unusedSimpArgs false

section
variable {G : Gh} {w w' : World}
theorem none_of (h : ∀ id, RelB G w id (nthB [] id)) : (∀ id, G.inf id = none) ∧ ∀ b, G.own b = none := by
  simp only [nthB, RelB] at h
  refine ⟨fun id => (h id).1, fun b => ?_⟩
  cases hb : G.own b with
  | none => rfl
  | some id => exact absurd hb ((h id).2 b)
def Gh.new1 (G : Gh) (b : Option Nat) (sz n : Nat) : Gh := { G with own := fun x => if some x = b then some 0 else none, inf := fun i => if i = 0 then some (sz, n, false) else none }
theorem ext_new1 (ht : ∀ b, w.heap.size ≤ b → G.top b) (hf : ∀ id, G.inf id = none) (hn : ∀ b, G.own b = none) (hb : Below w.heap.size w w') (b0 : Option Nat) (sz n : Nat) (hle : ∀ x, b0 = some x → w.heap.size ≤ x ∧ x < w'.heap.size) : Ext [0] G w (G.new1 b0 sz n) w' where
  os := hb.os
  tape := hb.tape
  output := hb.output
  size := hb.size
  base := rfl
  old := rfl
  nn := fun b hlt h => ⟨by
    simp only [Gh.new1]
    rw [if_neg]
    intro e
    have := (hle b e.symm).1
    omega, hb.block b hlt⟩
  sm := fun b id h => by rw [hn b] at h; cases h
  same := fun b id cs ty h => by rw [hn b] at h; cases h
  fz := fun b id sz n h => by rw [hn b] at h; cases h
  inf := fun id sz n f h => by rw [hf id] at h; cases h
  out := fun id h => by
    simp only [Gh.new1]
    rw [hf id, if_neg (by simpa using h)]
  new := fun b id _ h => by
    simp only [Gh.new1] at h
    split at h
    · injection h with h
      simp [h]
    · cases h
  keep := fun b id h => by
    simp only [Gh.new1] at h
    split at h
    · rename_i e
      exact (hle b e.symm).2
    · cases h
  tp := fun b id h => by rw [hn b] at h; cases h
  nt := fun b h => absurd (hn b) h
  tn := fun b h => ht b (Nat.le_trans hb.size h)
end

section
variable {P : Program} {f : FuncId} {args : List PV}
/-- A row of its own comes out. -/
theorem spec_row {sz ty : Nat} {els : List (List CV)} (hsz : 0 < sz) (hc : ∀ (as_ : Array Value) (w : World), (callFunc f as_).run P w = .ok (.enter f as_) w)
    (h : ∀ (G : Gh) (w : World) (vals : Array Value), Go.Proofs.Ytkpcieenikmbmaa.P.GW w → RepsL G w args vals.toList → Calls P f vals w fun e w' => ∃ v, e = .returned v ∧ Below w.heap.size w w' ∧
      ((v = .slice none 0 0 ∧ els = []) ∨ ∃ b c cs, v = .slice (some ⟨b, 0, none⟩) els.length c ∧ w.heap.size ≤ b ∧ w'.heap[b]? = some (.cells cs ty (0, 0)) ∧ cs.size = c * sz ∧ els.length ≤ c ∧ c ≤ maxLen ∧ ∀ I, RepE I w' sz els cs.toList)) :
    Spec P f args [] (.own 0 els.length) [.arr sz ty false els] := by
  refine ⟨hc, fun G w vals hi hr hb => ?_⟩
  obtain ⟨h1, h2⟩ := none_of hb
  refine (h G w vals hi.gwat hr).mono fun e w' hq => ?_
  obtain ⟨v, rfl, hb', hv⟩ := hq
  rcases hv with ⟨rfl, rfl⟩ | ⟨b, c, cs, rfl, q1, q2, q3, q4, q5, q6⟩
  · refine ⟨_, G.new1 none sz 0, [0], rfl, ext_new1 hi.top h1 h2 hb' none sz 0 (fun x e => by cases e), ?_, fun id => ?_⟩
    · simp only [Reps]
      exact ⟨sz, 0, false, rfl, hsz, rfl, .inr ⟨rfl, .inl ⟨rfl, rfl⟩⟩⟩
    · cases id with
      | zero =>
        simp only [nthB, RelB]
        exact ⟨rfl, hsz, fun b b' e => by simp [Gh.new1] at e, .inl ⟨by simp, fun b e => by simp [Gh.new1] at e⟩⟩
      | succ id =>
        simp only [nthB, RelB]
        exact ⟨rfl, fun b e => by simp [Gh.new1] at e⟩
  · have hlt : b < w'.heap.size := (Array.getElem?_eq_some_iff.1 q2).1
    refine ⟨_, G.new1 (some b) sz els.length, [0], rfl, ext_new1 hi.top h1 h2 hb' (some b) sz _ (fun x e => by injection e with e; subst e; exact ⟨q1, hlt⟩), ?_, fun id => ?_⟩
    · simp only [Reps]
      exact ⟨sz, els.length, false, rfl, hsz, rfl, .inr ⟨rfl, .inr ⟨b, c, cs, ty, rfl, ⟨by simp [Gh.new1], hi.top _ q1⟩, q2, q3, q4, q5⟩⟩⟩
    · cases id with
      | zero =>
        simp only [nthB, RelB]
        refine ⟨rfl, hsz, fun x y e e' => ?_, .inr ⟨b, cs, ⟨by simp [Gh.new1], hi.top _ q1⟩, q2, ?_, q6 _⟩⟩
        · simp only [Gh.new1] at e e'
          split at e <;> split at e' <;> simp_all
        · rw [q3]
          exact Nat.mul_le_mul_right _ q4
      | succ id =>
        simp only [nthB, RelB]
        refine ⟨rfl, fun x e => ?_⟩
        simp only [Gh.new1] at e
        split at e <;> simp at e
end

/-! ### the elder words -/
theorem repE_scalar {α : Type} {f : α → List CV} {enc : α → Value} (hf : ∀ I w x rest, RepP I w (f x) (enc x :: rest)) (hl : ∀ x, (f x).length = 1) {I : Nat → Prop} {w : World} : ∀ (xs : List α) (vs : List Value), vs.take xs.length = xs.map enc → RepE I w 1 (xs.map f) vs
  | [], _, _ => by simp [RepE]
  | x :: xs, [], h => by simp at h
  | x :: xs, v :: vs, h => by
    simp only [List.length_cons, List.take_succ_cons, List.map_cons, List.cons.injEq] at h
    simp only [List.map_cons, RepE, List.drop_succ_cons, List.drop_zero]
    exact ⟨hl x, by rw [h.1]; exact hf _ _ _ _, repE_scalar hf hl xs vs h.2⟩
theorem row_of_kd {α : Type} {f : α → List CV} {enc : α → Value} {h1 : ∀ x, (enc x).oneCell' = true} (hf : ∀ I w x rest, RepP I w (f x) (enc x :: rest)) (hl : ∀ x, (f x).length = 1) {e base : Nat} {w' : World} {ok : Nat → Prop} {v : Value} {xs : List α}
    (h : Kd.R (Kd.scalar enc h1) e w' base ok v xs) : (v = .slice none 0 0 ∧ xs.map f = []) ∨ ∃ b c cs, v = .slice (some ⟨b, 0, none⟩) (xs.map f).length c ∧ base ≤ b ∧ w'.heap[b]? = some (.cells cs e (0, 0)) ∧ cs.size = c * 1 ∧ (xs.map f).length ≤ c ∧ c ≤ maxLen ∧ ∀ I, RepE I w' 1 (xs.map f) cs.toList := by
  obtain ⟨_, inner, ⟨_, ho | ⟨g, cap, cur, rfl, hg, hh, r1, r2, r3, r4⟩⟩, hr⟩ := h
  · obtain ⟨rfl, h0⟩ := ho
    exact .inl ⟨rfl, by rw [List.eq_nil_of_length_eq_zero h0]; rfl⟩
  · refine .inr ⟨g, cap, cur, by rw [List.length_map], hg, hh, r3, by rw [List.length_map]; exact r1, r2, fun I => repE_scalar hf hl xs _ ?_⟩
    have r4' : cur.toList.take xs.length = inner := by rw [← r4]; congr 1; exact (Nat.mul_one _).symm
    rw [r4']
    apply List.ext_getElem?
    intro j
    rw [List.getElem?_map]
    cases hx : xs[j]? with
    | none =>
      have := List.getElem?_eq_none_iff.1 hx
      rw [List.getElem?_eq_none_iff.2 (by have := hr.1; simp only [Kd.scalar, Nat.mul_one] at this; omega)]
      rfl
    | some x =>
      have h2 := hr.2 j x hx
      have h3 : ((inner.drop (j * 1)).take 1) = [enc x] := h2
      rw [Nat.mul_one] at h3
      have h4 : (inner.drop j)[0]? = some (enc x) := by
        have := congrArg (fun l => l[0]?) h3
        simpa [List.getElem?_take] using this
      rw [List.getElem?_drop] at h4
      simpa using h4
theorem kdC_of {α : Type} (d : Kd α) (f : α → List CV) (hs : ∀ x, (f x).length = d.sz) (hk : ∀ x I w cs, RepP I w (f x) cs → d.K w x (cs.take d.sz)) {I : Nat → Prop} {w : World} {l : List α} {v : Value} (h : RepC I w (.row (l.map f)) v) :
    ∃ A c, v = .slice A l.length c ∧ l.length ≤ c ∧ d.C w A l.length l ∧ (l ≠ [] → ∀ ad, A = some ad → ad.spot = none) := by
  simp only [RepC, List.length_map] at h
  obtain ⟨A, c, rfl, h2, h3, h4⟩ := h
  refine ⟨A, c, rfl, h2, ⟨rfl, Nat.le_trans h3 (by decide), fun hpos => ?_⟩, fun hne ad hA => ?_⟩
  · rcases h4 with h4 | ⟨b, o, sz, cs, ty, fr, rfl, h6, h7, h8, h9⟩
    · have := List.map_eq_nil_iff.1 h4
      subst this
      simp at hpos
    · refine ⟨_, rfl, fun j p hp => ?_⟩
      obtain ⟨g1, g2⟩ := RepE.at j (f p) h9 (by rw [List.getElem?_map, hp]; rfl)
      rw [hs] at g1
      subst g1
      refine ⟨_, ?_, hk p _ _ _ g2, fun i u hu => ?_⟩
      · rw [List.length_take]
        have := g2.len
        rw [hs] at this
        omega
      · rw [List.getElem?_take] at hu
        split at hu
        · rw [List.getElem?_drop, List.getElem?_drop] at hu
          have hu' : cs[o + (j * d.sz + i)]? = some u := by simpa [Nat.add_assoc] using hu
          have e : (⟨b, o, none⟩ : Addr).add (j * d.sz + i) = ⟨b, o + (j * d.sz + i), none⟩ := by
            rw [Addr.add_lit]
          rw [e]
          simpa [World.cell?, h7] using hu'
        · cases hu
  · rcases h4 with h4 | ⟨b, o, sz, cs, ty, fr, h5, _⟩
    · exact absurd (List.map_eq_nil_iff.1 h4) hne
    · rw [h5] at hA
      injection hA with hA
      rw [← hA]
end Go.Proofs.Ytkpcieenikmbmaa.E
