/- Texts of this seat's claims, put together: EvJ, EvK, EvL, EvM, EvN, EvO -/
import Derived.Test.YtkpcieenikmbmaaPkXB2
/- Each operation comes to what is told of it: what only computes. -/
namespace Go.Proofs.Ytkpcieenikmbmaa.E
open Go Go.RowKit Go.Proofs.YtkpcieenikmbmaaW.PrintWords
set_option linter.unusedVariables false
set_option linter.unusedSimpArgs false

section
variable {E : Env} {h : List Blk} {K : Kont}

theorem own_val {G : Gh} {w : World} {id n : Nat} {v : Value} (r : Reps G w (.own id n) v) (hr : ∃ sz f, G.inf id = some (sz, n, f)) : ∃ A c, v = .slice A n c := by
  obtain ⟨sz, fz, r1⟩ := hr
  simp only [Reps] at r
  obtain ⟨sz', m, f, p1, _, _, p2⟩ := r
  rw [r1] at p1
  injection p1 with p1
  injection p1 with p1 p3
  injection p3 with p3 p4
  rcases p2 with p2 | ⟨_, p2⟩
  · omega
  · rcases p2 with ⟨rfl, p2⟩ | ⟨b, c, cs, ty', rfl, _⟩
    · exact ⟨none, 0, by rw [p2]⟩
    · exact ⟨_, c, rfl⟩

theorem len_ok {t ty : Nat} {p : PV} (hk : aLen E t h p K) : Step E.P h (fun G w m => ∃ v, Reps G w p v ∧ m = Builtin.len_ #[t] ty #[v]) K := by
  unfold aLen at hk
  cases hl : look E.T t with
  | none => rw [hl] at hk; exact hk.elim
  | some i =>
    rw [hl] at hk
    simp only at hk
    have h2 := (Env.fact hl).2.1
    split at hk
    · rename_i k q e id n hik
      rw [hik] at h2
      split at hk
      · rename_i sz ty' fz els hb
        obtain ⟨hn, ⟨_, rfl, hk⟩⟩ := hk
        rw [← hn] at hk
        refine Step.reads hk fun G w m hi hm hr => ?_
        obtain ⟨v, hv, rfl⟩ := hm
        have r := hr id (by simp)
        rw [hb] at r
        obtain ⟨A, c, rfl⟩ := own_val hv ⟨sz, fz, by rw [hn]; exact r.1⟩
        exact ⟨.int .i64 (n), by simp [Builtin.len_, run_underlying h2, goInt], by simp [Reps, RepC]⟩
      · rename_i sz ty' ty2' els hb
        obtain ⟨hn, ⟨_, rfl, hk⟩⟩ := hk
        rw [← hn] at hk
        refine Step.reads hk fun G w m hi hm hr => ?_
        obtain ⟨v, hv, rfl⟩ := hm
        have r := hr id (by simp)
        rw [hb] at r
        obtain ⟨A, c, rfl⟩ := own_val hv ⟨sz, false, by rw [hn]; exact r.1⟩
        exact ⟨.int .i64 (n), by simp [Builtin.len_, run_underlying h2, goInt], by simp [Reps, RepC]⟩
      · exact hk.elim
    · rename_i k q e l hik
      rw [hik] at h2
      obtain ⟨_, rfl, hk⟩ := hk
      refine Step.pure hk fun G w m hi hm => ?_
      obtain ⟨v, hv, rfl⟩ := hm
      simp only [Reps, RepC] at hv
      obtain ⟨A, c, rfl, _⟩ := hv
      exact ⟨.int .i64 (l.length), by simp [Builtin.len_, run_underlying h2, goInt], by simp [Reps, RepC]⟩
    · rename_i k q e hik
      rw [hik] at h2
      refine Step.pure hk fun G w m hi hm => ?_
      obtain ⟨v, hv, rfl⟩ := hm
      simp only [Reps] at hv
      subst hv
      exact ⟨.int .i64 (0), by simp [Builtin.len_, run_underlying h2, goInt], by simp [Reps, RepC]⟩
    · rename_i k q x hik
      rw [hik] at h2
      refine Step.pure hk fun G w m hi hm => ?_
      obtain ⟨v, hv, rfl⟩ := hm
      simp only [Reps, RepC] at hv
      subst hv
      exact ⟨.int .i64 (x.size), by simp [Builtin.len_, run_underlying h2, goInt], by simp [Reps, RepC]⟩
    · exact hk.elim

theorem bt_eq (y : ByteArray) (j : Int) (h0 : 0 ≤ j) (h1 : j < (y.size : Int)) : ∃ hh : j.toNat < y.size, bt y j = ((y[j.toNat]'hh).toNat : Int) := by
  have hh : j.toNat < y.size := by omega
  exact ⟨hh, by unfold bt; rw [dif_pos hh]⟩

theorem index_ok {t : Nat} {p x : PV} (hk : aIndex E h t p x K) : Step E.P h (fun G w m => ∃ v u, Reps G w p v ∧ Reps G w x u ∧ m = Instr.index t v u) K := by
  unfold aIndex at hk
  cases hl : look E.T t with
  | none => rw [hl] at hk; exact hk.elim
  | some i =>
    rw [hl] at hk
    simp only at hk
    have h2 := (Env.fact hl).2.1
    split at hk
    · rename_i k q r y k2 j hik
      rw [hik] at h2
      obtain ⟨k3, k4, hk⟩ := hk
      refine Step.pure hk fun G w m hi hm => ?_
      obtain ⟨v, u, hv, hu, rfl⟩ := hm
      simp only [Reps, RepC] at hv hu
      subst hv hu
      obtain ⟨hh, hb⟩ := bt_eq y j k3 k4
      have hg : y[j.toNat]? = some (y[j.toNat]'hh) := by simp [hh]
      exact ⟨.int .u8 ((y[j.toNat]'hh).toNat : Int), by simp [Instr.index, run_underlying h2, asIntOf, k3, hg], by simp [Reps, RepC, hb]⟩
    · exact hk.elim

theorem indexAddr_ok {t : Nat} {p x : PV} (hk : aIndexAddr E h t p x K) : Step E.P h (fun G w m => ∃ v u, Reps G w p v ∧ Reps G w x u ∧ m = Instr.indexAt t v u) K := by
  unfold aIndexAddr at hk
  split at hk
  · rename_i i k j hl
    have h2 := (Env.fact hl).2.1
    split at hk
    · rename_i e hik
      rw [hik] at h2
      cases hle : look E.T e with
      | none => rw [hle] at hk; exact hk.elim
      | some y =>
        rw [hle] at hk
        simp only at hk
        have hy := Env.fact hle
        split at hk
        · rename_i id n
          split at hk
          · rename_i sz ty fz els hb
            obtain ⟨k1, k2, k3, hn, hk⟩ := hk
            refine Step.reads hk fun G w m hi hm hr => ?_
            obtain ⟨v, u, hv, hu, rfl⟩ := hm
            have r := hr id (by simp)
            rw [hb] at r
            simp only [Reps, RepC] at hu
            subst hu
            simp only [Reps] at hv
            obtain ⟨sz', m, f, p1, _, _, p2⟩ := hv
            have p1' := p1
            rw [r.1] at p1'
            injection p1' with p1'
            injection p1' with p3 p4
            injection p4 with p4 p5
            subst p3 p4
            rcases p2 with p2 | ⟨_, p2⟩
            · omega
            · rcases p2 with ⟨rfl, p2⟩ | ⟨b, c, cs, ty', rfl, p6, p7, p8, p9, p10⟩
              · omega
              · refine ⟨.pointer (some ⟨b, j.toNat * y.size, none⟩), ?_, ?_⟩
                · have k3' : j < (n : Int) := k3
                  simp [Instr.indexAt, run_underlying h2, asIntOf, k2, k3', hy.sizeOf w, Addr.add_mid]
                · simp only [Reps]
                  exact ⟨_, _, _, p1, rfl, .inr ⟨by omega, b, by simp [k1], p6⟩⟩
          · rename_i sz ty ty2 els hb
            obtain ⟨k1, k2, k3, hn, hk⟩ := hk
            refine Step.reads hk fun G w m hi hm hr => ?_
            obtain ⟨v, u, hv, hu, rfl⟩ := hm
            have r := hr id (by simp)
            rw [hb] at r
            simp only [Reps, RepC] at hu
            subst hu
            simp only [Reps] at hv
            obtain ⟨sz', m, f, p1, _, _, p2⟩ := hv
            have p1' := p1
            rw [r.1] at p1'
            injection p1' with p1'
            injection p1' with p3 p4
            injection p4 with p4 p5
            subst p3 p4
            rcases p2 with p2 | ⟨_, p2⟩
            · omega
            · rcases p2 with ⟨rfl, p2⟩ | ⟨b, c, cs, ty', rfl, p6, p7, p8, p9, p10⟩
              · omega
              · refine ⟨.pointer (some ⟨b, j.toNat * y.size, none⟩), ?_, ?_⟩
                · have k3' : j < (n : Int) := k3
                  simp [Instr.indexAt, run_underlying h2, asIntOf, k2, k3', hy.sizeOf w, Addr.add_mid]
                · simp only [Reps]
                  exact ⟨_, _, _, p1, rfl, .inr ⟨by omega, b, by simp [k1], p6⟩⟩
          · exact hk.elim
        · rename_i l
          obtain ⟨k1, el, k2, k3, hk⟩ := hk
          refine Step.pure hk fun G w m hi hm => ?_
          obtain ⟨v, u, hv, hu, rfl⟩ := hm
          simp only [Reps, RepC] at hv hu
          subst hu
          obtain ⟨A, c, rfl, q1, q2, q3⟩ := hv
          have hlt : j.toNat < l.length := (List.getElem?_eq_some_iff.1 k2).1
          rcases q3 with rfl | ⟨b, o, sz, cs, ty, fr, rfl, q4, q5, q6, q7⟩
          · simp at k2
          · obtain ⟨a1, a2⟩ := q7.at _ el k2
            have hj : j < (l.length : Int) := by omega
            have hsz : sz = y.size := a1.symm.trans k3
            subst hsz
            refine ⟨.pointer (some ⟨b, o + j.toNat * y.size, none⟩), ?_, ?_⟩
            · have hs := hy.sizeOf w
              simp [Instr.indexAt, run_underlying h2, asIntOf, k1, hj, hs, Addr.add_mid]
            · simp only [Reps]
              rw [List.drop_drop] at a2
              exact ⟨b, _, cs, ty, fr, rfl, q4, q5, a2⟩
        · exact hk.elim
    · rename_i n e hik
      rw [hik] at h2
      split at hk
      · rename_i y id o hle
        have hy := Env.fact hle
        split at hk
        · rename_i ty cs hb
          obtain ⟨q, rfl, k2, hk⟩ := hk
          refine Step.reads hk fun G w m hi hm hr => ?_
          obtain ⟨v, u, hv, hu, rfl⟩ := hm
          have r := hr id (by simp)
          rw [hb] at r
          obtain ⟨b, vs, rfl, h3, _⟩ := r.box_at hv
          simp only [Reps, RepC] at hu
          subst hu
          refine ⟨.pointer (some ⟨b, o + q * y.size, none⟩), ?_, ?_⟩
          · have k2' : (q : Int) < (n : Int) := by omega
            simp [Instr.indexAt, run_underlying h2, asIntOf, Instr.sureAddr, k2', hy.sizeOf w, Addr.add_mid]
            omega
          · simp only [Reps]
            exact ⟨_, _, _, r.1, rfl, .inr ⟨rfl, b, by simp, h3, r.top_box h3⟩⟩
        · exact hk.elim
      · exact hk.elim
    · exact hk.elim
  · exact hk.elim

theorem run_fieldAt {w : World} {t f b o : Nat} {i : TI} {fs : List (Nat × Nat)} {q : Nat × Nat} (hf : TyFact E.P t i) (hik : i.k = .struct fs) (hq : nthF fs f = some q) (h0 : 0 < q.2) :
    (Instr.fieldAt t (.pointer (some ⟨b, o, none⟩)) f).run E.P w = .ok (.pointer (some ⟨b, o + q.1, none⟩)) w := by
  obtain ⟨fields, u1, u2⟩ := hf.struct hik
  obtain ⟨x, x1, x2, x3⟩ := nthF_map (α := Unit) E.P fs _ f q u2 hq
  rw [List.getElem?_map] at x1
  obtain ⟨fl, y1, rfl⟩ := Option.map_eq_some_iff.1 x1
  simp only at x2 x3
  obtain ⟨inf, z1, z2⟩ := Option.map_eq_some_iff.1 x3
  rw [Array.getElem?_toList] at y1
  have hne : ¬ inf.size = 0 := by omega
  simp [Instr.fieldAt, run_underlying u1, y1, Instr.sureAddr, fieldPlace, sizeOf, typeInfo, z1, hne, Addr.add_mid, x2]

theorem fieldAddr_ok {t f : Nat} {p : PV} (hk : aFieldAddr E h t p f K) : Step E.P h (fun G w m => ∃ v, Reps G w p v ∧ m = Instr.fieldAt t v f) K := by
  unfold aFieldAddr at hk
  cases hl : look E.T t with
  | none => rw [hl] at hk; exact hk.elim
  | some i =>
    rw [hl] at hk
    simp only at hk
    have hf := Env.fact hl
    split at hk
    · rename_i fs hik
      cases hq : nthF fs f with
      | none => rw [hq] at hk; exact hk.elim
      | some q =>
        rw [hq] at hk
        obtain ⟨h0, hk⟩ := hk
        split at hk
        · rename_i id o
          split at hk
          · rename_i ty cs hb
            refine Step.reads hk fun G w m hi hm hr => ?_
            obtain ⟨v, hv, rfl⟩ := hm
            have r := hr id (by simp)
            rw [hb] at r
            obtain ⟨b, vs, rfl, h3, _⟩ := r.box_at hv
            refine ⟨_, run_fieldAt hf hik hq h0, ?_⟩
            simp only [Reps]
            exact ⟨_, _, _, r.1, rfl, .inr ⟨rfl, b, by simp, h3, r.top_box h3⟩⟩
          · exact hk.elim
        · rename_i id n e o
          split at hk
          · rename_i sz ty fz els hb
            obtain ⟨hn, he, hk⟩ := hk
            refine Step.reads hk fun G w m hi hm hr => ?_
            obtain ⟨v, hv, rfl⟩ := hm
            have r := hr id (by simp)
            rw [hb] at r
            obtain ⟨b, vs, rfl, h3, _⟩ := r.arr_at hn he hv
            refine ⟨_, run_fieldAt hf hik hq h0, ?_⟩
            simp only [Reps]
            exact ⟨_, _, _, r.1, rfl, .inr ⟨hn, b, by simp [Nat.add_assoc], h3, r.top_arr h3⟩⟩
          · rename_i sz ty ty2 els hb
            obtain ⟨hn, he, hk⟩ := hk
            refine Step.reads hk fun G w m hi hm hr => ?_
            obtain ⟨v, hv, rfl⟩ := hm
            have r := hr id (by simp)
            rw [hb] at r
            obtain ⟨b, vs, rfl, h3, _⟩ := r.tree_at hn he hv
            refine ⟨_, run_fieldAt hf hik hq h0, ?_⟩
            simp only [Reps]
            exact ⟨_, _, _, r.1, rfl, .inr ⟨hn, b, by simp [Nat.add_assoc], h3.1, h3.2⟩⟩
          · exact hk.elim
        · rename_i cs
          refine Step.pure hk fun G w m hi hm => ?_
          obtain ⟨v, hv, rfl⟩ := hm
          simp only [Reps] at hv
          obtain ⟨b, o, vs, ty, fr, rfl, q4, q5, q6⟩ := hv
          refine ⟨_, run_fieldAt hf hik hq h0, ?_⟩
          simp only [Reps]
          refine ⟨b, _, vs, ty, fr, rfl, q4, q5, ?_⟩
          have := q6.drop q.1
          rw [List.drop_drop] at this
          exact this
        · exact hk.elim
    · exact hk.elim

theorem wr_eq (k : IntKind) (n : Int) : wr k n = k.wrap n := by
  cases k <;> simp [wr, IntKind.wrap_i64, IntKind.wrap_u8, wrap64]

theorem p2_eq (y : Int) : p2 y = 2 ^ y.toNat := by simp [p2]

theorem bin_ok {op : BinOp} {xt : Nat} {x y : Operand} {p q : PV} (hk : aBin h op p q K) : Step E.P h (fun G w m => ∃ v u, Reps G w p v ∧ Reps G w q u ∧ m = (do eqGuard op xt x y v u; binOp op xt v u)) K := by
  unfold aBin at hk
  simp only [wrK_eq] at hk
  split at hk
  · rename_i k a k' b
    have main : ∀ (r : CV), K (.v r) h [] [] → (∀ G w, ∃ u, ((do eqGuard op xt x y (.int k a) (.int k' b); binOp op xt (.int k a) (.int k' b) : Sem Value)).run E.P w = .ok u w ∧ Reps G w (.v r) u) → Step E.P h (fun G w m => ∃ v u, Reps G w (.v (.i k a)) v ∧ Reps G w (.v (.i k' b)) u ∧ m = (do eqGuard op xt x y v u; binOp op xt v u)) K := fun r hk' hr =>
      Step.pure hk' fun G w m hi hm => by
        obtain ⟨v, u, hv, hu, rfl⟩ := hm
        simp only [Reps, RepC] at hv hu
        subst hv hu
        exact hr G w
    cases op <;> simp only at hk
    case add => obtain ⟨rfl, hk⟩ := hk; exact main _ hk fun G w => ⟨_, by simp [eqGuard, binOp, Op.intArith]; rfl, by simp [Reps, RepC, wr_eq]⟩
    case sub => obtain ⟨rfl, hk⟩ := hk; exact main _ hk fun G w => ⟨_, by simp [eqGuard, binOp, Op.intArith]; rfl, by simp [Reps, RepC, wr_eq]⟩
    case mul => obtain ⟨rfl, hk⟩ := hk; exact main _ hk fun G w => ⟨_, by simp [eqGuard, binOp, Op.intArith]; rfl, by simp [Reps, RepC, wr_eq]⟩
    case quo => obtain ⟨rfl, hn, hk⟩ := hk; exact main _ hk fun G w => ⟨_, by simp [eqGuard, binOp, Op.intDiv, hn]; rfl, by simp [Reps, RepC, wr_eq]⟩
    case rem => obtain ⟨rfl, hn, hk⟩ := hk; exact main _ hk fun G w => ⟨_, by simp [eqGuard, binOp, Op.intDiv, hn]; rfl, by simp [Reps, RepC]⟩
    case and => obtain ⟨rfl, hk⟩ := hk; exact main _ hk fun G w => ⟨_, by simp [eqGuard, binOp, intBits_and]; rfl, by simp [Reps, RepC]⟩
    case or => obtain ⟨rfl, hk⟩ := hk; exact main _ hk fun G w => ⟨_, by simp [eqGuard, binOp, intBits_or]; rfl, by simp [Reps, RepC]⟩
    case xor => obtain ⟨rfl, hk⟩ := hk; exact main _ hk fun G w => ⟨_, by simp [eqGuard, binOp, intBits_xor]; rfl, by simp [Reps, RepC]⟩
    case shl => obtain ⟨h0, h1, hk⟩ := hk; exact main _ hk fun G w => ⟨_, by simp [eqGuard, binOp, shift_shl k k' a b h0 h1]; rfl, by simp [Reps, RepC, wr_eq, p2_eq]⟩
    case shr => obtain ⟨h0, h1, hk⟩ := hk; exact main _ hk fun G w => ⟨_, by simp [eqGuard, binOp, shift_shr k k' a b h0 h1]; rfl, by simp [Reps, RepC, p2_eq]⟩
    case eql => obtain ⟨rfl, hk⟩ := hk; exact main _ hk fun G w => ⟨_, by simp [eqGuard, binOp, Op.intCmp]; rfl, by simp [Reps, RepC]⟩
    case neq => obtain ⟨rfl, hk⟩ := hk; exact main _ hk fun G w => ⟨_, by simp [eqGuard, binOp, Op.intCmp]; rfl, by simp [Reps, RepC]⟩
    case lss => obtain ⟨rfl, hk⟩ := hk; exact main _ hk fun G w => ⟨_, by simp [eqGuard, binOp, Op.intCmp]; rfl, by simp [Reps, RepC]⟩
    case leq => obtain ⟨rfl, hk⟩ := hk; exact main _ hk fun G w => ⟨_, by simp [eqGuard, binOp, Op.intCmp]; rfl, by simp [Reps, RepC]⟩
    case gtr => obtain ⟨rfl, hk⟩ := hk; exact main _ hk fun G w => ⟨_, by simp [eqGuard, binOp, Op.intCmp]; rfl, by simp [Reps, RepC]⟩
    case geq => obtain ⟨rfl, hk⟩ := hk; exact main _ hk fun G w => ⟨_, by simp [eqGuard, binOp, Op.intCmp]; rfl, by simp [Reps, RepC]⟩
  · rename_i a b
    have main : ∀ (r : CV), K (.v r) h [] [] → (∀ G w, ∃ u, ((do eqGuard op xt x y (.string a) (.string b); binOp op xt (.string a) (.string b) : Sem Value)).run E.P w = .ok u w ∧ Reps G w (.v r) u) → Step E.P h (fun G w m => ∃ v u, Reps G w (.v (.s a)) v ∧ Reps G w (.v (.s b)) u ∧ m = (do eqGuard op xt x y v u; binOp op xt v u)) K := fun r hk' hr =>
      Step.pure hk' fun G w m hi hm => by
        obtain ⟨v, u, hv, hu, rfl⟩ := hm
        simp only [Reps, RepC] at hv hu
        subst hv hu
        exact hr G w
    cases op <;> simp only at hk
    case add =>
      obtain ⟨h0, hk⟩ := hk
      refine main _ hk fun G w => ⟨.string (a ++ b), ?_, by simp [Reps, RepC]⟩
      have : ¬ (((a.size + b.size : Nat) : Int) > IntKind.i64.max) := by
        have : IntKind.i64.max = 9223372036854775807 := by decide
        omega
      simp only [eqGuard, binOp, Op.stringOp]
      rw [if_neg this]
      simp
    case eql => exact main _ hk fun G w => ⟨_, by simp [eqGuard, binOp, Op.stringOp]; rfl, by simp [Reps, RepC]⟩
    case neq => exact main _ hk fun G w => ⟨_, by simp [eqGuard, binOp, Op.stringOp]; rfl, by simp [Reps, RepC]⟩
  · exact hk.elim

theorem binT_ok {op : BinOp} {t : TypeId} {x y : Operand} {p q : PV} (hk : aBinT E h op t p q K) : Step E.P h (fun G w m => ∃ v u, Reps G w p v ∧ Reps G w q u ∧ m = (do eqGuard op t x y v u; binOp op t v u)) K := by
  unfold aBinT at hk
  split at hk
  · rename_i cs ds
    unfold aEq at hk
    cases hl : lookQ E.Q t with
    | none => rw [hl] at hk; exact hk.elim
    | some f =>
      rw [hl] at hk
      simp only at hk
      cases hb : f cs ds with
      | none => rw [hb] at hk; exact hk.elim
      | some bc =>
        obtain ⟨b, c⟩ := bc
        rw [hb] at hk
        simp only at hk
        have hf := E.qok _ (lookQ_mem hl)
        obtain ⟨hne, hrun⟩ := hf.2 cs ds b c hb
        have main : ∀ (r : CV), K (.v r) h [] [] → (∀ (w : World) (xs ys : Array Value), (Op.equal t (.agg xs) (.agg ys)).run E.P w = .ok b w → ∃ u, ((do eqGuard op t x y (.agg xs) (.agg ys); binOp op t (.agg xs) (.agg ys) : Sem Value)).run E.P w = .ok u w ∧ ∀ G, Reps G w (.v r) u) →
            Step E.P h (fun G w m => ∃ v u, Reps G w (.agg cs) v ∧ Reps G w (.agg ds) u ∧ m = (do eqGuard op t x y v u; binOp op t v u)) K := fun r hk' hr =>
          Step.pure hk' fun G w m hi hm => by
            obtain ⟨v, u, hv, hu, rfl⟩ := hm
            simp only [Reps] at hv hu
            obtain ⟨xs, rfl, hx⟩ := hv
            obtain ⟨ys, rfl, hy⟩ := hu
            obtain ⟨z, z1, z2⟩ := hr w xs ys (hrun G w xs ys hx hy)
            exact ⟨z, z1, z2 G⟩
        have hg : E.P.eqGuardType E.P.depth t = false := hf.1
        cases op <;> simp only at hk
        case eql => exact main _ hk fun w xs ys he => ⟨.bool b, by simp [eqGuard, binOp, run_program, hg, he], fun G => by simp [Reps, RepC]⟩
        case neq => subst hne; exact main _ hk fun w xs ys he => ⟨.bool (!b), by simp [eqGuard, binOp, run_program, hg, he], fun G => by simp [Reps, RepC]⟩
  · rename_i a b
    cases hl : look E.T t with
    | none => rw [hl] at hk; exact hk.elim
    | some i =>
      rw [hl] at hk
      simp only at hk
      have h2 := (Env.fact hl).2.1
      have main : ∀ (r : CV), i.k = .bool → K (.v r) h [] [] → (∀ (w : World), (Op.equal t (.bool a) (.bool b)).run E.P w = .ok (a == b) w → ∃ u, ((do eqGuard op t x y (.bool a) (.bool b); binOp op t (.bool a) (.bool b) : Sem Value)).run E.P w = .ok u w ∧ ∀ G, Reps G w (.v r) u) →
          Step E.P h (fun G w m => ∃ v u, Reps G w (.v (.b a)) v ∧ Reps G w (.v (.b b)) u ∧ m = (do eqGuard op t x y v u; binOp op t v u)) K := fun r hk0 hk' hr =>
        Step.pure hk' fun G w m hi hm => by
          obtain ⟨v, u, hv, hu, rfl⟩ := hm
          simp only [Reps, RepC] at hv hu
          subst hv hu
          rw [hk0] at h2
          obtain ⟨z, z1, z2⟩ := hr w (by
            have h3 : E.P.underlying t = some .bool := h2
            have key : ∀ d, (Op.equalIn (d + 1) t (.bool a) (.bool b)).run E.P w = .ok (a == b) w := fun d => by simp [Op.equalIn, run_underlying h3]
            exact key 9999)
          exact ⟨z, z1, z2 G⟩
      split at hk
      · rename_i hik
        exact main _ hik hk fun w he => ⟨.bool (a == b), by simp [eqGuard, binOp, he], fun G => by simp [Reps, RepC]⟩
      · rename_i hik
        exact main _ hik hk fun w he => ⟨.bool (a != b), by simp [eqGuard, binOp, he, bne], fun G => by simp [Reps, RepC]⟩
      · exact hk.elim
  · exact bin_ok hk

theorem un_ok {op : UnOp} {p : PV} (hk : aUn h op p K) : Step E.P h (fun G w m => ∃ v, Reps G w p v ∧ m = Op.unary op v) K := by
  unfold aUn at hk
  simp only [wrK_eq] at hk
  split at hk
  · refine Step.pure hk fun G w m hi hm => ?_
    obtain ⟨v, hv, rfl⟩ := hm
    simp only [Reps, RepC] at hv
    subst hv
    exact ⟨_, by simp [Op.unary]; rfl, by simp [Reps, RepC]⟩
  · refine Step.pure hk fun G w m hi hm => ?_
    obtain ⟨v, hv, rfl⟩ := hm
    simp only [Reps, RepC] at hv
    subst hv
    exact ⟨_, by simp [Op.unary, Op.intArith]; rfl, by simp [Reps, RepC, wr_eq, Int.zero_sub]⟩
  · exact hk.elim

theorem pick_ok {c p q : PV} (hk : aPick h c p q K) : Step E.P h (fun G w m => ∃ v u z, Reps G w c v ∧ Reps G w p u ∧ Reps G w q z ∧ m = (do pure (if ← asBool v then u else z))) K := by
  unfold aPick at hk
  split at hk
  · rename_i x
    split at hk
    · rename_i y z
      refine Step.pure hk fun G w m hi hm => ?_
      obtain ⟨v, u, z', hv, hu, hz, rfl⟩ := hm
      simp only [Reps, RepC] at hv hu hz
      subst hv hu hz
      exact ⟨.bool (cond x y z), by cases x <;> simp [asBool], by simp [Reps, RepC]⟩
    · cases x with
      | true =>
        refine Step.pure (hk.1 rfl) fun G w m hi hm => ?_
        obtain ⟨v, u, z', hv, hu, hz, rfl⟩ := hm
        simp only [Reps, RepC] at hv
        subst hv
        exact ⟨u, by simp [asBool], hu⟩
      | false =>
        refine Step.pure (hk.2 rfl) fun G w m hi hm => ?_
        obtain ⟨v, u, z', hv, hu, hz, rfl⟩ := hm
        simp only [Reps, RepC] at hv
        subst hv
        exact ⟨z', by simp [asBool], hz⟩
  · exact hk.elim

theorem extract_ok {p : PV} {n : Nat} (hk : aExtract h p n K) : Step E.P h (fun G w m => ∃ v, Reps G w p v ∧ m = Instr.extract v n) K := by
  unfold aExtract at hk
  split at hk
  · rename_i vs
    obtain ⟨k1, hk⟩ := hk
    refine Step.pure hk fun G w m hi hm => ?_
    obtain ⟨v, hv, rfl⟩ := hm
    simp only [Reps] at hv
    obtain ⟨us, rfl, hr⟩ := hv
    obtain ⟨u, h1, h2⟩ := hr.nth n k1
    exact ⟨u, by simp [Instr.extract, Array.getElem?_toList ▸ h1], h2⟩
  · exact hk.elim
end
end Go.Proofs.Ytkpcieenikmbmaa.E

/- Each operation comes to what is told of it: conversions and cuts. -/
namespace Go.Proofs.Ytkpcieenikmbmaa.E
open Go Go.RowKit Go.Proofs.YtkpcieenikmbmaaW.PrintWords
set_option linter.unusedVariables false
set_option linter.unusedSimpArgs false

section
variable {E : Env} {h : List Blk} {K : Kont}

theorem nilCheck_ok {p : PV} (hk : aNilCheck h p K) : Step E.P h (fun G w m => ∃ v, Reps G w p v ∧ ∀ a, v = .pointer (some a) → m = pure v) K := by
  unfold aNilCheck at hk
  split at hk
  · rename_i id o
    split at hk
    · rename_i ty cs hb
      refine Step.reads hk fun G w m hi hm hr => ?_
      obtain ⟨v, hv, hm⟩ := hm
      have r := hr id (by simp)
      rw [hb] at r
      obtain ⟨b, vs, rfl, _⟩ := r.box_at hv
      rw [hm _ rfl]
      exact ⟨_, rfl, hv⟩
    · exact hk.elim
  · refine Step.pure hk fun G w m hi hm => ?_
    obtain ⟨v, hv, hm⟩ := hm
    have hv' := hv
    simp only [Reps] at hv'
    obtain ⟨b, o, vs, ty, fr, rfl, _⟩ := hv'
    rw [hm _ rfl]
    exact ⟨_, rfl, hv⟩
  · exact hk.elim

theorem reads_of {G : Gh} {w : World} {l : List Int} {v : Value} (hs : SliceSrc G w (l.map fun x => [CV.i .u8 x]) v) : ∃ A n c, v = .slice A n c ∧ ReadsInt w .u8 A n l := by
  obtain ⟨A, c, rfl, h1, h2, h3⟩ := hs
  rw [List.length_map] at h1 h2 ⊢
  refine ⟨A, l.length, c, rfl, rfl, by simp only [maxLen] at h2; omega, fun h0 => ?_⟩
  rcases h3 with h3 | ⟨b, o, sz, cs, ty, fr, rfl, h4, h5, h6⟩
  · rw [List.map_eq_nil_iff] at h3
    subst h3
    simp at h0
  · refine ⟨_, rfl, fun j hj => ?_⟩
    obtain ⟨a1, a2⟩ := h6.at j [CV.i .u8 (l.getD j 0)] (by simp [hj])
    simp only [List.length_cons, List.length_nil, Nat.zero_add] at a1
    subst a1
    simp only [RepP, RepC] at a2
    obtain ⟨u, us, a3, rfl, _⟩ := a2
    rw [Addr.add_mid, cell_of_row w b (o + j) cs ty fr h4]
    have := congrArg (fun q => q[0]?) a3
    simpa using this

theorem convert_ok {t u : Nat} {p : PV} (hk : aConvert E h t u p K) : Step E.P h (fun G w m => ∃ v, Reps G w p v ∧ m = convert t u v) K := by
  unfold aConvert at hk
  simp only [wrK_eq] at hk
  split at hk
  · rename_i i j hl hl2
    have h2 := (Env.fact hl).2.1
    have h3 := (Env.fact hl2).2.1
    split at hk
    · rename_i k1 k k3 n hik hjk
      rw [hik] at h2
      rw [hjk] at h3
      refine Step.pure hk fun G w m hi hm => ?_
      obtain ⟨v, hv, rfl⟩ := hm
      simp only [Reps, RepC] at hv
      subst hv
      exact ⟨.int k (k.wrap n), by simp [convert, run_underlying h2, run_underlying h3, Conv.intToInt], by simp [Reps, RepC, wr_eq]⟩
    · rename_i p1 p2 e hik hjk
      rw [hik] at h2
      rw [hjk] at h3
      cases hle : look E.T e with
      | none => rw [hle] at hk; exact hk.elim
      | some y =>
        rw [hle] at hk
        simp only at hk
        have hy := (Env.fact hle).2.1
        split at hk
        · rename_i hyk
          rw [hyk] at hy
          obtain ⟨els, rd, ⟨l, rfl, hk⟩, hs⟩ := rowOf_ok hk
          refine Step.reads hk fun G w m hi hm hr => ?_
          obtain ⟨v, hv, rfl⟩ := hm
          obtain ⟨A, n, c, rfl, hrd⟩ := reads_of (hs G w v hi hv (fun id hid => hr id hid))
          exact ⟨_, string_of_reads h2 hy h3 hrd, by simp [Reps, RepC]⟩
        · exact hk.elim
    · rename_i p1 p2 e x hik hjk
      rw [hik] at h2
      rw [hjk] at h3
      cases hle : look E.T e with
      | none => rw [hle] at hk; exact hk.elim
      | some y =>
        rw [hle] at hk
        simp only at hk
        have hy := (Env.fact hle).2.1
        split at hk
        · rename_i hyk
          rw [hyk] at hy
          obtain ⟨hsz, hk⟩ := hk
          refine ⟨_, _, [], [], hk, fun _ _ => rfl, Nat.le_refl _, fun G w m hi hm _ => ?_⟩
          obtain ⟨v, hv, rfl⟩ := hm
          simp only [Reps, RepC] at hv
          subst hv
          have hm : maxLen = 9223372036854775807 := by decide
          have hbl : (bytesOf x).length = x.size := by
            unfold bytesOf
            rw [List.length_map]
            rfl
          have hb : Below w.heap.size w (Lib.bytesWorld w e x) := ⟨rfl, rfl, rfl, by rw [Lib.bytesWorld_size]; omega, fun k hk => Lib.bytesWorld_at_old w e x k hk⟩
          refine ⟨_, _, G, Lib.run_convert_string_bytes w t u e x h2 h3 hy, ext_grow hi hb, ?_, fun id hid => by cases hid⟩
          simp only [Reps, RepC, List.length_map, hbl]
          refine ⟨_, _, rfl, grownCap_ge w x.size 0 e, by omega, .inr ⟨w.heap.size, 0, 1, _, _, _, rfl, .inr (.inl ⟨hi.base, ?_⟩), Lib.bytesWorld_at_new w e x, Nat.one_pos, RepE.mk fun j el hj => ?_⟩⟩
          · cases ho : G.own w.heap.size with
            | none => rfl
            | some id => exact absurd (hi.own _ id ho) (Nat.lt_irrefl _)
          · rw [List.getElem?_map] at hj
            obtain ⟨b, hb', rfl⟩ := Option.map_eq_some_iff.1 hj
            have hlt : j < x.size := by
              have := (List.getElem?_eq_some_iff.1 hb').1
              omega
            refine ⟨rfl, ?_⟩
            have hc := Lib.bytesWorld_cell w e x j hlt
            have hc' : (Lib.bytesCells w e x)[j]? = some (.int .u8 (x.data.toList.getD j 0).toNat) := by
              have h0 := Lib.bytesWorld_at_new w e x
              unfold World.cell? at hc
              simp only [h0] at hc
              simpa using hc
            have hbv : b = ((x.data.toList.getD j 0).toNat : Int) := by
              unfold bytesOf at hb'
              rw [List.getElem?_map] at hb'
              obtain ⟨c, hc1, rfl⟩ := Option.map_eq_some_iff.1 hb'
              rw [List.getD_eq_getElem?_getD, hc1]
              rfl
            have hl : (((Lib.bytesCells w e x).toList.drop 0).drop (j * 1))[0]? = some (.int .u8 b) := by
              rw [List.drop_zero, Nat.mul_one, List.getElem?_drop, Nat.add_zero, Array.getElem?_toList, hc', hbv]
            cases hd : ((Lib.bytesCells w e x).toList.drop 0).drop (j * 1) with
            | nil => rw [hd] at hl; cases hl
            | cons v0 r0 =>
              rw [hd] at hl
              injection hl with hl
              subst hl
              simp only [RepP, RepC]
              exact ⟨_, _, rfl, rfl, trivial⟩
        · exact hk.elim
    · exact hk.elim
  · exact hk.elim

def OptRep (G : Gh) (w : World) : Option PV → Option Value → Prop
  | none, none => True
  | some p, some v => Reps G w p v
  | _, _ => False

theorem run_bounds {P : Program} {G : Gh} {w : World} {b : Bool} {n c : Nat} {lo hi : Option PV} {lo' hi' : Option Value} {l r : Int} (h1 : OptRep G w lo lo') (h2 : OptRep G w hi hi') (h3 : optI lo 0 = some l) (h4 : optI hi n = some r)
    (h0 : 0 ≤ l) (hlr : l ≤ r) (hr : r ≤ (n : Int)) (hc : n ≤ c) : (Instr.sliceBounds b n c lo' hi' none).run P w = .ok (l.toNat, r.toNat, c) w := by
  have hb : ∀ (k : IntKind) (x : Int) (y : Nat) (code : BoundsCode), 0 ≤ x → x ≤ (y : Int) → (Instr.sliceBound (.int k x) y code).run P w = .ok x.toNat w := fun k x y code a1 a2 => by
    simp [Instr.sliceBound, asIntOf, a1, a2]
  have hhi : ∀ code, (match hi', (none : Option Value) with | some v, some _ => Instr.sliceBound v c .slice3B | some v, none => Instr.sliceBound v c code | none, none => pure n | none, some _ => stuck "Slice: max without high" : Sem Nat).run P w = .ok r.toNat w := fun code => by
    cases hi with
    | none =>
      cases hi' with
      | some _ => exact h2.elim
      | none =>
        simp only [optI, Option.some.injEq] at h4
        subst h4
        simp
    | some p =>
      cases hi' with
      | none => exact h2.elim
      | some v =>
        simp only [OptRep] at h2
        cases p with
        | v cv =>
          cases cv with
          | i k x =>
            simp only [optI, Option.some.injEq] at h4
            subst h4
            simp only [Reps, RepC] at h2
            subst h2
            exact hb k x c code (by omega) (by omega)
          | _ => simp [optI] at h4
        | _ => simp [optI] at h4
  have hlo : (match lo' with | some v => Instr.sliceBound v r.toNat .sliceB | none => pure 0 : Sem Nat).run P w = .ok l.toNat w := by
    cases lo with
    | none =>
      cases lo' with
      | some _ => exact h1.elim
      | none =>
        simp only [optI, Option.some.injEq] at h3
        subst h3
        simp
    | some p =>
      cases lo' with
      | none => exact h1.elim
      | some v =>
        simp only [OptRep] at h1
        cases p with
        | v cv =>
          cases cv with
          | i k x =>
            simp only [optI, Option.some.injEq] at h3
            subst h3
            simp only [Reps, RepC] at h1
            subst h1
            exact hb k x r.toNat .sliceB h0 (by omega)
          | _ => simp [optI] at h3
        | _ => simp [optI] at h3
  cases hi' <;> cases lo' <;> simp_all [Instr.sliceBounds]

theorem row_cut {I : Nat → Prop} {w : World} {xs : List (List CV)} {A : Option Addr} {n c sz l r : Nat} {v : Value} (hn : n = xs.length) (hr : RepC I w (.row xs) (.slice A n c)) (hsz : ∀ x ∈ xs, x.length = sz) (hlr : l ≤ r) (hrn : r ≤ n)
    (hv : v = .slice (if c = l then A else A.map (·.add (l * sz))) (r - l) (c - l)) : RepC I w (.row ((xs.take r).drop l)) v := by
  subst hv
  simp only [RepC] at hr ⊢
  obtain ⟨A', c', h1, h2, h3, h4⟩ := hr
  injection h1 with e1 e2 e3
  subst e1 e3
  have hlen : ((xs.take r).drop l).length = r - l := by rw [List.length_drop, List.length_take]; omega
  refine ⟨_, c - l, by rw [hlen], by rw [hlen]; omega, by omega, ?_⟩
  by_cases he : r = l
  · left
    apply List.eq_nil_of_length_eq_zero
    omega
  · rcases h4 with h4 | ⟨b, o, sz', cs, ty, fr, h5, h6, h7, h8, h9⟩
    · subst h4
      simp at hn
      omega
    · subst h5
      right
      have hne : ¬ c = l := by omega
      have hx : ∃ y, y ∈ xs := List.exists_mem_of_ne_nil xs (fun e => by subst e; simp at hn; omega)
      obtain ⟨y, hy⟩ := hx
      have e1 : sz' = sz := (h9.size y hy).symm.trans (hsz y hy)
      subst e1
      refine ⟨b, o + l * sz', sz', cs, ty, fr, by simp [hne, Addr.add_mid], h6, h7, h8, ?_⟩
      have := (h9.take r).drop l
      rw [List.drop_drop] at this
      exact this

theorem slice_ok {t : Nat} {p : PV} {lo hi : Option PV} (hk : aSlice E h t p lo hi K) : Step E.P h (fun G w m => ∃ v lo' hi', Reps G w p v ∧ OptRep G w lo lo' ∧ OptRep G w hi hi' ∧ m = Instr.sliceAt t v lo' hi' none) K := by
  unfold aSlice at hk
  cases hl : look E.T t with
  | none => rw [hl] at hk; exact hk.elim
  | some i =>
    rw [hl] at hk
    simp only at hk
    have h2 := (Env.fact hl).2.1
    split at hk
    · rename_i x hik
      rw [hik] at h2
      split at hk
      · rename_i l r hlo hhi
        obtain ⟨k1, k2, k3, hk⟩ := hk
        refine Step.pure hk fun G w m hi hm => ?_
        obtain ⟨v, lo', hi', hv, q1, q2, rfl⟩ := hm
        simp only [Reps, RepC] at hv
        subst hv
        have hb := run_bounds (P := E.P) (b := false) (c := x.size) q1 q2 hlo hhi k1 k2 k3 (Nat.le_refl _)
        refine ⟨.string (x.extract l.toNat r.toNat), ?_, by simp [Reps, RepC]⟩
        simp [Instr.sliceAt, Instr.slice, run_underlying h2, hb]
      · exact hk.elim
    · rename_i e xs hik
      rw [hik] at h2
      split at hk
      · rename_i j l r hle hlo hhi
        obtain ⟨k0, k1, k2, k3, ys, rfl, hk⟩ := hk
        have hj := Env.fact hle
        refine Step.pure hk fun G w m hi hm => ?_
        obtain ⟨v, lo', hi', hv, q1, q2, rfl⟩ := hm
        simp only [Reps] at hv ⊢
        have hv' := hv
        simp only [RepC] at hv'
        obtain ⟨A, c, rfl, hc, _⟩ := hv'
        have hb := run_bounds (P := E.P) (b := true) (c := c) q1 q2 hlo hhi k1 k2 k3 hc
        refine ⟨.slice (if c = l.toNat then A else A.map (·.add (l.toNat * j.size))) (r.toNat - l.toNat) (c - l.toNat), ?_, row_cut rfl hv k0 (by omega) (by omega) rfl⟩
        simp [Instr.sliceAt, Instr.slice, run_underlying h2, hb, hj.sizeOf w]
      · exact hk.elim
    · rename_i e id n hik
      rw [hik] at h2
      split at hk
      · rename_i j l r sz ty fz els hle hlo hhi hb
        obtain ⟨k4, k5, k1, k2, k3, ys, rfl, hk⟩ := hk
        have hj := Env.fact hle
        have f1 : ∀ x ∈ [id], IsArr (nthB h x) := fun x hx => by
          simp only [List.mem_singleton] at hx
          subst hx
          rw [hb]
          trivial
        refine ⟨_, _, _, _, hk, fun x hx => by rw [nthB_frz, if_neg hx], by rw [len_frz]; exact Nat.le_refl _, fun G w m hi hm hr => ?_⟩
        obtain ⟨v, lo', hi', hv, q1, q2, rfl⟩ := hm
        have hrf : ∀ x ∈ [id], RelB G w x (nthB h x) := fun x hx => hr x (.inr hx)
        have r0 := hr id (by simp)
        rw [hb] at r0
        have X := ext_frz hi [id]
        have hrow : RepC (G.frz [id]).imm w (.row els) v := own_row (fun b o h1 h2 => (imm_old X hi b o h1 h2).1) (fun b hb' => .inr (.inr ⟨id, sz, els.length, hb', by simp [Gh.frz, r0.1]⟩)) r0 k4 hv
        have hv' := hrow
        simp only [RepC] at hv'
        obtain ⟨A, c, rfl, hc, _⟩ := hv'
        subst k4 k5
        have hbd := run_bounds (P := E.P) (b := true) (c := c) q1 q2 hlo hhi k1 k2 k3 hc
        refine ⟨.slice (if c = l.toNat then A else A.map (·.add (l.toNat * j.size))) (r.toNat - l.toNat) (c - l.toNat), w, G.frz [id], ?_, X, ?_, frz_rel hi hrf f1⟩
        · simp [Instr.sliceAt, Instr.slice, run_underlying h2, hbd, hj.sizeOf w]
        · simp only [Reps]
          refine row_cut rfl hrow (fun x hx => ?_) (by omega) (by omega) rfl
          rcases r0.2.2.2 with ⟨r5, _⟩ | ⟨b, cs, _, _, _, r8⟩
          · subst r5
            cases hx
          · exact r8.size x hx
      · exact hk.elim
    · exact hk.elim
end
end Go.Proofs.Ytkpcieenikmbmaa.E

/- What a run of code comes to, told with values: operations in order, code, calls. -/
namespace Go.Proofs.Ytkpcieenikmbmaa.E
open Go Go.RowKit Go.Proofs.YtkpcieenikmbmaaW.PrintWords
set_option linter.unusedVariables false
set_option linter.unusedSimpArgs false

/-! ### renaming the numbers -/
def idx : List Nat → Nat → Option Nat
  | [], _ => none
  | x :: r, i => cond (Nat.beq x i) (some 0) ((idx r i).map (· + 1))
mutual
def renP (m : Nat → Option Nat) : PV → PV
  | .v c => .v c
  | .nil => .nil
  | .own i n => match m i with
    | some j => .own j n
    | none => .un
  | .ptr i o => match m i with
    | some j => .ptr j o
    | none => .un
  | .eptr i n e o => match m i with
    | some j => .eptr j n e o
    | none => .un
  | .rptr cs => .rptr cs
  | .agg cs => .agg (renL m cs)
  | .tup cs => .tup (renL m cs)
  | .un => .un
def renL (m : Nat → Option Nat) : List PV → List PV
  | [] => []
  | p :: r => renP m p :: renL m r
end
def renB (m : Nat → Option Nat) : Blk → Blk
  | .box ty cs => .box ty (renL m cs)
  | B => B
def pickB (m : Nat → Option Nat) (h : List Blk) : List Nat → Option (List Blk)
  | [] => some []
  | i :: r => match nthB h i, pickB m h r with
    | some B, some l => some (renB m B :: l)
    | _, _ => none
def unfz : List Blk → Bool
  | [] => true
  | .arr _ _ true _ :: _ => false
  | _ :: r => unfz r
def nodup : List Nat → Bool
  | [] => true
  | x :: r => !(r.contains x) && nodup r

/-! ### a call -/
def noRow1 : PV → Bool
  | .v (.row _) => false
  | .v _ => true
  | _ => false
def noRow2 : PV → Bool
  | .agg cs => cs.all noRow1
  | p => noRow1 p
def hasNoRow : PV → Bool
  | .tup cs => cs.all noRow2
  | p => noRow2 p

/-- What the callee is handed: what lies behind an address by its number there, other rows by what they hold. -/
def passC (h : List Blk) (rf : List Nat) : PV → (PV → List Nat → Prop) → Prop
  | .v c, K => K (.v c) []
  | .nil, K => K (.v (.row [])) []
  | .own i n, K => match idx rf i with
    | some j => K (.own j n) []
    | none => match nthB h i with
      | some (.arr _ _ _ els) => Side (n = els.length) (K (.v (.row els)) [i])
      | some (.tree _ _ _ els) => Side (n = els.length) (K (.v (.row els)) [i])
      | _ => False
  | .ptr i o, K => match idx rf i with
    | some j => K (.ptr j o) []
    | none => False
  | _, _ => False
def passCs (h : List Blk) (rf : List Nat) : List PV → (List PV → List Nat → Prop) → Prop
  | [], K => K [] []
  | p :: r, K => passC h rf p fun q f => passCs h rf r fun qs fs => K (q :: qs) (f ++ fs)
def passA (h : List Blk) (rf : List Nat) : List PV → (List PV → List Nat → Prop) → Prop
  | [], K => K [] []
  | .agg cs :: r, K => passCs h rf cs fun q f => passA h rf r fun qs fs => K (.agg q :: qs) (f ++ fs)
  | p :: r, K => passC h rf p fun q f => passA h rf r fun qs fs => K (q :: qs) (f ++ fs)

def ownsIn : List PV → List Nat
  | [] => []
  | .own i _ :: r => i :: ownsIn r
  | _ :: r => ownsIn r
def refsOf (h : List Blk) : List PV → List Nat
  | [] => []
  | .ptr i _ :: r => i :: (match nthB h i with
    | some (.box _ cs) => ownsIn cs ++ refsOf h r
    | _ => refsOf h r)
  | _ :: r => refsOf h r

/-- What a call of f comes to. -/
def Spec (P : Program) (f : FuncId) (args : List PV) (bin : List Blk) (r : PV) (bl : List Blk) : Prop :=
  (∀ (as_ : Array Value) (w : World), (callFunc f as_).run P w = .ok (.enter f as_) w) ∧
  ∀ (G : Gh) (w : World) (vals : Array Value), Inv G w → RepsL G w args vals.toList → (∀ id, RelB G w id (nthB bin id)) →
    Calls P f vals w fun e w' => ∃ v G' ids, e = .returned v ∧ Ext ids G w G' w' ∧ Reps G' w' r v ∧ ∀ id, RelB G' w' id (nthB bl id)

inductive CallAt (P : Program) (f : FuncId) (as_ : List PV) (bin : List Blk) (K : PV → List Blk → Prop) : Prop where
  | mk (r : PV) (bl : List Blk) (h : Spec P f as_ bin r bl) (k : K r bl)

def backId (rf : List Nat) (m : Nat) (j : Nat) : Option Nat :=
  match rf[j]? with
  | some i => some i
  | none => some (m + (j - len rf))
/-- A number as it is read off: so no step carries the reckoning of an earlier one along. -/
def litK (n : Nat) (k : Nat → Option Nat) : Option Nat := cond (Nat.beq n 0) (k 0) (cond (Nat.beq n 1) (k 1) (cond (Nat.beq n 2) (k 2) (cond (Nat.beq n 3) (k 3) (cond (Nat.beq n 4) (k 4) (cond (Nat.beq n 5) (k 5) (cond (Nat.beq n 6) (k 6) (cond (Nat.beq n 7) (k 7) (cond (Nat.beq n 8) (k 8) (cond (Nat.beq n 9) (k 9) (cond (Nat.beq n 10) (k 10) (cond (Nat.beq n 11) (k 11) (cond (Nat.beq n 12) (k 12) (cond (Nat.beq n 13) (k 13) (cond (Nat.beq n 14) (k 14) (cond (Nat.beq n 15) (k 15) (cond (Nat.beq n 16) (k 16) (cond (Nat.beq n 17) (k 17) (cond (Nat.beq n 18) (k 18) (cond (Nat.beq n 19) (k 19) (cond (Nat.beq n 20) (k 20) (cond (Nat.beq n 21) (k 21) (cond (Nat.beq n 22) (k 22) (cond (Nat.beq n 23) (k 23) (cond (Nat.beq n 24) (k 24) (cond (Nat.beq n 25) (k 25) (cond (Nat.beq n 26) (k 26) (cond (Nat.beq n 27) (k 27) (cond (Nat.beq n 28) (k 28) (cond (Nat.beq n 29) (k 29) (cond (Nat.beq n 30) (k 30) (cond (Nat.beq n 31) (k 31) (cond (Nat.beq n 32) (k 32) (cond (Nat.beq n 33) (k 33) (cond (Nat.beq n 34) (k 34) (cond (Nat.beq n 35) (k 35) (cond (Nat.beq n 36) (k 36) (cond (Nat.beq n 37) (k 37) (cond (Nat.beq n 38) (k 38) (cond (Nat.beq n 39) (k 39) (k n))))))))))))))))))))))))))))))))))))))))
theorem litStep {n a : Nat} {k : Nat → Option Nat} {r : Option Nat} (h : r = k n) : cond (Nat.beq n a) (k a) r = k n := by
  cases hb : Nat.beq n a with
  | false => exact h
  | true => rw [Nat.eq_of_beq_eq_true hb]; rfl
theorem litK_eq (n : Nat) (k : Nat → Option Nat) : litK n k = k n := by
  unfold litK
  repeat (refine litStep ?_)
  rfl
def backL (rf : List Nat) (m : Nat) (j : Nat) : Option Nat :=
  match rf[j]? with
  | some i => some i
  | none => litK (m + (j - len rf)) some
theorem backL_eq : backL = backId := by
  funext rf m j
  unfold backL backId
  split
  · rfl
  · rw [litK_eq]
def putBs (h : List Blk) (m : Nat → Option Nat) : List Nat → List Blk → List Blk
  | i :: r, B :: l => putBs (putB h i (renB m B)) m r l
  | _, l => h ++ l.map (renB m)
def range' (m : Nat) : Nat → List Nat
  | 0 => []
  | n + 1 => m :: range' (m + 1) n

def arrs (h : List Blk) : List Nat → Bool
  | [] => true
  | i :: r => match nthB h i with
    | some (.arr _ _ _ _) => arrs h r
    | _ => false
def aGoX (E : Env) (h : List Blk) (f : FuncId) (args : List PV) (rf : List Nat) (K : Kont) : Prop :=
  match pickB (idx rf) h rf with
    | none => False
    | some bin => cond (nodup rf && unfz bin) (passA h rf args fun as_ fs => CallAt E.P f as_ bin fun r bl =>
        match cond (hasNoRow r && Nat.beq (len bl) 0) [] fs with
        | fz => cond ((fz.all fun x => !(rf.contains x)) && Nat.ble (len rf) (len bl) && arrs h fz) (K (renP (backL rf (len h)) r) (putBs (frz fz h) (backL rf (len h)) rf bl) fs (rf ++ fz ++ range' (len h) (len bl - len rf))) False) False
/-! nothing of the answer is read only: what was lent is as it was -/
mutual
def cleanP : PV → Bool
  | .v (.row _) => false
  | .rptr _ => false
  | .agg cs => cleanL cs
  | .tup cs => cleanL cs
  | _ => true
def cleanL : List PV → Bool
  | [] => true
  | p :: r => cleanP p && cleanL r
end
def cleanB : List Blk → Prop → Prop
  | [], K => K
  | .arr _ _ _ els :: r, K => Side (Flat els) (cleanB r K)
  | .box _ cs :: r, K => cond (cleanL cs) (cleanB r K) False
  | _ :: r, K => cleanB r K
def aGoL (E : Env) (h : List Blk) (f : FuncId) (args : List PV) (rf : List Nat) (K : Kont) : Prop :=
  match pickB (idx rf) h rf with
    | none => False
    | some bin => cond (nodup rf && unfz bin) (passA h rf args fun as_ fs => CallAt E.P f as_ bin fun r bl =>
        cond (cleanP r && Nat.ble (len rf) (len bl)) (cleanB bl (K (renP (backL rf (len h)) r) (putBs h (backL rf (len h)) rf bl) fs (rf ++ range' (len h) (len bl - len rf)))) False) False
/-- A call hands over what lies behind addresses; and, if it is wished, the rows of its own among its arguments, which come back with the answer. -/
inductive HandVC (A B C : Prop) : Prop where
  | a (h : A)
  | b (h : B)
  | c (h : C)
def ownsA : List PV → List Nat
  | [] => []
  | .own i _ :: r => i :: ownsA r
  | .agg cs :: r => ownsIn cs ++ ownsA r
  | _ :: r => ownsA r
def aGo (E : Env) (h : List Blk) (f : FuncId) (args : List PV) (K : Kont) : Prop :=
  HandVC (aGoX E h f args (refsOf h args) K) (aGoX E h f args (refsOf h args ++ ownsA args) K) (aGoL E h f args (refsOf h args) K)

def aCall (E : Env) (h : List Blk) (s : List PV) (c : Call) (K : Kont) : Prop :=
  match c.callee, c.args.toList, c.argTypes.toList with
  | .builtin .append, [x, y], [t, t2] => aAppend E h t t2 (ev s x) (ev s y) K
  | .builtin .len, [x], [t] => aLen E t h (ev s x) K
  | .value (.func f), as_, _ => aGo E h f (as_.map (ev s)) K
  | _, _, _ => False

def aOp (E : Env) (h : List Blk) (s : List PV) (o : Op) (K : Kont) : Prop :=
  match o with
  | .move x => K (ev s x) h [] []
  | .assign x => K (ev s x) h [] []
  | .pick c a b => aPick h (ev s c) (ev s a) (ev s b) K
  | .alloc t => aAlloc E h t K
  | .box t x => aBox h t (ev s x) K
  | .build t parts => aBuild E h t (parts.toList.map fun x => (x.1, ev s x.2)) K
  | .buildSlice t n parts => MkVC (aBuildSlice E h t n (parts.toList.map fun x => (x.1, ev s x.2)) K) fun ty2 => aBuildTree E h t n (parts.toList.map fun x => (x.1, ev s x.2)) ty2 K
  | .load t a => aLoad E h t (ev s a) K
  | .store t a x => aStore E h t (ev s a) (ev s x) K
  | .nilCheck x => aNilCheck h (ev s x) K
  | .binOp op t x y _ => aBinT E h op t (ev s x) (ev s y) K
  | .unOp op _ x => aUn h op (ev s x) K
  | .convert a b x => aConvert E h a b (ev s x) K
  | .makeSlice t l c => MkVC (aMakeSlice E h t (ev s l) (ev s c) K) fun ty2 => aMakeTree E h t (ev s l) (ev s c) ty2 K
  | .slice t x lo hi none => aSlice E h t (ev s x) (lo.map (ev s)) (hi.map (ev s)) K
  | .fieldAddr t x f => aFieldAddr E h t (ev s x) f K
  | .indexAddr t x i => aIndexAddr E h t (ev s x) (ev s i) K
  | .index t x i => aIndex E h t (ev s x) (ev s i) K
  | .extract x n => aExtract h (ev s x) n K
  | .call c => aCall E h s c K
  | _ => False

/-! ### operations in order -/
def putO (s : List PV) (d : Option Tmp) (q : PV) : List PV :=
  match d with
  | some t => put s t q
  | none => s
def nthO : List Oper → Nat → Option Oper
  | [], _ => none
  | o :: _, 0 => some o
  | _ :: r, n + 1 => nthO r n
def dstAt (all : List Oper) (j : Nat) : Option Tmp :=
  match nthO all j with
  | some o => o.dst
  | none => none

def aOps (E : Env) (all : List Oper) : List Oper → List PV → List Blk → (List PV → List Blk → List (List Nat × List Nat) → Prop) → Prop
  | [], s, h, K => K s h []
  | o :: r, s, h, K => match o.guard with
    | none => aOp E h s o.op fun q h' rd wr => aOps E all r (putO s o.dst q) h' fun s2 h2 acc => K s2 h2 ((rd, wr) :: acc)
    | some (j, want) => match dstAt all j with
      | none => False
      | some t => match nth s t with
        | .v (.b x) =>
          Br2 x want (aOp E h (put s t (.v (.b want))) o.op fun q h' rd wr => aOps E all r (putO (put s t (.v (.b want))) o.dst q) h' fun s2 h2 acc => K s2 h2 ((rd, wr) :: acc))
            (aOps E all r (putO (put s t (.v (.b (!want)))) o.dst (.tup [])) h fun s2 h2 acc => K s2 h2 (([], []) :: acc))
        | .tup [] => aOps E all r (putO s o.dst (.tup [])) h fun s2 h2 acc => K s2 h2 (([], []) :: acc)
        | _ => False

/-! ### may the operations go in another order? -/
def readsT (all : List Oper) (o : Oper) : List Tmp :=
  (o.op.operands.toList.filterMap fun | .tmp t => some t | _ => none) ++ (match o.guard with
    | some (j, _) => (dstAt all j).toList
    | none => [])
def meets (xs ys : List Nat) : Bool := xs.any fun x => ys.any fun y => Nat.beq x y
def clash (all : List Oper) (o o' : Oper) (x y : List Nat × List Nat) : Bool :=
  meets x.2 y.2 || meets x.2 y.1 || meets x.1 y.2 || meets o.dst.toList o'.dst.toList || meets o.dst.toList (readsT all o') || meets (readsT all o) o'.dst.toList
def dep (all : List Oper) : Nat → Nat → Nat → Bool
  | 0, _, _ => false
  | n + 1, i, k => match nthO all k with
    | some o => o.after.toList.any fun e => Region.binds .any e && (Nat.beq e.on i || dep all n i e.on)
    | none => false
def ordFrom (all : List Oper) (n i : Nat) (o : Oper) (x : List Nat × List Nat) : Nat → List Oper → List (List Nat × List Nat) → Bool
  | _, [], _ => true
  | _, _ :: _, [] => false
  | k, o' :: r, y :: ys => (!(clash all o o' x y) || dep all n i k) && ordFrom all n i o x (k + 1) r ys
def ordOk (all : List Oper) (n : Nat) : Nat → List Oper → List (List Nat × List Nat) → Bool
  | _, [], _ => true
  | _, _ :: _, [] => false
  | i, o :: r, x :: xs => ordFrom all n i o x (i + 1) r xs && ordOk all n (i + 1) r xs
def afterOk : Nat → List Oper → Bool
  | _, [] => true
  | i, o :: r => (o.after.toList.all fun e => !(Region.binds .any e) || Nat.blt e.on i) && afterOk (i + 1) r

/-! ### code -/
def gcT (keep : List Nat) (s : List PV) : List PV := renL (idx keep) s
abbrev KontC := Exit → List PV → List Blk → Prop
def Weak0 (s : List PV) (h : List Blk) (nref : Nat) (s' : List PV) (h' : List Blk) : Prop :=
  ∃ keep : List Nat, nodup keep = true ∧ (∀ i, i < nref → keep[i]? = some i) ∧ pickB (idx keep) h keep = some h' ∧ s' = gcT keep s
def mask : List Bool → List PV → List PV
  | true :: m, p :: r => p :: mask m r
  | false :: m, _ :: r => .un :: mask m r
  | _, l => l
/-! a row that is nil becomes one that may be written -/
def upT : List (Option Nat) → List PV → List PV
  | some i :: u, .nil :: r => .own i 0 :: upT u r
  | _ :: u, p :: r => p :: upT u r
  | _, l => l
def upBs : List (List (Option Nat)) → List Blk → List Blk
  | u :: us, .box ty cs :: r => .box ty (upT u cs) :: upBs us r
  | _ :: us, B :: r => B :: upBs us r
  | _, h => h
def upIn (m n : Nat) : List (Option Nat) → Bool
  | some i :: u => Nat.ble m i && Nat.blt i n && upIn m n u
  | none :: u => upIn m n u
  | [] => true
def upIns (m n : Nat) : List (List (Option Nat)) → Bool
  | u :: us => upIn m n u && upIns m n us
  | [] => true
def posL : List (Nat × Nat) → Bool
  | x :: r => Nat.blt 0 x.1 && posL r
  | [] => true
def nils : List (Nat × Nat) → List Blk
  | x :: r => .arr x.1 x.2 false [] :: nils r
  | [] => []
def Weak (s : List PV) (h : List Blk) (nref : Nat) (s' : List PV) (h' : List Blk) : Prop :=
  ∃ ex us bs, posL ex = true ∧ upIn (len h) (len h + len ex) us = true ∧ upIns (len h) (len h + len ex) bs = true ∧
    ∃ s1, Weak0 (upT us s) (upBs bs h ++ nils ex) nref s1 h' ∧ ∃ ms, s' = mask ms s1
/-! what is still named, in order -/
mutual
def refP : PV → List Nat
  | .own i _ => [i]
  | .ptr i _ => [i]
  | .eptr i _ _ _ => [i]
  | .agg cs => refL cs
  | .tup cs => refL cs
  | _ => []
def refL : List PV → List Nat
  | [] => []
  | p :: r => refP p ++ refL r
end
def has : List Nat → Nat → Bool
  | [], _ => false
  | x :: r, i => Nat.beq x i || has r i
def uniq : List Nat → List Nat → List Nat
  | acc, [] => acc
  | acc, i :: r => cond (has acc i) (uniq acc r) (uniq (acc ++ [i]) r)
def inBoxes (h : List Blk) : List Nat → List Nat
  | [] => []
  | i :: r => match nthB h i with
    | some (.box _ cs) => refL cs ++ inBoxes h r
    | _ => inBoxes h r
def upto : Nat → Nat → List Nat
  | _, 0 => []
  | m, n + 1 => m :: upto (m + 1) n
def keepOf (nref : Nat) (h : List Blk) (s : List PV) : List Nat :=
  match uniq (upto 0 nref) (refL s) with
  | k => match uniq k (inBoxes h k) with
    | k => uniq k (inBoxes h k)
def pre : Nat → Nat → List Nat → Bool
  | _, 0, _ => true
  | m, n + 1, i :: r => Nat.beq i m && pre (m + 1) n r
  | _, _, _ => false
theorem pre_ok : ∀ (n m : Nat) (l : List Nat), pre m n l = true → ∀ i, i < n → l[i]? = some (m + i)
  | 0, _, _, _, i, hi => by omega
  | n + 1, m, [], h, _, _ => by simp [pre] at h
  | n + 1, m, x :: r, h, i, hi => by
    simp only [pre, Bool.and_eq_true] at h
    obtain ⟨h1, h2⟩ := h
    have := Nat.eq_of_beq_eq_true h1
    subst this
    cases i with
    | zero => simp
    | succ i =>
      have := pre_ok n (x + 1) r h2 i (by omega)
      simp only [List.getElem?_cons_succ]
      rw [this]
      congr 1
      omega

inductive NextVC (nref : Nat) (I : Nat → List PV → List Blk → Prop) (n : Nat) (s : List PV) (h : List Blk) : Prop where
  | mk (m : Nat) (s2 : List PV) (h2 : List Blk) (lt : m < n) (w : Weak s h nref s2 h2) (i : I m s2 h2)
inductive LoopVC (nref : Nat) (s : List PV) (h : List Blk) (B : List PV → List Blk → (List PV → List Blk → Prop) → Prop) : Prop where
  | mk (I : Nat → List PV → List Blk → Prop) (n : Nat) (s' : List PV) (h' : List Blk) (w : Weak s h nref s' h') (i : I n s' h') (r : ∀ n s h, I n s h → B s h (NextVC nref I n))

structure Rel (s : List PV) (h : List Blk) (G : Gh) (a : Act) (w : World) : Prop where
  defers : a.defers = []
  size : a.tmps.size = s.length
  t : ∀ t, Reps G w (nth s t) (a.tmps.getD t undef)
  b : ∀ id, RelB G w id (nthB h id)
  inv : Inv G w

/-- A block that is gone through as it stands, or proved by hand. -/
inductive BlkVC (P : Program) (c : Code) (s0 : List PV) (h0 : List Blk) (A : Prop) (B : List PV → List Blk → Prop) : Prop where
  | go (k : A)
  | hand (p : ∀ (G : Gh) (a : Act) (w : World), Rel s0 h0 G a w → ∀ (Q : Exit → Act → World → Prop), (∀ s' h' G' a' w', B s' h' → Rel s' h' G' a' w' → (∃ ids, Ext ids G w G' w') → Q .normal a' w') → c.wp P Q a w)
inductive SeqVC (nref : Nat) (A : (List PV → List Blk → Prop) → Prop) (B : List PV → List Blk → Prop) : Prop where
  | go (k : A B)
  | cut (J : List PV → List Blk → Prop) (a : A fun s h => ∃ s' h', Weak s h nref s' h' ∧ J s' h') (b : ∀ s h, J s h → B s h)
def setC (s : List PV) (c : Operand) (x : Bool) : List PV :=
  match c with
  | .tmp t => put s t (.v (.b x))
  | _ => s
def aCode (E : Env) (nref : Nat) : Code → List PV → List Blk → KontC → Prop
  | .skip, s, h, K => K .normal s h
  | .region _ ops draw, s, h, K => aOps E ops.toList ops.toList s h fun s' h' acc => cond (!draw || (afterOk 0 ops.toList && ordOk ops.toList (len ops.toList) 0 ops.toList acc)) (K .normal s' h') False
  | .seq a b, s, h, K => SeqVC nref (fun B => aCode E nref a s h fun e s' h' => match e with
    | .normal => B s' h'
    | e => K e s' h') fun s' h' => aCode E nref b s' h' K
  | .cond c x y, s, h, K => match ev s c with
    | .v (.b v) => Br v (aCode E nref x (setC s c true) h K) (aCode E nref y (setC s c false) h K)
    | _ => False
  | .block id c, s, h, K => BlkVC E.P (.block id c) s h (aCode E nref c s h fun e s' h' => match e with
    | .exit j => cond (Nat.beq j id) (K .normal s' h') (K (.exit j) s' h')
    | e => K e s' h') (K .normal)
  | .loop c, s, h, K => LoopVC nref s h fun s h K' => aCode E nref c s h fun e s' h' => match e with
        | .normal => K' s' h'
        | e => K e s' h'
  | .exit id, s, h, K => K (.exit id) s h
  | .ret, s, h, K => K .ret s h
  | _, _, _, _ => False

/-! ### a function -/
def aRes (E : Env) (s : List PV) (h : List Blk) : List ResultVar → (List PV → Prop) → Prop
  | [], K => K []
  | .tmp t :: r, K => aRes E s h r fun ps => K (nth s t :: ps)
  | .cell t ty :: r, K => aLoad E h ty (nth s t) fun q h' _ _ => aRes E s h r fun ps => K (q :: ps)
mutual
def upP (m : Nat) : PV → PV × Nat
  | .nil => (.own m 0, m + 1)
  | .agg cs => match upL m cs with
    | (l, n) => (.agg l, n)
  | .tup cs => match upL m cs with
    | (l, n) => (.tup l, n)
  | p => (p, m)
def upL (m : Nat) : List PV → List PV × Nat
  | [] => ([], m)
  | p :: r => match upP m p with
    | (q, n) => match upL n r with
      | (l, k) => (q :: l, k)
end
def retOf : List PV → PV
  | [p] => p
  | ps => .tup ps
inductive Fin0 (nref : Nat) (q : PV) (h : List Blk) (r : PV) (bl : List Blk) : Prop where
  | mk (ex : List (Nat × Nat)) (keep : List Nat) (h0 : ∀ x ∈ ex, 0 < x.1) (h1 : (upP (len h) q).2 = len h + len ex) (h2 : nodup keep = true) (h3 : ∀ i, i < nref → keep[i]? = some i)
    (h4 : pickB (idx keep) (h ++ ex.map fun x => .arr x.1 x.2 false []) keep = some bl) (h5 : renP (idx keep) (upP (len h) q).1 = r)
/-- A row that was made here may be handed out as one that is read only. -/
inductive FinVC (nref : Nat) (q : PV) (h : List Blk) (r : PV) (bl : List Blk) : Prop where
  | up (k : Fin0 nref q h r bl)
  | dn (id n sz : Nat) (ty : Nat) (fz : Bool) (els : List (List CV)) (hq : q = .own id n) (hb : nthB h id = some (.arr sz ty fz els)) (hn : n = els.length) (k : Fin0 nref (.v (.row els)) (frz [id] h) r bl)
def aFin (E : Env) (nref : Nat) (rs : List ResultVar) (r : PV) (bl : List Blk) : KontC := fun e s h =>
  match e with
  | .ret => aRes E s h rs fun ps => FinVC nref (retOf ps) h r bl
  | .normal => aRes E s h rs fun ps => FinVC nref (retOf ps) h r bl
  | _ => False
end Go.Proofs.Ytkpcieenikmbmaa.E

/- A call comes to what is told of it. -/
namespace Go.Proofs.Ytkpcieenikmbmaa.E
open Go Go.RowKit Go.Proofs.YtkpcieenikmbmaaW.PrintWords
set_option linter.unusedVariables false
set_option linter.unusedSimpArgs false

theorem idx_some : ∀ {l : List Nat} {i j : Nat}, idx l i = some j → l[j]? = some i
  | [], i, j, h => by cases h
  | x :: r, i, j, h => by
    unfold idx at h
    cases hb : Nat.beq x i with
    | true =>
      rw [hb] at h
      injection h with h
      subst h
      simp [Nat.eq_of_beq_eq_true hb]
    | false =>
      rw [hb, cond_false] at h
      obtain ⟨k, h1, rfl⟩ := Option.map_eq_some_iff.1 h
      simpa using idx_some h1
theorem idx_mem : ∀ {l : List Nat} {i : Nat}, i ∈ l → ∃ j, idx l i = some j
  | [], i, h => by cases h
  | x :: r, i, h => by
    unfold idx
    cases hb : Nat.beq x i with
    | true => exact ⟨0, rfl⟩
    | false =>
      have hne : i ≠ x := fun e => by
        subst e
        rw [show Nat.beq i i = true from Nat.beq_refl i] at hb
        cases hb
      rcases List.mem_cons.1 h with h | h
      · exact absurd h hne
      · obtain ⟨j, hj⟩ := idx_mem h
        exact ⟨j + 1, by simp [hj]⟩
theorem idx_of : ∀ {l : List Nat} {i j : Nat}, nodup l = true → l[j]? = some i → idx l i = some j
  | [], i, j, _, h => by simp at h
  | x :: r, i, 0, hn, h => by
    simp at h
    subst h
    unfold idx
    rw [show Nat.beq x x = true from Nat.beq_refl x]
    rfl
  | x :: r, i, j + 1, hn, h => by
    simp only [nodup, Bool.and_eq_true, Bool.not_eq_true', List.contains_eq_mem, decide_eq_false_iff_not] at hn
    have h' : r[j]? = some i := by simpa using h
    have hne : x ≠ i := fun e => hn.1 (by subst e; exact List.mem_of_getElem? h')
    unfold idx
    cases hb : Nat.beq x i with
    | true => exact absurd (Nat.eq_of_beq_eq_true hb) hne
    | false => simp [idx_of hn.2 h']
theorem idx_lt {l : List Nat} {i j : Nat} (h : idx l i = some j) : j < l.length := (List.getElem?_eq_some_iff.1 (idx_some h)).1

theorem pickB_len {m : Nat → Option Nat} {h : List Blk} : ∀ {l : List Nat} {bin : List Blk}, pickB m h l = some bin → len bin = l.length
  | [], bin, e => by
    simp only [pickB, Option.some.injEq] at e
    subst e
    rfl
  | i :: r, bin, e => by
    unfold pickB at e
    split at e
    · rename_i B l hb hl
      injection e with e
      subst e
      simp [len, pickB_len hl]
    · cases e
theorem pickB_at {m : Nat → Option Nat} {h : List Blk} : ∀ {l : List Nat} {bin : List Blk} {j i : Nat}, pickB m h l = some bin → l[j]? = some i → ∃ B, nthB h i = some B ∧ nthB bin j = some (renB m B)
  | [], bin, j, i, e, hj => by simp at hj
  | x :: r, bin, j, i, e, hj => by
    unfold pickB at e
    split at e
    · rename_i B l hb hl
      injection e with e
      subst e
      cases j with
      | zero =>
        simp at hj
        subst hj
        exact ⟨B, hb, rfl⟩
      | succ j =>
        obtain ⟨C, h1, h2⟩ := pickB_at (j := j) hl (by simpa using hj)
        exact ⟨C, h1, by simpa [nthB] using h2⟩
    · cases e

theorem unfz_at : ∀ {bin : List Blk} {j sz ty : Nat} {els : List (List CV)}, unfz bin = true → nthB bin j = some (.arr sz ty true els) → False
  | [], _, _, _, _, _, e => by cases e
  | .arr _ _ true _ :: r, j, _, _, _, h, _ => by simp [unfz] at h
  | .arr _ _ false _ :: r, 0, _, _, _, _, e => by simp [nthB] at e
  | .arr _ _ false _ :: r, j + 1, _, _, _, h, e => unfz_at (bin := r) (j := j) (by simpa [unfz] using h) (by simpa [nthB] using e)
  | .box _ _ :: r, 0, _, _, _, _, e => by simp [nthB] at e
  | .tree _ _ _ _ :: r, 0, _, _, _, _, e => by simp [nthB] at e
  | .junk :: r, 0, _, _, _, _, e => by simp [nthB] at e
  | .tree _ _ _ _ :: r, j + 1, _, _, _, h, e => unfz_at (bin := r) (j := j) (by simpa [unfz] using h) (by simpa [nthB] using e)
  | .junk :: r, j + 1, _, _, _, h, e => unfz_at (bin := r) (j := j) (by simpa [unfz] using h) (by simpa [nthB] using e)
  | .box _ _ :: r, j + 1, _, _, _, h, e => unfz_at (bin := r) (j := j) (by simpa [unfz] using h) (by simpa [nthB] using e)

/-- A relation of numbers under which all that is told stays told. -/
structure Ren (m : Nat → Option Nat) (G G' : Gh) (w : World) : Prop where
  imm : ∀ b o, w.heap[b]? = some o → G.imm b → G'.imm b
  own : ∀ i j b, m i = some j → G.own b = some i → G'.own b = some j
  inf : ∀ i j r, m i = some j → G.inf i = some r → G'.inf j = some r
  top : ∀ i j b, m i = some j → G.own b = some i → (G'.top b ↔ G.top b)

section
variable {m : Nat → Option Nat} {G G' : Gh} {w : World}
theorem Ren.immw (h : Ren m G G' w) : ∀ b o, w.heap[b]? = some o → G.imm b → G'.imm b ∧ w.heap[b]? = some o := fun b o h1 h2 => ⟨h.imm b o h1 h2, h1⟩
theorem Ren.ownV (h : Ren m G G' w) {i j n : Nat} {v : Value} (hm : m i = some j) (r : OwnV G w i n v) : OwnV G' w j n v := by
  obtain ⟨sz, k, f, h1, h2, h3, h4⟩ := r
  refine ⟨sz, k, f, h.inf i j _ hm h1, h2, h3, ?_⟩
  rcases h4 with h4 | ⟨h4, h5 | ⟨b, c, cs, ty, h6, h7, h8⟩⟩
  · exact .inl h4
  · exact .inr ⟨h4, .inl h5⟩
  · exact .inr ⟨h4, .inr ⟨b, c, cs, ty, h6, ⟨h.own i j b hm h7.1, (h.top i j b hm h7.1).2 h7.2⟩, h8⟩⟩
theorem Ren.eptrV (h : Ren m G G' w) {i j n e o : Nat} {v : Value} (hm : m i = some j) (r : EptrV G w i n e o v) : EptrV G' w j n e o v := by
  obtain ⟨sz, k, f, h1, h3, h4⟩ := r
  refine ⟨sz, k, f, h.inf i j _ hm h1, h3, ?_⟩
  rcases h4 with h4 | ⟨h4, b, h6, h7⟩
  · exact .inl h4
  · exact .inr ⟨h4, b, h6, h.own i j b hm h7.1, (h.top i j b hm h7.1).2 h7.2⟩
mutual
theorem Reps.ren (h : Ren m G G' w) : ∀ (p : PV) (v : Value), Reps G w p v → Reps G' w (renP m p) v
  | .v c, v, r => by
    simp only [renP, Reps] at r ⊢
    exact RepC.mono h.immw c v r
  | .nil, v, r => by simpa only [renP, Reps] using r
  | .own i n, v, r => by
    simp only [Reps] at r
    simp only [renP]
    cases hm : m i with
    | none => simp only [Reps]
    | some j =>
      simp only [Reps]
      exact h.ownV hm r
  | .ptr i o, v, r => by
    simp only [Reps] at r
    simp only [renP]
    cases hm : m i with
    | none => simp only [Reps]
    | some j =>
      simp only [Reps]
      exact h.eptrV hm r
  | .eptr i n e o, v, r => by
    simp only [Reps] at r
    simp only [renP]
    cases hm : m i with
    | none => simp only [Reps]
    | some j =>
      simp only [Reps]
      exact h.eptrV hm r
  | .rptr cs, v, r => by
    simp only [renP, Reps] at r ⊢
    obtain ⟨b, o, vs, ty, fr, h1, h2, h3, h4⟩ := r
    exact ⟨b, o, vs, ty, fr, h1, h.imm b _ h3 h2, h3, RepP.mono h.immw cs _ h4⟩
  | .agg cs, v, r => by
    simp only [renP, Reps] at r ⊢
    obtain ⟨vs, h1, h2⟩ := r
    exact ⟨vs, h1, RepsL.ren h cs _ h2⟩
  | .tup cs, v, r => by
    simp only [renP, Reps] at r ⊢
    obtain ⟨vs, h1, h2⟩ := r
    exact ⟨vs, h1, RepsL.ren h cs _ h2⟩
  | .un, v, r => by simp only [renP, Reps]
theorem RepsL.ren (h : Ren m G G' w) : ∀ (l : List PV) (vs : List Value), RepsL G w l vs → RepsL G' w (renL m l) vs
  | [], vs, r => by simpa only [renL, RepsL] using r
  | p :: ps, vs, r => by
    simp only [renL, RepsL] at r ⊢
    obtain ⟨v, vs', h1, h2, h3⟩ := r
    exact ⟨v, vs', h1, Reps.ren h p v h2, RepsL.ren h ps vs' h3⟩
end
theorem renL_length (m : Nat → Option Nat) : ∀ l : List PV, (renL m l).length = l.length
  | [] => rfl
  | p :: r => by simp [renL, renL_length m r]
theorem RelB.ren (h : Ren m G G' w) {i j : Nat} (hm : m i = some j) (hinj : ∀ b, G'.own b = some j → G.own b = some i) : ∀ {B : Blk}, RelB G w i (some B) → RelB G' w j (some (renB m B))
  | .arr sz ty fz els, r => by
    obtain ⟨r1, r2, r3, r4⟩ := r
    refine ⟨h.inf i j _ hm r1, r2, fun b b' e e' => r3 b b' (hinj b e) (hinj b' e'), ?_⟩
    rcases r4 with ⟨a, b⟩ | ⟨b, cs, a1, a2, a3, a4⟩
    · exact .inl ⟨a, fun x e => b x (hinj x e)⟩
    · exact .inr ⟨b, cs, ⟨h.own i j b hm a1.1, (h.top i j b hm a1.1).2 a1.2⟩, a2, a3, RepE.mono h.immw sz els _ a4⟩
  | .box ty cs, r => by
    obtain ⟨r1, r2, b, vs, a1, a2, a3, a4⟩ := r
    refine ⟨by rw [renL_length]; exact h.inf i j _ hm r1, fun b b' e e' => r2 b b' (hinj b e) (hinj b' e'), b, vs, ⟨h.own i j b hm a1.1, (h.top i j b hm a1.1).2 a1.2⟩, a2, a3, RepsL.ren h cs _ a4⟩
  | .tree sz ty ty2 els, r => by
    obtain ⟨r1, r2, r3, r4⟩ := r
    have up : ∀ b, G'.own b = some j → G'.top b → G.own b = some i ∧ G.top b := fun b e1 e2 => by
      have := hinj b e1
      exact ⟨this, (h.top i j b hm this).1 e2⟩
    refine ⟨h.inf i j _ hm r1, r2, fun b b' e1 e2 e3 e4 => r3 b b' (up b e1 e2).1 (up b e1 e2).2 (up b' e3 e4).1 (up b' e3 e4).2, ?_⟩
    rcases r4 with ⟨a, b⟩ | ⟨b, cs, a1, a2, a3, a0, a4, a5⟩
    · exact .inl ⟨a, fun x e1 e2 => b x (up x e1 e2).1 (up x e1 e2).2⟩
    · refine .inr ⟨b, cs, ⟨h.own i j b hm a1.1, (h.top i j b hm a1.1).2 a1.2⟩, a2, a3, a0, TrP.mono (fun l v q => ?_) a4, a5⟩
      rcases q with q | ⟨b', c, cs', h1, h2, h3, h4⟩
      · exact .inl q
      · exact .inr ⟨b', c, cs', h1, h.own i j b' hm h2, fun ht => h3 ((h.top i j b' hm h2).1 ht), h4⟩
  | .junk, r => by
    obtain ⟨sz, n, r⟩ := r
    exact ⟨sz, n, h.inf i j _ hm r⟩
end

/-! ### the callee's numbers and the caller's -/
def Gh.callee (G : Gh) (w : World) (rf fs : List Nat) : Gh where
  base := w.heap.size
  old := fun b => G.imm b ∨ ∃ id ∈ fs, G.own b = some id
  own := fun b => (G.own b).bind (idx rf)
  inf := fun j => (rf[j]?).bind G.inf
  top := G.top

section
variable {G : Gh} {w : World} {rf fs : List Nat}
theorem callee_inv (hi : Inv G w) : Inv (G.callee w rf fs) w where
  base := Nat.le_refl _
  own := fun b j h => by
    simp only [Gh.callee] at h
    obtain ⟨i, h1, _⟩ := Option.bind_eq_some_iff.1 h
    exact hi.own b i h1
  top := hi.top
  gw := by
    obtain ⟨w0, g1, g2, g3⟩ := hi.gw
    exact ⟨w0, g1, g2, fun b hb => by simp only [Gh.callee, g3 b hb, Option.bind_none]⟩

theorem callee_imm (hi : Inv G w) (hf : ∀ id ∈ rf, ∀ sz n, G.inf id ≠ some (sz, n, true)) : ∀ b o, w.heap[b]? = some o → G.imm b → (G.callee w rf fs).imm b := by
  intro b o hb m
  have hlt : b < w.heap.size := (Array.getElem?_eq_some_iff.1 hb).1
  refine .inl ⟨hlt, ?_, .inl m⟩
  simp only [Gh.callee]
  rcases m with ⟨_, h, _⟩ | ⟨_, h⟩ | ⟨id, sz, n, h, h2⟩
  · rw [h]; rfl
  · rw [h]; rfl
  · rw [h, Option.bind_some]
    cases hx : idx rf id with
    | none => rfl
    | some j => exact absurd h2 (hf id (List.mem_of_getElem? (idx_some hx)) sz n)

theorem callee_ren (hi : Inv G w) (hf : ∀ id ∈ rf, ∀ sz n, G.inf id ≠ some (sz, n, true)) : Ren (idx rf) G (G.callee w rf fs) w where
  imm := callee_imm hi hf
  own := fun i j b h1 h2 => by simp only [Gh.callee]; rw [h2]; exact h1
  inf := fun i j r h1 h2 => by simp only [Gh.callee]; rw [idx_some h1]; exact h2
  top := fun _ _ _ _ _ => Iff.rfl

theorem callee_rel (hi : Inv G w) (hf : ∀ id ∈ rf, ∀ sz n, G.inf id ≠ some (sz, n, true)) (hn : nodup rf = true) {h bin : List Blk} (hp : pickB (idx rf) h rf = some bin) (hr : ∀ id ∈ rf, RelB G w id (nthB h id)) :
    ∀ j, RelB (G.callee w rf fs) w j (nthB bin j) := by
  intro j
  cases hj : rf[j]? with
  | none =>
    have hlen := pickB_len hp
    have hge : rf.length ≤ j := List.getElem?_eq_none_iff.1 hj
    rw [nthB_ge bin j (by omega)]
    refine ⟨by simp only [Gh.callee]; rw [hj]; rfl, fun b e => ?_⟩
    simp only [Gh.callee] at e
    obtain ⟨i, _, h2⟩ := Option.bind_eq_some_iff.1 e
    have := idx_some h2
    rw [hj] at this
    cases this
  | some i =>
    obtain ⟨B, h1, h2⟩ := pickB_at hp hj
    rw [h2]
    have r := hr i (List.mem_of_getElem? hj)
    rw [h1] at r
    refine RelB.ren (callee_ren hi hf) (idx_of hn hj) (fun b e => ?_) r
    simp only [Gh.callee] at e
    obtain ⟨i', h3, h4⟩ := Option.bind_eq_some_iff.1 e
    have := idx_some h4
    rw [hj] at this
    injection this with this
    subst this
    exact h3

def IsRow : Option Blk → Prop
  | some (.arr _ _ _ _) => True
  | some (.tree _ _ _ _) => True
  | _ => False
theorem tree_row {G : Gh} {w : World} {id n sz : Nat} {ty ty2 : TypeId} {els : List (List CV)} {v : Value} {I : Nat → Prop} (hb : ∀ b, G.own b = some id → I b)
    (r : RelB G w id (some (.tree sz ty ty2 els))) (hn : n = els.length) (p : Reps G w (.own id n) v) : RepC I w (.row els) v := by
  obtain ⟨r1, r2, r3, r4⟩ := r
  simp only [Reps] at p
  obtain ⟨sz', m, f, p1, _, _, p2⟩ := p
  rw [r1] at p1
  injection p1 with p1
  injection p1 with p1 p3
  injection p3 with p3 p4
  subst p1 p3
  simp only [RepC]
  rcases p2 with p2 | ⟨_, p2⟩
  · omega
  · rcases p2 with ⟨rfl, p2⟩ | ⟨b, c, cs, ty', rfl, p5, p6, p7, p8, p9⟩
    · have : els = [] := List.eq_nil_of_length_eq_zero (by omega)
      subst this
      exact ⟨none, 0, by simp, by simp, by simp [maxLen], .inl rfl⟩
    · refine ⟨some ⟨b, 0, none⟩, c, by rw [hn], by omega, Nat.le_trans (by omega) p9, ?_⟩
      rcases r4 with ⟨r5, r6⟩ | ⟨b', cs', r5, r6, r7, r0, r8, r9⟩
      · exact .inl r5
      · have := r3 b b' p5.1 p5.2 r5.1 r5.2
        subst this
        exact .inr ⟨b, 0, sz, cs', ty, (0, 0), rfl, hb b p5.1, r6, r2, by simpa using TrP.repE hb r0 r8⟩
theorem passC_ok {h : List Blk} {p : PV} {R : PV → List Nat → Prop} (hk : passC h rf p R) : ∃ q f, R q f ∧ (∀ id ∈ f, id ∉ rf ∧ IsRow (nthB h id)) ∧ ∀ (G : Gh) (w : World) (v : Value) (F : List Nat), Inv G w → (∀ id ∈ rf, ∀ sz n, G.inf id ≠ some (sz, n, true)) → Reps G w p v →
    (∀ id ∈ f, RelB G w id (nthB h id)) → (∀ id ∈ f, id ∈ F) → Reps (G.callee w rf F) w q v := by
  unfold passC at hk
  split at hk
  · rename_i c
    exact ⟨_, _, hk, (fun id hid => by cases hid), fun G w v F hi hf hr _ _ => Reps.ren (callee_ren hi hf) (.v c) v hr⟩
  · refine ⟨_, _, hk, (fun id hid => by cases hid), fun G w v F hi hf hr _ _ => ?_⟩
    simp only [Reps] at hr
    subst hr
    simp only [Reps, RepC]
    exact ⟨none, 0, by simp, by simp, by simp [maxLen], by simp⟩
  · rename_i i n
    cases hx : idx rf i with
    | some j =>
      rw [hx] at hk
      refine ⟨_, _, hk, (fun id hid => by cases hid), fun G w v F hi hf hr _ _ => ?_⟩
      have := Reps.ren (callee_ren (fs := F) hi hf) (.own i n) v hr
      simp only [renP, hx] at this
      exact this
    | none =>
      rw [hx] at hk
      simp only at hk
      split at hk
      · rename_i sz ty fz els hb
        obtain ⟨hn, hk⟩ := hk
        refine ⟨_, _, hk, fun id hid => ?_, fun G w v F hi hf hr hrel hF => ?_⟩
        · simp only [List.mem_singleton] at hid
          subst hid
          refine ⟨fun hm => ?_, by rw [hb]; trivial⟩
          obtain ⟨j, hj⟩ := idx_mem hm
          rw [hj] at hx
          cases hx
        have r := hrel i (by simp)
        rw [hb] at r
        simp only [Reps]
        refine own_row (callee_imm hi hf) (fun b hb' => ?_) r hn hr
        refine .inl ⟨hi.own b i hb', ?_, .inr ⟨i, hF i (by simp), hb'⟩⟩
        simp only [Gh.callee]
        rw [hb', Option.bind_some, hx]
      · rename_i sz ty ty2 els hb
        obtain ⟨hn, hk⟩ := hk
        refine ⟨_, _, hk, fun id hid => ?_, fun G w v F hi hf hr hrel hF => ?_⟩
        · simp only [List.mem_singleton] at hid
          subst hid
          refine ⟨fun hm => ?_, by rw [hb]; trivial⟩
          obtain ⟨j, hj⟩ := idx_mem hm
          rw [hj] at hx
          cases hx
        have r := hrel i (by simp)
        rw [hb] at r
        simp only [Reps]
        refine tree_row (fun b hb' => ?_) r hn hr
        refine .inl ⟨hi.own b i hb', ?_, .inr ⟨i, hF i (by simp), hb'⟩⟩
        simp only [Gh.callee]
        rw [hb', Option.bind_some, hx]
      · exact hk.elim
  · rename_i i o
    cases hx : idx rf i with
    | none => rw [hx] at hk; exact hk.elim
    | some j =>
      rw [hx] at hk
      refine ⟨_, _, hk, (fun id hid => by cases hid), fun G w v F hi hf hr _ _ => ?_⟩
      have := Reps.ren (callee_ren (fs := F) hi hf) (.ptr i o) v hr
      simp only [renP, hx] at this
      exact this
  · exact hk.elim

theorem passCs_ok {h : List Blk} : ∀ {ps : List PV} {R : List PV → List Nat → Prop}, passCs h rf ps R → ∃ qs f, R qs f ∧ (∀ id ∈ f, id ∉ rf ∧ IsRow (nthB h id)) ∧ ∀ (G : Gh) (w : World) (vs : List Value) (F : List Nat), Inv G w → (∀ id ∈ rf, ∀ sz n, G.inf id ≠ some (sz, n, true)) → RepsL G w ps vs →
    (∀ id ∈ f, RelB G w id (nthB h id)) → (∀ id ∈ f, id ∈ F) → RepsL (G.callee w rf F) w qs vs
  | [], R, hk => ⟨[], [], hk, (fun id hid => by cases hid), fun G w vs F _ _ hr _ _ => by simpa only [RepsL] using hr⟩
  | p :: r, R, hk => by
    simp only [passCs] at hk
    obtain ⟨q, f, hk, g1, h1⟩ := passC_ok hk
    obtain ⟨qs, fs, hk, g2, h2⟩ := passCs_ok hk
    refine ⟨_, _, hk, (fun id hid => (List.mem_append.1 hid).elim (g1 id) (g2 id)), fun G w vs F hi hf hr hrel hF => ?_⟩
    simp only [RepsL] at hr ⊢
    obtain ⟨v, vs', rfl, h3, h4⟩ := hr
    exact ⟨v, vs', rfl, h1 G w v F hi hf h3 (fun id hid => hrel id (List.mem_append_left _ hid)) (fun id hid => hF id (List.mem_append_left _ hid)),
      h2 G w vs' F hi hf h4 (fun id hid => hrel id (List.mem_append_right _ hid)) (fun id hid => hF id (List.mem_append_right _ hid))⟩

theorem passA_ok {h : List Blk} : ∀ {ps : List PV} {R : List PV → List Nat → Prop}, passA h rf ps R → ∃ qs f, R qs f ∧ (∀ id ∈ f, id ∉ rf ∧ IsRow (nthB h id)) ∧ ∀ (G : Gh) (w : World) (vs : List Value) (F : List Nat), Inv G w → (∀ id ∈ rf, ∀ sz n, G.inf id ≠ some (sz, n, true)) → RepsL G w ps vs →
    (∀ id ∈ f, RelB G w id (nthB h id)) → (∀ id ∈ f, id ∈ F) → RepsL (G.callee w rf F) w qs vs
  | [], R, hk => ⟨[], [], hk, (fun id hid => by cases hid), fun G w vs F _ _ hr _ _ => by simpa only [RepsL] using hr⟩
  | p :: r, R, hk => by
    have one : passC h rf p (fun q f => passA h rf r fun qs fs => R (q :: qs) (f ++ fs)) → ∃ qs f, R qs f ∧ (∀ id ∈ f, id ∉ rf ∧ IsRow (nthB h id)) ∧ ∀ (G : Gh) (w : World) (vs : List Value) (F : List Nat), Inv G w → (∀ id ∈ rf, ∀ sz n, G.inf id ≠ some (sz, n, true)) → RepsL G w (p :: r) vs →
        (∀ id ∈ f, RelB G w id (nthB h id)) → (∀ id ∈ f, id ∈ F) → RepsL (G.callee w rf F) w qs vs := fun hk => by
      obtain ⟨q, f, hk, g1, h1⟩ := passC_ok hk
      obtain ⟨qs, fs, hk, g2, h2⟩ := passA_ok hk
      refine ⟨_, _, hk, (fun id hid => (List.mem_append.1 hid).elim (g1 id) (g2 id)), fun G w vs F hi hf hr hrel hF => ?_⟩
      simp only [RepsL] at hr ⊢
      obtain ⟨v, vs', rfl, h3, h4⟩ := hr
      exact ⟨v, vs', rfl, h1 G w v F hi hf h3 (fun id hid => hrel id (List.mem_append_left _ hid)) (fun id hid => hF id (List.mem_append_left _ hid)),
        h2 G w vs' F hi hf h4 (fun id hid => hrel id (List.mem_append_right _ hid)) (fun id hid => hF id (List.mem_append_right _ hid))⟩
    cases p with
    | agg cs =>
      simp only [passA] at hk
      obtain ⟨q, f, hk, g1, h1⟩ := passCs_ok hk
      obtain ⟨qs, fs, hk, g2, h2⟩ := passA_ok hk
      refine ⟨_, _, hk, (fun id hid => (List.mem_append.1 hid).elim (g1 id) (g2 id)), fun G w vs F hi hf hr hrel hF => ?_⟩
      simp only [RepsL] at hr ⊢
      obtain ⟨v, vs', rfl, h3, h4⟩ := hr
      simp only [Reps] at h3
      obtain ⟨us, rfl, h5⟩ := h3
      refine ⟨_, vs', rfl, ?_, h2 G w vs' F hi hf h4 (fun id hid => hrel id (List.mem_append_right _ hid)) (fun id hid => hF id (List.mem_append_right _ hid))⟩
      simp only [Reps]
      exact ⟨us, rfl, h1 G w _ F hi hf h5 (fun id hid => hrel id (List.mem_append_left _ hid)) (fun id hid => hF id (List.mem_append_left _ hid))⟩
    | _ =>
      simp only [passA] at hk
      exact one hk
end
end Go.Proofs.Ytkpcieenikmbmaa.E

/- A call comes to what is told of it: back in the caller. -/
namespace Go.Proofs.Ytkpcieenikmbmaa.E
open Go Go.RowKit Go.Proofs.YtkpcieenikmbmaaW.PrintWords
set_option linter.unusedVariables false
set_option linter.unusedSimpArgs false

def Gh.back (G Gc : Gh) (w : World) (rf fz : List Nat) (m k : Nat) : Gh where
  base := G.base
  old := G.old
  own := fun b => match Gc.own b with
    | some j => backId rf m j
    | none => if b < w.heap.size ∧ (G.own b).bind (idx rf) = none then G.own b else none
  inf := fun i => match idx rf i with
    | some j => Gc.inf j
    | none => if m ≤ i ∧ i < m + k then Gc.inf (len rf + (i - m)) else if i ∈ fz then (G.inf i).map (fun r => (r.1, r.2.1, true)) else G.inf i
  top := fun b => match Gc.own b with
    | some _ => Gc.top b
    | none => G.top b

theorem mem_range' : ∀ (n m x : Nat), x ∈ range' m n ↔ m ≤ x ∧ x < m + n
  | 0, m, x => by
    simp [range']
    try omega
  | n + 1, m, x => by
    simp only [range', List.mem_cons, mem_range' n (m + 1) x]
    omega

theorem putBs_len (μ : Nat → Option Nat) : ∀ (rf : List Nat) (h bl : List Blk), rf.length ≤ bl.length → (putBs h μ rf bl).length = h.length + (bl.length - rf.length)
  | [], h, bl, _ => by cases bl <;> simp [putBs]
  | i :: r, h, [], hl => by simp at hl
  | i :: r, h, B :: l, hl => by
    simp only [putBs]
    rw [putBs_len μ r _ l (by simpa using hl)]
    have := len_putB h i (renB μ B)
    rw [len_eq, len_eq] at this
    rw [this]
    simp
theorem nthB_eq : ∀ (h : List Blk) (i : Nat), nthB h i = h[i]?
  | [], _ => rfl
  | _ :: _, 0 => rfl
  | _ :: r, n + 1 => by simpa [nthB] using nthB_eq r n
theorem putBs_out (μ : Nat → Option Nat) : ∀ (rf : List Nat) (h bl : List Blk) (x : Nat), rf.length ≤ bl.length → x ∉ rf → x < h.length → nthB (putBs h μ rf bl) x = nthB h x
  | [], h, bl, x, _, _, hx => by
    have : putBs h μ [] bl = h ++ bl.map (renB μ) := by cases bl <;> rfl
    rw [this]
    exact nthB_append h _ x (by rw [len_eq]; exact hx)
  | i :: r, h, [], x, hl, _, _ => by simp at hl
  | i :: r, h, B :: l, x, hl, hn, hx => by
    simp only [List.mem_cons, not_or] at hn
    simp only [putBs]
    have h1 := len_putB h i (renB μ B)
    rw [len_eq, len_eq] at h1
    rw [putBs_out μ r _ l x (by simpa using hl) hn.2 (by omega)]
    exact nthB_putB_ne h i x _ hn.1
theorem putBs_ref (μ : Nat → Option Nat) : ∀ (rf : List Nat) (h bl : List Blk) (j i : Nat) (B : Blk), rf.length ≤ bl.length → nodup rf = true → (∀ x ∈ rf, x < h.length) → rf[j]? = some i → nthB bl j = some B → nthB (putBs h μ rf bl) i = some (renB μ B)
  | [], h, bl, j, i, B, _, _, _, hj, _ => by simp at hj
  | x :: r, h, [], j, i, B, hl, _, _, _, _ => by simp at hl
  | x :: r, h, C :: l, 0, i, B, hl, hn, hx, hj, hB => by
    simp only [nodup, Bool.and_eq_true, Bool.not_eq_true', List.contains_eq_mem, decide_eq_false_iff_not] at hn
    simp at hj
    subst hj
    simp only [nthB, Option.some.injEq] at hB
    subst hB
    simp only [putBs]
    have h1 := len_putB h x (renB μ C)
    rw [len_eq, len_eq] at h1
    have h2 := hx x (by simp)
    rw [putBs_out μ r _ l x (by simpa using hl) hn.1 (by omega)]
    have h3 : ∃ D, nthB h x = some D := ⟨h[x], by rw [nthB_eq]; simp [h2]⟩
    obtain ⟨D, h3⟩ := h3
    exact nthB_putB_same _ h3
  | x :: r, h, C :: l, j + 1, i, B, hl, hn, hx, hj, hB => by
    simp only [nodup, Bool.and_eq_true] at hn
    simp only [putBs]
    have h1 := len_putB h x (renB μ C)
    rw [len_eq, len_eq] at h1
    exact putBs_ref μ r _ l j i B (by simpa using hl) hn.2 (fun y hy => by rw [h1]; exact hx y (by simp [hy])) (by simpa using hj) hB
theorem putBs_new (μ : Nat → Option Nat) : ∀ (rf : List Nat) (h bl : List Blk) (x : Nat) (B : Blk), rf.length ≤ bl.length → h.length ≤ x → nthB bl (rf.length + (x - h.length)) = some B → nthB (putBs h μ rf bl) x = some (renB μ B)
  | [], h, bl, x, B, _, hx, hB => by
    have : putBs h μ [] bl = h ++ bl.map (renB μ) := by cases bl <;> rfl
    rw [this, nthB_eq, List.getElem?_append_right hx, List.getElem?_map]
    rw [nthB_eq] at hB
    simp only [List.length_nil, Nat.zero_add] at hB
    rw [hB]
    rfl
  | i :: r, h, [], x, B, hl, _, _ => by simp at hl
  | i :: r, h, C :: l, x, B, hl, hx, hB => by
    simp only [putBs]
    have h1 := len_putB h i (renB μ C)
    rw [len_eq, len_eq] at h1
    refine putBs_new μ r _ l x B (by simpa using hl) (by omega) ?_
    rw [h1]
    have e : (i :: r).length + (x - h.length) = (r.length + (x - h.length)) + 1 := by simp; omega
    rw [e] at hB
    simpa [nthB] using hB

section
variable {G Gc : Gh} {w w' : World} {rf fs fz ids : List Nat} {h bin bl : List Blk} {m k : Nat}

theorem back_ext (hi : Inv G w) (hn : nodup rf = true) (hm : ∀ x ∈ rf, x < m) (hf : ∀ id ∈ rf, ∀ sz n, G.inf id ≠ some (sz, n, true)) (hfz : ∀ x ∈ fz, x ∉ rf) (hnew : ∀ i, m ≤ i → i < m + k → G.inf i = none ∧ ∀ b, G.own b ≠ some i)
    (hk : ∀ j, rf.length + k ≤ j → ∀ b, Gc.own b ≠ some j)
    (X : Ext ids (G.callee w rf fs) w Gc w') : Ext (rf ++ fz ++ range' m k) G w (G.back Gc w rf fz m k) w' := by
  have cown : ∀ b, (G.callee w rf fs).own b = (G.own b).bind (idx rf) := fun _ => rfl
  have hbk : ∀ {i j}, idx rf i = some j → backId rf m j = some i := fun {i j} hx => by
    unfold backId
    rw [idx_some hx]
  have hfar : ∀ b id, G.own b = some id → id ∉ rf → (G.callee w rf fs).own b = none := fun b id h0 hid => by
    rw [cown, h0, Option.bind_some]
    cases hx : idx rf id with
    | none => rfl
    | some j => exact absurd (List.mem_of_getElem? (idx_some hx)) hid
  have hkeep : ∀ b id, G.own b = some id → id ∉ rf → (G.back Gc w rf fz m k).own b = some id ∧ w'.heap[b]? = w.heap[b]? := fun b id h0 hid => by
    have hlt := hi.own b id h0
    have h1 := hfar b id h0 hid
    obtain ⟨h2, h3⟩ := X.nn b hlt h1
    refine ⟨?_, h3⟩
    simp only [Gh.back]
    rw [h2]
    simp only
    rw [if_pos ⟨hlt, by rw [← cown]; exact h1⟩]
    exact h0
  have hidx : ∀ {i}, i ∉ rf → idx rf i = none := fun {i} hid => by
    cases hx : idx rf i with
    | none => rfl
    | some j => exact absurd (List.mem_of_getElem? (idx_some hx)) hid
  constructor
  · exact X.os
  · exact X.tape
  · exact X.output
  · exact X.size
  · rfl
  · rfl
  · intro b hb h0
    have h1 : (G.callee w rf fs).own b = none := by rw [cown, h0]; rfl
    obtain ⟨h2, h3⟩ := X.nn b hb h1
    refine ⟨?_, h3⟩
    simp only [Gh.back]
    rw [h2]
    simp only
    rw [if_pos ⟨hb, by rw [← cown]; exact h1⟩]
    exact h0
  · intro b id h0
    by_cases hid : id ∈ rf
    · refine ⟨fun hx => absurd (by simp [hid]) hx, ?_⟩
      obtain ⟨j, hj⟩ := idx_mem hid
      have h1 : (G.callee w rf fs).own b = some j := by rw [cown, h0]; exact hj
      rcases (X.sm b j h1).2 with h2 | h2 | ⟨_, j2, g2, g3, g4⟩
      · left
        simp only [Gh.back]
        rw [h2]
        exact hbk hj
      · right; left
        simp only [Gh.back]
        rw [h2]
        simp only
        rw [if_neg]
        intro hx
        rw [← cown, h1] at hx
        cases hx.2
      · right; right
        refine ⟨by simp [hid], ?_⟩
        have e1 : (G.back Gc w rf fz m k).own b = backId rf m j2 := by simp only [Gh.back]; rw [g3]
        have e2 : ¬ (G.back Gc w rf fz m k).top b := by simp only [Gh.back]; rw [g3]; exact g4
        cases hj2 : rf[j2]? with
        | some i2 => exact ⟨i2, by simp [List.mem_of_getElem? hj2], by rw [e1]; unfold backId; rw [hj2], e2⟩
        | none =>
          have hge : rf.length ≤ j2 := List.getElem?_eq_none_iff.1 hj2
          have hjk : j2 < rf.length + k := by
            rcases Nat.lt_or_ge j2 (rf.length + k) with h' | h'
            · exact h'
            · exact absurd g3 (hk j2 h' b)
          refine ⟨m + (j2 - len rf), ?_, by rw [e1]; unfold backId; rw [hj2], e2⟩
          rw [len_eq]
          simp only [List.mem_append, mem_range']
          right
          omega
    · obtain ⟨a, b⟩ := hkeep b id h0 hid
      exact ⟨fun _ => ⟨a, b⟩, .inl a⟩
  · intro b id cs ty h0 h1 hinf hc
    by_cases hid : id ∈ rf
    · obtain ⟨j, hj⟩ := idx_mem hid
      have h2 : (G.callee w rf fs).own b = some j := by rw [cown, h0]; exact hj
      obtain ⟨sz, n, f, f', i1, i2⟩ := hinf
      have h3 : Gc.own b = some j := by
        have q1 : (G.callee w rf fs).inf j = some (sz, n, f) := by simp only [Gh.callee]; rw [idx_some hj]; exact i1
        have q2 : Gc.inf j = some (sz, n, f') := by
          simp only [Gh.back] at i2
          rw [hj] at i2
          exact i2
        obtain ⟨n', f2, a1, a2, a3, a4⟩ := X.inf j sz n f q1
        rw [q2] at a1
        injection a1 with a1
        injection a1 with _ a1
        injection a1 with a1 _
        exact a4 a1.symm b h2
      refine X.same b j cs ty h2 h3 ⟨sz, n, f, f', ?_, ?_⟩ hc
      · simp only [Gh.callee]
        rw [idx_some hj]
        exact i1
      · simp only [Gh.back] at i2
        rw [hj] at i2
        exact i2
    · exact ⟨cs, (hkeep b id h0 hid).2.trans hc, rfl⟩
  · intro b id sz n h0 hfr
    have hid : id ∉ rf := fun hid => hf id hid sz n hfr
    exact hkeep b id h0 hid
  · intro id sz n f hinf
    by_cases hid : id ∈ rf
    · obtain ⟨j, hj⟩ := idx_mem hid
      have h1 : (G.callee w rf fs).inf j = some (sz, n, f) := by simp only [Gh.callee]; rw [idx_some hj]; exact hinf
      obtain ⟨n', f', a1, a2, a3, a4⟩ := X.inf j sz n f h1
      refine ⟨n', f', by simp only [Gh.back]; rw [hj]; exact a1, a2, a3, fun e b hb => ?_⟩
      have h2 : (G.callee w rf fs).own b = some j := by rw [cown, hb]; exact hj
      have h3 := a4 e b h2
      simp only [Gh.back]
      rw [h3]
      exact hbk hj
    · by_cases hr : m ≤ id ∧ id < m + k
      · rw [(hnew id hr.1 hr.2).1] at hinf
        cases hinf
      · by_cases hz : id ∈ fz
        · refine ⟨n, true, ?_, Nat.le_refl _, fun _ => ⟨rfl, rfl⟩, fun _ b hb => (hkeep b id hb hid).1⟩
          simp only [Gh.back]
          rw [hidx hid]
          simp only
          rw [if_neg hr, if_pos hz, hinf]
          rfl
        · refine ⟨n, f, ?_, Nat.le_refl _, fun e => ⟨e, rfl⟩, fun _ b hb => (hkeep b id hb hid).1⟩
          simp only [Gh.back]
          rw [hidx hid]
          simp only
          rw [if_neg hr, if_neg hz, hinf]
  · intro id hx
    simp only [List.mem_append, not_or, mem_range'] at hx
    simp only [Gh.back]
    rw [hidx hx.1.1]
    simp only
    rw [if_neg hx.2, if_neg hx.1.2]
  · intro b id hb h1
    simp only [Gh.back] at h1
    cases hc : Gc.own b with
    | none =>
      rw [hc] at h1
      simp only at h1
      rw [if_neg (fun hx => by omega)] at h1
      cases h1
    | some j =>
      rw [hc] at h1
      simp only [backId] at h1
      cases hj : rf[j]? with
      | some i =>
        rw [hj] at h1
        injection h1 with h1
        subst h1
        simp [List.mem_of_getElem? hj]
      | none =>
        rw [hj] at h1
        injection h1 with h1
        subst h1
        have hge : rf.length ≤ j := List.getElem?_eq_none_iff.1 hj
        have hjk : j < rf.length + k := by
          rcases Nat.lt_or_ge j (rf.length + k) with h' | h'
          · exact h'
          · exact absurd hc (hk j h' b)
        rw [len_eq]
        simp only [List.mem_append, mem_range']
        right
        omega
  · intro b id h1
    simp only [Gh.back] at h1
    cases hc : Gc.own b with
    | some j => exact X.keep b j hc
    | none =>
      rw [hc] at h1
      simp only at h1
      split at h1
      · rename_i hx
        exact Nat.lt_of_lt_of_le hx.1 X.size
      · cases h1
  · intro b id h0 h1 hinf ht
    by_cases hid : id ∈ rf
    · obtain ⟨j, hj⟩ := idx_mem hid
      have h2 : (G.callee w rf fs).own b = some j := by rw [cown, h0]; exact hj
      obtain ⟨sz, n, f, f', i1, i2⟩ := hinf
      have q1 : (G.callee w rf fs).inf j = some (sz, n, f) := by simp only [Gh.callee]; rw [idx_some hj]; exact i1
      have q2 : Gc.inf j = some (sz, n, f') := by
        simp only [Gh.back] at i2
        rw [hj] at i2
        exact i2
      have h3 : Gc.own b = some j := by
        obtain ⟨n', f2, a1, a2, a3, a4⟩ := X.inf j sz n f q1
        rw [q2] at a1
        injection a1 with a1
        injection a1 with _ a1
        injection a1 with a1 _
        exact a4 a1.symm b h2
      simp only [Gh.back]
      rw [h3]
      exact X.tp b j h2 h3 ⟨sz, n, f, f', q1, q2⟩ ht
    · have h3 := (X.nn b (hi.own b id h0) (hfar b id h0 hid)).1
      simp only [Gh.back]
      rw [h3]
      exact ht
  · intro b h0 ht h1
    simp only [Gh.back]
    cases hc : Gc.own b with
    | none => exact ht
    | some j =>
      simp only
      cases ho : G.own b with
      | none => exact absurd ho h0
      | some id =>
        have hlt := hi.own b id ho
        refine X.nt b (fun e => ?_) ht (by rw [hc]; simp)
        rw [(X.nn b hlt e).1] at hc
        cases hc
  · intro b hb
    have hc : Gc.own b = none := by
      cases hc : Gc.own b with
      | none => rfl
      | some j => exact absurd (X.keep b j hc) (by omega)
    simp only [Gh.back]
    rw [hc]
    exact hi.top b (Nat.le_trans X.size hb)

theorem back_inf (hn : nodup rf = true) (hm : ∀ x ∈ rf, x < m) (hk : ∀ j, rf.length + k ≤ j → Gc.inf j = none) : ∀ j i r, backId rf m j = some i → Gc.inf j = some r → (G.back Gc w rf fz m k).inf i = some r := by
  intro j i r h1 h2
  simp only [backId] at h1
  simp only [Gh.back]
  cases hj : rf[j]? with
  | some x =>
    rw [hj] at h1
    injection h1 with h1
    subst h1
    rw [idx_of hn hj]
    exact h2
  | none =>
    rw [hj] at h1
    injection h1 with h1
    subst h1
    have hge : rf.length ≤ j := List.getElem?_eq_none_iff.1 hj
    rw [len_eq]
    have hno : idx rf (m + (j - rf.length)) = none := by
      cases hx : idx rf (m + (j - rf.length)) with
      | none => rfl
      | some q => exact absurd (hm _ (List.mem_of_getElem? (idx_some hx))) (by omega)
    have hjk : j < rf.length + k := by
      rcases Nat.lt_or_ge j (rf.length + k) with h' | h'
      · exact h'
      · rw [hk j h'] at h2
        cases h2
    rw [hno]
    simp only
    rw [if_pos ⟨by omega, by omega⟩, show rf.length + (m + (j - rf.length) - m) = j by omega]
    exact h2

theorem back_ren (hi : Inv G w) (hf : ∀ id ∈ rf, ∀ sz n, G.inf id ≠ some (sz, n, true)) (hn : nodup rf = true) (hm : ∀ x ∈ rf, x < m) (hfz : ∀ x ∈ fz, x ∉ rf) (hfs : ∀ x ∈ fs, x ∉ rf) (hnf : ∀ x ∈ fs, ¬ (m ≤ x ∧ x < m + k)) (hlive : ∀ x ∈ fs, ∃ r, G.inf x = some r)
    (hk : ∀ j, rf.length + k ≤ j → Gc.inf j = none) (X : Ext ids (G.callee w rf fs) w Gc w') (hXX : Ext (rf ++ fz ++ range' m k) G w (G.back Gc w rf fz m k) w') (hsub : ∀ x ∈ fs, x ∈ fz) :
    Ren (backId rf m) Gc (G.back Gc w rf fz m k) w' where
  imm := fun b o hb mm => by
    rcases mm with ⟨h1, h2, h3⟩ | ⟨h1, h2⟩ | ⟨j, sz, n, h1, h2⟩
    · rw [X.base] at h1
      rw [X.old] at h3
      have hlt : b < w.heap.size := h1
      have hcn : (G.own b).bind (idx rf) = none := by
        cases hx : (G.callee w rf fs).own b with
        | none => exact hx
        | some j =>
          have hx' : (G.own b).bind (idx rf) = some j := hx
          obtain ⟨id, q1, q2⟩ := Option.bind_eq_some_iff.1 hx'
          rcases h3 with h3 | ⟨id, hid, h3⟩
          · exfalso
            rcases h3 with ⟨_, h3, _⟩ | ⟨_, h3⟩ | ⟨id', sz, n, h3, h4⟩
            · rw [h3] at q1; cases q1
            · rw [h3] at q1; cases q1
            · rw [h3] at q1
              injection q1 with q1
              subst q1
              exact hf _ (List.mem_of_getElem? (idx_some q2)) sz n h4
          · exfalso
            have : (G.own b).bind (idx rf) = some j := hx
            rw [h3, Option.bind_some] at this
            exact hfs id hid (List.mem_of_getElem? (idx_some this))
      obtain ⟨a1, a2⟩ := X.nn b hlt hcn
      rcases h3 with h3 | ⟨id, hid, h3⟩
      · exact (imm_ext hXX hi (a2 ▸ hb) h3).1
      · refine .inr (.inr ?_)
        obtain ⟨r, hr⟩ := hlive id hid
        refine ⟨id, r.1, r.2.1, ?_, ?_⟩
        · simp only [Gh.back]
          rw [h2]
          simp only
          rw [if_pos ⟨hlt, hcn⟩]
          exact h3
        · simp only [Gh.back]
          have : idx rf id = none := by
            cases hx : idx rf id with
            | none => rfl
            | some j => exact absurd (List.mem_of_getElem? (idx_some hx)) (hfs id hid)
          rw [this]
          simp only
          rw [if_neg (hnf id hid), if_pos (hsub id hid), hr]
          rfl
    · rw [X.base] at h1
      have h1' : w.heap.size ≤ b := h1
      refine .inr (.inl ⟨?_, ?_⟩)
      · have := hi.base
        show G.base ≤ b
        omega
      · simp only [Gh.back]
        rw [h2]
        simp only
        rw [if_neg (fun hx => by omega)]
    · have hb' : ∃ i, backId rf m j = some i := by
        unfold backId
        cases rf[j]? <;> exact ⟨_, rfl⟩
      obtain ⟨i, hi'⟩ := hb'
      refine .inr (.inr ⟨i, sz, n, ?_, back_inf hn hm hk j i _ hi' h2⟩)
      simp only [Gh.back]
      rw [h1]
      exact hi'
  own := fun i j b h1 h2 => by
    simp only [Gh.back]
    rw [h2]
    exact h1
  inf := fun j i r h1 h2 => back_inf hn hm hk j i r h1 h2
  top := fun i j b h1 h2 => by simp only [Gh.back]; rw [h2]

theorem back_far (hi : Inv G w) (hm : ∀ x ∈ rf, x < m) {id : Nat} (hid : id ∉ rf) (hlt : id < m) (X : Ext ids (G.callee w rf fs) w Gc w') (b : Nat) : ((G.back Gc w rf fz m k).own b = some id ↔ G.own b = some id) ∧ (G.own b = some id → w'.heap[b]? = w.heap[b]?) := by
  have hcn : G.own b = some id → (G.callee w rf fs).own b = none := fun h0 => by
    show (G.own b).bind (idx rf) = none
    rw [h0, Option.bind_some]
    cases hx : idx rf id with
    | none => rfl
    | some j => exact absurd (List.mem_of_getElem? (idx_some hx)) hid
  refine ⟨⟨fun h1 => ?_, fun h0 => ?_⟩, fun h0 => (X.nn b (hi.own b id h0) (hcn h0)).2⟩
  · simp only [Gh.back] at h1
    cases hc : Gc.own b with
    | some j =>
      rw [hc] at h1
      simp only [backId] at h1
      cases hj : rf[j]? with
      | some i =>
        rw [hj] at h1
        injection h1 with h1
        subst h1
        exact absurd (List.mem_of_getElem? hj) hid
      | none =>
        rw [hj] at h1
        injection h1 with h1
        omega
    | none =>
      rw [hc] at h1
      simp only at h1
      split at h1
      · exact h1
      · cases h1
  · have hb := hi.own b id h0
    simp only [Gh.back]
    rw [(X.nn b hb (hcn h0)).1]
    simp only
    rw [if_pos ⟨hb, hcn h0⟩]
    exact h0

theorem noRow_cells {G1 G2 : Gh} {w1 w2 : World} {μ : Nat → Option Nat} {D : PV → Bool} (hD : ∀ c v, D c = true → Reps G1 w1 c v → Reps G2 w2 (renP μ c) v) : ∀ (l : List PV) (vs : List Value), l.all D = true → RepsL G1 w1 l vs → RepsL G2 w2 (renL μ l) vs
  | [], vs, _, h => by simpa only [renL, RepsL] using h
  | p :: r, vs, hb, h => by
    simp only [List.all_cons, Bool.and_eq_true] at hb
    simp only [renL, RepsL] at h ⊢
    obtain ⟨v, vs', h1, h2, h3⟩ := h
    exact ⟨v, vs', h1, hD p v hb.1 h2, noRow_cells hD r vs' hb.2 h3⟩
theorem noRow_v {G1 G2 : Gh} {w1 w2 : World} {μ : Nat → Option Nat} : ∀ (c : PV) (v : Value), noRow1 c = true → Reps G1 w1 c v → Reps G2 w2 (renP μ c) v
  | .v (.b x), v, _, h => by simpa only [renP, Reps, RepC] using h
  | .v (.i k x), v, _, h => by simpa only [renP, Reps, RepC] using h
  | .v (.s x), v, _, h => by simpa only [renP, Reps, RepC] using h
theorem noRow_2 {G1 G2 : Gh} {w1 w2 : World} {μ : Nat → Option Nat} (c : PV) (v : Value) (hb : noRow2 c = true) (h : Reps G1 w1 c v) : Reps G2 w2 (renP μ c) v := by
  cases c with
  | agg cs =>
    simp only [Reps] at h
    obtain ⟨vs, h1, h2⟩ := h
    simp only [renP, Reps]
    exact ⟨vs, h1, noRow_cells noRow_v cs _ hb h2⟩
  | _ => exact noRow_v _ v hb h
theorem noRow_rep {G1 G2 : Gh} {w1 w2 : World} {μ : Nat → Option Nat} {r : PV} {v : Value} (hb : hasNoRow r = true) (h : Reps G1 w1 r v) : Reps G2 w2 (renP μ r) v := by
  cases r with
  | tup cs =>
    simp only [Reps] at h
    obtain ⟨vs, h1, h2⟩ := h
    simp only [renP, Reps]
    exact ⟨vs, h1, noRow_cells noRow_2 cs _ hb h2⟩
  | _ => exact noRow_2 _ v hb h
end

theorem arrs_at {h : List Blk} : ∀ {l : List Nat} {id sz ty ty2 : Nat} {els : List (List CV)}, arrs h l = true → id ∈ l → nthB h id = some (.tree sz ty ty2 els) → False
  | [], _, _, _, _, _, _, hid, _ => by cases hid
  | x :: r, id, sz, ty, ty2, els, ha, hid, hb => by
    unfold arrs at ha
    rcases List.mem_cons.1 hid with rfl | hid
    · rw [hb] at ha
      cases ha
    · split at ha
      · exact arrs_at ha hid hb
      · cases ha
theorem goX_ok {E : Env} {h : List Blk} {K : Kont} {f : FuncId} {args : List PV} {rf : List Nat} (hk : aGoX E h f args rf K) : ∃ q h' rd wr, K q h' rd wr ∧ Keeps h h' wr ∧ len h ≤ len h' ∧ (∀ (as_ : Array Value) (w : World), (callFunc f as_).run E.P w = .ok (.enter f as_) w) ∧
    ∀ (G : Gh) (w : World) (vals : Array Value), Inv G w → RepsL G w args vals.toList → (∀ id, id ∈ rd ∨ id ∈ wr → RelB G w id (nthB h id)) →
      Calls E.P f vals w fun e w' => ∃ v G', e = .returned v ∧ Ext wr G w G' w' ∧ Reps G' w' q v ∧ ∀ id ∈ wr, RelB G' w' id (nthB h' id) := by
  unfold aGoX at hk
  rw [backL_eq] at hk
  split at hk
  · exact hk.elim
  rename_i bin hp
  cases hnu : (nodup rf && unfz bin) with
  | false => rw [hnu] at hk; exact hk.elim
  | true =>
  rw [hnu, cond_true] at hk
  rw [Bool.and_eq_true] at hnu
  obtain ⟨hn, hu⟩ := hnu
  obtain ⟨as_, fs, ⟨r, bl, hS, hk⟩, hfs, hpass⟩ := passA_ok hk
  generalize hfz : cond (hasNoRow r && Nat.beq (len bl) 0) [] fs = fz at hk
  dsimp only at hk
  cases hcl : ((fz.all fun x => !(rf.contains x)) && Nat.ble (len rf) (len bl) && arrs h fz) with
  | false => rw [hcl] at hk; exact hk.elim
  | true =>
  rw [hcl, cond_true] at hk
  rw [Bool.and_eq_true, Bool.and_eq_true] at hcl
  obtain ⟨⟨hck, hlen⟩, harr⟩ := hcl
  replace hlen := Nat.le_of_ble_eq_true hlen
  rw [len_eq, len_eq] at hlen
  have hm : ∀ x ∈ rf, x < len h := fun x hx => by
    obtain ⟨j, hj⟩ := idx_mem hx
    obtain ⟨B, h1, _⟩ := pickB_at hp (idx_some hj)
    exact nthB_lt h1
  have hfr : ∀ x ∈ fz, x ∉ rf := fun x hx => by
    have := List.all_eq_true.1 hck x hx
    simpa using this
  have hsub : fz = fs ∨ (fz = [] ∧ hasNoRow r = true ∧ bl = []) := by
    cases hb : (hasNoRow r && Nat.beq (len bl) 0) with
    | false => rw [hb] at hfz; exact .inl hfz.symm
    | true =>
      rw [hb] at hfz
      rw [Bool.and_eq_true] at hb
      have := Nat.eq_of_beq_eq_true hb.2
      rw [len_eq] at this
      exact .inr ⟨hfz.symm, hb.1, List.eq_nil_of_length_eq_zero this⟩
  have hfzs : ∀ x ∈ fz, x ∈ fs := fun x hx => by
    rcases hsub with e | ⟨e, _⟩
    · rw [← e]; exact hx
    · rw [e] at hx; cases hx
  have hlenh : (putBs (frz fz h) (backId rf (len h)) rf bl).length = (frz fz h).length + (bl.length - rf.length) := putBs_len _ _ _ _ hlen
  have hfl : (frz fz h).length = h.length := by have := len_frz fz h; rw [len_eq, len_eq] at this; exact this
  have hfslt : ∀ x ∈ fs, x < len h := fun x hx => by
    have a := (hfs x hx).2
    cases hb : nthB h x with
    | none => rw [hb] at a; exact a.elim
    | some B => exact nthB_lt hb
  refine ⟨_, _, _, _, hk, fun x hx => ?_, by rw [len_eq (putBs _ _ _ _), hlenh, hfl, ← len_eq]; omega, hS.1, fun G w vals hi hargs hrel => ?_⟩
  · simp only [List.mem_append, not_or, mem_range', len_eq] at hx
    rcases Nat.lt_or_ge x h.length with hlt | hge
    · rw [putBs_out _ _ _ _ x hlen hx.1.1 (by rw [hfl]; exact hlt), nthB_frz, if_neg hx.1.2]
    · rw [nthB_ge h x (by rw [len_eq]; exact hge), nthB_ge]
      rw [len_eq, hlenh, hfl]
      omega
  have hrr : ∀ id ∈ rf, RelB G w id (nthB h id) := fun id hid => hrel id (.inr (by simp [hid]))
  have hff : ∀ id ∈ rf, ∀ sz n, G.inf id ≠ some (sz, n, true) := fun id hid sz n e => by
    obtain ⟨j, hj⟩ := idx_mem hid
    obtain ⟨B, h1, h2⟩ := pickB_at hp (idx_some hj)
    have r := hrr id hid
    rw [h1] at r
    cases B with
    | box ty cs => rw [r.1] at e; cases e
    | tree sz' ty ty2 els => rw [r.1] at e; cases e
    | junk =>
      obtain ⟨sz', n', r⟩ := r
      rw [r] at e
      cases e
    | arr sz' ty fz' els =>
      rw [r.1] at e
      injection e with e
      injection e with _ e
      injection e with _ e
      subst e
      exact unfz_at hu h2
  have hfrel : ∀ id ∈ fs, RelB G w id (nthB h id) := fun id hid => hrel id (.inl hid)
  have hnew : ∀ i, len h ≤ i → i < len h + (len bl - len rf) → G.inf i = none ∧ ∀ b, G.own b ≠ some i := fun i h1 h2 => by
    have := hrel i (.inr (by simp only [List.mem_append, mem_range']; right; exact ⟨h1, h2⟩))
    rw [nthB_ge h i h1] at this
    exact this
  have hlive : ∀ x ∈ fs, ∃ r, G.inf x = some r := fun x hx => by
    have a := (hfs x hx).2
    have r := hfrel x hx
    cases hb : nthB h x with
    | none => rw [hb] at a; exact a.elim
    | some B =>
      rw [hb] at a r
      cases B with
      | box _ _ => exact a.elim
      | junk => exact a.elim
      | tree _ _ _ _ => exact ⟨_, r.1⟩
      | arr _ _ _ _ => exact ⟨_, r.1⟩
  have ha := hpass G w vals.toList fs hi hff hargs hfrel (fun id hid => hid)
  refine (hS.2 (G.callee w rf fs) w vals (callee_inv hi) ha (callee_rel hi hff hn hp hrr)).mono ?_
  rintro e w' ⟨v, Gc, ids, rfl, X, hv, hbl⟩
  have hkk : len bl - len rf = bl.length - rf.length := by rw [len_eq, len_eq]
  have hnone : ∀ j, rf.length + (len bl - len rf) ≤ j → Gc.inf j = none ∧ ∀ b, Gc.own b ≠ some j := fun j hj => by
    have := hbl j
    rw [nthB_ge bl j (by rw [len_eq]; omega)] at this
    exact this
  have XX := back_ext (fz := fz) (fs := fs) hi hn hm hff hfr hnew (fun j hj => (hnone j hj).2) X
  refine ⟨v, G.back Gc w rf fz (len h) (len bl - len rf), rfl, XX, ?_, ?_⟩
  · rcases hsub with e | ⟨_, e, _⟩
    · refine Reps.ren (back_ren hi hff hn hm hfr (fun x hx => (hfs x hx).1) (fun x hx => ?_) hlive (fun j hj => (hnone j hj).1) X XX (fun x hx => by rw [e]; exact hx)) r v hv
      have := hfslt x hx
      omega
    · exact noRow_rep e hv
  · intro id hid
    rcases hsub with e | ⟨e1, _, e2⟩
    · have RR := back_ren hi hff hn hm hfr (fun x hx => (hfs x hx).1) (fun x hx => by have := hfslt x hx; omega) hlive (fun j hj => (hnone j hj).1) X XX (fun x hx => by rw [e]; exact hx)
      simp only [List.mem_append, mem_range'] at hid
      rcases hid with (hid | hid) | hid
      · obtain ⟨j, hj⟩ := idx_mem hid
        have hj' := idx_some hj
        have hjl : j < bl.length := by have := (List.getElem?_eq_some_iff.1 hj').1; omega
        have hB : nthB bl j = some bl[j] := by rw [nthB_eq]; simp [hjl]
        rw [putBs_ref _ rf _ bl j id bl[j] hlen hn (fun x hx => by rw [hfl, ← len_eq]; exact hm x hx) hj' hB]
        have r := hbl j
        rw [hB] at r
        refine RelB.ren RR (by unfold backId; rw [hj']) (fun b hb => ?_) r
        simp only [Gh.back] at hb
        cases hc : Gc.own b with
        | some j' =>
          rw [hc] at hb
          simp only [backId] at hb
          cases hj2 : rf[j']? with
          | some i' =>
            rw [hj2] at hb
            injection hb with hb
            subst hb
            have := idx_of hn hj2
            rw [hj] at this
            injection this with this
            rw [this]
          | none =>
            rw [hj2] at hb
            injection hb with hb
            have := hm id hid
            omega
        | none =>
          rw [hc] at hb
          simp only at hb
          split at hb
          · rename_i hx
            rw [hb, Option.bind_some, hj] at hx
            cases hx.2
          · cases hb
      · have hlt := hfslt id (hfzs id hid)
        have hnr := hfr id hid
        rw [putBs_out _ _ _ _ id hlen hnr (by rw [hfl, ← len_eq]; exact hlt), nthB_frz, if_pos hid]
        have r := hfrel id (hfzs id hid)
        have a := (hfs id (hfzs id hid)).2
        cases hb : nthB h id with
        | none => rw [hb] at a; exact a.elim
        | some B =>
          rw [hb] at a r
          cases B with
          | box _ _ => exact a.elim
          | junk => exact a.elim
          | tree sz ty ty2 els => exact absurd (arrs_at harr hid hb) (fun q => q)
          | arr sz ty fz0 els =>
            obtain ⟨r1, r2, r3, r4⟩ := r
            have far := fun b => back_far (fz := fz) (k := len bl - len rf) hi hm hnr hlt X b
            have hno : idx rf id = none := by
              cases hx : idx rf id with
              | none => rfl
              | some j => exact absurd (List.mem_of_getElem? (idx_some hx)) hnr
            refine ⟨?_, r2, fun b b' e e' => r3 b b' ((far b).1.1 e) ((far b').1.1 e'), ?_⟩
            · simp only [Gh.back]
              rw [hno]
              simp only
              rw [if_neg (by omega), if_pos hid, r1]
              rfl
            · rcases r4 with ⟨a1, a2⟩ | ⟨b, cs, a1, a2, a3, a4⟩
              · exact .inl ⟨a1, fun b e => a2 b ((far b).1.1 e)⟩
              · have hcn : Gc.own b = none := by
                  refine (X.nn b (hi.own b id a1.1) ?_).1
                  simp only [Gh.callee]
                  rw [a1.1, Option.bind_some]
                  exact hno
                exact .inr ⟨b, cs, ⟨(far b).1.2 a1.1, by simp only [Gh.back]; rw [hcn]; exact a1.2⟩, ((far b).2 a1.1).trans a2, a3, RepE.mono (imm_old XX hi) sz els _ a4⟩
      · have hB : ∃ B, nthB bl (rf.length + (id - (frz fz h).length)) = some B := by
          rw [nthB_eq, hfl]
          rw [len_eq] at hid
          exact ⟨bl[rf.length + (id - h.length)]'(by omega), by simp⟩
        obtain ⟨B, hB⟩ := hB
        rw [putBs_new _ rf _ bl id B hlen (by rw [hfl, ← len_eq]; exact hid.1) hB]
        have r := hbl (rf.length + (id - (frz fz h).length))
        rw [hB] at r
        rw [hfl] at r
        refine RelB.ren RR ?_ (fun b hb => ?_) r
        · unfold backId
          rw [List.getElem?_eq_none (by omega), len_eq, len_eq]
          rw [len_eq] at hid
          simp only
          congr 1
          omega
        · simp only [Gh.back] at hb
          cases hc : Gc.own b with
          | some j' =>
            rw [hc] at hb
            simp only [backId] at hb
            cases hj2 : rf[j']? with
            | some i' =>
              rw [hj2] at hb
              injection hb with hb
              subst hb
              have := hm i' (List.mem_of_getElem? hj2)
              omega
            | none =>
              rw [hj2] at hb
              injection hb with hb
              have hge : rf.length ≤ j' := List.getElem?_eq_none_iff.1 hj2
              rw [len_eq, len_eq] at hb
              congr 1
              omega
          | none =>
            rw [hc] at hb
            simp only at hb
            split at hb
            · exact absurd hb ((hnew id hid.1 hid.2).2 b)
            · cases hb
    · subst e2
      simp only [List.length_nil, Nat.le_zero_eq] at hlen
      have : rf = [] := List.eq_nil_of_length_eq_zero hlen
      rw [this, e1] at hid
      simp [range', len] at hid
/-! ### what is lent comes back as it was -/
structure RenC (m : Nat → Option Nat) (G G' : Gh) : Prop where
  own : ∀ i j b, m i = some j → G.own b = some i → G'.own b = some j
  inf : ∀ i j r, m i = some j → G.inf i = some r → G'.inf j = some r
  top : ∀ i j b, m i = some j → G.own b = some i → (G'.top b ↔ G.top b)
section
variable {m : Nat → Option Nat} {G G' : Gh} {w : World}
theorem RenC.ownV (h : RenC m G G') {i j n : Nat} {v : Value} (hm : m i = some j) (r : OwnV G w i n v) : OwnV G' w j n v := by
  obtain ⟨sz, k, f, h1, h2, h3, h4⟩ := r
  refine ⟨sz, k, f, h.inf i j _ hm h1, h2, h3, ?_⟩
  rcases h4 with h4 | ⟨h4, h5 | ⟨b, c, cs, ty, h6, h7, h8⟩⟩
  · exact .inl h4
  · exact .inr ⟨h4, .inl h5⟩
  · exact .inr ⟨h4, .inr ⟨b, c, cs, ty, h6, ⟨h.own i j b hm h7.1, (h.top i j b hm h7.1).2 h7.2⟩, h8⟩⟩
theorem RenC.eptrV (h : RenC m G G') {i j n e o : Nat} {v : Value} (hm : m i = some j) (r : EptrV G w i n e o v) : EptrV G' w j n e o v := by
  obtain ⟨sz, k, f, h1, h3, h4⟩ := r
  refine ⟨sz, k, f, h.inf i j _ hm h1, h3, ?_⟩
  rcases h4 with h4 | ⟨h4, b, h6, h7⟩
  · exact .inl h4
  · exact .inr ⟨h4, b, h6, h.own i j b hm h7.1, (h.top i j b hm h7.1).2 h7.2⟩
mutual
theorem Reps.renC (h : RenC m G G') : ∀ (p : PV) (v : Value), cleanP p = true → Reps G w p v → Reps G' w (renP m p) v
  | .v c, v, hc, r => by
    cases c with
    | row l => simp [cleanP] at hc
    | _ => simpa only [renP, Reps, RepC] using r
  | .nil, v, _, r => by simpa only [renP, Reps] using r
  | .own i n, v, _, r => by
    simp only [Reps] at r
    simp only [renP]
    cases hm : m i with
    | none => simp only [Reps]
    | some j => simp only [Reps]; exact h.ownV hm r
  | .ptr i o, v, _, r => by
    simp only [Reps] at r
    simp only [renP]
    cases hm : m i with
    | none => simp only [Reps]
    | some j => simp only [Reps]; exact h.eptrV hm r
  | .eptr i n e o, v, _, r => by
    simp only [Reps] at r
    simp only [renP]
    cases hm : m i with
    | none => simp only [Reps]
    | some j => simp only [Reps]; exact h.eptrV hm r
  | .rptr cs, v, hc, r => by simp [cleanP] at hc
  | .agg cs, v, hc, r => by
    simp only [cleanP] at hc
    simp only [renP, Reps] at r ⊢
    obtain ⟨vs, h1, h2⟩ := r
    exact ⟨vs, h1, RepsL.renC h cs _ hc h2⟩
  | .tup cs, v, hc, r => by
    simp only [cleanP] at hc
    simp only [renP, Reps] at r ⊢
    obtain ⟨vs, h1, h2⟩ := r
    exact ⟨vs, h1, RepsL.renC h cs _ hc h2⟩
  | .un, v, _, r => by simp only [renP, Reps]
theorem RepsL.renC (h : RenC m G G') : ∀ (l : List PV) (vs : List Value), cleanL l = true → RepsL G w l vs → RepsL G' w (renL m l) vs
  | [], vs, _, r => by simpa only [renL, RepsL] using r
  | p :: ps, vs, hc, r => by
    simp only [cleanL, Bool.and_eq_true] at hc
    simp only [renL, RepsL] at r ⊢
    obtain ⟨v, vs', h1, h2, h3⟩ := r
    exact ⟨v, vs', h1, Reps.renC h p v hc.1 h2, RepsL.renC h ps vs' hc.2 h3⟩
end
def CleanB : Blk → Prop
  | .arr _ _ _ els => Flat els
  | .box _ cs => cleanL cs = true
  | _ => True
theorem cleanB_ok : ∀ {bl : List Blk} {K : Prop}, cleanB bl K → (∀ B ∈ bl, CleanB B) ∧ K
  | [], K, h => ⟨(fun B hB => by cases hB), h⟩
  | .arr _ _ _ els :: r, K, h => by
    simp only [cleanB] at h
    obtain ⟨h1, h⟩ := h
    obtain ⟨a, b⟩ := cleanB_ok h
    refine ⟨fun B hB => ?_, b⟩
    rcases List.mem_cons.1 hB with rfl | hB
    · exact h1
    · exact a B hB
  | .box _ cs :: r, K, h => by
    simp only [cleanB] at h
    cases hc : cleanL cs with
    | false => rw [hc] at h; exact h.elim
    | true =>
      rw [hc, cond_true] at h
      obtain ⟨a, b⟩ := cleanB_ok h
      refine ⟨fun B hB => ?_, b⟩
      rcases List.mem_cons.1 hB with rfl | hB
      · exact hc
      · exact a B hB
  | .tree _ _ _ _ :: r, K, h => by
    simp only [cleanB] at h
    obtain ⟨a, b⟩ := cleanB_ok h
    refine ⟨fun B hB => ?_, b⟩
    rcases List.mem_cons.1 hB with rfl | hB
    · trivial
    · exact a B hB
  | .junk :: r, K, h => by
    simp only [cleanB] at h
    obtain ⟨a, b⟩ := cleanB_ok h
    refine ⟨fun B hB => ?_, b⟩
    rcases List.mem_cons.1 hB with rfl | hB
    · trivial
    · exact a B hB
theorem RelB.renC (h : RenC m G G') {i j : Nat} (hm : m i = some j) (hinj : ∀ b, G'.own b = some j → G.own b = some i) : ∀ {B : Blk}, CleanB B → RelB G w i (some B) → RelB G' w j (some (renB m B))
  | .arr sz ty fz els, hc, r => by
    obtain ⟨r1, r2, r3, r4⟩ := r
    refine ⟨h.inf i j _ hm r1, r2, fun b b' e e' => r3 b b' (hinj b e) (hinj b' e'), ?_⟩
    rcases r4 with ⟨a, b⟩ | ⟨b, cs, a1, a2, a3, a4⟩
    · exact .inl ⟨a, fun x e => b x (hinj x e)⟩
    · exact .inr ⟨b, cs, ⟨h.own i j b hm a1.1, (h.top i j b hm a1.1).2 a1.2⟩, a2, a3, flat_rep hc a4⟩
  | .box ty cs, hc, r => by
    obtain ⟨r1, r2, b, vs, a1, a2, a3, a4⟩ := r
    refine ⟨by rw [renL_length]; exact h.inf i j _ hm r1, fun b b' e e' => r2 b b' (hinj b e) (hinj b' e'), b, vs, ⟨h.own i j b hm a1.1, (h.top i j b hm a1.1).2 a1.2⟩, a2, a3, RepsL.renC h cs _ hc a4⟩
  | .tree sz ty ty2 els, _, r => by
    obtain ⟨r1, r2, r3, r4⟩ := r
    have up : ∀ b, G'.own b = some j → G'.top b → G.own b = some i ∧ G.top b := fun b e1 e2 => by
      have := hinj b e1
      exact ⟨this, (h.top i j b hm this).1 e2⟩
    refine ⟨h.inf i j _ hm r1, r2, fun b b' e1 e2 e3 e4 => r3 b b' (up b e1 e2).1 (up b e1 e2).2 (up b' e3 e4).1 (up b' e3 e4).2, ?_⟩
    rcases r4 with ⟨a, b⟩ | ⟨b, cs, a1, a2, a3, a0, a4, a5⟩
    · exact .inl ⟨a, fun x e1 e2 => b x (up x e1 e2).1 (up x e1 e2).2⟩
    · refine .inr ⟨b, cs, ⟨h.own i j b hm a1.1, (h.top i j b hm a1.1).2 a1.2⟩, a2, a3, a0, TrP.mono (fun l v q => ?_) a4, a5⟩
      rcases q with q | ⟨b', c, cs', h1, h2, h3, h4⟩
      · exact .inl q
      · exact .inr ⟨b', c, cs', h1, h.own i j b' hm h2, fun ht => h3 ((h.top i j b' hm h2).1 ht), h4⟩
  | .junk, _, r => by
    obtain ⟨sz, n, r⟩ := r
    exact ⟨sz, n, h.inf i j _ hm r⟩
end
theorem goL_ok {E : Env} {h : List Blk} {K : Kont} {f : FuncId} {args : List PV} {rf : List Nat} (hk : aGoL E h f args rf K) : ∃ q h' rd wr, K q h' rd wr ∧ Keeps h h' wr ∧ len h ≤ len h' ∧ (∀ (as_ : Array Value) (w : World), (callFunc f as_).run E.P w = .ok (.enter f as_) w) ∧
    ∀ (G : Gh) (w : World) (vals : Array Value), Inv G w → RepsL G w args vals.toList → (∀ id, id ∈ rd ∨ id ∈ wr → RelB G w id (nthB h id)) →
      Calls E.P f vals w fun e w' => ∃ v G', e = .returned v ∧ Ext wr G w G' w' ∧ Reps G' w' q v ∧ ∀ id ∈ wr, RelB G' w' id (nthB h' id) := by
  unfold aGoL at hk
  rw [backL_eq] at hk
  split at hk
  · exact hk.elim
  rename_i bin hp
  cases hnu : (nodup rf && unfz bin) with
  | false => rw [hnu] at hk; exact hk.elim
  | true =>
  rw [hnu, cond_true] at hk
  rw [Bool.and_eq_true] at hnu
  obtain ⟨hn, hu⟩ := hnu
  obtain ⟨as_, fs, ⟨r, bl, hS, hk⟩, hfs, hpass⟩ := passA_ok hk
  cases hcl : (cleanP r && Nat.ble (len rf) (len bl)) with
  | false => rw [hcl] at hk; exact hk.elim
  | true =>
  rw [hcl, cond_true] at hk
  rw [Bool.and_eq_true] at hcl
  obtain ⟨hclean, hlen⟩ := hcl
  replace hlen := Nat.le_of_ble_eq_true hlen
  rw [len_eq, len_eq] at hlen
  obtain ⟨hcb, hk⟩ := cleanB_ok hk
  have hm : ∀ x ∈ rf, x < len h := fun x hx => by
    obtain ⟨j, hj⟩ := idx_mem hx
    obtain ⟨B, h1, _⟩ := pickB_at hp (idx_some hj)
    exact nthB_lt h1
  have hlenh : (putBs h (backId rf (len h)) rf bl).length = h.length + (bl.length - rf.length) := putBs_len _ _ _ _ hlen
  refine ⟨_, _, _, _, hk, fun x hx => ?_, by rw [len_eq (putBs _ _ _ _), hlenh, len_eq]; omega, hS.1, fun G w vals hi hargs hrel => ?_⟩
  · simp only [List.mem_append, not_or, mem_range', len_eq] at hx
    rcases Nat.lt_or_ge x h.length with hlt | hge
    · rw [putBs_out _ _ _ _ x hlen hx.1 hlt]
    · rw [nthB_ge h x (by rw [len_eq]; exact hge), nthB_ge]
      rw [len_eq, hlenh]
      omega
  have hrr : ∀ id ∈ rf, RelB G w id (nthB h id) := fun id hid => hrel id (.inr (by simp [hid]))
  have hff : ∀ id ∈ rf, ∀ sz n, G.inf id ≠ some (sz, n, true) := fun id hid sz n e => by
    obtain ⟨j, hj⟩ := idx_mem hid
    obtain ⟨B, h1, h2⟩ := pickB_at hp (idx_some hj)
    have r := hrr id hid
    rw [h1] at r
    cases B with
    | box ty cs => rw [r.1] at e; cases e
    | tree sz' ty ty2 els => rw [r.1] at e; cases e
    | junk =>
      obtain ⟨sz', n', r⟩ := r
      rw [r] at e
      cases e
    | arr sz' ty fz' els =>
      rw [r.1] at e
      injection e with e
      injection e with _ e
      injection e with _ e
      subst e
      exact unfz_at hu h2
  have hfrel : ∀ id ∈ fs, RelB G w id (nthB h id) := fun id hid => hrel id (.inl hid)
  have hnew : ∀ i, len h ≤ i → i < len h + (len bl - len rf) → G.inf i = none ∧ ∀ b, G.own b ≠ some i := fun i h1 h2 => by
    have := hrel i (.inr (by simp only [List.mem_append, mem_range']; right; exact ⟨h1, h2⟩))
    rw [nthB_ge h i h1] at this
    exact this
  have ha := hpass G w vals.toList fs hi hff hargs hfrel (fun id hid => hid)
  refine (hS.2 (G.callee w rf fs) w vals (callee_inv hi) ha (callee_rel hi hff hn hp hrr)).mono ?_
  rintro e w' ⟨v, Gc, ids, rfl, X, hv, hbl⟩
  have hkk : len bl - len rf = bl.length - rf.length := by rw [len_eq, len_eq]
  have hnone : ∀ j, rf.length + (len bl - len rf) ≤ j → Gc.inf j = none ∧ ∀ b, Gc.own b ≠ some j := fun j hj => by
    have := hbl j
    rw [nthB_ge bl j (by rw [len_eq]; omega)] at this
    exact this
  have XX := (back_ext (fz := []) (fs := fs) hi hn hm hff (fun x hx => by cases hx) hnew (fun j hj => (hnone j hj).2) X).mono (ids2 := rf ++ range' (len h) (len bl - len rf)) (fun x hx => by simpa using hx)
  have RR : RenC (backId rf (len h)) Gc (G.back Gc w rf [] (len h) (len bl - len rf)) :=
    { own := fun i j b h1 h2 => by simp only [Gh.back]; rw [h2]; exact h1
      inf := fun j i r h1 h2 => back_inf hn hm (fun j hj => (hnone j hj).1) j i r h1 h2
      top := fun i j b h1 h2 => by simp only [Gh.back]; rw [h2] }
  refine ⟨v, G.back Gc w rf [] (len h) (len bl - len rf), rfl, XX, Reps.renC RR r v hclean hv, fun id hid => ?_⟩
  simp only [List.mem_append, mem_range'] at hid
  rcases hid with hid | hid
  · obtain ⟨j, hj⟩ := idx_mem hid
    have hj' := idx_some hj
    have hjl : j < bl.length := by have := (List.getElem?_eq_some_iff.1 hj').1; omega
    have hB : nthB bl j = some bl[j] := by rw [nthB_eq]; simp [hjl]
    rw [putBs_ref _ rf _ bl j id bl[j] hlen hn (fun x hx => by rw [← len_eq]; exact hm x hx) hj' hB]
    have r := hbl j
    rw [hB] at r
    refine RelB.renC RR (by unfold backId; rw [hj']) (fun b hb => ?_) (hcb _ (List.getElem_mem hjl)) r
    simp only [Gh.back] at hb
    cases hc : Gc.own b with
    | some j' =>
      rw [hc] at hb
      simp only [backId] at hb
      cases hj2 : rf[j']? with
      | some i' =>
        rw [hj2] at hb
        injection hb with hb
        subst hb
        have := idx_of hn hj2
        rw [hj] at this
        injection this with this
        rw [this]
      | none =>
        rw [hj2] at hb
        injection hb with hb
        have := hm id hid
        omega
    | none =>
      rw [hc] at hb
      simp only at hb
      split at hb
      · rename_i hx
        rw [hb, Option.bind_some, hj] at hx
        cases hx.2
      · cases hb
  · have hlt : rf.length + (id - h.length) < bl.length := by rw [len_eq] at hid; omega
    have hB : nthB bl (rf.length + (id - h.length)) = some bl[rf.length + (id - h.length)] := by rw [nthB_eq]; simp [hlt]
    rw [putBs_new _ rf _ bl id bl[rf.length + (id - h.length)] hlen (by rw [← len_eq]; exact hid.1) hB]
    have r := hbl (rf.length + (id - h.length))
    rw [hB] at r
    refine RelB.renC RR ?_ (fun b hb => ?_) (hcb _ (List.getElem_mem hlt)) r
    · unfold backId
      rw [List.getElem?_eq_none (by omega), len_eq, len_eq]
      rw [len_eq] at hid
      simp only
      congr 1
      omega
    · simp only [Gh.back] at hb
      cases hc : Gc.own b with
      | some j' =>
        rw [hc] at hb
        simp only [backId] at hb
        cases hj2 : rf[j']? with
        | some i' =>
          rw [hj2] at hb
          injection hb with hb
          subst hb
          have := hm i' (List.mem_of_getElem? hj2)
          omega
        | none =>
          rw [hj2] at hb
          injection hb with hb
          have hge : rf.length ≤ j' := List.getElem?_eq_none_iff.1 hj2
          rw [len_eq, len_eq] at hb
          congr 1
          omega
      | none =>
        rw [hc] at hb
        simp only at hb
        split at hb
        · exact absurd hb ((hnew id hid.1 hid.2).2 b)
        · cases hb
theorem go_ok {E : Env} {h : List Blk} {K : Kont} {f : FuncId} {args : List PV} (hk : aGo E h f args K) : ∃ q h' rd wr, K q h' rd wr ∧ Keeps h h' wr ∧ len h ≤ len h' ∧ (∀ (as_ : Array Value) (w : World), (callFunc f as_).run E.P w = .ok (.enter f as_) w) ∧
    ∀ (G : Gh) (w : World) (vals : Array Value), Inv G w → RepsL G w args vals.toList → (∀ id, id ∈ rd ∨ id ∈ wr → RelB G w id (nthB h id)) →
      Calls E.P f vals w fun e w' => ∃ v G', e = .returned v ∧ Ext wr G w G' w' ∧ Reps G' w' q v ∧ ∀ id ∈ wr, RelB G' w' id (nthB h' id) := by
  cases hk with
  | a h => exact goX_ok h
  | b h => exact goX_ok h
  | c h => exact goL_ok h
end Go.Proofs.Ytkpcieenikmbmaa.E

/- Each operation comes to what is told of it: all of them. -/
namespace Go.Proofs.Ytkpcieenikmbmaa.E
open Go Go.RowKit Go.Proofs.YtkpcieenikmbmaaW.PrintWords
set_option linter.unusedVariables false
set_option linter.unusedSimpArgs false

def OpOk (P : Program) (o : Oper) (s : List PV) (h : List Blk) (q : PV) (h' : List Blk) (rd wr : List Nat) : Prop :=
  ∀ (G : Gh) (a : Act) (w : World), Inv G w → (∀ x ∈ o.op.operands, Reps G w (ev s x) (a.eval x)) → (∀ id, id ∈ rd ∨ id ∈ wr → RelB G w id (nthB h id)) →
    ∀ (J : Act → World → Prop) (Q : Exit → Act → World → Prop), (∀ v G' w', Ext wr G w G' w' → Reps G' w' q v → (∀ id ∈ wr, RelB G' w' id (nthB h' id)) → J (a.put o.dst v) w') → o.wp P a w J Q
def OpRes (P : Program) (h : List Blk) (s : List PV) (o : Oper) (K : Kont) : Prop :=
  ∃ q h' rd wr, K q h' rd wr ∧ Keeps h h' wr ∧ len h ≤ len h' ∧ OpOk P o s h q h' rd wr

section
variable {E : Env} {h : List Blk} {s : List PV} {o : Oper} {K : Kont}

theorem op_of_step {P : Program} {S : Gh → World → Sem Value → Prop} (hst : Step P h S K) (hS : ∀ (G : Gh) (a : Act) (w : World), Inv G w → (∀ x ∈ o.op.operands, Reps G w (ev s x) (a.eval x)) →
    ∃ m, S G w m ∧ ∀ u w', m.run P w = .ok u w' → (execOp a.eval o).run P w = .ok (.value u) w' ∨ ((execOp a.eval o).run P w = .ok .skip w' ∧ u = undef)) : OpRes P h s o K := by
  obtain ⟨q, h', rd, wr, hk, h1, h2, h3⟩ := hst
  refine ⟨q, h', rd, wr, hk, h1, h2, fun G a w hi hx hr J Q hJ => ?_⟩
  obtain ⟨m, hm, hrun⟩ := hS G a w hi hx
  obtain ⟨u, w', G', e1, e2, e3, e4⟩ := h3 G w m hi hm hr
  unfold Oper.wp
  rcases hrun u w' e1 with e | ⟨e, rfl⟩
  · rw [e]
    exact hJ u G' w' e2 e3 e4
  · rw [e]
    exact hJ undef G' w' e2 e3 e4

theorem run_value {P : Program} {m : Sem Value} {u : Value} {w w' : World} (h : m.run P w = .ok u w') : (do pure (Next.value (← m)) : Sem Next).run P w = .ok (.value u) w' := by
  rw [Sem.run_bind, h]
  rfl

theorem map_reps {G : Gh} {w : World} {a : Act} : ∀ (l : List (Nat × Operand)), (∀ x ∈ l.map (·.2), Reps G w (ev s x) (a.eval x)) → RepsL G w ((l.map fun x => (x.1, ev s x.2)).map (·.2)) ((l.map fun x => (x.1, a.eval x.2)).map (·.2))
  | [], _ => by simp [RepsL]
  | x :: r, hx => by
    simp only [List.map_cons, RepsL]
    exact ⟨_, _, rfl, hx x.2 (by simp), map_reps r (fun y hy => hx y (by simp only [List.map_cons, List.mem_cons]; exact .inr hy))⟩
theorem args_reps {G : Gh} {w : World} {a : Act} : ∀ (l : List Operand), (∀ x ∈ l, Reps G w (ev s x) (a.eval x)) → RepsL G w (l.map (ev s)) (l.map a.eval)
  | [], _ => by simp [RepsL]
  | x :: r, hx => by
    simp only [List.map_cons, RepsL]
    exact ⟨_, _, rfl, hx x (by simp), args_reps r (fun y hy => hx y (by simp [hy]))⟩

theorem opt_reps {G : Gh} {w : World} {a : Act} (x : Option Operand) (hx : ∀ y ∈ x.toList, Reps G w (ev s y) (a.eval y)) : OptRep G w (x.map (ev s)) (x.map a.eval) := by
  cases x with
  | none => trivial
  | some y => exact hx y (by simp)

theorem call_ok {c : Call} (ho : o.op = .call c) (hk : aCall E h s c K) : OpRes E.P h s o K := by
  unfold aCall at hk
  split at hk
  · rename_i x y t t2 h1 h2 h3
    refine op_of_step (append_ok (ty := o.type) hk) fun G a w hi hx => ⟨_, ⟨_, _, hx x ?_, hx y ?_, rfl⟩, fun u w' hr => .inl ?_⟩
    · rw [ho]
      have : c.args = #[x, y] := by apply Array.ext'; exact h2
      simp [Op.operands, Call.operands, this]
    · rw [ho]
      have : c.args = #[x, y] := by apply Array.ext'; exact h2
      simp [Op.operands, Call.operands, this]
    · have e2 : c.args = #[x, y] := by apply Array.ext'; exact h2
      have e3 : c.argTypes = #[t, t2] := by apply Array.ext'; exact h3
      unfold execOp
      simp [ho, resolve, h1, e2, e3, invoke, builtin, hr]
  · rename_i x t h1 h2 h3
    refine op_of_step (len_ok (ty := o.type) hk) fun G a w hi hx => ⟨_, ⟨_, hx x ?_, rfl⟩, fun u w' hr => .inl ?_⟩
    · rw [ho]
      have : c.args = #[x] := by apply Array.ext'; exact h2
      simp [Op.operands, Call.operands, this]
    · have e2 : c.args = #[x] := by apply Array.ext'; exact h2
      have e3 : c.argTypes = #[t] := by apply Array.ext'; exact h3
      unfold execOp
      simp [ho, resolve, h1, e2, e3, invoke, builtin, hr]
  · rename_i c1 l1 l2 f h1
    obtain ⟨q, h', rd, wr, hk, g1, g2, g3, g4⟩ := go_ok hk
    refine ⟨q, h', rd, wr, hk, g1, g2, fun G a w hi hx hr J Q hJ => ?_⟩
    have hops : ∀ y ∈ c.args.toList, Reps G w (ev s y) (a.eval y) := fun y hy => hx y (by
      rw [ho]
      simp only [Op.operands, Call.operands, h1]
      simp [Array.mem_toList_iff.1 hy])
    have hrun : (execOp a.eval o).run E.P w = .ok (.enter f (c.args.map a.eval)) w := by
      unfold execOp
      simp [ho, resolve, h1, Deferred.ofValue, invoke, Act.eval, g3]
    unfold Oper.wp
    rw [hrun]
    have hc := g4 G w (c.args.map a.eval) hi (by rw [Array.toList_map]; exact args_reps _ hops) hr
    refine hc.mono ?_
    rintro e w' ⟨v, G', rfl, a1, a2, a3⟩
    exact hJ v G' w' a1 a2 a3
  · exact hk.elim

theorem op_ok (hk : aOp E h s o.op K) : OpRes E.P h s o K := by
  cases ho : o.op <;> rw [ho] at hk <;> simp only [aOp] at hk
  case move x =>
    refine op_of_step (S := fun G w m => ∃ v, Reps G w (ev s x) v ∧ m = pure v) (Step.pure hk fun G w m hi hm => ?_) fun G a w hi hx => ⟨_, ⟨_, hx x (by rw [ho]; simp [Op.operands]), rfl⟩, fun u w' hr => .inl ?_⟩
    · obtain ⟨v, hv, rfl⟩ := hm
      exact ⟨v, rfl, hv⟩
    · unfold execOp
      simp only [ho]
      simp at hr
      simp [hr]
  case assign x =>
    refine op_of_step (S := fun G w m => ∃ v, Reps G w (ev s x) v ∧ m = pure v) (Step.pure hk fun G w m hi hm => ?_) fun G a w hi hx => ⟨_, ⟨_, hx x (by rw [ho]; simp [Op.operands]), rfl⟩, fun u w' hr => .inl ?_⟩
    · obtain ⟨v, hv, rfl⟩ := hm
      exact ⟨v, rfl, hv⟩
    · unfold execOp
      simp only [ho]
      simp at hr
      simp [hr]
  case pick c x y =>
    refine op_of_step (pick_ok hk) fun G a w hi hx => ⟨_, ⟨_, _, _, hx c (by rw [ho]; simp [Op.operands]), hx x (by rw [ho]; simp [Op.operands]), hx y (by rw [ho]; simp [Op.operands]), rfl⟩, fun u w' hr => .inl ?_⟩
    unfold execOp
    simp only [ho]
    rw [Sem.run_bind] at hr ⊢
    cases hb : (asBool (a.eval c)).run E.P w with
    | halt x w2 => rw [hb] at hr; cases hr
    | ok b w2 =>
      rw [hb] at hr
      simp only [Result.andThen_ok, Sem.run_pure, Result.ok.injEq] at hr ⊢
      exact ⟨by rw [hr.1], hr.2⟩
  case alloc t => exact op_of_step (alloc_ok hk) fun G a w hi hx => ⟨_, rfl, fun u w' hr => .inl (by unfold execOp; simp only [ho]; exact run_value hr)⟩
  case box t x => exact op_of_step (box_ok hk) fun G a w hi hx => ⟨_, ⟨_, hx x (by rw [ho]; simp [Op.operands]), rfl⟩, fun u w' hr => .inl (by unfold execOp; simp only [ho]; exact run_value hr)⟩
  case build t parts =>
    refine op_of_step (build_ok hk) fun G a w hi hx => ⟨_, ⟨parts.toList.map fun x => (x.1, a.eval x.2), by simp, map_reps _ (fun x hx' => hx x (by rw [ho]; simpa [Op.operands] using hx')), rfl⟩, fun u w' hr => .inl ?_⟩
    unfold execOp
    simp only [ho]
    refine run_value ?_
    rw [← hr]
    congr 2
    apply Array.ext'
    simp
  case buildSlice t n parts =>
    cases hk with
    | a hk =>
      refine op_of_step (buildSlice_ok hk) fun G a w hi hx => ⟨_, ⟨parts.toList.map fun x => (x.1, a.eval x.2), by simp, map_reps _ (fun x hx' => hx x (by rw [ho]; simpa [Op.operands] using hx')), rfl⟩, fun u w' hr => .inl ?_⟩
      unfold execOp
      simp only [ho]
      refine run_value ?_
      rw [← hr]
      congr 2
      apply Array.ext'
      simp
    | b ty2 hk =>
      refine op_of_step (buildTree_ok hk) fun G a w hi hx => ⟨_, ⟨parts.toList.map fun x => (x.1, a.eval x.2), by simp, map_reps _ (fun x hx' => hx x (by rw [ho]; simpa [Op.operands] using hx')), rfl⟩, fun u w' hr => .inl ?_⟩
      unfold execOp
      simp only [ho]
      refine run_value ?_
      rw [← hr]
      congr 2
      apply Array.ext'
      simp
  case load t x => exact op_of_step (load_ok hk) fun G a w hi hx => ⟨_, ⟨_, hx x (by rw [ho]; simp [Op.operands]), rfl⟩, fun u w' hr => .inl (by unfold execOp; simp only [ho]; exact run_value hr)⟩
  case store t x y =>
    refine op_of_step (store_ok hk) fun G a w hi hx => ⟨_, ⟨_, _, hx x (by rw [ho]; simp [Op.operands]), hx y (by rw [ho]; simp [Op.operands]), rfl⟩, fun u w' hr => .inr ?_⟩
    unfold execOp
    simp only [ho]
    rw [Sem.run_bind] at hr ⊢
    cases hb : (Instr.storeAt t (a.eval x) (a.eval y)).run E.P w with
    | halt x w2 => rw [hb] at hr; cases hr
    | ok b w2 =>
      rw [hb] at hr
      simp only [Result.andThen_ok, Sem.run_pure, Result.ok.injEq] at hr ⊢
      exact ⟨⟨trivial, hr.2⟩, hr.1.symm⟩
  case nilCheck x =>
    refine op_of_step (nilCheck_ok hk) fun G a w hi hx => ⟨(match a.eval x with | .pointer (some p) => pure (.pointer (some p)) | _ => stuck "" : Sem Value), ⟨_, hx x (by rw [ho]; simp [Op.operands]), fun p hp => by rw [hp]⟩, fun u w' hr => .inl ?_⟩
    unfold execOp
    simp only [ho]
    cases hv : a.eval x with
    | pointer p =>
      cases p with
      | some p =>
        rw [hv] at hr
        simp only [Sem.run_pure, Result.ok.injEq] at hr ⊢
        exact ⟨by rw [hr.1], hr.2⟩
      | none => rw [hv] at hr; cases hr
    | _ => rw [hv] at hr; cases hr
  case binOp op t x y t2 => exact op_of_step (binT_ok (x := x) (y := y) hk) fun G a w hi hx => ⟨_, ⟨_, _, hx x (by rw [ho]; simp [Op.operands]), hx y (by rw [ho]; simp [Op.operands]), rfl⟩, fun u w' hr => .inl (by unfold execOp; simp only [ho]; exact run_value hr)⟩
  case unOp op t x => exact op_of_step (un_ok hk) fun G a w hi hx => ⟨_, ⟨_, hx x (by rw [ho]; simp [Op.operands]), rfl⟩, fun u w' hr => .inl (by unfold execOp; simp only [ho]; exact run_value hr)⟩
  case convert t u x => exact op_of_step (convert_ok hk) fun G a w hi hx => ⟨_, ⟨_, hx x (by rw [ho]; simp [Op.operands]), rfl⟩, fun u w' hr => .inl (by unfold execOp; simp only [ho]; exact run_value hr)⟩
  case makeSlice t x y =>
    cases hk with
    | b ty2 hk => exact op_of_step (makeTree_ok hk) fun G a w hi hx => ⟨_, ⟨_, _, hx x (by rw [ho]; simp [Op.operands]), hx y (by rw [ho]; simp [Op.operands]), rfl⟩, fun u w' hr => .inl (by unfold execOp; simp only [ho]; exact run_value hr)⟩
    | a hk => exact op_of_step (makeSlice_ok hk) fun G a w hi hx => ⟨_, ⟨_, _, hx x (by rw [ho]; simp [Op.operands]), hx y (by rw [ho]; simp [Op.operands]), rfl⟩, fun u w' hr => .inl (by unfold execOp; simp only [ho]; exact run_value hr)⟩
  case slice t x lo hi mx =>
    cases mx with
    | some _ => exact hk.elim
    | none =>
      simp only [aOp] at hk
      refine op_of_step (slice_ok hk) fun G a w hi' hx => ⟨_, ⟨_, lo.map a.eval, hi.map a.eval, hx x (by rw [ho]; simp [Op.operands]), opt_reps lo (fun y hy => hx y (by rw [ho]; cases lo <;> simp_all [Op.operands])), opt_reps hi (fun y hy => hx y (by rw [ho]; cases hi <;> simp_all [Op.operands])), rfl⟩, fun u w' hr => .inl (by unfold execOp; simp only [ho]; exact run_value hr)⟩
  case fieldAddr t x f => exact op_of_step (fieldAddr_ok hk) fun G a w hi hx => ⟨_, ⟨_, hx x (by rw [ho]; simp [Op.operands]), rfl⟩, fun u w' hr => .inl (by unfold execOp; simp only [ho]; exact run_value hr)⟩
  case indexAddr t x y => exact op_of_step (indexAddr_ok hk) fun G a w hi hx => ⟨_, ⟨_, _, hx x (by rw [ho]; simp [Op.operands]), hx y (by rw [ho]; simp [Op.operands]), rfl⟩, fun u w' hr => .inl (by unfold execOp; simp only [ho]; exact run_value hr)⟩
  case index t x y => exact op_of_step (index_ok hk) fun G a w hi hx => ⟨_, ⟨_, _, hx x (by rw [ho]; simp [Op.operands]), hx y (by rw [ho]; simp [Op.operands]), rfl⟩, fun u w' hr => .inl (by unfold execOp; simp only [ho]; exact run_value hr)⟩
  case extract x n => exact op_of_step (extract_ok hk) fun G a w hi hx => ⟨_, ⟨_, hx x (by rw [ho]; simp [Op.operands]), rfl⟩, fun u w' hr => .inl (by unfold execOp; simp only [ho]; exact run_value hr)⟩
  case call c => exact call_ok ho hk
end
end Go.Proofs.Ytkpcieenikmbmaa.E
