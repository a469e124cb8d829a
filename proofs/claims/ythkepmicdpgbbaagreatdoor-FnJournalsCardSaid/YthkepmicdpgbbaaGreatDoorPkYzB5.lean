/- Texts of this seat's claims, put together: EvMk, EvV, EvX, WEqStruct, EvZ, WLast, WApart, WArr, WFoot, WKept, WShare, WN, WRepsOne, WInv, WMore, Px0 -/
import Derived.Laws.StructEq
import Derived.Test.YthkepmicdpgbbaaGreatDoorProg
import Derived.Test.YthkepmicdpgbbaaGreatDoorChecked
import Derived.KernelRfl
import Derived.OrdersHeld
import Derived.Deep.RegionHeld3
import Derived.Laws.BitsLemmas
import Derived.RowKit
import Derived.Below
import Derived.Deep.Draws
import Derived.Deep.AppendLies
import Derived.Maps.AppendAt
import Derived.OwnWalk
import Derived.Laws.BytesArg
import Derived.Laws.MakeOwn
import Derived.Laws.OwnMore
import Derived.Deep.OwnRows
import Derived.Tactics
import Derived.Lib.ConvBytes
import Derived.Laws.Slices
import Derived.WalkKit
import Derived.RowKit3
import Derived.Deep.LoopGhost
import Derived.Deep.QuietTactic
import Derived.BigQuiet
import Derived.WideLaws
import Derived.Deep.DeepCutAuto
import Derived.Deep.CutBlock
import Derived.Laws.Rows
import Derived.Lib.AppendStr
import Derived.ArgAppend
import Derived.Laws.IdiomCopy
import Derived.Lib.LazyBuf
import Derived.Test.YthkepmicdpgbbaaGreatDoorPkYzB4
namespace Go.Proofs.YthkepmicdpgbbaaGreatDoor.E
open Go Go.RowKit Go.Proofs.YthkepmicdpgbbaaGreatDoorW.PrintWords
set_option linter.unusedVariables false
set_option linter.unusedSimpArgs false
theorem TrP.mono_of {G : Gh} {w w' : World} {id : Nat} {ty2 : TypeId} {S : List Nat} (h : ∀ l v, InnR G w id ty2 l v → (∀ x ∈ blkC (.row l) v, x ∉ S) → InnR G w' id ty2 l v) : ∀ {l : List CV} {vs : List Value}, TrP G w id ty2 l vs → (∀ x ∈ blkP l vs, x ∉ S) → TrP G w' id ty2 l vs
 | [], _, _, _ => by simp [TrP]
 | p :: ps, vs, r, hs => by
  simp only [TrP] at r ⊢
  obtain ⟨v, vs', rfl, h2, h3⟩ := r
  simp only [blkP, List.mem_append] at hs
  refine ⟨v, vs', rfl, ?_, TrP.mono_of h h3 (fun x hx => hs x (.inr hx))⟩
  cases p with
  | row l => exact h l v h2 (fun x hx => hs x (.inl hx))
  | _ => simpa only [TrC] using h2
structure RowDone (G : Gh) (w w' : World) (id : Nat) (ty2 : TypeId) (l l' : List (List CV)) (u : Value) : Prop where
 os : w'.os = w.os
 tape : w'.tape = w.tape
 output : w'.output = w.output
 size : w.heap.size ≤ w'.heap.size
 far : ∀ b, b < w.heap.size → b ∉ blkC (.row l) u → w'.heap[b]? = w.heap[b]?
 near : ∀ b cs ty, b ∈ blkC (.row l) u → w.heap[b]? = some (.cells cs ty (0, 0)) → ∃ cs', w'.heap[b]? = some (.cells cs' ty (0, 0)) ∧ cs'.size = cs.size
 inn : InnR G w' id ty2 l' u
theorem row_calls {P : Program} {f : FuncId} {l l' : List (List CV)} {k k' : Int} {ty2 : TypeId} (S : Spec P f [.own 0 l.length, .v (.i .i64 k)] [.arr 1 ty2 false l] (.v (.i .i64 k')) [.arr 1 ty2 false l']) (hl : l'.length = l.length) (hf : Flat l')
  {G : Gh} {w : World} {id : Nat} {u : Value} (hi : Inv G w) (hu : InnR G w id ty2 l u) : Calls P f #[u, .int .i64 k] w fun e w' => e = .returned (.int .i64 k') ∧ RowDone G w w' id ty2 l l' u := by
 rcases hu with ⟨rfl, rfl⟩ | ⟨b', c, cs', rfl, h2, h3, h4, h5, h6, h7, h8⟩
 ·have hl' : l' = [] := List.eq_nil_of_length_eq_zero (by simpa using hl)
  subst hl'
  let G1 : Gh := { base := w.heap.size, old := fun _ => False, own := fun _ => none, inf := fun i => if i = 0 then some (1, 0, false) else none, top := fun _ => True }
  have hi1 : Inv G1 w := ⟨Nat.le_refl _, fun b j e => (by cases e), fun _ _ => trivial, by obtain ⟨w0, g1, g2, g3⟩ := hi.gw; exact ⟨w0, g1, g2, fun _ _ => rfl⟩⟩
  refine (S.2 G1 w _ hi1 ?_ fun j => ?_).mono fun e w' hq => ?_
  ·simp only [RepsL, Reps, RepC]
   exact ⟨_, _, rfl, ⟨1, 0, false, rfl, Nat.one_pos, rfl, .inr ⟨rfl, .inl ⟨rfl, rfl⟩⟩⟩, _, _, rfl, rfl, rfl⟩
  ·cases j with
   | zero => exact ⟨rfl, Nat.one_pos, fun b b' e => (by cases e), .inl ⟨rfl, fun b e => by cases e⟩⟩
   | succ j => exact ⟨rfl, fun b e => by cases e⟩
  ·obtain ⟨v, G', ids, rfl, X, hv, hb⟩ := hq
   simp only [Reps, RepC] at hv
   subst hv
   exact ⟨rfl, X.os, X.tape, X.output, X.size, fun b hb _ => (X.nn b hb rfl).2, fun b cs ty hb => by simp [blkC] at hb, .inl ⟨rfl, rfl⟩⟩
 ·have hlt := hi.own b' id h2
  let G1 : Gh := { base := w.heap.size, old := fun _ => False, own := fun x => if x = b' then some 0 else none, inf := fun i => if i = 0 then some (1, l.length, false) else none, top := fun _ => True }
  have ho : G1.own b' = some 0 := if_pos rfl
  have hown : ∀ b j, G1.own b = some j → b < w.heap.size := fun b j e => by
   by_cases e1 : b = b'
   ·rw [e1]; exact hlt
   ·have : G1.own b = none := if_neg e1
    rw [this] at e
    cases e
  have hi1 : Inv G1 w := ⟨Nat.le_refl _, hown, fun _ _ => trivial, by
   obtain ⟨w0, g1, g2, g3⟩ := hi.gw
   exact ⟨w0, g1, g2, fun b hb => if_neg (fun e => by rw [e] at hb; have := g3 b' hb; rw [h2] at this; cases this)⟩⟩
  have huniq : ∀ x, G1.own x = some 0 → x = b' := fun x e => by
   by_cases e1 : x = b'
   ·exact e1
   ·have : G1.own x = none := if_neg e1
    rw [this] at e; cases e
  refine (S.2 G1 w _ hi1 ?_ fun j => ?_).mono fun e w' hq => ?_
  ·simp only [RepsL, Reps, RepC]
   exact ⟨_, _, rfl, ⟨1, l.length, false, rfl, Nat.one_pos, rfl, .inr ⟨rfl, .inr ⟨b', c, cs', ty2, rfl, ⟨ho, trivial⟩, h4, by omega, h6, h7⟩⟩⟩, _, _, rfl, rfl, rfl⟩
  ·cases j with
   | zero => exact ⟨rfl, Nat.one_pos, fun x x' e e' => by rw [huniq x e, huniq x' e'], .inr ⟨b', cs', ⟨ho, trivial⟩, h4, by omega, RepE.mono (fun _ _ _ e => e.elim) 1 l _ h8⟩⟩
   | succ j => exact ⟨rfl, fun x e => by
     by_cases e1 : x = b'
     ·have : G1.own x = some 0 := if_pos e1
      rw [this] at e; cases e
     ·have : G1.own x = none := if_neg e1
      rw [this] at e; cases e⟩
  ·obtain ⟨v, G', ids, rfl, X, hv, hb⟩ := hq
   simp only [Reps, RepC] at hv
   subst hv
   have r := hb 0
   obtain ⟨r1, r2, r3, r4⟩ := r
   obtain ⟨n', f', a1, a2, a3, a4⟩ := X.inf 0 1 l.length false rfl
   rw [r1] at a1
   injection a1 with a1
   injection a1 with _ a1
   injection a1 with a1 a5
   have ho' := a4 (by omega) b' ho
   obtain ⟨cs3, s1, s2⟩ := X.same b' 0 cs' ty2 ho ho' ⟨1, l.length, false, false, rfl, by rw [r1, hl]⟩ h4
   refine ⟨rfl, X.os, X.tape, X.output, X.size, fun b hb hn => (X.nn b hb (if_neg (fun e => hn (by simp [blkC, e])))).2, fun b cs ty hb hc => ?_, ?_⟩
   ·simp only [blkC, List.mem_singleton] at hb
    subst hb
    rw [h4] at hc
    injection hc with hc
    injection hc with c1 c2
    subst c1 c2
    exact ⟨cs3, s1, s2⟩
   ·rcases r4 with ⟨_, r5⟩ | ⟨b2, cs2, r5, r6, r7, r8⟩
    ·exact absurd ho' (r5 b')
    ·have := r3 b2 b' r5.1 ho'
     subst this
     rw [s1] at r6
     injection r6 with r6
     injection r6 with r6 _
     subst r6
     exact .inr ⟨b2, c, cs3, by rw [hl], h2, h3, s1, by omega, by omega, h7, flat_rep hf r8⟩
theorem wpList_one {P : Program} {ops : Array Oper} {Q : Exit → Act → World → Prop} {o : Oper} {l : List Oper} {a : Act} {w : World} (hg : o.guard = none) (h : o.wp P a w (fun a w => wpList P ops Q l a w) Q) : wpList P ops Q (o :: l) a w := by
 unfold wpList
 rw [if_pos (by simp [Region.wanted, hg])]
 left
 exact h
theorem getD_put_same {a : Act} {d : Tmp} {v : Value} (h : d < a.tmps.size) : (a.put (some d) v).tmps.getD d undef = v := by
 simp [Act.put, Array.getElem?_setIfInBounds, h]
theorem row_ops {E : Env} {ops : Array Oper} {Q : Exit → Act → World → Prop} {o1 o2 o3 : Oper} {rest : List Oper} {c : Call} {t tp tk q1 q2 q3 : Nat} {i : TI} {f : FuncId} {id n e o sz : Nat} {ty ty2 : TypeId} {els : List (List CV)} {el : List CV} {l l' : List (List CV)} {k k' : Int}
  (h1 : o1.op = .load t (.tmp tp) ∧ o1.guard = none ∧ o1.dst = some q1) (h2 : o2.op = .move (.tmp tk) ∧ o2.guard = none ∧ o2.dst = some q2) (h3 : o3.op = .call c ∧ o3.guard = none ∧ o3.dst = some q3) (hc : c.callee = .value (.func f) ∧ c.args = #[.tmp q1, .tmp q2])
  (ht : look E.T t = some i ∧ i.k.isAgg = false) {s : List PV} {h : List Blk} {G : Gh} {a : Act} {w : World} (r : Rel s h G a w) (hq : q1 < s.length ∧ q2 < s.length ∧ q1 ≠ q2 ∧ tk ≠ q1) (hp : nth s tp = .eptr id n e o) (hkk : nth s tk = .v (.i .i64 k)) (hB : nthB h id = some (.tree sz ty ty2 els)) (hn : n = els.length)
  (hel : els[e]? = some el) (hco : el[o]? = some (.row l)) (S : Spec E.P f [.own 0 l.length, .v (.i .i64 k)] [.arr 1 ty2 false l] (.v (.i .i64 k')) [.arr 1 ty2 false l']) (hl : l'.length = l.length) (hf : Flat l')
  (cont : ∀ a' w', Rel (put (put (put s q1 .un) q2 (.v (.i .i64 k))) q3 (.v (.i .i64 k'))) (putB h id (.tree sz ty ty2 (els.set e (putL el o [.row l'])))) G a' w' → Ext [id] G w G w' → wpList E.P ops Q rest a' w') :
  wpList E.P ops Q (o1 :: o2 :: o3 :: rest) a w := by
 have hi := r.inv
 have rb := r.b id
 rw [hB] at rb
 have hlt : e < n := by rw [hn]; exact (List.getElem?_eq_some_iff.1 hel).1
 have hpv := r.t tp
 rw [hp] at hpv
 obtain ⟨b, cs, hptr, g1, g2, g3, g4, g5, g6⟩ := rb.tree_at hn hlt hpv
 have hlf := flatten_len g4
 have hels := g4 el (List.mem_of_getElem? hel)
 have ho : o < el.length := (List.getElem?_eq_some_iff.1 hco).1
 have he : e * sz + sz ≤ els.length * sz := by rw [← Nat.succ_mul]; exact Nat.mul_le_mul_right _ (by omega)
 have hp1 : e * sz + o < els.flatten.length := by rw [hlf]; omega
 have hFp : els.flatten[e * sz + o]? = some (.row l) := by
  have hco' := hco
  rw [flatten_get g4 hel, List.getElem?_take, if_pos (by omega), List.getElem?_drop] at hco'
  exact hco'
 have eF : els.flatten = els.flatten.take (e * sz + o) ++ (CV.row l :: els.flatten.drop (e * sz + o + 1)) := by
  have hlt' : e * sz + o < els.flatten.length := hp1
  have hg : els.flatten[e * sz + o] = CV.row l := by
   have := List.getElem?_eq_getElem hlt'
   rw [hFp] at this
   injection this with this
   exact this.symm
  rw [← hg, ← List.drop_eq_getElem_cons hlt', List.take_append_drop]
 have hlV := g5.len
 have lA : (els.flatten.take (e * sz + o)).length = e * sz + o := by rw [List.length_take]; omega
 have g5' := g5
 rw [eF] at g5'
 obtain ⟨tA, tM⟩ := g5'.split
 rw [lA] at tA tM
 simp only [TrP] at tM
 obtain ⟨u, vs', hu1, hu2, tB⟩ := tM
 have eV : cs.toList = cs.toList.take (e * sz + o) ++ (u :: vs') := by rw [← hu1, List.take_append_drop]
 have hu : InnR G w id ty2 l u := hu2
 have hcell : cs.toList[e * sz + o]? = some u := by
  have := congrArg (fun q => q[0]?) hu1
  simpa [List.getElem?_drop] using this
 have lV : (cs.toList.take (e * sz + o)).length = (els.flatten.take (e * sz + o)).length := by rw [lA, List.length_take]; omega
 have bV : blkP els.flatten cs.toList = blkP (els.flatten.take (e * sz + o)) (cs.toList.take (e * sz + o)) ++ (blkC (.row l) u ++ blkP (els.flatten.drop (e * sz + o + 1)) vs') := by
  conv => lhs; rw [eF, eV]
  rw [blkP_append lV]
  rfl
 refine wpList_one h1.2.1 ?_
 have hrun1 := run_load_one (w := w) (o := e * sz + o) (Env.fact ht.1) ht.2 g2 hcell
 have ex1 : (execOp a.eval o1).run E.P w = .ok (.value u) w := by
  unfold execOp
  simp only [h1.1]
  refine run_value ?_
  show (Instr.loadAt t (a.eval (.tmp tp))).run E.P w = _
  have : a.eval (.tmp tp) = .pointer (some ⟨b, e * sz + o, none⟩) := hptr
  rw [this]
  exact hrun1
 unfold Oper.wp
 rw [ex1]
 simp only [Oper.upon, h1.2.2]
 have r1 : Rel (put s q1 .un) h G (a.put (some q1) u) w := r.step (wr := []) (q := .un) (fun _ _ => rfl) (some q1) (Ext.refl hi []) (by simp only [Reps]) (fun j hj => by cases hj)
 have hv1 : (a.put (some q1) u).tmps.getD q1 undef = u := getD_put_same (by rw [r.size]; exact hq.1)
 have hk1 : (a.put (some q1) u).eval (.tmp tk) = .int .i64 k := by
  have := r1.t tk
  rw [nth_put_ne s q1 tk _ hq.2.2.2, hkk] at this
  simp only [Reps, RepC] at this
  exact this
 refine wpList_one h2.2.1 ?_
 have ex2 : (execOp (a.put (some q1) u).eval o2).run E.P w = .ok (.value (.int .i64 k)) w := by
  unfold execOp
  simp only [h2.1]
  rw [hk1]
  rfl
 unfold Oper.wp
 rw [ex2]
 simp only [Oper.upon, h2.2.2]
 have r2 : Rel (put (put s q1 .un) q2 (.v (.i .i64 k))) h G ((a.put (some q1) u).put (some q2) (.int .i64 k)) w := r1.step (wr := []) (q := .v (.i .i64 k)) (fun _ _ => rfl) (some q2) (Ext.refl hi []) (by simp only [Reps, RepC]) (fun j hj => by cases hj)
 have hv2 : ((a.put (some q1) u).put (some q2) (.int .i64 k)).eval (.tmp q1) = u := by
  show ((a.put (some q1) u).put (some q2) (.int .i64 k)).tmps.getD q1 undef = u
  rw [getD_put_ne hq.2.2.1]
  exact hv1
 have hv3 : ((a.put (some q1) u).put (some q2) (.int .i64 k)).eval (.tmp q2) = .int .i64 k := getD_put_same (by rw [r1.size, put_length]; exact hq.2.1)
 refine wpList_one h3.2.1 ?_
 have ex3 : (execOp ((a.put (some q1) u).put (some q2) (.int .i64 k)).eval o3).run E.P w = .ok (.enter f #[u, .int .i64 k]) w := by
  unfold execOp
  have hS := S.1 #[u, .int .i64 k] w
  simp only [h3.1]
  simp [resolve, hc.1, hc.2, Deferred.ofValue, invoke, hv2, hv3]
  simpa [Act.eval] using hS
 unfold Oper.wp
 rw [ex3]
 simp only [Oper.upon, h3.2.2]
 refine (row_calls S hl hf hi hu).mono ?_
 rintro e2 w' ⟨rfl, D⟩
 have hinb : ∀ x ∈ blkC (.row l) u, G.own x = some id ∧ ¬ G.top x := fun x hx => by
  rcases hu with ⟨_, rfl⟩ | ⟨b', c', cs', rfl, k1, k2, _⟩
  ·simp [blkC] at hx
  ·simp only [blkC, List.mem_singleton] at hx
   subst hx
   exact ⟨k1, k2⟩
 have hfar : ∀ x, x < w.heap.size → (G.own x ≠ some id ∨ G.top x) → w'.heap[x]? = w.heap[x]? := fun x hx hor => D.far x hx (fun hm => by
  obtain ⟨k1, k2⟩ := hinb x hm
  rcases hor with hor | hor
  ·exact hor k1
  ·exact k2 hor)
 have X : Ext [id] G w G w' :=
  {os := D.os
   tape := D.tape
   output := D.output
   size := D.size
   base := rfl
   old := rfl
   nn := fun x hx h0 => ⟨h0, hfar x hx (.inl (by rw [h0]; simp))⟩
   sm := fun x j h0 => ⟨fun hn => ⟨h0, hfar x (hi.own x j h0) (.inl (by rw [h0]; intro e; injection e with e; exact hn (by simp [e])))⟩, .inl h0⟩
   same := fun x j cs0 ty0 h0 _ _ hc0 => by
    by_cases hx : x ∈ blkC (.row l) u
    ·exact D.near x cs0 ty0 hx hc0
    ·exact ⟨cs0, (D.far x (hi.own x j h0) hx).trans hc0, rfl⟩
   fz := fun x j s0 n0 h0 hfz => by
    refine ⟨h0, hfar x (hi.own x j h0) (.inl ?_)⟩
    rw [h0]
    intro e
    injection e with e
    subst e
    rw [rb.1] at hfz
    cases hfz
   inf := fun j s0 n0 f0 h0 => ⟨n0, f0, h0, Nat.le_refl _, fun e => ⟨e, rfl⟩, fun _ x hx => hx⟩
   out := fun _ _ => rfl
   new := fun x j hx h0 => absurd (hi.own x j h0) (by omega)
   keep := fun x j h0 => Nat.lt_of_lt_of_le (hi.own x j h0) D.size
   tp := fun _ _ _ _ _ h => h
   nt := fun _ _ h _ => h
   tn := fun x hx => hi.top x (Nat.le_trans D.size hx) }
 refine cont _ w' (r2.step (wr := [id]) (fun j hj => nthB_putB_ne h id j _ (by simpa using hj)) (some q3) X (by simp only [Reps, RepC]) fun j hj => ?_) X
 simp only [List.mem_singleton] at hj
 subst hj
 rw [nthB_putB_same _ hB]
 obtain ⟨s1, s2, s3, s4⟩ := rb
 have fp := flatten_put (o := o) [CV.row l'] g4 hel (by simp; omega)
 simp only [List.length_singleton] at fp
 have keepI : ∀ l0 v0, InnR G w j ty2 l0 v0 → (∀ x ∈ blkC (.row l0) v0, x ∉ blkC (.row l) u) → InnR G w' j ty2 l0 v0 := fun l0 v0 q hs => by
  rcases q with q | ⟨b0, c0, cs0, k1, k2, k3, k4, k5⟩
  ·exact .inl q
  ·subst k1
   exact .inr ⟨b0, c0, cs0, rfl, k2, k3, (D.far b0 (hi.own b0 j k2) (hs b0 (by simp [blkC]))).trans k4, k5.1, k5.2.1, k5.2.2.1, RepE.mono (fun _ _ _ e => e.elim) 1 l0 _ k5.2.2.2⟩
 have hN := g6
 rw [bV, List.nodup_append] at hN
 obtain ⟨n1, n2, n3⟩ := hN
 rw [List.nodup_append] at n2
 obtain ⟨n4, n5, n6⟩ := n2
 have tA' := TrP.mono_of keepI tA (fun x hx hm => n3 x hx x (List.mem_append_left _ hm) rfl)
 have tB' := TrP.mono_of keepI tB (fun x hx hm => n6 x hm x hx rfl)
 have hblk : blkC (.row l') u = blkC (.row l) u := by cases u <;> first | rfl | (rename_i A _ _; cases A <;> rfl)
 refine ⟨by rw [List.length_set]; exact s1, s2, s3, .inr ⟨b, cs, g1, (hfar b (hi.own b j g1.1) (.inr g1.2)).trans g2, by rw [List.length_set]; exact g3, fun y hy => ?_, ?_, ?_⟩⟩
 ·rcases List.mem_or_eq_of_mem_set hy with hy | rfl
  ·exact g4 y hy
  ·rw [putL_length _ _ _ (by simp; omega)]
   exact hels
 ·rw [fp, eV, List.append_assoc]
  refine TrP.append tA' lV ?_
  simp only [List.singleton_append, TrP]
  exact ⟨u, vs', rfl, D.inn, tB'⟩
 ·rw [fp, eV, List.append_assoc, blkP_append lV]
  simp only [List.singleton_append, blkP]
  rw [hblk, List.nodup_append, List.nodup_append]
  exact ⟨n1, ⟨n4, n5, n6⟩, n3⟩
theorem ops_pre {E : Env} {ops : Array Oper} {Q : Exit → Act → World → Prop} {rest : List Oper} : ∀ (l : List Oper) (s : List PV) (h : List Blk) (K : List PV → List Blk → List (List Nat × List Nat) → Prop), (l.all fun o => o.guard.isNone) = true → aOps E ops.toList l s h K →
  ∀ (G : Gh) (a : Act) (w : World), Rel s h G a w → (∀ s' h' acc G' a' w' ids, K s' h' acc → Rel s' h' G' a' w' → Ext ids G w G' w' → wpList E.P ops Q rest a' w') → wpList E.P ops Q (l ++ rest) a w
 | [], s, h, K, _, hk, G, a, w, r, hQ => hQ s h [] G a w [] hk r (Ext.refl r.inv [])
 | o :: l, s, h, K, hg, hk, G, a, w, r, hQ => by
  simp only [List.all_cons, Bool.and_eq_true, Option.isNone_iff_eq_none] at hg
  unfold aOps at hk
  rw [hg.1] at hk
  obtain ⟨q, h', rd, wr, hk, g1, g2, g3⟩ := op_ok hk
  rw [List.cons_append]
  refine wpList_one hg.1 ?_
  refine g3 G a w r.inv (fun x _ => r.ev x) (fun id _ => r.b id) _ _ fun v G' w' X hq hb => ?_
  exact ops_pre l _ _ _ hg.2 hk G' _ w' (r.step g1 o.dst X hq hb) (fun s' h' acc G2 a2 w2 ids hK r2 X2 => hQ s' h' _ G2 a2 w2 _ hK r2 (X.trans r.inv X2))
inductive RowVC (E : Env) (s : List PV) (h : List Blk) (o1 o2 o3 : Oper) (K : List PV → List Blk → Prop) : Prop where
 | mk (c : Call) (t tp tk q1 q2 q3 : Nat) (i : TI) (f : FuncId) (id n e o sz : Nat) (ty ty2 : TypeId) (els : List (List CV)) (el : List CV) (l l' : List (List CV)) (k k' : Int)
  (h1 : o1.op = .load t (.tmp tp) ∧ o1.guard = none ∧ o1.dst = some q1) (h2 : o2.op = .move (.tmp tk) ∧ o2.guard = none ∧ o2.dst = some q2) (h3 : o3.op = .call c ∧ o3.guard = none ∧ o3.dst = some q3) (hc : c.callee = .value (.func f) ∧ c.args = #[.tmp q1, .tmp q2])
  (ht : look E.T t = some i ∧ i.k.isAgg = false) (hq : q1 < s.length ∧ q2 < s.length ∧ q1 ≠ q2 ∧ tk ≠ q1) (hp : nth s tp = .eptr id n e o) (hkk : nth s tk = .v (.i .i64 k)) (hB : nthB h id = some (.tree sz ty ty2 els)) (hn : n = els.length)
  (hel : els[e]? = some el) (hco : el[o]? = some (.row l)) (S : Spec E.P f [.own 0 l.length, .v (.i .i64 k)] [.arr 1 ty2 false l] (.v (.i .i64 k')) [.arr 1 ty2 false l']) (hl : l'.length = l.length) (hf : Flat l') (els' : List (List CV)) (he : els' = els.set e (putL el o [.row l']))
  (kk : K (put (put (put s q1 .un) q2 (.v (.i .i64 k))) q3 (.v (.i .i64 k'))) (putB h id (.tree sz ty ty2 els')))
def aRow (E : Env) (all pre : List Oper) (o1 o2 o3 : Oper) (post : List Oper) (s : List PV) (h : List Blk) (K : List PV → List Blk → Prop) : Prop :=
 aOps E all pre s h fun s1 h1 _ => RowVC E s1 h1 o1 o2 o3 fun s2 h2 => aOps E all post s2 h2 fun s3 h3 _ => K s3 h3
theorem row_region {E : Env} {rid : Nat} {ops : Array Oper} {pre post : List Oper} {o1 o2 o3 : Oper} (ho : ops.toList = pre ++ o1 :: o2 :: o3 :: post) (hg : (pre.all fun o => o.guard.isNone) = true) (hg2 : (post.all fun o => o.guard.isNone) = true) {s : List PV} {h : List Blk} {K : List PV → List Blk → Prop}
  (hk : aRow E ops.toList pre o1 o2 o3 post s h K) {G : Gh} {a : Act} {w : World} (r : Rel s h G a w) {Q : Exit → Act → World → Prop} (hQ : ∀ s' h' G' a' w', K s' h' → Rel s' h' G' a' w' → (∃ ids, Ext ids G w G' w') → Q .normal a' w') : (Code.region rid ops false).wp E.P Q a w := by
 refine wp_region_list ?_
 rw [ho]
 refine ops_pre pre s h _ hg hk G a w r fun s1 h1 acc G1 a1 w1 ids hK r1 X1 => ?_
 obtain ⟨c, t, tp, tk, q1, q2, q3, i, f, id, n, e, o, sz, ty, ty2, els, el, l, l', k, k', b1, b2, b3, b4, b5, b6, b7, b8, b9, b10, b11, b12, S, hl, hf, els', rfl, kk⟩ := hK
 refine row_ops b1 b2 b3 b4 b5 r1 b6 b7 b8 b9 b10 b11 b12 S hl hf fun a2 w2 r2 X2 => ?_
 have := ops_pre (rest := []) (Q := Q) post _ _ _ hg2 kk G1 a2 w2 r2 (fun s' h' acc G' a' w' ids' hK' r' X' => hQ s' h' G' a' w' hK' r' ⟨_, X1.trans r.inv (X2.trans r1.inv X')⟩)
 simpa using this
theorem list_region {E : Env} {rid : Nat} {ops : Array Oper} (hg : (ops.toList.all fun o => o.guard.isNone) = true) {s : List PV} {h : List Blk} {K : List PV → List Blk → List (List Nat × List Nat) → Prop}
  (hk : aOps E ops.toList ops.toList s h K) {G : Gh} {a : Act} {w : World} (r : Rel s h G a w) {Q : Exit → Act → World → Prop} (hQ : ∀ s' h' acc G' a' w', K s' h' acc → Rel s' h' G' a' w' → (∃ ids, Ext ids G w G' w') → Q .normal a' w') : (Code.region rid ops false).wp E.P Q a w := by
 refine wp_region_list ?_
 have := ops_pre (rest := []) (Q := Q) ops.toList s h K hg hk G a w r (fun s' h' acc G' a' w' ids' hK' r' X' => hQ s' h' acc G' a' w' hK' r' ⟨_, X'⟩)
 simpa using this
theorem map_rd {α : Type} (f : α → List CV) (d : α) (l : List α) {i : Int} (h0 : 0 ≤ i) (h1 : i < (l.length : Int)) : (List.map f l)[i.toNat]? = some (f (l.getD i.toNat d)) := by
 have h2 : i.toNat < l.length := by omega
 rw [List.getElem?_map, List.getD_eq_getElem?_getD, List.getElem?_eq_getElem h2]
 rfl
theorem map_rd_set {α : Type} (f : α → List CV) (l : List α) {i : Int} (y : α) (h0 : 0 ≤ i) (h1 : i < (l.length : Int)) : (List.map f (l.set i.toNat y))[i.toNat]? = some (f y) := by
 have h2 : i.toNat < l.length := by omega
 rw [List.getElem?_map, List.getElem?_set, if_pos rfl, if_pos h2]
 rfl
theorem rowid_ {E : Env} {s : List PV} {h : List Blk} {o1 o2 o3 : Oper} {K : List PV → List Blk → Prop} (k : RowVC E s h o1 o2 o3 K) : RowVC E s h o1 o2 o3 K := k
theorem row_block1 {E : Env} {bid rid : Nat} {ops : Array Oper} (pre post : List Oper) (o1 o2 o3 : Oper) {s : List PV} {h : List Blk} {A : Prop} {B : List PV → List Blk → Prop} (ho : ops.toList = pre ++ o1 :: o2 :: o3 :: post) (hg : (pre.all fun o => o.guard.isNone) = true) (hg2 : (post.all fun o => o.guard.isNone) = true)
  (hk : aRow E ops.toList pre o1 o2 o3 post s h B) : BlkVC E.P (.block bid (.region rid ops false)) s h A B :=
 .hand fun G a w r Q hQ => wp_block (row_region ho hg hg2 hk r fun s' h' G' a' w' hB r' hX => hQ s' h' G' a' w' hB r' hX)
theorem row_block3 {E : Env} {bid i1 i2 i3 : Nat} {ops1 ops2 ops3 : Array Oper} (pre post : List Oper) (o1 o2 o3 : Oper) {s : List PV} {h : List Blk} {A : Prop} {B : List PV → List Blk → Prop} (g1 : (ops1.toList.all fun o => o.guard.isNone) = true) (g2 : (ops2.toList.all fun o => o.guard.isNone) = true) (ho : ops3.toList = pre ++ o1 :: o2 :: o3 :: post) (hg : (pre.all fun o => o.guard.isNone) = true) (hg2 : (post.all fun o => o.guard.isNone) = true)
  (hk : aOps E ops1.toList ops1.toList s h fun s1 h1 _ => aOps E ops2.toList ops2.toList s1 h1 fun s2 h2 _ => aRow E ops3.toList pre o1 o2 o3 post s2 h2 B) : BlkVC E.P (.block bid ((Code.region i1 ops1 false).seq ((Code.region i2 ops2 false).seq (.region i3 ops3 false)))) s h A B :=
 .hand fun G a w r Q hQ => wp_block (wp_seq (list_region g1 hk r fun s1 h1 acc1 G1 a1 w1 hk1 r1 hX1 => wp_seq (list_region g2 hk1 r1 fun s2 h2 acc2 G2 a2 w2 hk2 r2 hX2 => row_region ho hg hg2 hk2 r2 fun s' h' G' a' w' hB r' hX => hQ s' h' G' a' w' hB r' (by
  obtain ⟨x1, X1⟩ := hX1
  obtain ⟨x2, X2⟩ := hX2
  obtain ⟨x3, X3⟩ := hX
  exact ⟨_, X1.trans r.inv (X2.trans r1.inv X3)⟩))))
end Go.Proofs.YthkepmicdpgbbaaGreatDoor.E

namespace Go.Proofs.YthkepmicdpgbbaaGreatDoor.E
open Go Go.RowKit Go.Proofs.YthkepmicdpgbbaaGreatDoorW.PrintWords
set_option linter.unusedVariables false
set_option linter.unusedSimpArgs false
section
variable {α β : Type} {r : α}
theorem itet_ {a b : Option α} (h : (if true = true then a else b) = some r) : a = some r := by simpa using h
theorem itef_ {a b : Option α} (h : (if false = true then a else b) = some r) : b = some r := by simpa using h
theorem peeln_ {c : Prop} [Decidable c] {x : Option α} (h : (if c then none else x) = some r) : ¬c ∧ x = some r := by
 by_cases hc : c
 ·rw [if_pos hc] at h
  cases h
 ·rw [if_neg hc] at h
  exact ⟨hc, h⟩
theorem suc_ {k : Nat} {g : Nat → Option α} (h : g k = some r) (h0 : g 0 = none) : ∃ k', k = k' + 1 := by
 cases k with
 | zero => rw [h0] at h; cases h
 | succ k => exact ⟨k, rfl⟩
variable {c : Prop} [Decidable c] {A B : Option α} {P Q : Prop} {x : Bool}
theorem br_ (H : (if c then A else B) = some r) (h : x = decide c) (t : c → A = some r → P) (f : ¬c → B = some r → Q) : Br x P Q := by
 subst h
 refine ⟨fun e => ?_, fun e => ?_⟩
 ·have e := of_decide_eq_true e
  rw [if_pos e] at H
  exact t e H
 ·have e := of_decide_eq_false e
  rw [if_neg e] at H
  exact f e H
theorem brn_ (H : (if c then A else B) = some r) (h : x = !decide c) (t : ¬c → B = some r → P) (f : c → A = some r → Q) : Br x P Q := by
 subst h
 refine ⟨fun e => ?_, fun e => ?_⟩
 ·have e := of_decide_eq_false (by simpa using e)
  rw [if_neg e] at H
  exact t e H
 ·have e := of_decide_eq_true (by simpa using e)
  rw [if_pos e] at H
  exact f e H
theorem bd_ (b : Bool) : b = decide (b = true) := by cases b <;> rfl
theorem bs_ (x y : ByteArray) : (x.toList == y.toList) = decide (x.toList = y.toList) := by
 rw [Bool.eq_iff_iff]
 simp
theorem bs0_ (x y : ByteArray) : (!(x.toList == y.toList)) = !decide (x.toList = y.toList) := by rw [bs_]
theorem bi_ (x y : Int) : (x == y) = decide (x = y) := rfl
theorem bni_ (x y : Int) : (x != y) = !decide (x = y) := rfl
theorem bin_ (x y : Int) : (!(x == y)) = !decide (x = y) := rfl
theorem bn_ (b : Bool) : (!b) = !decide (b = true) := by cases b <;> rfl
theorem bnn_ (b : Bool) : b = !decide ((!b) = true) := by cases b <;> rfl
theorem nilB (a : ByteArray) : (a.toList == []) = (a.toList == (⟨#[]⟩ : ByteArray).toList) := by
 have : (⟨#[]⟩ : ByteArray).toList = [] := by unfold ByteArray.toList; unfold ByteArray.toList.loop; rfl
 rw [this]
theorem nilE (a : ByteArray) : (a.toList = []) = (a.toList = (⟨#[]⟩ : ByteArray).toList) := by
 have : (⟨#[]⟩ : ByteArray).toList = [] := by unfold ByteArray.toList; unfold ByteArray.toList.loop; rfl
 rw [this]
theorem sgo_ {nref : Nat} {A : (List PV → List Blk → Prop) → Prop} {B : List PV → List Blk → Prop} (k : A B) : SeqVC nref A B := .go k
theorem scut_ {E : Env} {nref : Nat} (id : Nat) {ops : Array Oper} {draw : Bool} {s : List PV} {h : List Blk} {B : List PV → List Blk → Prop} {C : (List PV → List Blk → Prop) → KontC} (J : List PV → List Blk → Prop)
  (a : aCodeF E nref (.region id ops draw) s h (C fun s h => ∃ s' h', Weak s h nref s' h' ∧ J s' h')) (b : ∀ s h, J s h → B s h) : SeqVC nref (fun B => aCodeF E nref (.region id ops draw) s h (C B)) B := .cut J a b
theorem brt_ (t : P) : Br true P Q := ⟨fun _ => t, fun h => by cases h⟩
theorem brf_ (f : Q) : Br false P Q := ⟨fun h => by (cases h), fun _ => f⟩
theorem brct_ {a b : Bool} (h : Br a P Q) : Br (cond true a b) P Q := h
theorem brcf_ {a b : Bool} (h : Br b P Q) : Br (cond false a b) P Q := h
theorem br2t_ (h : Br x P Q) : Br2 x true P Q := ⟨h.t, fun e => h.f e⟩
theorem br2f_ (h : Br x Q P) : Br2 x false P Q := ⟨h.f, fun e => h.t e⟩
end
section
variable {e : Nat} {α : Type} {f : α → List CV} {K : List (List CV) → Prop}
theorem norm_nilapp {y : List α} (k : K (List.map f y)) : Norm e ([] ++ List.map f y) K := ⟨_, rfl, k⟩
theorem norm_appnil {y : List α} (k : K (List.map f y)) : Norm e (List.map f y ++ []) K := ⟨_, (List.append_nil _).symm, k⟩
theorem norm_app {x y : List α} (k : K (List.map f (x ++ y))) : Norm e (List.map f x ++ List.map f y) K := ⟨_, List.map_append, k⟩
theorem norm_set {l : List α} {i : Nat} {y : List CV} (v : α) (h : f v = y) (k : K (List.map f (l.set i v))) : Norm e ((List.map f l).set i y) K := ⟨_, by rw [List.map_set, h], k⟩
theorem norm_rep {n : Nat} {y : List CV} (v : α) (h : f v = y) (k : K (List.map f (List.replicate n v))) : Norm e (List.replicate n y) K := ⟨_, by rw [List.map_replicate, h], k⟩
theorem norm_td {l : List α} {m n : Nat} (k : K (List.map f ((l.take m).drop n))) : Norm e (((List.map f l).take m).drop n) K := ⟨_, by rw [List.map_drop, List.map_take], k⟩
theorem norm_t {l : List α} {m : Nat} (k : K (List.map f (l.take m))) : Norm e (((List.map f l).take m).drop ((0 : Int).toNat)) K := ⟨_, by rw [List.map_take]; rfl, k⟩
theorem norm_d {l : List α} {n : Nat} (k : K (List.map f (l.drop n))) : Norm e (((List.map f l).take (((List.map f l).length : Nat) : Int).toNat).drop n) K := ⟨_, by rw [List.map_drop, Int.toNat_natCast, List.take_length], k⟩
theorem norm_lit {sz n : Nat} {c : List CV} (l : List α) (h : List.map f l = chunks sz n c) (k : K (List.map f l)) : Norm e (chunks sz n c) K := ⟨_, h, k⟩
end
theorem elem_ {α : Type} {f : α → List CV} {l : List α} {j : Int} {K : List CV → Prop} (d v : α) (hv : l.getD j.toNat d = v) (k : K (f v)) (h0 : 0 ≤ j) (h1 : j < (l.length : Int)) : ElemAt (List.map f l) j.toNat K := by
 subst hv
 refine ⟨_, ?_, k⟩
 have h2 : j.toNat < l.length := by omega
 rw [List.getElem?_map, List.getD_eq_getElem?_getD, List.getElem?_eq_getElem h2]
 rfl
theorem lenm_ {α : Type} {f : α → List CV} {l : List α} {K : Nat → Prop} (k : K l.length) : LenAt (List.map f l) K := ⟨_, (List.length_map _).symm, k⟩
theorem stre_ {l : List Int} {K : List Int → Prop} (k : K l) : StrAt (List.map (fun x => [.i .u8 x]) l) K := ⟨l, rfl, k⟩
theorem stre0_ {K : List Int → Prop} (k : K []) : StrAt [] K := ⟨[], rfl, k⟩
theorem cons_eq {α : Type} {a b : α} {l m : List α} (h : a = b) (k : l = m) : a :: l = b :: m := by rw [h, k]
theorem vi_eq {k : IntKind} {a b : Int} (h : a = b) : PV.v (.i k a) = PV.v (.i k b) := by rw [h]
theorem wm_ (x : Int) : wrap64 (x % 256) = x % 256 := by unfold wrap64; omega
theorem own_eq {i n m : Nat} (h : n = m) : PV.own i n = PV.own i m := by rw [h]
theorem box_eq {t : TypeId} {l m : List PV} (h : l = m) : Blk.box t l = Blk.box t m := by rw [h]
theorem tup_eq {l m : List PV} (h : l = m) : PV.tup l = PV.tup m := by rw [h]
theorem agg_eq {l m : List PV} (h : l = m) : PV.agg l = PV.agg m := by rw [h]
theorem call_ {P : Program} {f : FuncId} {av av' : List PV} {bin bin' : List Blk} {K : PV → List Blk → Prop} {r : PV} {bl : List Blk} (h : Spec P f av' bin' r bl) (e : av' = av) (e2 : bin' = bin) (k : K r bl) : CallAt P f av bin K := by
 subst e e2
 exact ⟨r, bl, h, k⟩
section
variable {nref : Nat} {s : List PV} {h : List Blk}
theorem weak_ {keep : List Nat} {h' : List Blk} (ex : List (Nat × Nat)) (us : List (Option Nat)) (bs : List (List (Option Nat))) (ms : List Bool)
  (h0 : (posL ex && upIn (len h) (len h + len ex) us && upIns (len h) (len h + len ex) bs) = true) (hk : keepOf nref (upBs bs h ++ nils ex) (mask ms (upT us s)) = keep) (h2 : (nodup keep && pre 0 nref keep) = true)
  (h4 : pickB (idx keep) (upBs bs h ++ nils ex) keep = some h') : Weak s h nref (mask ms (gcT keep (upT us s))) h' := by
 simp only [Bool.and_eq_true] at h0 h2
 exact ⟨ex, us, bs, h0.1.1, h0.1.2, h0.2, _, ⟨keep, h2.1, fun i hi => by simpa using pre_ok nref 0 keep h2.2 i hi, h4, rfl⟩, ms, rfl⟩
theorem fin_ {q : PV} {r : PV} {bl : List Blk} (ex : List (Nat × Nat)) {keep : List Nat} (h0 : posL ex = true) (h1 : (upP (len h) q).2 = len h + len ex) (hk : keepOf nref (h ++ nils ex) [(upP (len h) q).1] = keep)
  (h2 : (nodup keep && pre 0 nref keep) = true) (h4 : pickB (idx keep) (h ++ nils ex) keep = some bl) (h5 : renP (idx keep) (upP (len h) q).1 = r) : Fin0 nref q h r bl := by
 simp only [Bool.and_eq_true] at h2
 exact ⟨ex, keep, posL_ok h0, h1, h2.1, fun i hi => by simpa using pre_ok nref 0 keep h2.2 i hi, by rw [← nils_map]; exact h4, h5⟩
end
def forceN : List Nat → (List Nat → Prop) → Prop
 | [], K => K []
 | 0 :: r, K => forceN r fun r => K (0 :: r)
 | (n + 1) :: r, K => forceN r fun r => K ((n + 1) :: r)
theorem forceN_eq : ∀ (l : List Nat) (K : List Nat → Prop), forceN l K = K l
 | [], K => by simp only [forceN]
 | 0 :: r, K => by simp only [forceN]; rw [forceN_eq r]
 | (n + 1) :: r, K => by simp only [forceN]; rw [forceN_eq r]
def nodupB : List Nat → Bool
 | [] => true
 | x :: r => !(has r x) && nodupB r
theorem has_eq : ∀ (l : List Nat) (x : Nat), has l x = l.contains x
 | [], x => by simp [has]
 | y :: r, x => by
  simp only [has, has_eq r x, List.contains_cons]
  congr 1
  rw [Bool.eq_iff_iff]
  constructor
  ·intro e
   rw [Nat.eq_of_beq_eq_true e]
   simp
  ·intro e
   rw [eq_of_beq e]
   exact Nat.beq_refl _
theorem nodupB_eq : ∀ l : List Nat, nodupB l = nodup l
 | [] => rfl
 | x :: r => by simp only [nodupB, nodup, has_eq, nodupB_eq r]
structure FinEq (q : PV) (h : List Blk) (r : PV) (bl : List Blk) : Prop where
 a : h = bl
 b : q = r
def finK (nref : Nat) (q : PV) (h : List Blk) (ex : List (Nat × Nat)) (r : PV) (bl : List Blk) : Prop :=
 forceP q fun q => match upP (len h) q with
  | (q, n) => forceP q fun q => forceB (h ++ nils ex) fun h2 => forceN (keepOf nref h2 [q]) fun keep => cond (posL ex && Nat.beq n (len h2) && nodupB keep && pre 0 nref keep)
    (match pickB (idx keep) h2 keep with
     | some b => forceB b fun b => forceP (renP (idx keep) q) fun q => FinEq q b r bl
     | none => False) False
theorem len_nils : ∀ (h : List Blk) (ex : List (Nat × Nat)), len (h ++ nils ex) = len h + len ex
 | [], [] => rfl
 | [], x :: ex => by
  have := len_nils [] ex
  simp only [List.nil_append, nils, len] at this ⊢
  omega
 | b :: h, ex => by
  have := len_nils h ex
  simp only [List.cons_append, len] at this ⊢
  omega
theorem finK0_ {nref : Nat} {q : PV} {h : List Blk} {r : PV} {bl : List Blk} (ex : List (Nat × Nat)) (k : finK nref q h ex r bl) : Fin0 nref q h r bl := by
 simp only [finK, forceP_eq, forceB_eq, forceN_eq] at k
 generalize hc : (posL ex && Nat.beq (upP (len h) q).2 (len (h ++ nils ex)) && nodupB (keepOf nref (h ++ nils ex) [(upP (len h) q).1]) && pre 0 nref (keepOf nref (h ++ nils ex) [(upP (len h) q).1])) = c at k
 cases c with
 | false => exact k.elim
 | true =>
  simp only [Bool.and_eq_true, nodupB_eq] at hc
  obtain ⟨⟨⟨c1, c2⟩, c3⟩, c4⟩ := hc
  simp only [cond_true] at k
  have c2 := Nat.eq_of_beq_eq_true c2
  rw [len_nils] at c2
  cases hp : pickB (idx (keepOf nref (h ++ nils ex) [(upP (len h) q).1])) (h ++ nils ex) (keepOf nref (h ++ nils ex) [(upP (len h) q).1]) with
  | none => rw [hp] at k; exact k.elim
  | some b =>
   rw [hp] at k
   obtain ⟨rfl, rfl⟩ := k
   exact fin_ ex c1 c2 rfl (by rw [c3, c4]; rfl) hp rfl
theorem finK_ {nref : Nat} {q : PV} {h : List Blk} {r : PV} {bl : List Blk} (ex : List (Nat × Nat)) (k : finK nref q h ex r bl) : FinVC nref q h r bl := .up (finK0_ ex k)
def weakK (nref : Nat) (s : List PV) (h : List Blk) (ex : List (Nat × Nat)) (us : List (Option Nat)) (bs : List (List (Option Nat))) (ms : List Bool) (K : List PV → List Blk → Prop) : Prop :=
 forceL (mask ms (upT us s)) fun s1 => forceB (upBs bs h ++ nils ex) fun h1 => forceN (keepOf nref h1 s1) fun keep =>
  cond (posL ex && upIn (len h) (len h + len ex) us && upIns (len h) (len h + len ex) bs && nodupB keep && pre 0 nref keep)
   (match pickB (idx keep) h1 keep with
    | some b => forceB b fun b => forceL (gcT keep s1) fun s2 => K s2 b
    | none => False) False
theorem mask_ren (m : Nat → Option Nat) : ∀ (ms : List Bool) (l : List PV), mask ms (renL m l) = renL m (mask ms l)
 | [], l => by simp [mask]
 | true :: ms, [] => by simp [mask, renL]
 | false :: ms, [] => by simp [mask, renL]
 | true :: ms, p :: l => by simp [mask, renL, mask_ren m ms l]
 | false :: ms, p :: l => by simp [mask, renL, renP, mask_ren m ms l]
theorem weakK_ {nref : Nat} {s : List PV} {h : List Blk} {ex : List (Nat × Nat)} {us : List (Option Nat)} {bs : List (List (Option Nat))} {ms : List Bool} {K : List PV → List Blk → Prop} (k : weakK nref s h ex us bs ms K) :
  ∃ s' h', Weak s h nref s' h' ∧ K s' h' := by
 simp only [weakK, forceL_eq, forceB_eq, forceN_eq] at k
 generalize hk : keepOf nref (upBs bs h ++ nils ex) (mask ms (upT us s)) = keep at k
 generalize hc : (posL ex && upIn (len h) (len h + len ex) us && upIns (len h) (len h + len ex) bs && nodupB keep && pre 0 nref keep) = c at k
 cases c with
 | false => exact k.elim
 | true =>
  simp only [Bool.and_eq_true, nodupB_eq] at hc
  obtain ⟨⟨⟨⟨c1, c2⟩, c3⟩, c4⟩, c5⟩ := hc
  simp only [cond_true] at k
  cases hp : pickB (idx keep) (upBs bs h ++ nils ex) keep with
  | none => rw [hp] at k; exact k.elim
  | some b =>
   rw [hp] at k
   refine ⟨_, b, weak_ ex us bs ms (by rw [c1, c2, c3]; rfl) hk (by rw [c4, c5]; rfl) hp, ?_⟩
   simp only [gcT, mask_ren] at k ⊢
   exact k
theorem loopK_ {nref : Nat} {s : List PV} {h : List Blk} {B : List PV → List Blk → (List PV → List Blk → Prop) → Prop} (I : Nat → List PV → List Blk → Prop) (ex : List (Nat × Nat)) (us : List (Option Nat)) (bs : List (List (Option Nat))) (ms : List Bool) (N : Nat)
  (i : weakK nref s h ex us bs ms (I N)) (r : ∀ n s h, n ≤ N → I n s h → B s h (NextVC nref (fun n s h => n ≤ N ∧ I n s h) n)) : LoopVC nref s h B := by
 obtain ⟨s', h', w, i⟩ := weakK_ i
 exact ⟨fun n s h => n ≤ N ∧ I n s h, N, _, _, w, ⟨Nat.le_refl _, i⟩, fun n s h q => r n s h q.1 q.2⟩
theorem nextK_ {nref : Nat} {s : List PV} {h : List Blk} {I : Nat → List PV → List Blk → Prop} {n N m : Nat} {P : Nat → Prop} (H : P m) (ms : List Bool) (i : weakK nref s h [] [] [] ms (I m)) (le : m ≤ N) (lt : m < n) : NextVC nref (fun n s h => n ≤ N ∧ I n s h) n s h := by
 obtain ⟨s', h', w, i⟩ := weakK_ i
 exact ⟨m, _, _, lt, w, le, i⟩
def spr : Nat → Nat → List (Nat × PV) → List PV
 | 0, _, _ => []
 | n + 1, i, [] => .un :: spr n (i + 1) []
 | n + 1, i, x :: r => cond (Nat.beq i x.1) (x.2 :: spr n (i + 1) r) (.un :: spr n (i + 1) (x :: r))
def bsp : Nat → Nat → List Nat → List Bool
 | 0, _, _ => []
 | n + 1, i, [] => false :: bsp n (i + 1) []
 | n + 1, i, x :: r => cond (Nat.beq i x) (true :: bsp n (i + 1) r) (false :: bsp n (i + 1) (x :: r))
theorem scg_ {E : Env} {nref : Nat} (id : Nat) {ops : Array Oper} {draw : Bool} {s : List PV} {h : List Blk} {B : List PV → List Blk → Prop} {C : (List PV → List Blk → Prop) → KontC}
  (k : SeqVC nref (fun B => aCodeF E nref (.region id ops draw) s h (C B)) B) : SeqVC nref (fun B => aCodeF E nref (.region id ops draw) s h (C B)) B := k
theorem brkt_ {x : Bool} {P Q : Prop} (h : x = true) (t : P) : Br x P Q := ⟨fun _ => t, fun e => by rw [h] at e; cases e⟩
theorem brkf_ {x : Bool} {P Q : Prop} (h : ¬x = true) (f : Q) : Br x P Q := ⟨fun e => absurd e h, fun _ => f⟩
theorem brknf_ {x : Bool} {P Q : Prop} (h : x = true) (f : Q) : Br (!x) P Q := ⟨fun e => (by rw [h] at e; cases e), fun _ => f⟩
theorem brknt_ {x : Bool} {P Q : Prop} (h : ¬x = true) (t : P) : Br (!x) P Q := ⟨fun _ => t, fun e => absurd (by simpa using e) h⟩
theorem handid_ {A B C : Prop} (h : HandVC A B C) : HandVC A B C := h
theorem handa_ {A B C : Prop} (h : A) : HandVC A B C := .a h
theorem handc_ {E : Env} {h : List Blk} {args : List PV} {rf : List Nat} {K : Kont} {A B : Prop} (f : Nat) (k : aGoL E h f args rf K) : HandVC A B (aGoL E h f args rf K) := .c k
theorem mkid_ {A : Prop} {B : Nat → Prop} (h : MkVC A B) : MkVC A B := h
theorem mka_ {A : Prop} {B : Nat → Prop} (h : A) : MkVC A B := .a h
theorem mkbs_ {E : Env} {h : List Blk} {n : Nat} {parts : List (Nat × PV)} {K : Kont} {A : Prop} (t ty2 : Nat) (k : aBuildTree E h t n parts ty2 K) : MkVC A (fun ty2 => aBuildTree E h t n parts ty2 K) := .b ty2 k
theorem mkbm_ {E : Env} {h : List Blk} {p q : PV} {K : Kont} {A : Prop} (t ty2 : Nat) (k : aMakeTree E h t p q ty2 K) : MkVC A (fun ty2 => aMakeTree E h t p q ty2 K) := .b ty2 k
theorem handb_ {E : Env} {h : List Blk} {args : List PV} {rf rf' : List Nat} {K : Kont} {C : Prop} (f : Nat) (k : aGoX E h f args rf' K) : HandVC (aGoX E h f args rf K) (aGoX E h f args rf' K) C := .b k
theorem idxa_ {j : Int} {n : Nat} {K : Nat → Prop} (i : Nat) (h : j = (i : Int)) (lt : i < n) (k : K i) : IdxAt j n K := ⟨i, h, lt, k⟩
theorem idxc_ {α : Type} {r : α} {j c : Int} {n : Nat} {K : Nat → Prop} {A B : Option α} (H : (if j = c then A else B) = some r) (i : Nat) (hc : c = (i : Int)) (lt : i < n) (t : A = some r → K i) (f : B = some r → IdxAt j n K) : IdxAt j n K := by
 by_cases e : j = c
 ·rw [if_pos e] at H
  exact ⟨i, e.trans hc, lt, t H⟩
 ·rw [if_neg e] at H
  exact f H
section
variable {nref n : Nat} {A : (List PV → List Blk → Prop) → Prop} {B : List PV → List Blk → Prop} {p K : Prop} {x y : Bool} {P Q : Prop} {e j : Nat} {l : List (List CV)} {KL : List (List CV) → Prop} {KE : List CV → Prop} {KN : Nat → Prop} {KS : List Int → Prop}
theorem idxid_ {j : Int} {n : Nat} {K : Nat → Prop} (h : IdxAt j n K) : IdxAt j n K := h
theorem seqid_ (h : SeqVC nref A B) : SeqVC nref A B := h
theorem blkid_ {P : Program} {c : Code} {s0 : List PV} {h0 : List Blk} {A : Prop} {B : List PV → List Blk → Prop} (h : BlkVC P c s0 h0 A B) : BlkVC P c s0 h0 A B := h
theorem bgo_ {P : Program} {c : Code} {s0 : List PV} {h0 : List Blk} {A : Prop} {B : List PV → List Blk → Prop} (h : A) : BlkVC P c s0 h0 A B := .go h
theorem sideid_ (h : Side p K) : Side p K := h
theorem brid_ (h : Br x P Q) : Br x P Q := h
theorem br2id_ (h : Br2 x y P Q) : Br2 x y P Q := h
theorem normid_ (h : Norm e l KL) : Norm e l KL := h
theorem elemid_ (h : ElemAt l j KE) : ElemAt l j KE := h
theorem lenid_ (h : LenAt l KN) : LenAt l KN := h
theorem strid_ (h : StrAt l KS) : StrAt l KS := h
theorem callid_ {Pr : Program} {f : FuncId} {as_ : List PV} {bin : List Blk} {KC : PV → List Blk → Prop} (h : CallAt Pr f as_ bin KC) : CallAt Pr f as_ bin KC := h
theorem loopid_ {s : List PV} {h : List Blk} {C : List PV → List Blk → (List PV → List Blk → Prop) → Prop} (k : LoopVC nref s h C) : LoopVC nref s h C := k
theorem nextid_ {I : Nat → List PV → List Blk → Prop} {s : List PV} {h : List Blk} (k : NextVC nref I n s h) : NextVC nref I n s h := k
theorem finid_ {q r : PV} {h bl : List Blk} (k : FinVC nref q h r bl) : FinVC nref q h r bl := k
theorem idH_ {α : Type} {F : Nat → Option α} {k : Nat} {r : α} (h : F k = some r) : F k = some r := h
theorem exid_ {F : List PV → Prop} (k : ∃ s, F s) : ∃ s, F s := k
theorem allid_ {F : List PV → List Blk → Prop} {G : List PV → List Blk → Prop} (k : ∀ s h, F s h → G s h) : ∀ s h, F s h → G s h := k
end
def aRowF (E : Env) (all pre : List Oper) (o1 o2 o3 : Oper) (post : List Oper) (s : List PV) (h : List Blk) (K : List PV → List Blk → Prop) : Prop :=
 aOpsF E all pre s h fun s1 h1 _ => forceL s1 fun s1 => forceB h1 fun h1 => RowVC E s1 h1 o1 o2 o3 fun s2 h2 => forceL s2 fun s2 => forceB h2 fun h2 => aOpsF E all post s2 h2 fun s3 h3 _ => forceL s3 fun s3 => forceB h3 fun h3 => K s3 h3
theorem aRowF_eq (E : Env) (all pre : List Oper) (o1 o2 o3 : Oper) (post : List Oper) (s : List PV) (h : List Blk) (K : List PV → List Blk → Prop) : aRowF E all pre o1 o2 o3 post s h K = aRow E all pre o1 o2 o3 post s h K := by
 simp only [aRowF, aRow, aOpsF_eq, forceL_eq, forceB_eq]
theorem row_block1F {E : Env} {bid rid : Nat} {ops : Array Oper} (pre post : List Oper) (o1 o2 o3 : Oper) {s : List PV} {h : List Blk} {A : Prop} {B : List PV → List Blk → Prop} (ho : ops.toList = pre ++ o1 :: o2 :: o3 :: post) (hg : (pre.all fun o => o.guard.isNone) = true) (hg2 : (post.all fun o => o.guard.isNone) = true)
  (hk : aRowF E ops.toList pre o1 o2 o3 post s h B) : BlkVC E.P (.block bid (.region rid ops false)) s h A B := row_block1 pre post o1 o2 o3 ho hg hg2 (by rw [aRowF_eq] at hk; exact hk)
theorem row_block3F {E : Env} {bid i1 i2 i3 : Nat} {ops1 ops2 ops3 : Array Oper} (pre post : List Oper) (o1 o2 o3 : Oper) {s : List PV} {h : List Blk} {A : Prop} {B : List PV → List Blk → Prop} (g1 : (ops1.toList.all fun o => o.guard.isNone) = true) (g2 : (ops2.toList.all fun o => o.guard.isNone) = true) (ho : ops3.toList = pre ++ o1 :: o2 :: o3 :: post) (hg : (pre.all fun o => o.guard.isNone) = true) (hg2 : (post.all fun o => o.guard.isNone) = true)
  (hk : aOpsF E ops1.toList ops1.toList s h fun s1 h1 _ => forceL s1 fun s1 => forceB h1 fun h1 => aOpsF E ops2.toList ops2.toList s1 h1 fun s2 h2 _ => forceL s2 fun s2 => forceB h2 fun h2 => aRowF E ops3.toList pre o1 o2 o3 post s2 h2 B) : BlkVC E.P (.block bid ((Code.region i1 ops1 false).seq ((Code.region i2 ops2 false).seq (.region i3 ops3 false)))) s h A B :=
 row_block3 pre post o1 o2 o3 g1 g2 ho hg hg2 (by simp only [aOpsF_eq, forceL_eq, forceB_eq, aRowF_eq] at hk; exact hk)
theorem bra_ {β : Type} {c : Prop} [Decidable c] {A B : Option β} {r : β} {x : Bool} {P Q : Prop} (H : (if c then A else B) = some r) (t : c → A = some r → P) (f : ¬c → B = some r → Q) (h : x = decide c := by with_reducible first | rfl | exact bi_ _ _ | exact bd_ _ | exact bs_ _ _) : Br x P Q := br_ H h t f
theorem brna_ {β : Type} {c : Prop} [Decidable c] {A B : Option β} {r : β} {x : Bool} {P Q : Prop} (H : (if c then A else B) = some r) (t : ¬c → B = some r → P) (f : c → A = some r → Q) (h : x = !decide c := by with_reducible first | rfl | exact bni_ _ _ | exact bin_ _ _ | exact bn_ _ | exact bs0_ _ _ | exact bnn_ _) : Br x P Q := brn_ H h t f
theorem bre_ {β : Type} {c : Prop} [Decidable c] {A B : Option β} {r : β} {x : Bool} {P Q : Prop} (H : (if c then A else B) = some r) (t : c → A = some r → P) (f : ¬c → B = some r → Q) (h : x = decide c := by exact Eq.refl _) : Br x P Q := br_ H h t f
theorem brne_ {β : Type} {c : Prop} [Decidable c] {A B : Option β} {r : β} {x : Bool} {P Q : Prop} (H : (if c then A else B) = some r) (t : ¬c → B = some r → P) (f : c → A = some r → Q) (h : x = !decide c := by exact Eq.refl _) : Br x P Q := brn_ H h t f
theorem elema_ {α : Type} {f : α → List CV} {l : List α} {j : Int} {K : List CV → Prop} (d v : α) (hv : l.getD j.toNat d = v) (k : K (f v)) (h0 : 0 ≤ j := by first | assumption | decide | omega) (h1 : j < (l.length : Int) := by first | assumption | omega) : ElemAt (List.map f l) j.toNat K := elem_ d v hv k h0 h1
theorem feq_ {q : PV} {h : List Blk} {r : PV} {bl : List Blk} (a : h = bl) (b : q = r := by first | rfl | (repeat' (first | rfl | refine own_eq ?_ | refine tup_eq ?_ | refine agg_eq ?_ | refine cons_eq ?_ ?_ | refine vi_eq ?_ | simp only [List.length_map, List.length_set, wm_]))) : FinEq q h r bl := ⟨a, b⟩
end Go.Proofs.YthkepmicdpgbbaaGreatDoor.E

namespace Go.Proofs.YthkepmicdpgbbaaGreatDoor.E
open Go Go.RowKit Go.Proofs.YthkepmicdpgbbaaGreatDoorW.PrintWords
set_option linter.unusedVariables false
set_option linter.unusedSimpArgs false
section
variable {G : Gh} {w w' : World}
theorem none_of (h : ∀ id, RelB G w id (nthB [] id)) : (∀ id, G.inf id = none) ∧ ∀ b, G.own b = none := by
 simp only [nthB, RelB] at h
 refine ⟨fun id => (h id).1, fun b => ?_⟩
 cases hb : G.own b with
 | none => rfl
 | some id => exact absurd hb ((h id).2 b)
theorem ext_below (ht : ∀ b, w.heap.size ≤ b → G.top b) (hn : ∀ b, G.own b = none) (hb : Below w.heap.size w w') : Ext [] G w G w' where
 os := hb.os
 tape := hb.tape
 output := hb.output
 size := hb.size
 base := rfl
 old := rfl
 nn := fun b hlt h => ⟨h, hb.block b hlt⟩
 sm := fun b id h => by rw [hn b] at h; cases h
 same := fun b id cs ty h => by rw [hn b] at h; cases h
 fz := fun b id sz n h => by rw [hn b] at h; cases h
 inf := fun id sz n f h => ⟨n, f, h, Nat.le_refl _, fun e => ⟨e, rfl⟩, fun _ b hb => hb⟩
 out := fun _ _ => rfl
 new := fun b id _ h => by rw [hn b] at h; cases h
 keep := fun b id h => by rw [hn b] at h; cases h
 tp := fun b id h => by rw [hn b] at h; cases h
 nt := fun b h => absurd (hn b) h
 tn := fun b h => ht b (Nat.le_trans hb.size h)
def Gh.new1 (G : Gh) (b : Option Nat) (sz n : Nat) : Gh := { G with own := fun x => if some x = b then some 0 else none, inf := fun i => if i = 0 then some (sz, n, false) else none }
theorem ext_new1 (ht : ∀ b, w.heap.size ≤ b → G.top b) (hf : ∀ id, G.inf id = none) (hn : ∀ b, G.own b = none) (hb : Below w.heap.size w w') (b0 : Option Nat) (sz n : Nat) (hle : ∀ x, b0 = some x → w.heap.size ≤ x ∧ x < w'.heap.size) : Ext [0] G w (G.new1 b0 sz n) w' where
 os := hb.os
 tape := hb.tape
 output := hb.output
 size := hb.size
 base := rfl
 old := rfl
 nn := fun b hlt h => ⟨by
  simp only [Gh.new1]
  rw [if_neg]
  intro e
  have := (hle b e.symm).1
  omega, hb.block b hlt⟩
 sm := fun b id h => by rw [hn b] at h; cases h
 same := fun b id cs ty h => by rw [hn b] at h; cases h
 fz := fun b id sz n h => by rw [hn b] at h; cases h
 inf := fun id sz n f h => by rw [hf id] at h; cases h
 out := fun id h => by
  simp only [Gh.new1]
  rw [hf id, if_neg (by simpa using h)]
 new := fun b id _ h => by
  simp only [Gh.new1] at h
  split at h
  ·injection h with h
   simp [h]
  ·cases h
 keep := fun b id h => by
  simp only [Gh.new1] at h
  split at h
  ·rename_i e
   exact (hle b e.symm).2
  ·cases h
 tp := fun b id h => by rw [hn b] at h; cases h
 nt := fun b h => absurd (hn b) h
 tn := fun b h => ht b (Nat.le_trans hb.size h)
end
section
variable {P : Program} {f : FuncId} {args : List PV}
theorem spec_val {r : PV} (hc : ∀ (as_ : Array Value) (w : World), (callFunc f as_).run P w = .ok (.enter f as_) w)
  (h : ∀ (G : Gh) (w : World) (vals : Array Value), Go.Proofs.YthkepmicdpgbbaaGreatDoor.P.GW w → RepsL G w args vals.toList → Calls P f vals w fun e w' => ∃ v, e = .returned v ∧ Below w.heap.size w w' ∧ ∀ G, Reps G w' r v) : Spec P f args [] r [] := by
 refine ⟨hc, fun G w vals hi hr hb => ?_⟩
 obtain ⟨h1, h2⟩ := none_of hb
 refine (h G w vals hi.gwat hr).mono fun e w' hq => ?_
 obtain ⟨v, rfl, hb', hv⟩ := hq
 refine ⟨v, G, [], rfl, ext_below hi.top h2 hb', hv G, fun id => ?_⟩
 simp only [nthB, RelB]
 exact ⟨h1 id, fun b => by rw [h2 b]; exact fun e => by cases e⟩
theorem spec_row {sz ty : Nat} {els : List (List CV)} (hsz : 0 < sz) (hc : ∀ (as_ : Array Value) (w : World), (callFunc f as_).run P w = .ok (.enter f as_) w)
  (h : ∀ (G : Gh) (w : World) (vals : Array Value), Go.Proofs.YthkepmicdpgbbaaGreatDoor.P.GW w → RepsL G w args vals.toList → Calls P f vals w fun e w' => ∃ v, e = .returned v ∧ Below w.heap.size w w' ∧
   ((v = .slice none 0 0 ∧ els = []) ∨ ∃ b c cs, v = .slice (some ⟨b, 0, none⟩) els.length c ∧ w.heap.size ≤ b ∧ w'.heap[b]? = some (.cells cs ty (0, 0)) ∧ cs.size = c * sz ∧ els.length ≤ c ∧ c ≤ maxLen ∧ ∀ I, RepE I w' sz els cs.toList)) :
  Spec P f args [] (.own 0 els.length) [.arr sz ty false els] := by
 refine ⟨hc, fun G w vals hi hr hb => ?_⟩
 obtain ⟨h1, h2⟩ := none_of hb
 refine (h G w vals hi.gwat hr).mono fun e w' hq => ?_
 obtain ⟨v, rfl, hb', hv⟩ := hq
 rcases hv with ⟨rfl, rfl⟩ | ⟨b, c, cs, rfl, q1, q2, q3, q4, q5, q6⟩
 ·refine ⟨_, G.new1 none sz 0, [0], rfl, ext_new1 hi.top h1 h2 hb' none sz 0 (fun x e => by cases e), ?_, fun id => ?_⟩
  ·simp only [Reps]
   exact ⟨sz, 0, false, rfl, hsz, rfl, .inr ⟨rfl, .inl ⟨rfl, rfl⟩⟩⟩
  ·cases id with
   | zero =>
    simp only [nthB, RelB]
    exact ⟨rfl, hsz, fun b b' e => by simp [Gh.new1] at e, .inl ⟨by simp, fun b e => by simp [Gh.new1] at e⟩⟩
   | succ id =>
    simp only [nthB, RelB]
    exact ⟨rfl, fun b e => by simp [Gh.new1] at e⟩
 ·have hlt : b < w'.heap.size := (Array.getElem?_eq_some_iff.1 q2).1
  refine ⟨_, G.new1 (some b) sz els.length, [0], rfl, ext_new1 hi.top h1 h2 hb' (some b) sz _ (fun x e => by injection e with e; subst e; exact ⟨q1, hlt⟩), ?_, fun id => ?_⟩
  ·simp only [Reps]
   exact ⟨sz, els.length, false, rfl, hsz, rfl, .inr ⟨rfl, .inr ⟨b, c, cs, ty, rfl, ⟨by simp [Gh.new1], hi.top _ q1⟩, q2, q3, q4, q5⟩⟩⟩
  ·cases id with
   | zero =>
    simp only [nthB, RelB]
    refine ⟨rfl, hsz, fun x y e e' => ?_, .inr ⟨b, cs, ⟨by simp [Gh.new1], hi.top _ q1⟩, q2, ?_, q6 _⟩⟩
    ·simp only [Gh.new1] at e e'
     split at e <;> split at e' <;> simp_all
    ·rw [q3]
     exact Nat.mul_le_mul_right _ q4
   | succ id =>
    simp only [nthB, RelB]
    refine ⟨rfl, fun x e => ?_⟩
    simp only [Gh.new1] at e
    split at e <;> simp at e
end
theorem repE_scalar {α : Type} {f : α → List CV} {enc : α → Value} (hf : ∀ I w x rest, RepP I w (f x) (enc x :: rest)) (hl : ∀ x, (f x).length = 1) {I : Nat → Prop} {w : World} : ∀ (xs : List α) (vs : List Value), vs.take xs.length = xs.map enc → RepE I w 1 (xs.map f) vs
 | [], _, _ => by simp [RepE]
 | x :: xs, [], h => by simp at h
 | x :: xs, v :: vs, h => by
  simp only [List.length_cons, List.take_succ_cons, List.map_cons, List.cons.injEq] at h
  simp only [List.map_cons, RepE, List.drop_succ_cons, List.drop_zero]
  exact ⟨hl x, by rw [h.1]; exact hf _ _ _ _, repE_scalar hf hl xs vs h.2⟩
theorem row_of_kd {α : Type} {f : α → List CV} {enc : α → Value} {h1 : ∀ x, (enc x).oneCell' = true} (hf : ∀ I w x rest, RepP I w (f x) (enc x :: rest)) (hl : ∀ x, (f x).length = 1) {e base : Nat} {w' : World} {ok : Nat → Prop} {v : Value} {xs : List α}
  (h : Kd.R (Kd.scalar enc h1) e w' base ok v xs) : (v = .slice none 0 0 ∧ xs.map f = []) ∨ ∃ b c cs, v = .slice (some ⟨b, 0, none⟩) (xs.map f).length c ∧ base ≤ b ∧ w'.heap[b]? = some (.cells cs e (0, 0)) ∧ cs.size = c * 1 ∧ (xs.map f).length ≤ c ∧ c ≤ maxLen ∧ ∀ I, RepE I w' 1 (xs.map f) cs.toList := by
 obtain ⟨_, inner, ⟨_, ho | ⟨g, cap, cur, rfl, hg, hh, r1, r2, r3, r4⟩⟩, hr⟩ := h
 ·obtain ⟨rfl, h0⟩ := ho
  exact .inl ⟨rfl, by rw [List.eq_nil_of_length_eq_zero h0]; rfl⟩
 ·refine .inr ⟨g, cap, cur, by rw [List.length_map], hg, hh, r3, by rw [List.length_map]; exact r1, r2, fun I => repE_scalar hf hl xs _ ?_⟩
  have r4' : cur.toList.take xs.length = inner := by rw [← r4]; congr 1; exact (Nat.mul_one _).symm
  rw [r4']
  apply List.ext_getElem?
  intro j
  rw [List.getElem?_map]
  cases hx : xs[j]? with
  | none =>
   have := List.getElem?_eq_none_iff.1 hx
   rw [List.getElem?_eq_none_iff.2 (by have := hr.1; simp only [Kd.scalar, Nat.mul_one] at this; omega)]
   rfl
  | some x =>
   have h2 := hr.2 j x hx
   have h3 : ((inner.drop (j * 1)).take 1) = [enc x] := h2
   rw [Nat.mul_one] at h3
   have h4 : (inner.drop j)[0]? = some (enc x) := by
    have := congrArg (fun l => l[0]?) h3
    simpa [List.getElem?_take] using this
   rw [List.getElem?_drop] at h4
   simpa using h4
theorem kdC_of {α : Type} (d : Kd α) (f : α → List CV) (hs : ∀ x, (f x).length = d.sz) (hk : ∀ x I w cs, RepP I w (f x) cs → d.K w x (cs.take d.sz)) {I : Nat → Prop} {w : World} {l : List α} {v : Value} (h : RepC I w (.row (l.map f)) v) :
  ∃ A c, v = .slice A l.length c ∧ l.length ≤ c ∧ d.C w A l.length l ∧ (l ≠ [] → ∀ ad, A = some ad → ad.spot = none) := by
 simp only [RepC, List.length_map] at h
 obtain ⟨A, c, rfl, h2, h3, h4⟩ := h
 refine ⟨A, c, rfl, h2, ⟨rfl, Nat.le_trans h3 (by decide), fun hpos => ?_⟩, fun hne ad hA => ?_⟩
 ·rcases h4 with h4 | ⟨b, o, sz, cs, ty, fr, rfl, h6, h7, h8, h9⟩
  ·have := List.map_eq_nil_iff.1 h4
   subst this
   simp at hpos
  ·refine ⟨_, rfl, fun j p hp => ?_⟩
   obtain ⟨g1, g2⟩ := RepE.at j (f p) h9 (by rw [List.getElem?_map, hp]; rfl)
   rw [hs] at g1
   subst g1
   refine ⟨_, ?_, hk p _ _ _ g2, fun i u hu => ?_⟩
   ·rw [List.length_take]
    have := g2.len
    rw [hs] at this
    omega
   ·rw [List.getElem?_take] at hu
    split at hu
    ·rw [List.getElem?_drop, List.getElem?_drop] at hu
     have hu' : cs[o + (j * d.sz + i)]? = some u := by simpa [Nat.add_assoc] using hu
     have e : (⟨b, o, none⟩ : Addr).add (j * d.sz + i) = ⟨b, o + (j * d.sz + i), none⟩ := by
      rw [Addr.add_lit]
     rw [e]
     simpa [World.cell?, h7] using hu'
    ·cases hu
 ·rcases h4 with h4 | ⟨b, o, sz, cs, ty, fr, h5, _⟩
  ·exact absurd (List.map_eq_nil_iff.1 h4) hne
  ·rw [h5] at hA
   injection hA with hA
   rw [← hA]
end Go.Proofs.YthkepmicdpgbbaaGreatDoor.E

namespace Go.Proofs.YthkepmicdpgbbaaGreatDoorW.PrintWords
open Go.RowKit
section
variable {P : Program} {d : Nat} {xs ys : Array Value} {f : Field} {fs : List Field} {a b : Value} {r s : Bool} {w : World}
theorem eqf_last (hn : (f.name == "_") = false) (ha : (part f.type xs f.offset).run P w = .ok a w) (hb : (part f.type ys f.offset).run P w = .ok b w) (he : (Op.equalIn d f.type a b).run P w = .ok r w) : (Op.eqFields d xs ys [f]).run P w = .ok r w := by
 have hn' : f.name ≠ "_" := by simpa using hn
 simp only [Op.eqFields, if_pos hn', Sem.run_bind, ha, hb, he, Result.andThen_ok]
 cases r <;> simp
theorem eqf_cons (hn : (f.name == "_") = false) (ha : (part f.type xs f.offset).run P w = .ok a w) (hb : (part f.type ys f.offset).run P w = .ok b w) (he : (Op.equalIn d f.type a b).run P w = .ok r w) (hr : (Op.eqFields d xs ys fs).run P w = .ok s w) : (Op.eqFields d xs ys (f :: fs)).run P w = .ok (r && s) w := by
 have hn' : f.name ≠ "_" := by simpa using hn
 rw [Op.eqFields]
 simp only [if_pos hn', Sem.run_bind, ha, hb, he, Result.andThen_ok]
 cases r
 ·simp
 ·simpa using hr
theorem eqA_of {t : TypeId} {fs : Array Field} (hu : P.underlying t = some (.struct fs)) (hp : P.stoodInHeld t = false) (h : (Op.eqFields d xs ys fs.toList).run P w = .ok r w) : (Op.equalIn (d + 1) t (.agg xs) (.agg ys)).run P w = .ok r w := by
 have hf : P.fieldsOf t = fs := by simp [Program.fieldsOf, hu]
 rw [run_equalIn_struct (P := P) w d t xs ys (by rw [hf]; exact hu) hp, hf]
 exact h
end
end Go.Proofs.YthkepmicdpgbbaaGreatDoorW.PrintWords

namespace Go.Proofs.YthkepmicdpgbbaaGreatDoor.E
open Go Go.RowKit
theorem ty2 : TyFact Tryz.prog 2 ⟨1, 8, .int .i64 0, .int .i64⟩ := ⟨by kernel_rfl, (show Tryz.prog.underlying 2 = some (.int .i64) by kernel_rfl), by kernel_rfl⟩
theorem ty3 : TyFact Tryz.prog 3 ⟨1, 8, .int .i64 0, .int .i64⟩ := ⟨by kernel_rfl, (show Tryz.prog.underlying 3 = some (.int .i64) by kernel_rfl), by kernel_rfl⟩
theorem ty4 : TyFact Tryz.prog 4 ⟨1, 1, .bool false, .bool⟩ := ⟨by kernel_rfl, (show Tryz.prog.underlying 4 = some (.bool) by kernel_rfl), by kernel_rfl⟩
theorem ty5 : TyFact Tryz.prog 5 ⟨1, 1, .int .u8 0, .int .u8⟩ := ⟨by kernel_rfl, (show Tryz.prog.underlying 5 = some (.int .u8) by kernel_rfl), by kernel_rfl⟩
theorem ty7 : TyFact Tryz.prog 7 ⟨4, 24, .agg #[.int .i64 0, .int .i64 0, .bool false, .int .u8 0], .struct [(0, 1), (1, 1), (2, 1), (3, 1)]⟩ := ⟨by kernel_rfl, (show ((Tryz.prog.underlying 7).bind structOf).map (fun l => l.map fun x => (x.1, (Tryz.prog.info? x.2).map (·.size))) = some [(0, some 1), (1, some 1), (2, some 1), (3, some 1)] by kernel_rfl), by kernel_rfl⟩
theorem ty9 : TyFact Tryz.prog 9 ⟨1, 16, .string (⟨#[]⟩ : ByteArray), .str⟩ := ⟨by kernel_rfl, (show Tryz.prog.underlying 9 = some (.string) by kernel_rfl), by kernel_rfl⟩
theorem ty12 : TyFact Tryz.prog 12 ⟨1, 8, .int .u64 0, .int .u64⟩ := ⟨by kernel_rfl, (show Tryz.prog.underlying 12 = some (.int .u64) by kernel_rfl), by kernel_rfl⟩
theorem ty13 : TyFact Tryz.prog 13 ⟨2, 24, .agg #[.string (⟨#[]⟩ : ByteArray), .int .u64 0], .struct [(0, 1), (1, 1)]⟩ := ⟨by kernel_rfl, (show ((Tryz.prog.underlying 13).bind structOf).map (fun l => l.map fun x => (x.1, (Tryz.prog.info? x.2).map (·.size))) = some [(0, some 1), (1, some 1)] by kernel_rfl), by kernel_rfl⟩
theorem ty15 : TyFact Tryz.prog 15 ⟨1, 8, .pointer none, .ptr 198⟩ := ⟨by kernel_rfl, (show Tryz.prog.underlying 15 = some (.pointer 198) by kernel_rfl), by kernel_rfl⟩
theorem ty16 : TyFact Tryz.prog 16 ⟨1, 8, .pointer none, .ptr 201⟩ := ⟨by kernel_rfl, (show Tryz.prog.underlying 16 = some (.pointer 201) by kernel_rfl), by kernel_rfl⟩
theorem ty17 : TyFact Tryz.prog 17 ⟨1, 8, .pointer none, .ptr 209⟩ := ⟨by kernel_rfl, (show Tryz.prog.underlying 17 = some (.pointer 209) by kernel_rfl), by kernel_rfl⟩
theorem ty18 : TyFact Tryz.prog 18 ⟨1, 8, .agg #[.pointer none], .struct [(0, 1)]⟩ := ⟨by kernel_rfl, (show ((Tryz.prog.underlying 18).bind structOf).map (fun l => l.map fun x => (x.1, (Tryz.prog.info? x.2).map (·.size))) = some [(0, some 1)] by kernel_rfl), by kernel_rfl⟩
theorem ty21 : TyFact Tryz.prog 21 ⟨1, 4, .int .i32 0, .int .i32⟩ := ⟨by kernel_rfl, (show Tryz.prog.underlying 21 = some (.int .i32) by kernel_rfl), by kernel_rfl⟩
theorem ty22 : TyFact Tryz.prog 22 ⟨1, 24, .slice none 0 0, .slice 5⟩ := ⟨by kernel_rfl, (show Tryz.prog.underlying 22 = some (.slice 5) by kernel_rfl), by kernel_rfl⟩
theorem ty24 : TyFact Tryz.prog 24 ⟨4, 40, .agg #[.int .i64 0, .int .i64 0, .int .i64 0, .string (⟨#[]⟩ : ByteArray)], .struct [(0, 1), (1, 1), (2, 1), (3, 1)]⟩ := ⟨by kernel_rfl, (show ((Tryz.prog.underlying 24).bind structOf).map (fun l => l.map fun x => (x.1, (Tryz.prog.info? x.2).map (·.size))) = some [(0, some 1), (1, some 1), (2, some 1), (3, some 1)] by kernel_rfl), by kernel_rfl⟩
theorem ty25 : TyFact Tryz.prog 25 ⟨4, 40, .agg #[.int .i64 0, .int .i64 0, .int .i64 0, .string (⟨#[]⟩ : ByteArray)], .struct [(0, 1), (1, 1), (2, 1), (3, 1)]⟩ := ⟨by kernel_rfl, (show ((Tryz.prog.underlying 25).bind structOf).map (fun l => l.map fun x => (x.1, (Tryz.prog.info? x.2).map (·.size))) = some [(0, some 1), (1, some 1), (2, some 1), (3, some 1)] by kernel_rfl), by kernel_rfl⟩
theorem ty35 : TyFact Tryz.prog 35 ⟨1, 24, .slice none 0 0, .slice 22⟩ := ⟨by kernel_rfl, (show Tryz.prog.underlying 35 = some (.slice 22) by kernel_rfl), by kernel_rfl⟩
theorem ty36 : TyFact Tryz.prog 36 ⟨1, 24, .slice none 0 0, .slice 125⟩ := ⟨by kernel_rfl, (show Tryz.prog.underlying 36 = some (.slice 125) by kernel_rfl), by kernel_rfl⟩
theorem ty37 : TyFact Tryz.prog 37 ⟨4, 64, .agg #[.slice none 0 0, .slice none 0 0, .int .i64 0, .bool false], .struct [(0, 1), (1, 1), (2, 1), (3, 1)]⟩ := ⟨by kernel_rfl, (show ((Tryz.prog.underlying 37).bind structOf).map (fun l => l.map fun x => (x.1, (Tryz.prog.info? x.2).map (·.size))) = some [(0, some 1), (1, some 1), (2, some 1), (3, some 1)] by kernel_rfl), by kernel_rfl⟩
theorem ty38 : TyFact Tryz.prog 38 ⟨4, 64, .agg #[.slice none 0 0, .slice none 0 0, .int .i64 0, .bool false], .struct [(0, 1), (1, 1), (2, 1), (3, 1)]⟩ := ⟨by kernel_rfl, (show ((Tryz.prog.underlying 38).bind structOf).map (fun l => l.map fun x => (x.1, (Tryz.prog.info? x.2).map (·.size))) = some [(0, some 1), (1, some 1), (2, some 1), (3, some 1)] by kernel_rfl), by kernel_rfl⟩
theorem ty40 : TyFact Tryz.prog 40 ⟨6, 64, .agg #[.int .i64 0, .string (⟨#[]⟩ : ByteArray), .int .i64 0, .string (⟨#[]⟩ : ByteArray), .int .i64 0, .int .i64 0], .struct [(0, 1), (1, 1), (2, 1), (3, 1), (4, 1), (5, 1)]⟩ := ⟨by kernel_rfl, (show ((Tryz.prog.underlying 40).bind structOf).map (fun l => l.map fun x => (x.1, (Tryz.prog.info? x.2).map (·.size))) = some [(0, some 1), (1, some 1), (2, some 1), (3, some 1), (4, some 1), (5, some 1)] by kernel_rfl), by kernel_rfl⟩
theorem ty41 : TyFact Tryz.prog 41 ⟨6, 64, .agg #[.int .i64 0, .string (⟨#[]⟩ : ByteArray), .int .i64 0, .string (⟨#[]⟩ : ByteArray), .int .i64 0, .int .i64 0], .struct [(0, 1), (1, 1), (2, 1), (3, 1), (4, 1), (5, 1)]⟩ := ⟨by kernel_rfl, (show ((Tryz.prog.underlying 41).bind structOf).map (fun l => l.map fun x => (x.1, (Tryz.prog.info? x.2).map (·.size))) = some [(0, some 1), (1, some 1), (2, some 1), (3, some 1), (4, some 1), (5, some 1)] by kernel_rfl), by kernel_rfl⟩
theorem ty44 : TyFact Tryz.prog 44 ⟨1, 24, .slice none 0 0, .slice 109⟩ := ⟨by kernel_rfl, (show Tryz.prog.underlying 44 = some (.slice 109) by kernel_rfl), by kernel_rfl⟩
theorem ty45 : TyFact Tryz.prog 45 ⟨4, 64, .agg #[.slice none 0 0, .slice none 0 0, .int .i64 0, .bool false], .struct [(0, 1), (1, 1), (2, 1), (3, 1)]⟩ := ⟨by kernel_rfl, (show ((Tryz.prog.underlying 45).bind structOf).map (fun l => l.map fun x => (x.1, (Tryz.prog.info? x.2).map (·.size))) = some [(0, some 1), (1, some 1), (2, some 1), (3, some 1)] by kernel_rfl), by kernel_rfl⟩
theorem ty46 : TyFact Tryz.prog 46 ⟨4, 64, .agg #[.slice none 0 0, .slice none 0 0, .int .i64 0, .bool false], .struct [(0, 1), (1, 1), (2, 1), (3, 1)]⟩ := ⟨by kernel_rfl, (show ((Tryz.prog.underlying 46).bind structOf).map (fun l => l.map fun x => (x.1, (Tryz.prog.info? x.2).map (·.size))) = some [(0, some 1), (1, some 1), (2, some 1), (3, some 1)] by kernel_rfl), by kernel_rfl⟩
theorem ty51 : TyFact Tryz.prog 51 ⟨8, 80, .agg #[.int .i64 0, .string (⟨#[]⟩ : ByteArray), .int .i64 0, .string (⟨#[]⟩ : ByteArray), .int .i64 0, .int .i64 0, .int .i64 0, .int .i64 0], .struct [(0, 6), (6, 1), (7, 1)]⟩ := ⟨by kernel_rfl, (show ((Tryz.prog.underlying 51).bind structOf).map (fun l => l.map fun x => (x.1, (Tryz.prog.info? x.2).map (·.size))) = some [(0, some 6), (6, some 1), (7, some 1)] by kernel_rfl), by kernel_rfl⟩
theorem ty52 : TyFact Tryz.prog 52 ⟨8, 80, .agg #[.int .i64 0, .string (⟨#[]⟩ : ByteArray), .int .i64 0, .string (⟨#[]⟩ : ByteArray), .int .i64 0, .int .i64 0, .int .i64 0, .int .i64 0], .struct [(0, 6), (6, 1), (7, 1)]⟩ := ⟨by kernel_rfl, (show ((Tryz.prog.underlying 52).bind structOf).map (fun l => l.map fun x => (x.1, (Tryz.prog.info? x.2).map (·.size))) = some [(0, some 6), (6, some 1), (7, some 1)] by kernel_rfl), by kernel_rfl⟩
theorem ty65 : TyFact Tryz.prog 65 ⟨4, 40, .agg #[.int .i64 0, .int .i64 0, .int .i64 0, .string (⟨#[]⟩ : ByteArray)], .struct [(0, 1), (1, 1), (2, 1), (3, 1)]⟩ := ⟨by kernel_rfl, (show ((Tryz.prog.underlying 65).bind structOf).map (fun l => l.map fun x => (x.1, (Tryz.prog.info? x.2).map (·.size))) = some [(0, some 1), (1, some 1), (2, some 1), (3, some 1)] by kernel_rfl), by kernel_rfl⟩
theorem ty73 : TyFact Tryz.prog 73 ⟨1, 8, .pointer none, .ptr 115⟩ := ⟨by kernel_rfl, (show Tryz.prog.underlying 73 = some (.pointer 115) by kernel_rfl), by kernel_rfl⟩
theorem ty77 : TyFact Tryz.prog 77 ⟨1, 24, .slice none 0 0, .slice 3⟩ := ⟨by kernel_rfl, (show Tryz.prog.underlying 77 = some (.slice 3) by kernel_rfl), by kernel_rfl⟩
theorem ty104 : TyFact Tryz.prog 104 ⟨1, 24, .slice none 0 0, .slice 25⟩ := ⟨by kernel_rfl, (show Tryz.prog.underlying 104 = some (.slice 25) by kernel_rfl), by kernel_rfl⟩
theorem ty108 : TyFact Tryz.prog 108 ⟨2, 32, .agg #[.int .i64 0, .slice none 0 0], .struct [(0, 1), (1, 1)]⟩ := ⟨by kernel_rfl, (show ((Tryz.prog.underlying 108).bind structOf).map (fun l => l.map fun x => (x.1, (Tryz.prog.info? x.2).map (·.size))) = some [(0, some 1), (1, some 1)] by kernel_rfl), by kernel_rfl⟩
theorem ty109 : TyFact Tryz.prog 109 ⟨2, 32, .agg #[.int .i64 0, .slice none 0 0], .struct [(0, 1), (1, 1)]⟩ := ⟨by kernel_rfl, (show ((Tryz.prog.underlying 109).bind structOf).map (fun l => l.map fun x => (x.1, (Tryz.prog.info? x.2).map (·.size))) = some [(0, some 1), (1, some 1)] by kernel_rfl), by kernel_rfl⟩
theorem ty111 : TyFact Tryz.prog 111 ⟨1, 8, .pointer none, .ptr 52⟩ := ⟨by kernel_rfl, (show Tryz.prog.underlying 111 = some (.pointer 52) by kernel_rfl), by kernel_rfl⟩
theorem ty114 : TyFact Tryz.prog 114 ⟨3, 40, .agg #[.slice none 0 0, .int .i64 0, .int .i64 0], .struct [(0, 1), (1, 1), (2, 1)]⟩ := ⟨by kernel_rfl, (show ((Tryz.prog.underlying 114).bind structOf).map (fun l => l.map fun x => (x.1, (Tryz.prog.info? x.2).map (·.size))) = some [(0, some 1), (1, some 1), (2, some 1)] by kernel_rfl), by kernel_rfl⟩
theorem ty115 : TyFact Tryz.prog 115 ⟨3, 40, .agg #[.slice none 0 0, .int .i64 0, .int .i64 0], .struct [(0, 1), (1, 1), (2, 1)]⟩ := ⟨by kernel_rfl, (show ((Tryz.prog.underlying 115).bind structOf).map (fun l => l.map fun x => (x.1, (Tryz.prog.info? x.2).map (·.size))) = some [(0, some 1), (1, some 1), (2, some 1)] by kernel_rfl), by kernel_rfl⟩
theorem ty117 : TyFact Tryz.prog 117 ⟨1, 8, .int .u64 0, .int .u64⟩ := ⟨by kernel_rfl, (show Tryz.prog.underlying 117 = some (.int .u64) by kernel_rfl), by kernel_rfl⟩
theorem ty120 : TyFact Tryz.prog 120 ⟨1, 24, .slice none 0 0, .slice 138⟩ := ⟨by kernel_rfl, (show Tryz.prog.underlying 120 = some (.slice 138) by kernel_rfl), by kernel_rfl⟩
theorem ty125 : TyFact Tryz.prog 125 ⟨2, 32, .agg #[.int .i64 0, .slice none 0 0], .struct [(0, 1), (1, 1)]⟩ := ⟨by kernel_rfl, (show ((Tryz.prog.underlying 125).bind structOf).map (fun l => l.map fun x => (x.1, (Tryz.prog.info? x.2).map (·.size))) = some [(0, some 1), (1, some 1)] by kernel_rfl), by kernel_rfl⟩
theorem ty131 : TyFact Tryz.prog 131 ⟨1, 8, .pointer none, .ptr 46⟩ := ⟨by kernel_rfl, (show Tryz.prog.underlying 131 = some (.pointer 46) by kernel_rfl), by kernel_rfl⟩
theorem ty135 : TyFact Tryz.prog 135 ⟨1, 24, .slice none 0 0, .slice 9⟩ := ⟨by kernel_rfl, (show Tryz.prog.underlying 135 = some (.slice 9) by kernel_rfl), by kernel_rfl⟩
theorem ty137 : TyFact Tryz.prog 137 ⟨5, 48, .agg #[.string (⟨#[]⟩ : ByteArray), .int .i64 0, .int .i64 0, .int .i64 0, .int .i64 0], .struct [(0, 1), (1, 1), (2, 1), (3, 1), (4, 1)]⟩ := ⟨by kernel_rfl, (show ((Tryz.prog.underlying 137).bind structOf).map (fun l => l.map fun x => (x.1, (Tryz.prog.info? x.2).map (·.size))) = some [(0, some 1), (1, some 1), (2, some 1), (3, some 1), (4, some 1)] by kernel_rfl), by kernel_rfl⟩
theorem ty138 : TyFact Tryz.prog 138 ⟨5, 48, .agg #[.string (⟨#[]⟩ : ByteArray), .int .i64 0, .int .i64 0, .int .i64 0, .int .i64 0], .struct [(0, 1), (1, 1), (2, 1), (3, 1), (4, 1)]⟩ := ⟨by kernel_rfl, (show ((Tryz.prog.underlying 138).bind structOf).map (fun l => l.map fun x => (x.1, (Tryz.prog.info? x.2).map (·.size))) = some [(0, some 1), (1, some 1), (2, some 1), (3, some 1), (4, some 1)] by kernel_rfl), by kernel_rfl⟩
theorem ty146 : TyFact Tryz.prog 146 ⟨4, 32, .agg #[.int .i64 0, .int .i64 0, .int .i64 0, .int .i64 0], .array 4 3⟩ := ⟨by kernel_rfl, (show Tryz.prog.underlying 146 = some (.array 4 3) by kernel_rfl), by kernel_rfl⟩
theorem ty157 : TyFact Tryz.prog 157 ⟨1, 8, .pointer none, .ptr 159⟩ := ⟨by kernel_rfl, (show Tryz.prog.underlying 157 = some (.pointer 159) by kernel_rfl), by kernel_rfl⟩
theorem ty158 : TyFact Tryz.prog 158 ⟨2, 32, .agg #[.pointer none, .slice none 0 0], .struct [(0, 1), (1, 1)]⟩ := ⟨by kernel_rfl, (show ((Tryz.prog.underlying 158).bind structOf).map (fun l => l.map fun x => (x.1, (Tryz.prog.info? x.2).map (·.size))) = some [(0, some 1), (1, some 1)] by kernel_rfl), by kernel_rfl⟩
def tys : List (Nat × TI) := [(2, ⟨1, 8, .int .i64 0, .int .i64⟩), (3, ⟨1, 8, .int .i64 0, .int .i64⟩), (4, ⟨1, 1, .bool false, .bool⟩), (5, ⟨1, 1, .int .u8 0, .int .u8⟩), (7, ⟨4, 24, .agg #[.int .i64 0, .int .i64 0, .bool false, .int .u8 0], .struct [(0, 1), (1, 1), (2, 1), (3, 1)]⟩), (9, ⟨1, 16, .string (⟨#[]⟩ : ByteArray), .str⟩), (12, ⟨1, 8, .int .u64 0, .int .u64⟩), (13, ⟨2, 24, .agg #[.string (⟨#[]⟩ : ByteArray), .int .u64 0], .struct [(0, 1), (1, 1)]⟩), (15, ⟨1, 8, .pointer none, .ptr 198⟩), (16, ⟨1, 8, .pointer none, .ptr 201⟩), (17, ⟨1, 8, .pointer none, .ptr 209⟩), (18, ⟨1, 8, .agg #[.pointer none], .struct [(0, 1)]⟩), (21, ⟨1, 4, .int .i32 0, .int .i32⟩), (22, ⟨1, 24, .slice none 0 0, .slice 5⟩), (24, ⟨4, 40, .agg #[.int .i64 0, .int .i64 0, .int .i64 0, .string (⟨#[]⟩ : ByteArray)], .struct [(0, 1), (1, 1), (2, 1), (3, 1)]⟩), (25, ⟨4, 40, .agg #[.int .i64 0, .int .i64 0, .int .i64 0, .string (⟨#[]⟩ : ByteArray)], .struct [(0, 1), (1, 1), (2, 1), (3, 1)]⟩), (35, ⟨1, 24, .slice none 0 0, .slice 22⟩), (36, ⟨1, 24, .slice none 0 0, .slice 125⟩), (37, ⟨4, 64, .agg #[.slice none 0 0, .slice none 0 0, .int .i64 0, .bool false], .struct [(0, 1), (1, 1), (2, 1), (3, 1)]⟩), (38, ⟨4, 64, .agg #[.slice none 0 0, .slice none 0 0, .int .i64 0, .bool false], .struct [(0, 1), (1, 1), (2, 1), (3, 1)]⟩), (40, ⟨6, 64, .agg #[.int .i64 0, .string (⟨#[]⟩ : ByteArray), .int .i64 0, .string (⟨#[]⟩ : ByteArray), .int .i64 0, .int .i64 0], .struct [(0, 1), (1, 1), (2, 1), (3, 1), (4, 1), (5, 1)]⟩), (41, ⟨6, 64, .agg #[.int .i64 0, .string (⟨#[]⟩ : ByteArray), .int .i64 0, .string (⟨#[]⟩ : ByteArray), .int .i64 0, .int .i64 0], .struct [(0, 1), (1, 1), (2, 1), (3, 1), (4, 1), (5, 1)]⟩), (44, ⟨1, 24, .slice none 0 0, .slice 109⟩), (45, ⟨4, 64, .agg #[.slice none 0 0, .slice none 0 0, .int .i64 0, .bool false], .struct [(0, 1), (1, 1), (2, 1), (3, 1)]⟩), (46, ⟨4, 64, .agg #[.slice none 0 0, .slice none 0 0, .int .i64 0, .bool false], .struct [(0, 1), (1, 1), (2, 1), (3, 1)]⟩), (51, ⟨8, 80, .agg #[.int .i64 0, .string (⟨#[]⟩ : ByteArray), .int .i64 0, .string (⟨#[]⟩ : ByteArray), .int .i64 0, .int .i64 0, .int .i64 0, .int .i64 0], .struct [(0, 6), (6, 1), (7, 1)]⟩), (52, ⟨8, 80, .agg #[.int .i64 0, .string (⟨#[]⟩ : ByteArray), .int .i64 0, .string (⟨#[]⟩ : ByteArray), .int .i64 0, .int .i64 0, .int .i64 0, .int .i64 0], .struct [(0, 6), (6, 1), (7, 1)]⟩), (65, ⟨4, 40, .agg #[.int .i64 0, .int .i64 0, .int .i64 0, .string (⟨#[]⟩ : ByteArray)], .struct [(0, 1), (1, 1), (2, 1), (3, 1)]⟩), (73, ⟨1, 8, .pointer none, .ptr 115⟩), (77, ⟨1, 24, .slice none 0 0, .slice 3⟩), (104, ⟨1, 24, .slice none 0 0, .slice 25⟩), (108, ⟨2, 32, .agg #[.int .i64 0, .slice none 0 0], .struct [(0, 1), (1, 1)]⟩), (109, ⟨2, 32, .agg #[.int .i64 0, .slice none 0 0], .struct [(0, 1), (1, 1)]⟩), (111, ⟨1, 8, .pointer none, .ptr 52⟩), (114, ⟨3, 40, .agg #[.slice none 0 0, .int .i64 0, .int .i64 0], .struct [(0, 1), (1, 1), (2, 1)]⟩), (115, ⟨3, 40, .agg #[.slice none 0 0, .int .i64 0, .int .i64 0], .struct [(0, 1), (1, 1), (2, 1)]⟩), (117, ⟨1, 8, .int .u64 0, .int .u64⟩), (120, ⟨1, 24, .slice none 0 0, .slice 138⟩), (125, ⟨2, 32, .agg #[.int .i64 0, .slice none 0 0], .struct [(0, 1), (1, 1)]⟩), (131, ⟨1, 8, .pointer none, .ptr 46⟩), (135, ⟨1, 24, .slice none 0 0, .slice 9⟩), (137, ⟨5, 48, .agg #[.string (⟨#[]⟩ : ByteArray), .int .i64 0, .int .i64 0, .int .i64 0, .int .i64 0], .struct [(0, 1), (1, 1), (2, 1), (3, 1), (4, 1)]⟩), (138, ⟨5, 48, .agg #[.string (⟨#[]⟩ : ByteArray), .int .i64 0, .int .i64 0, .int .i64 0, .int .i64 0], .struct [(0, 1), (1, 1), (2, 1), (3, 1), (4, 1)]⟩), (146, ⟨4, 32, .agg #[.int .i64 0, .int .i64 0, .int .i64 0, .int .i64 0], .array 4 3⟩), (157, ⟨1, 8, .pointer none, .ptr 159⟩), (158, ⟨2, 32, .agg #[.pointer none, .slice none 0 0], .struct [(0, 1), (1, 1)]⟩)]
theorem tys_ok : ∀ x ∈ tys, TyFact Tryz.prog x.1 x.2 := by
 intro x hx
 simp only [tys, List.mem_cons, List.not_mem_nil, or_false] at hx
 rcases hx with rfl | rfl | rfl | rfl | rfl | rfl | rfl | rfl | rfl | rfl | rfl | rfl | rfl | rfl | rfl | rfl | rfl | rfl | rfl | rfl | rfl | rfl | rfl | rfl | rfl | rfl | rfl | rfl | rfl | rfl | rfl | rfl | rfl | rfl | rfl | rfl | rfl | rfl | rfl | rfl | rfl | rfl | rfl | rfl | rfl | rfl
 ·exact ty2
 ·exact ty3
 ·exact ty4
 ·exact ty5
 ·exact ty7
 ·exact ty9
 ·exact ty12
 ·exact ty13
 ·exact ty15
 ·exact ty16
 ·exact ty17
 ·exact ty18
 ·exact ty21
 ·exact ty22
 ·exact ty24
 ·exact ty25
 ·exact ty35
 ·exact ty36
 ·exact ty37
 ·exact ty38
 ·exact ty40
 ·exact ty41
 ·exact ty44
 ·exact ty45
 ·exact ty46
 ·exact ty51
 ·exact ty52
 ·exact ty65
 ·exact ty73
 ·exact ty77
 ·exact ty104
 ·exact ty108
 ·exact ty109
 ·exact ty111
 ·exact ty114
 ·exact ty115
 ·exact ty117
 ·exact ty120
 ·exact ty125
 ·exact ty131
 ·exact ty135
 ·exact ty137
 ·exact ty138
 ·exact ty146
 ·exact ty157
 ·exact ty158
theorem mixed : Tryz.prog.follows .mixedOrders = true := Tryz.checked.mixed
open Go.Proofs.YthkepmicdpgbbaaGreatDoorW.PrintWords
set_option maxRecDepth 100000
theorem eqA25 (d : Nat) (w : World) (x0 y0 : Int) (x1 y1 : Int) (x2 y2 : Int) (x3 y3 : ByteArray) : (Op.equalIn (d + 2) 25 (.agg #[.int .i64 x0, .int .i64 x1, .int .i64 x2, .string x3]) (.agg #[.int .i64 y0, .int .i64 y1, .int .i64 y2, .string y3])).run Tryz.prog w = .ok ((x0 == y0) && ((x1 == y1) && ((x2 == y2) && (x3.toList == y3.toList)))) w := by
 refine eqA_of Tryz.underlying25 (by kernel_rfl) ?_
 refine eqf_cons (by rfl) (by go_simp <;> rfl) (by go_simp <;> rfl) (by go_simp) ?_
 refine eqf_cons (by rfl) (by go_simp <;> rfl) (by go_simp <;> rfl) (by go_simp) ?_
 refine eqf_cons (by rfl) (by go_simp <;> rfl) (by go_simp <;> rfl) (by go_simp) ?_
 exact eqf_last (by rfl) (by go_simp <;> rfl) (by go_simp <;> rfl) (by go_simp)
theorem eqA41 (d : Nat) (w : World) (x0 y0 : Int) (x1 y1 : ByteArray) (x2 y2 : Int) (x3 y3 : ByteArray) (x4 y4 : Int) (x5 y5 : Int) : (Op.equalIn (d + 2) 41 (.agg #[.int .i64 x0, .string x1, .int .i64 x2, .string x3, .int .i64 x4, .int .i64 x5]) (.agg #[.int .i64 y0, .string y1, .int .i64 y2, .string y3, .int .i64 y4, .int .i64 y5])).run Tryz.prog w = .ok ((x0 == y0) && ((x1.toList == y1.toList) && ((x2 == y2) && ((x3.toList == y3.toList) && ((x4 == y4) && (x5 == y5)))))) w := by
 refine eqA_of Tryz.underlying41 (by kernel_rfl) ?_
 refine eqf_cons (by rfl) (by go_simp <;> rfl) (by go_simp <;> rfl) (by go_simp) ?_
 refine eqf_cons (by rfl) (by go_simp <;> rfl) (by go_simp <;> rfl) (by go_simp) ?_
 refine eqf_cons (by rfl) (by go_simp <;> rfl) (by go_simp <;> rfl) (by go_simp) ?_
 refine eqf_cons (by rfl) (by go_simp <;> rfl) (by go_simp <;> rfl) (by go_simp) ?_
 refine eqf_cons (by rfl) (by go_simp <;> rfl) (by go_simp <;> rfl) (by go_simp) ?_
 exact eqf_last (by rfl) (by go_simp <;> rfl) (by go_simp <;> rfl) (by go_simp)
theorem eqA52 (d : Nat) (w : World) (x0 y0 : Int) (x1 y1 : ByteArray) (x2 y2 : Int) (x3 y3 : ByteArray) (x4 y4 : Int) (x5 y5 : Int) (x6 y6 : Int) (x7 y7 : Int) : (Op.equalIn (d + 3) 52 (.agg #[.int .i64 x0, .string x1, .int .i64 x2, .string x3, .int .i64 x4, .int .i64 x5, .int .i64 x6, .int .i64 x7]) (.agg #[.int .i64 y0, .string y1, .int .i64 y2, .string y3, .int .i64 y4, .int .i64 y5, .int .i64 y6, .int .i64 y7])).run Tryz.prog w = .ok (((x0 == y0) && ((x1.toList == y1.toList) && ((x2 == y2) && ((x3.toList == y3.toList) && ((x4 == y4) && (x5 == y5)))))) && ((x6 == y6) && (x7 == y7))) w := by
 refine eqA_of Tryz.underlying52 (by kernel_rfl) ?_
 refine eqf_cons (by rfl) (by go_simp <;> rfl) (by go_simp <;> rfl) (eqA41 (d + 0) w x0 y0 x1 y1 x2 y2 x3 y3 x4 y4 x5 y5) ?_
 refine eqf_cons (by rfl) (by go_simp <;> rfl) (by go_simp <;> rfl) (by go_simp) ?_
 exact eqf_last (by rfl) (by go_simp <;> rfl) (by go_simp <;> rfl) (by go_simp)
def eqF25 : EqF := fun cs ds => match cs, ds with
 | [.v (.i .i64 x0), .v (.i .i64 x1), .v (.i .i64 x2), .v (.s x3)], [.v (.i .i64 y0), .v (.i .i64 y1), .v (.i .i64 y2), .v (.s y3)] => some (((x0 == y0) && ((x1 == y1) && ((x2 == y2) && (x3.toList == y3.toList)))), (!(x0 == y0) || (!(x1 == y1) || (!(x2 == y2) || (!(x3.toList == y3.toList))))))
 | _, _ => none
theorem eqOk25 : EqFact Tryz.prog 25 eqF25 := by
 refine ⟨by kernel_rfl, fun cs ds b c hb => ?_⟩
 unfold eqF25 at hb
 split at hb
 ·injection hb with hb
  injection hb with hb1 hb2
  subst hb1 hb2
  refine ⟨by simp only [Bool.not_and], fun G w xs ys hx hy => ?_⟩
  simp only [RepsL, Reps, RepC] at hx hy
  obtain ⟨_, _, hx1, rfl, _, _, rfl, rfl, _, _, rfl, rfl, _, _, rfl, rfl, rfl⟩ := hx
  obtain ⟨_, _, hy1, rfl, _, _, rfl, rfl, _, _, rfl, rfl, _, _, rfl, rfl, rfl⟩ := hy
  obtain rfl := show xs = #[.int .i64 _, .int .i64 _, .int .i64 _, .string _] by rw [← Array.toList_inj, hx1]
  obtain rfl := show ys = #[.int .i64 _, .int .i64 _, .int .i64 _, .string _] by rw [← Array.toList_inj, hy1]
  exact eqA25 9998 w _ _ _ _ _ _ _ _
 ·cases hb
def eqF41 : EqF := fun cs ds => match cs, ds with
 | [.v (.i .i64 x0), .v (.s x1), .v (.i .i64 x2), .v (.s x3), .v (.i .i64 x4), .v (.i .i64 x5)], [.v (.i .i64 y0), .v (.s y1), .v (.i .i64 y2), .v (.s y3), .v (.i .i64 y4), .v (.i .i64 y5)] => some (((x0 == y0) && ((x1.toList == y1.toList) && ((x2 == y2) && ((x3.toList == y3.toList) && ((x4 == y4) && (x5 == y5)))))), (!(x0 == y0) || (!(x1.toList == y1.toList) || (!(x2 == y2) || (!(x3.toList == y3.toList) || (!(x4 == y4) || (!(x5 == y5))))))))
 | _, _ => none
theorem eqOk41 : EqFact Tryz.prog 41 eqF41 := by
 refine ⟨by kernel_rfl, fun cs ds b c hb => ?_⟩
 unfold eqF41 at hb
 split at hb
 ·injection hb with hb
  injection hb with hb1 hb2
  subst hb1 hb2
  refine ⟨by simp only [Bool.not_and], fun G w xs ys hx hy => ?_⟩
  simp only [RepsL, Reps, RepC] at hx hy
  obtain ⟨_, _, hx1, rfl, _, _, rfl, rfl, _, _, rfl, rfl, _, _, rfl, rfl, _, _, rfl, rfl, _, _, rfl, rfl, rfl⟩ := hx
  obtain ⟨_, _, hy1, rfl, _, _, rfl, rfl, _, _, rfl, rfl, _, _, rfl, rfl, _, _, rfl, rfl, _, _, rfl, rfl, rfl⟩ := hy
  obtain rfl := show xs = #[.int .i64 _, .string _, .int .i64 _, .string _, .int .i64 _, .int .i64 _] by rw [← Array.toList_inj, hx1]
  obtain rfl := show ys = #[.int .i64 _, .string _, .int .i64 _, .string _, .int .i64 _, .int .i64 _] by rw [← Array.toList_inj, hy1]
  exact eqA41 9998 w _ _ _ _ _ _ _ _ _ _ _ _
 ·cases hb
def eqF52 : EqF := fun cs ds => match cs, ds with
 | [.v (.i .i64 x0), .v (.s x1), .v (.i .i64 x2), .v (.s x3), .v (.i .i64 x4), .v (.i .i64 x5), .v (.i .i64 x6), .v (.i .i64 x7)], [.v (.i .i64 y0), .v (.s y1), .v (.i .i64 y2), .v (.s y3), .v (.i .i64 y4), .v (.i .i64 y5), .v (.i .i64 y6), .v (.i .i64 y7)] => some ((((x0 == y0) && ((x1.toList == y1.toList) && ((x2 == y2) && ((x3.toList == y3.toList) && ((x4 == y4) && (x5 == y5)))))) && ((x6 == y6) && (x7 == y7))), ((!(x0 == y0) || (!(x1.toList == y1.toList) || (!(x2 == y2) || (!(x3.toList == y3.toList) || (!(x4 == y4) || (!(x5 == y5))))))) || (!(x6 == y6) || (!(x7 == y7)))))
 | _, _ => none
theorem eqOk52 : EqFact Tryz.prog 52 eqF52 := by
 refine ⟨by kernel_rfl, fun cs ds b c hb => ?_⟩
 unfold eqF52 at hb
 split at hb
 ·injection hb with hb
  injection hb with hb1 hb2
  subst hb1 hb2
  refine ⟨by simp only [Bool.not_and], fun G w xs ys hx hy => ?_⟩
  simp only [RepsL, Reps, RepC] at hx hy
  obtain ⟨_, _, hx1, rfl, _, _, rfl, rfl, _, _, rfl, rfl, _, _, rfl, rfl, _, _, rfl, rfl, _, _, rfl, rfl, _, _, rfl, rfl, _, _, rfl, rfl, rfl⟩ := hx
  obtain ⟨_, _, hy1, rfl, _, _, rfl, rfl, _, _, rfl, rfl, _, _, rfl, rfl, _, _, rfl, rfl, _, _, rfl, rfl, _, _, rfl, rfl, _, _, rfl, rfl, rfl⟩ := hy
  obtain rfl := show xs = #[.int .i64 _, .string _, .int .i64 _, .string _, .int .i64 _, .int .i64 _, .int .i64 _, .int .i64 _] by rw [← Array.toList_inj, hx1]
  obtain rfl := show ys = #[.int .i64 _, .string _, .int .i64 _, .string _, .int .i64 _, .int .i64 _, .int .i64 _, .int .i64 _] by rw [← Array.toList_inj, hy1]
  exact eqA52 9997 w _ _ _ _ _ _ _ _ _ _ _ _ _ _ _ _
 ·cases hb
def eqs : List (Nat × EqF) := [(25, eqF25), (41, eqF41), (52, eqF52)]
theorem eqs_ok : ∀ x ∈ eqs, EqFact Tryz.prog x.1 x.2 := by
 intro x hx
 simp only [eqs, List.mem_cons, List.not_mem_nil, or_false] at hx
 rcases hx with rfl | rfl | rfl
 ·exact eqOk25
 ·exact eqOk41
 ·exact eqOk52
noncomputable def env : Env := ⟨Tryz.prog, mixed, tys, tys_ok, eqs, eqs_ok⟩
end Go.Proofs.YthkepmicdpgbbaaGreatDoor.E

/-
 PRINTED WORDS, second file: A REGION THAT DRAWS ITS ORDER, WALKED BY HAND, where its last store writes what its own loads read ('x.f = append(x.f, f(i))'). Plain theorems; no macro, no elab. A claim may hold it (turn the namespace's name).
 A load may be taken first in every world that meets S; behind the operations of ds nothing is shown; sound because each of ds waits for what is taken (Region.lastB). The kernel checks it.
 By an AI agent of Go's test side, Mon Nov 16 2026. No person has read it.
-/
namespace Go.Proofs.YthkepmicdpgbbaaGreatDoorW.PrintLast
section
variable {P : Program} {ops : Array Oper} {Q : Exit → Act → World → Prop} {md : Region.Mode} {S : World → Prop} {ds : List Nat}
def Region.reachB (md : Region.Mode) (ops : Array Oper) (i : Nat) : Nat → Nat → Bool
 | 0, _ => false
 | fuel + 1, d => match ops[d]? with
  | some o => o.after.any fun e => Region.binds md e && (e.on == i || Region.reachB md ops i fuel e.on)
  | none => false
def Region.lastB (md : Region.Mode) (ops : Array Oper) (listed : Array Bool) (ds : List Nat) (i : Nat) : Bool :=
 ds.all fun d => listed.getD d true || Region.reachB md ops i ops.size d
def ListedClosed (md : Region.Mode) (ops : Array Oper) (listed : Array Bool) : Prop :=
 ∀ j oj, ops[j]? = some oj → listed.getD j false = true → ∀ e ∈ oj.after, Region.binds md e = true → listed.getD e.on false = true
theorem ListedClosed.set {listed : Array Bool} {i : Nat} (h : ListedClosed md ops listed) (hi : i ∈ Region.ready md ops listed) : ListedClosed md ops (listed.setIfInBounds i true) := by
 obtain ⟨_, oi, hoi, hall⟩ := mem_ready.1 hi
 intro j oj hj hl e he hb
 by_cases hij : i = j
 ·subst hij
  have : oj = oi := Option.some.inj (hj.symm.trans hoi)
  subst this
  exact getD_set_true (hall e he hb)
 ·rw [getD_set_ne false hij] at hl
  exact getD_set_true (h j oj hj hl e he hb)
def wpAnyLast (P : Program) (md : Region.Mode) (ops : Array Oper) (Q : Exit → Act → World → Prop) (S : World → Prop) (ds : List Nat) : Nat → Array Bool → Act → World → Prop
 | 0, listed, a, w => Region.ready md ops listed = [] ∧ Q .normal a w
 | fuel + 1, listed, a, w =>
  (Region.ready md ops listed = [] → Q .normal a w) ∧
  ∀ i ∈ Region.ready md ops listed, wpOp P ops Q i (fun a' w' => (i ∉ ds → S w → S w') ∧ wpAnyLast P md ops Q S ds fuel (listed.setIfInBounds i true) a' w') a w
end
section
variable {P : Program} {ops : Array Oper} {Q : Exit → Act → World → Prop} {md : Region.Mode} {S : World → Prop} {ds : List Nat}
def AllReadyL (P : Program) (md : Region.Mode) (ops : Array Oper) (Q : Exit → Act → World → Prop) (S : World → Prop) (ds : List Nat) (fuel : Nat) (listed : Array Bool) (a : Act) (w : World) (rs : List Nat) : Prop :=
 ∀ i ∈ rs, wpOp P ops Q i (fun a' w' => (i ∉ ds → S w → S w') ∧ wpAnyLast P md ops Q S ds fuel (listed.setIfInBounds i true) a' w') a w
theorem AllReadyL.nil {fuel : Nat} {listed : Array Bool} {a : Act} {w : World} : AllReadyL P md ops Q S ds fuel listed a w [] := fun _ h => by cases h
theorem AllReadyL.cons {fuel : Nat} {listed : Array Bool} {a : Act} {w : World} {i : Nat} {o : Oper} {rs : List Nat} (ho : ops[i]? = some o) (hd : i ∉ ds)
  (h : ∀ K' : Act → World → Prop, Shut (∀ a w, S w → (S w → wpAnyLast P md ops Q S ds fuel (listed.setIfInBounds i true) a w) → K' a w) → if Region.wanted o (yielded ops a.tmps) = true then Oper.wp P o a w K' Q else K' (a.put o.dst undef) w)
  (hs : AllReadyL P md ops Q S ds fuel listed a w rs) : AllReadyL P md ops Q S ds fuel listed a w (i :: rs) := fun j hj => by
 rcases List.mem_cons.1 hj with rfl | hj
 ·exact wpOp_step ho (fun K' hK => h K' (fun a w hS hW => hK a w ⟨fun _ _ => hS, hW hS⟩))
 ·exact hs j hj
theorem call_ {oi : Oper} {N : Option Tmp} {a : Act} {w : World} {K : Act → World → Prop} (f : FuncId) (args : Array Value) (hw : Region.wanted oi (yielded ops a.tmps) = true) (hN : oi.dst = N) (hrun : (execOp a.eval oi).run P w = .ok (.enter f args) w)
  (h : Calls P f args w fun e w' => ∃ v, e = .returned v ∧ K (a.put N v) w') : if Region.wanted oi (yielded ops a.tmps) = true then Oper.wp P oi a w K Q else K (a.put N undef) w := by
 rw [if_pos hw]
 subst hN
 unfold Oper.wp
 rw [hrun, Oper.upon_enter]
 refine h.mono fun e w'' hh => ?_
 obtain ⟨v, rfl, hk⟩ := hh
 exact hk
end
end Go.Proofs.YthkepmicdpgbbaaGreatDoorW.PrintLast

namespace Go.Proofs.YthkepmicdpgbbaaGreatDoorW.PrintWords
open Go.RowKit
namespace Kd
def tag {α : Type} (f : Nat → Nat) (d : Kd α) : Kd (α × Nat) where
 sz := d.sz
 E := d.E
 K := fun w x cs => d.K w x.1 cs
 M := fun w base ok x cs => d.M w base (fun k => ok k ∧ f k = x.2) x.1 cs
 K_len := fun h => d.K_len h
 K_one := fun h => d.K_one h
 K_below := fun hb h => d.K_below hb h
 K_of_M := fun h => d.K_of_M h
 M_mono := fun hok h => d.M_mono (fun k hk => ⟨hok k hk.1, hk.2⟩) h
 M_bound := fun h => d.M_mono (fun _ hk => ⟨⟨hk.1.1, hk.2⟩, hk.1.2⟩) (d.M_bound h)
 M_move := fun hm h => d.M_move (fun k hk => hm k hk.1) h
 M_lower := fun hb h => d.M_lower hb h
def bare {α : Type} (d : Kd α) : Kd α where
 sz := d.sz
 E := d.E
 K := d.K
 M := fun w base _ x cs => d.M w base (fun _ => False) x cs
 K_len := fun h => d.K_len h
 K_one := fun h => d.K_one h
 K_below := fun hb h => d.K_below hb h
 K_of_M := fun h => d.K_of_M h
 M_mono := fun _ h => h
 M_bound := fun h => h
 M_move := fun _ h => d.M_move (fun _ hk => hk.elim) h
 M_lower := fun hb h => d.M_lower hb h
def raw (sz : Nat) : Kd (List Value) where
 sz := sz
 E := []
 K := fun _ x cs => cs = x ∧ cs.length = sz ∧ ∀ u ∈ cs, u.oneCell' = true
 M := fun _ _ _ x cs => cs = x ∧ cs.length = sz ∧ ∀ u ∈ cs, u.oneCell' = true
 K_len := fun h => h.2.1
 K_one := fun h => h.2.2
 K_below := fun _ h => h
 K_of_M := fun h => h
 M_mono := fun _ h => h
 M_bound := fun h => h
 M_move := fun _ h => h
 M_lower := fun _ h => h
def S {α : Type} (d : Kd α) (e : Nat) (w : World) (base : Nat) (ok : Nat → Prop) (v : Value) (xs : List α) : Prop := ∃ f, (tag f d).R e w base ok v xs.zipIdx
section
variable {α β : Type} {d : Kd α} {d' : Kd β} {e e' : Nat} {w w1 W : World} {base b : Nat} {ok ok' okv oku : Nat → Prop} {u v : Value} {xs : List α} {ys : List β}
end
section
variable {α β : Type} {d : Kd α} {d' : Kd β} {e e' g : Nat} {w w1 W : World} {base b : Nat} {ok ok' okv oku : Nat → Prop} {u v : Value} {xs : List α} {ys : List β}
end
section
variable {P : Program} {ops : Array Oper} {rest : List Oper} {o : Oper} {a : Act} {Q : Exit → Act → World → Prop} {Kc : Act → World → Prop} {α : Type}
end
def gap {α : Type} (f : Nat → Nat) (d : Kd α) (i : Nat) (c : List Value) : Kd (α × Nat) where
 sz := d.sz
 E := d.E
 K := fun w x cs => (x.2 = i → cs = c ∧ cs.length = d.sz ∧ ∀ u ∈ cs, u.oneCell' = true) ∧ (x.2 ≠ i → d.K w x.1 cs)
 M := fun w base ok x cs => (x.2 = i → cs = c ∧ cs.length = d.sz ∧ ∀ u ∈ cs, u.oneCell' = true) ∧ (x.2 ≠ i → d.M w base (fun k => ok k ∧ f k = x.2) x.1 cs)
 K_len := fun {w x cs} h => by
  by_cases hx : x.2 = i
  ·exact (h.1 hx).2.1
  ·exact d.K_len (h.2 hx)
 K_one := fun {w x cs} h => by
  by_cases hx : x.2 = i
  ·exact (h.1 hx).2.2
  ·exact d.K_one (h.2 hx)
 K_below := fun hb h => ⟨h.1, fun hx => d.K_below hb (h.2 hx)⟩
 K_of_M := fun h => ⟨h.1, fun hx => d.K_of_M (h.2 hx)⟩
 M_mono := fun hok h => ⟨h.1, fun hx => d.M_mono (fun k hk => ⟨hok k hk.1, hk.2⟩) (h.2 hx)⟩
 M_bound := fun h => ⟨h.1, fun hx => d.M_mono (fun _ hk => ⟨⟨hk.1.1, hk.2⟩, hk.1.2⟩) (d.M_bound (h.2 hx))⟩
 M_move := fun hm h => ⟨h.1, fun hx => d.M_move (fun k hk => hm k hk.1) (h.2 hx)⟩
 M_lower := fun hb h => ⟨h.1, fun hx => d.M_lower hb (h.2 hx)⟩
def H {α : Type} (d : Kd α) (e : Nat) (w : World) (base : Nat) (ok : Nat → Prop) (v : Value) (xs : List α) (i : Int) (oki : Nat → Prop) (c : List Value) : Prop :=
 (∀ k, oki k → ok k) ∧ ∃ f, (gap f d i.toNat c).R e w base (fun k => ok k ∧ ¬ oki k) v xs.zipIdx
section
variable {α β : Type} {d : Kd α} {e e' g n cap : Nat} {w w1 W : World} {base : Nat} {ok ok' oki okp : Nat → Prop} {u v : Value} {xs : List α} {i : Int} {c : List Value}
end
section
variable {P : Program} {ops : Array Oper} {rest : List Oper} {o : Oper} {a : Act} {Q : Exit → Act → World → Prop} {α : Type}
end
end Kd
end Go.Proofs.YthkepmicdpgbbaaGreatDoorW.PrintWords

namespace Go.Proofs.YthkepmicdpgbbaaGreatDoorW.PrintWords
open Go.RowKit
namespace Kd
theorem reps_one {α : Type} {R : α → List Value → Prop} {size : Nat} {ps : List α} {cs : List Value} (h : Reps R size ps cs) (hs0 : 0 < size) (hR : ∀ p c, R p c → ∀ u ∈ c, u.oneCell' = true) : ∀ u ∈ cs, u.oneCell' = true := by
 intro u hu
 obtain ⟨q, hq, rfl⟩ := List.mem_iff_getElem.1 hu
 have hql : q / size < ps.length := by
  rw [Nat.div_lt_iff_lt_mul hs0, ← h.1]
  exact hq
 refine hR _ _ (h.2 (q / size) _ (List.getElem?_eq_getElem hql)) _ ?_
 rw [List.mem_iff_getElem?]
 refine ⟨q % size, ?_⟩
 rw [List.getElem?_take, if_pos (Nat.mod_lt _ hs0), List.getElem?_drop, Nat.mul_comm, Nat.div_add_mod, List.getElem?_eq_getElem hq]
def arr {α : Type} (n : Nat) (d : Kd α) (hs : 0 < d.sz) : Kd (List α) where
 sz := n * d.sz
 E := d.E
 K := fun w xs cs => xs.length = n ∧ Reps (d.K w) d.sz xs cs
 M := fun w base ok xs cs => xs.length = n ∧ Reps (d.M w base ok) d.sz xs cs
 K_len := fun h => by rw [← h.1]; exact h.2.1
 K_one := fun h => reps_one h.2 hs (fun _ _ hk => d.K_one hk)
 K_below := fun hb h => ⟨h.1, h.2.imp_ (fun _ _ hk => d.K_below hb hk)⟩
 K_of_M := fun h => ⟨h.1, h.2.imp_ (fun _ _ hk => d.K_of_M hk)⟩
 M_mono := fun hok h => ⟨h.1, h.2.imp_ (fun _ _ hk => d.M_mono hok hk)⟩
 M_bound := fun h => ⟨h.1, h.2.imp_ (fun _ _ hk => d.M_bound hk)⟩
 M_move := fun hm h => ⟨h.1, h.2.imp_ (fun _ _ hk => d.M_move hm hk)⟩
 M_lower := fun hb h => ⟨h.1, h.2.imp_ (fun _ _ hk => d.M_lower hb hk)⟩
section
variable {α : Type} {n : Nat} {d : Kd α} {hs : 0 < d.sz} {w : World} {base : Nat} {ok : Nat → Prop} {xs : List α} {cs : List Value}
end
section
variable {α : Type} {n : Nat} {enc : α → Value} {h1 : ∀ x, (enc x).oneCell' = true} {hs : 0 < (scalar enc h1).sz} {w : World} {base : Nat} {ok : Nat → Prop} {xs : List α} {cs : List Value}
end
end Kd
end Go.Proofs.YthkepmicdpgbbaaGreatDoorW.PrintWords

namespace Go.Proofs.YthkepmicdpgbbaaGreatDoorW.PrintWords
open Go.RowKit
namespace Kd
structure Heap {α : Type} (d : Kd α) : Prop where
 K : ∀ {w w1 : World} {x : α} {cs : List Value}, (∀ k, k < w.heap.size → w1.heap[k]? = w.heap[k]?) → d.K w x cs → d.K w1 x cs
theorem cell_heap {w w1 : World} (hb : ∀ k, k < w.heap.size → w1.heap[k]? = w.heap[k]?) {a : Addr} {v : Value} (h : w.cell? a = some v) : w1.cell? a = some v := by
 have := hb a.block (World.block_lt_of_cell? w a h)
 simpa [World.cell?, this] using h
theorem Heap.C {α : Type} {d : Kd α} (hd : Heap d) {w w1 : World} {A : Option Addr} {n : Nat} {xs : List α} (hb : ∀ k, k < w.heap.size → w1.heap[k]? = w.heap[k]?) (h : d.C w A n xs) : d.C w1 A n xs :=
 ⟨h.1, h.2.1, fun hn => by
  obtain ⟨ad, e, hc⟩ := h.2.2 hn
  refine ⟨ad, e, fun j p hj => ?_⟩
  obtain ⟨c, hs, hr, hcell⟩ := hc j p hj
  exact ⟨c, hs, hd.K hb hr, fun i u hu => cell_heap hb (hcell i u hu)⟩⟩
section
variable {α : Type} {d : Kd α} {e base g n c : Nat} {ok : Nat → Prop} {w w0 W : World} {A : Option Addr} {xs : List α}
end
end Kd
end Go.Proofs.YthkepmicdpgbbaaGreatDoorW.PrintWords

namespace Go.Proofs.YthkepmicdpgbbaaGreatDoorW.PrintWords
open Go.RowKit
def Kept (w W : World) (S : Nat → Prop) : Prop := w.heap.size ≤ W.heap.size ∧ ∀ i, i < w.heap.size → ¬ S i → W.heap[i]? = w.heap[i]?
section
variable {w W W2 : World} {S S2 S' : Nat → Prop}
theorem Kept.refl (w : World) (S : Nat → Prop) : Kept w w S := ⟨Nat.le_refl _, fun _ _ _ => rfl⟩
theorem Kept.of_below (h : Below w.heap.size w W) (S : Nat → Prop) : Kept w W S := ⟨h.size, fun i hi _ => h.block i hi⟩
theorem Kept.mono (h : Kept w W S) (hs : ∀ k, S k → S' k) : Kept w W S' := ⟨h.1, fun i hi hn => h.2 i hi (fun hk => hn (hs i hk))⟩
theorem Kept.then_ (h : Kept w W S) (k : Kept W W2 S2) (hs : ∀ k, S2 k → S k ∨ w.heap.size ≤ k) : Kept w W2 S :=
 ⟨Nat.le_trans h.1 k.1, fun i hi hn => (k.2 i (Nat.lt_of_lt_of_le hi h.1) (fun h2 => (hs i h2).elim hn (fun h3 => by omega))).trans (h.2 i hi hn)⟩
theorem Kept.below (h : Kept w W S) (hb : Below W.heap.size W W2) : Kept w W2 S := h.then_ (Kept.of_below hb (fun _ => False)) (fun _ hk => hk.elim)
theorem Kept.alloc (h : Kept w W S) (o : Obj) : Kept w (W.alloc o) S := h.below (below_alloc (Below.refl _ _) o)
theorem Kept.drew (h : Kept w W S) : Kept w W.drew S := h
theorem Kept.drewN (h : Kept w W S) (m : Nat) : Kept w (W.drewN m) S := h
theorem Kept.keep {g : Nat} (h : KeepBut w W g none) (k : Kept W W2 S2) (hs : ∀ k, S2 k → w.heap.size ≤ k) : KeepBut w W2 g none :=
 ⟨Nat.le_trans h.1 k.1, fun i hi hg hr => (k.2 i (Nat.lt_of_lt_of_le hi h.1) (fun h2 => by have := hs i h2; omega)).trans (h.2 i hi hg hr)⟩
end
namespace Kd
section
variable {α : Type} {d : Kd α} {e base n c : Nat} {ok oki S S2 : Nat → Prop} {w w0 W W1 W2 : World} {v : Value} {A : Option Addr} {xs : List α} {i : Int} {cs : List Value}
end
end Kd
end Go.Proofs.YthkepmicdpgbbaaGreatDoorW.PrintWords

namespace Go.Proofs.YthkepmicdpgbbaaGreatDoorW.PrintWords
open Go.RowKit
def Foot (P : World → Prop) (W : World) (ok : Nat → Prop) : Prop := ∀ W' : World, (∀ k, ok k → k < W.heap.size → W'.heap[k]? = W.heap[k]?) → P W'
theorem heap_lt {W W1 : World} {k : Nat} (h : W1.heap[k]? = W.heap[k]?) (hlt : k < W.heap.size) : k < W1.heap.size := by
 rw [Array.getElem?_eq_getElem hlt] at h
 exact (Array.getElem?_eq_some_iff.1 h).1
namespace Foot
variable {P Q : World → Prop} {W W1 : World} {ok ok' : Nat → Prop}
theorem mono (h : Foot P W ok) (hok : ∀ k, ok k → ok' k) : Foot P W ok' := fun W' hW => h W' (fun k hk hlt => hW k (hok k hk) hlt)
theorem bound (h : Foot P W ok) : Foot P W (fun k => ok k ∧ k < W.heap.size) := fun W' hW => h W' (fun k hk hlt => hW k ⟨hk, hlt⟩ hlt)
theorem step (h : Foot P W ok) (hm : ∀ k, ok k → k < W.heap.size → W1.heap[k]? = W.heap[k]?) : Foot P W1 ok := fun W' hW => h W' (fun k hk hlt => (hW k hk (heap_lt (hm k hk hlt) hlt)).trans (hm k hk hlt))
theorem old (h : Foot P W ok) (hb : Below W.heap.size W W1) : Foot P W1 (fun k => ok k ∧ k < W.heap.size) := (h.bound).step (fun k _ hlt => hb.block k hlt)
end Foot
namespace Kd
def F {α : Type} (d : Kd α) (W : World) (ok : Nat → Prop) (A : Option Addr) (n : Nat) (xs : List α) : Prop := Foot (fun W => d.C W A n xs) W ok
def FK {α : Type} (d : Kd α) (W : World) (ok : Nat → Prop) (x : α) (c : List Value) : Prop := Foot (fun W => d.K W x c) W ok
section
variable {α β : Type} {d : Kd α} {e base n n' cc g N : Nat} {ok ok' okp S : Nat → Prop} {w w0 w1 W W1 : World} {A A' : Option Addr} {u v v1 : Value} {xs : List α} {xs' : List β} {d' : Kd β} {x : α} {c : List Value}
end
end Kd
end Go.Proofs.YthkepmicdpgbbaaGreatDoorW.PrintWords

namespace Go.Proofs.YthkepmicdpgbbaaGreatDoorW.PrintWords
open Go.RowKit
namespace Kd
def chunks (sz : Nat) (n : Nat) (inner : List Value) : List (List Value) := (List.range n).map fun j => (inner.drop (j * sz)).take sz
theorem chunks_length (sz n : Nat) (inner : List Value) : (chunks sz n inner).length = n := by simp [chunks]
section
variable {α : Type} {d : Kd α} {e base n cc g : Nat} {ok ok' okp S : Nat → Prop} {w w1 W W1 : World} {A : Option Addr} {u v v1 : Value} {xs : List α} {x : α} {c : List Value}
def N {α : Type} (d : Kd α) (e : Nat) (w : World) (base : Nat) (ok : Nat → Prop) (v : Value) (xs : List α) : Prop :=
 (∀ k, v.ownBlock = some k → ok k) ∧ ∃ rows : List (List Value), rows.length = xs.length ∧ (raw d.sz).R e w base (fun k => some k = v.ownBlock) v rows ∧ ∀ (j : Nat) (x : α) (c : List Value), xs[j]? = some x → rows[j]? = some c → FK d w (fun k => ok k ∧ some k ≠ v.ownBlock) x c
end
end Kd
end Go.Proofs.YthkepmicdpgbbaaGreatDoorW.PrintWords

namespace Go.Proofs.YthkepmicdpgbbaaGreatDoorW.PrintWords
theorem Reps.one {α : Type} {R : α → List Value → Prop} {ps : List α} {cs : List Value} {p : α} {v : Value} (hp : R p [v]) (h : Reps R 1 ps cs) : Reps R 1 (p :: ps) (v :: cs) := by
 refine ⟨by simp [h.1], fun j q hq => ?_⟩
 cases j with
 | zero =>
  simp only [List.getElem?_cons_zero, Option.some.injEq] at hq
  subst hq
  simpa using hp
 | succ j =>
  simp only [List.getElem?_cons_succ] at hq
  have h1 := h.2 j q hq
  simpa [Nat.mul_one] using h1
theorem Reps.front {α : Type} {R : α → List Value → Prop} {size : Nat} {ps : List α} {cs c all : List Value} {p : α} (hp : R p c) (hc : c.length = size) (h : Reps R size ps cs) (ha : c ++ cs = all) : Reps R size (p :: ps) all := by
 subst ha
 refine ⟨by rw [List.length_append, hc, h.1, List.length_cons, Nat.succ_mul, Nat.add_comm], fun j q hq => ?_⟩
 cases j with
 | zero =>
  simp only [List.getElem?_cons_zero, Option.some.injEq] at hq
  subst hq
  rw [Nat.zero_mul, List.drop_zero, List.take_append_of_le_length (by omega), List.take_of_length_le (by omega)]
  exact hp
 | succ j =>
  simp only [List.getElem?_cons_succ] at hq
  have h1 := h.2 j q hq
  rw [Nat.succ_mul, List.drop_append, List.drop_of_length_le (by rw [hc]; exact Nat.le_add_left _ _), List.nil_append, hc, Nat.add_sub_cancel]
  exact h1
theorem Reps.c2 {α : Type} {R : α → List Value → Prop} {ps : List α} {cs : List Value} {p : α} {va vb : Value} (hp : R p [va, vb]) (h : Reps R 2 ps cs) : Reps R 2 (p :: ps) (va :: vb :: cs) := Reps.front hp rfl h rfl
theorem Reps.c3 {α : Type} {R : α → List Value → Prop} {ps : List α} {cs : List Value} {p : α} {va vb vc : Value} (hp : R p [va, vb, vc]) (h : Reps R 3 ps cs) : Reps R 3 (p :: ps) (va :: vb :: vc :: cs) := Reps.front hp rfl h rfl
theorem Reps.c4 {α : Type} {R : α → List Value → Prop} {ps : List α} {cs : List Value} {p : α} {va vb vc vd : Value} (hp : R p [va, vb, vc, vd]) (h : Reps R 4 ps cs) : Reps R 4 (p :: ps) (va :: vb :: vc :: vd :: cs) := Reps.front hp rfl h rfl
theorem Reps.c5 {α : Type} {R : α → List Value → Prop} {ps : List α} {cs : List Value} {p : α} {va vb vc vd ve : Value} (hp : R p [va, vb, vc, vd, ve]) (h : Reps R 5 ps cs) : Reps R 5 (p :: ps) (va :: vb :: vc :: vd :: ve :: cs) := Reps.front hp rfl h rfl
theorem Reps.c6 {α : Type} {R : α → List Value → Prop} {ps : List α} {cs : List Value} {p : α} {va vb vc vd ve vf : Value} (hp : R p [va, vb, vc, vd, ve, vf]) (h : Reps R 6 ps cs) : Reps R 6 (p :: ps) (va :: vb :: vc :: vd :: ve :: vf :: cs) := Reps.front hp rfl h rfl
end Go.Proofs.YthkepmicdpgbbaaGreatDoorW.PrintWords

namespace Go.Proofs.YthkepmicdpgbbaaGreatDoorW.PrintLast
def up (b : Nat → Bool) (i : Nat) : Nat → Bool := fun j => if j = i then true else b j
section
variable {P : Program} {ops : Array Oper} {Q : Exit → Act → World → Prop} {md : Region.Mode} {T : Bool × List (List Nat × List Nat)} {B : List Nat} {O : List Nat} {b : Nat → Bool} {i j n : Nat}
def StepAt (P : Program) (ops : Array Oper) (Q : Exit → Act → World → Prop) (B : List Nat) (O : List Nat) (I : (Nat → Bool) → Act → World → Prop) (i : Nat) : Prop :=
 ∀ b a w, I b a w → b i = false → (∀ j, (O.contains j && (B.getD i 0).testBit j) = true → b j = true) → (∀ d, (O.contains d && (B.getD d 0).testBit i) = true → b d = false) →
  ∃ oi, ops[i]? = some oi ∧ ∀ K : Act → World → Prop, Shut (∀ a' w', I (up b i) a' w' → K a' w') → if Region.wanted oi (yielded ops a.tmps) = true then Oper.wp P oi a w K Q else K (a.put oi.dst undef) w
end
end Go.Proofs.YthkepmicdpgbbaaGreatDoorW.PrintLast

namespace Go.Proofs.YthkepmicdpgbbaaGreatDoorW.PrintMore
open Go.RowKit Go.Proofs.YthkepmicdpgbbaaGreatDoorW.PrintWords
namespace Kd
open Go.Proofs.YthkepmicdpgbbaaGreatDoorW.PrintWords.Kd
end Kd
namespace Kd
open Go.Proofs.YthkepmicdpgbbaaGreatDoorW.PrintWords.Kd
section
variable {α : Type} {d : Kd α} {e base g N : Nat} {ok : Nat → Prop} {W w1 : World} {u v : Value} {xs : List α}
end
end Kd
theorem max2_int (k k' : IntKind) (x y : Int) : Builtin.max2 (.int k x) (.int k' y) = pure (.int k (if x < y then y else x)) := by simp only [Builtin.max2, gt_iff_lt]
theorem min2_int (k k' : IntKind) (x y : Int) : Builtin.min2 (.int k x) (.int k' y) = pure (.int k (if y < x then y else x)) := by simp only [Builtin.min2]
theorem max_two (ats : Array TypeId) (ty : TypeId) (a b : Value) : Builtin.max_ ats ty #[a, b] = (Builtin.max2 a b >>= fun s => pure s) := by simp only [Builtin.max_, List.foldlM_cons, List.foldlM_nil]
theorem min_two (ats : Array TypeId) (ty : TypeId) (a b : Value) : Builtin.min_ ats ty #[a, b] = (Builtin.min2 a b >>= fun s => pure s) := by simp only [Builtin.min_, List.foldlM_cons, List.foldlM_nil]
theorem max_three (ats : Array TypeId) (ty : TypeId) (a b c : Value) : Builtin.max_ ats ty #[a, b, c] = (Builtin.max2 a b >>= fun s => Builtin.max2 s c >>= fun s => pure s) := by simp only [Builtin.max_, List.foldlM_cons, List.foldlM_nil]
theorem min_three (ats : Array TypeId) (ty : TypeId) (a b c : Value) : Builtin.min_ ats ty #[a, b, c] = (Builtin.min2 a b >>= fun s => Builtin.min2 s c >>= fun s => pure s) := by simp only [Builtin.min_, List.foldlM_cons, List.foldlM_nil]
theorem max_four (ats : Array TypeId) (ty : TypeId) (a b c d : Value) : Builtin.max_ ats ty #[a, b, c, d] = (Builtin.max2 a b >>= fun s => Builtin.max2 s c >>= fun s => Builtin.max2 s d >>= fun s => pure s) := by simp only [Builtin.max_, List.foldlM_cons, List.foldlM_nil]
theorem min_four (ats : Array TypeId) (ty : TypeId) (a b c d : Value) : Builtin.min_ ats ty #[a, b, c, d] = (Builtin.min2 a b >>= fun s => Builtin.min2 s c >>= fun s => Builtin.min2 s d >>= fun s => pure s) := by simp only [Builtin.min_, List.foldlM_cons, List.foldlM_nil]
end Go.Proofs.YthkepmicdpgbbaaGreatDoorW.PrintMore
namespace Go.Proofs.YthkepmicdpgbbaaGreatDoorW.PrintWords
open Go.RowKit
section
variable {P : Program} {ops : Array Oper} {rest : List Oper} {o : Oper} {a : Act} {Q : Exit → Act → World → Prop} {W : World}
theorem gate_builtin {b : Builtin} {xs : Array Operand} {ts : Array TypeId} (_ho : o.op = .call { callee := .builtin b, args := xs, argTypes := ts }) (h : wpList P ops Q (o :: rest) a W) : wpList P ops Q (o :: rest) a W := h
end
def mx (a b : Int) : Int := if a < b then b else a
def shl (k : IntKind) (x y : Int) : Int := k.wrap (x * 2 ^ min y.toNat k.bits)
def shr (k : IntKind) (x y : Int) : Int := x / 2 ^ min y.toNat k.bits
namespace Kd
section
variable {α : Type} {d : Kd α} {e base : Nat} {ok : Nat → Prop} {W w1 : World} {v : Value} {xs : List α}
end
section
variable {α : Type} {d : Kd α} {e base g n cap : Nat} {ok oki okp : Nat → Prop} {W : World} {xs : List α} {i : Int} {c : List Value}
end
section
variable {α : Type} {d : Kd α} {e base b b' g N : Nat} {ok ok1 : Nat → Prop} {W W2 w1 : World} {u v : Value} {xs ys : List α} {S : Nat → Prop}
end
end Kd
end Go.Proofs.YthkepmicdpgbbaaGreatDoorW.PrintWords
namespace Go.Proofs.YthkepmicdpgbbaaGreatDoorW.PrintWords
open Go.RowKit
namespace Kd
def V {α : Type} (d : Kd α) (_e : Nat) (W : World) (_base : Nat) (ok : Nat → Prop) (v : Value) (xs : List α) : Prop := ∃ A c, v = .slice A xs.length c ∧ xs.length ≤ c ∧ F d W ok A xs.length xs
section
variable {α β : Type} {d : Kd α} {e base base' n m c g N' lo hi : Nat} {ok ok' S : Nat → Prop} {w W w1 : World} {A : Option Addr} {ad : Addr} {u v v1 : Value} {xs : List α}
end
end Kd
end Go.Proofs.YthkepmicdpgbbaaGreatDoorW.PrintWords

namespace Go.Proofs.YthkepmicdpgbbaaGreatDoor.P
open Go.RowKit Go.Proofs.YthkepmicdpgbbaaGreatDoorW.PrintWords Go.Proofs.YthkepmicdpgbbaaGreatDoorW.PrintLast Go.Proofs.YthkepmicdpgbbaaGreatDoorW.PrintMore
attribute [local go_sem] max2_int min2_int max_two min_two max_three min_three max_four min_four   -- for this text's walks alone
set_option linter.unusedVariables false
set_option linter.unusedSimpArgs false
def errW : Option Int → Value
 | none => .nilIface
 | some c => .iface 0 (.int .i64 c)
theorem errW_none : errW none = .nilIface := rfl
theorem errW_some (c : Int) : errW (some c) = .iface 0 (.int .i64 c) := rfl
theorem info5 : (Tryz.prog.info? 5).map (fun i => (i.zero, i.size, i.bytes)) = some (some (.int .u8 0), 1, 1) := by kernel_rfl
structure S138 where
 f0 : ByteArray
 f1 : Int
 f2 : Int
 f3 : Int
 f4 : Int
def z138 : S138 := ⟨(⟨#[]⟩ : ByteArray), (0 : Int), (0 : Int), (0 : Int), (0 : Int)⟩
def k138 : Kd S138 := Kd.iso (Kd.pair Kd.string (Kd.pair (Kd.int .i64) (Kd.pair (Kd.int .i64) (Kd.pair (Kd.int .i64) (Kd.int .i64))))) (fun x : S138 => (x.f0, x.f1, x.f2, x.f3, x.f4))
theorem k138_open {w : World} {x : S138} {cs : List Value} (h : k138.K w x cs) : cs = [.string x.f0, .int .i64 x.f1, .int .i64 x.f2, .int .i64 x.f3, .int .i64 x.f4] := by
 obtain ⟨_, _, rfl, rfl, ⟨_, _, rfl, rfl, ⟨_, _, rfl, rfl, ⟨_, _, rfl, rfl, rfl⟩⟩⟩⟩ := h
 exact rfl
def rd_T138 (xs : List S138) (i : Int) : S138 := xs.getD i.toNat z138
theorem at_T138 {w : World} {A : Option Addr} {n : Nat} {xs : List S138} (h : Kd.C k138 w A n xs) (i : Int) (h0 : 0 ≤ i) (h1 : i < n) : ∃ ad , A = some ad ∧ w.cell? (ad.add (i.toNat * 5)) = some (.string (rd_T138 xs i).f0) ∧ w.cell? ⟨(ad.add (i.toNat * 5)).block, (ad.add (i.toNat * 5)).off + 1, none⟩ = some (.int .i64 (rd_T138 xs i).f1) ∧ w.cell? ⟨(ad.add (i.toNat * 5)).block, (ad.add (i.toNat * 5)).off + 2, none⟩ = some (.int .i64 (rd_T138 xs i).f2) ∧ w.cell? ⟨(ad.add (i.toNat * 5)).block, (ad.add (i.toNat * 5)).off + 3, none⟩ = some (.int .i64 (rd_T138 xs i).f3) ∧ w.cell? ⟨(ad.add (i.toNat * 5)).block, (ad.add (i.toNat * 5)).off + 4, none⟩ = some (.int .i64 (rd_T138 xs i).f4) := by
 obtain ⟨ad, c, e, _, hK, hc0⟩ := Kd.C_get h z138 i h0 h1
 have hc : ∀ j u, c[j]? = some u → w.cell? (ad.add (i.toNat * 5 + j)) = some u := hc0
 obtain rfl := k138_open hK
 exact ⟨ad, e, hc 0 _ rfl, by rw [← add_field _ _ 1 (by omega)]; exact hc 1 _ rfl, by rw [← add_field _ _ 2 (by omega)]; exact hc 2 _ rfl, by rw [← add_field _ _ 3 (by omega)]; exact hc 3 _ rfl, by rw [← add_field _ _ 4 (by omega)]; exact hc 4 _ rfl⟩
def rd_L6 (xs : List (List Int)) (i : Int) : (List Int) := xs.getD i.toNat ([] : List Int)
structure S125 where
 f0 : Int
 f1 : (List Int)
def z125 : S125 := ⟨(0 : Int), ([] : List Int)⟩
def k125 : Kd S125 := Kd.iso (Kd.pair (Kd.int .i64) (Kd.slice 5 (Kd.int .u8))) (fun x : S125 => (x.f0, x.f1))
def rd_T125 (xs : List S125) (i : Int) : S125 := xs.getD i.toNat z125
structure S109 where
 f0 : Int
 f1 : (List Int)
def z109 : S109 := ⟨(0 : Int), ([] : List Int)⟩
def rd_T109 (xs : List S109) (i : Int) : S109 := xs.getD i.toNat z109
structure S38 where
 f0 : (List (List Int))
 f1 : (List S125)
 f2 : Int
 f3 : Bool
def k38 : Kd S38 := Kd.iso (Kd.pair (Kd.slice 22 (Kd.slice 5 (Kd.int .u8))) (Kd.pair (Kd.slice 125 k125) (Kd.pair (Kd.int .i64) Kd.bool))) (fun x : S38 => (x.f0, x.f1, x.f2, x.f3))
theorem k38_open {w : World} {x : S38} {cs : List Value} (h : k38.K w x cs) : ∃ A0 c0 A1 c1, cs = [.slice A0 x.f0.length c0, .slice A1 x.f1.length c1, .int .i64 x.f2, .bool x.f3] ∧ x.f0.length ≤ c0 ∧ (Kd.slice 5 (Kd.int .u8)).C w A0 x.f0.length x.f0 ∧ x.f1.length ≤ c1 ∧ k125.C w A1 x.f1.length x.f1 := by
 obtain ⟨_, _, rfl, ⟨A0, c0, rfl, l0, g0⟩, ⟨_, _, rfl, ⟨A1, c1, rfl, l1, g1⟩, ⟨_, _, rfl, rfl, rfl⟩⟩⟩ := h
 exact ⟨A0, c0, A1, c1, rfl, l0, g0, l1, g1⟩
structure S46 where
 f0 : (List (List Int))
 f1 : (List S109)
 f2 : Int
 f3 : Bool
def z46 : S46 := ⟨([] : List (List Int)), ([] : List S109), (0 : Int), false⟩
structure S25 where
 f0 : Int
 f1 : Int
 f2 : Int
 f3 : ByteArray
def z25 : S25 := ⟨(0 : Int), (0 : Int), (0 : Int), (⟨#[]⟩ : ByteArray)⟩
def rd_T25 (xs : List S25) (i : Int) : S25 := xs.getD i.toNat z25
end Go.Proofs.YthkepmicdpgbbaaGreatDoor.P
