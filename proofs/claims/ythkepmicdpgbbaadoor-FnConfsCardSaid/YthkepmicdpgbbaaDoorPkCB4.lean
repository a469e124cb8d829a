/- Texts of this seat's claims, put together: EvT, EvW, EvU, EvV, EvX, WEqStruct, EvZ, WLast, WApart, WArr, WFoot, WKept, WShare, WN, WRepsOne, WInv, WMore, Px0, Pxd -/
import Derived.Laws.StructEq
import Derived.Test.YthkepmicdpgbbaaDoorProg
import Derived.Test.YthkepmicdpgbbaaDoorChecked
import Derived.KernelRfl
import Derived.OrdersHeld
import Derived.Deep.RegionHeld3
import Derived.Laws.BitsLemmas
import Derived.RowKit
import Derived.Below
import Derived.Deep.Draws
import Derived.Deep.AppendLies
import Derived.Maps.AppendAt
import Derived.OwnWalk
import Derived.Laws.BytesArg
import Derived.Laws.MakeOwn
import Derived.Laws.OwnMore
import Derived.Deep.OwnRows
import Derived.Tactics
import Derived.Lib.ConvBytes
import Derived.Laws.Slices
import Derived.WalkKit
import Derived.RowKit3
import Derived.Deep.LoopGhost
import Derived.Deep.QuietTactic
import Derived.BigQuiet
import Derived.WideLaws
import Derived.Deep.DeepCutAuto
import Derived.Deep.CutBlock
import Derived.Laws.Rows
import Derived.Lib.AppendStr
import Derived.ArgAppend
import Derived.Laws.IdiomCopy
import Derived.Lib.LazyBuf
import Derived.Test.YthkepmicdpgbbaaDoorPkCB3
/- A call of a function comes to what is told of its code. -/
namespace Go.Proofs.YthkepmicdpgbbaaDoor.E
open Go Go.RowKit Go.Proofs.YthkepmicdpgbbaaDoorW.PrintWords
set_option linter.unusedVariables false
set_option linter.unusedSimpArgs false

/-! ### rows that are nil -/
mutual
theorem upP_le : ∀ (p : PV) (m : Nat), m ≤ (upP m p).2
  | .nil, m => by simp [upP]
  | .agg cs, m => by
    simp only [upP]
    exact upL_le cs m
  | .tup cs, m => by
    simp only [upP]
    exact upL_le cs m
  | .v _, m => by simp [upP]
  | .own _ _, m => by simp [upP]
  | .ptr _ _, m => by simp [upP]
  | .eptr _ _ _ _, m => by simp [upP]
  | .rptr _, m => by simp [upP]
  | .un, m => by simp [upP]
theorem upL_le : ∀ (l : List PV) (m : Nat), m ≤ (upL m l).2
  | [], m => by simp [upL]
  | p :: r, m => by
    simp only [upL]
    exact Nat.le_trans (upP_le p m) (upL_le r _)
end
mutual
theorem upP_ok {G : Gh} {w : World} : ∀ (p : PV) (m : Nat) (v : Value), (∀ i, m ≤ i → i < (upP m p).2 → Reps G w (.own i 0) (.slice none 0 0)) → Reps G w p v → Reps G w (upP m p).1 v
  | .nil, m, v, h, r => by
    simp only [Reps] at r
    subst r
    simp only [upP] at h ⊢
    exact h m (Nat.le_refl _) (by omega)
  | .agg cs, m, v, h, r => by
    simp only [Reps] at r
    obtain ⟨vs, rfl, r⟩ := r
    simp only [upP] at h ⊢
    simp only [Reps]
    exact ⟨vs, rfl, upL_ok cs m _ h r⟩
  | .tup cs, m, v, h, r => by
    simp only [Reps] at r
    obtain ⟨vs, rfl, r⟩ := r
    simp only [upP] at h ⊢
    simp only [Reps]
    exact ⟨vs, rfl, upL_ok cs m _ h r⟩
  | .v _, m, v, h, r => by simpa only [upP] using r
  | .own _ _, m, v, h, r => by simpa only [upP] using r
  | .ptr _ _, m, v, h, r => by simpa only [upP] using r
  | .eptr _ _ _ _, m, v, h, r => by simpa only [upP] using r
  | .rptr _, m, v, h, r => by simpa only [upP] using r
  | .un, m, v, h, r => by simpa only [upP] using r
theorem upL_ok {G : Gh} {w : World} : ∀ (l : List PV) (m : Nat) (vs : List Value), (∀ i, m ≤ i → i < (upL m l).2 → Reps G w (.own i 0) (.slice none 0 0)) → RepsL G w l vs → RepsL G w (upL m l).1 vs
  | [], m, vs, h, r => by simpa only [upL] using r
  | p :: l, m, vs, h, r => by
    simp only [RepsL] at r
    obtain ⟨v, vs', rfl, r1, r2⟩ := r
    simp only [upL] at h ⊢
    simp only [RepsL]
    refine ⟨v, vs', rfl, upP_ok p m v (fun i h1 h2 => h i h1 (Nat.lt_of_lt_of_le h2 (upL_le l _))) r1, upL_ok l _ vs' (fun i h1 h2 => h i (Nat.le_trans (upP_le p m) h1) h2) r2⟩
end

section
variable {E : Env}
theorem load_var {t : Nat} {v u : Value} {w : World} (h : (Instr.loadAt t v).run E.P w = .ok u w) : (do loadVar t (← asAddr v) : Sem Value).run E.P w = .ok u w := by
  cases v with
  | pointer p =>
    cases p with
    | some a => simpa [Instr.loadAt, Instr.sureAddr, asAddr] using h
    | none => simp [Instr.loadAt, Instr.sureAddr, stuck, Sem.run] at h
  | _ => simp [Instr.loadAt, Instr.sureAddr, stuck, Sem.run] at h

def resOne (tmps : Array Value) : ResultVar → Sem Value
  | .tmp t => pure (tmps.getD t undef)
  | .cell a t => do loadVar t (← asAddr (tmps.getD a undef))

theorem res_ok {s : List PV} {h : List Blk} : ∀ (rs : List ResultVar) (R : List PV → Prop), aRes E s h rs R → ∀ (G : Gh) (a : Act) (w : World), Rel s h G a w → ∃ ps vs, R ps ∧ (rs.mapM (resOne a.tmps)).run E.P w = .ok vs w ∧ RepsL G w ps vs
  | [], R, hk, G, a, w, r => ⟨[], [], hk, by simp, by simp [RepsL]⟩
  | .tmp t :: rs, R, hk, G, a, w, r => by
    simp only [aRes] at hk
    obtain ⟨ps, vs, h1, h2, h3⟩ := res_ok rs _ hk G a w r
    refine ⟨_, a.tmps.getD t undef :: vs, h1, ?_, ?_⟩
    · simp [List.mapM_cons, resOne, h2]
    · simp only [RepsL]
      exact ⟨_, _, rfl, r.t t, h3⟩
  | .cell t ty :: rs, R, hk, G, a, w, r => by
    simp only [aRes] at hk
    obtain ⟨q, rd, hk, hl⟩ := load_r hk
    obtain ⟨u, e1, e2⟩ := hl G w _ r.inv ⟨_, r.t t, rfl⟩ (fun id _ => r.b id)
    obtain ⟨ps, vs, h1, h2, h3⟩ := res_ok rs _ hk G a w r
    have e3 := load_var e1
    refine ⟨_, u :: vs, h1, ?_, ?_⟩
    · have : (resOne a.tmps (.cell t ty)).run E.P w = .ok u w := e3
      simp [List.mapM_cons, this, h2]
    · simp only [RepsL]
      exact ⟨_, _, rfl, e2, h3⟩

def retV : List Value → Value
  | [v] => v
  | vs => .tuple vs.toArray
theorem ret_rep {G : Gh} {w : World} : ∀ {ps : List PV} {vs : List Value}, RepsL G w ps vs → Reps G w (retOf ps) (retV vs)
  | [], vs, h => by
    simp only [RepsL] at h
    subst h
    simp only [retOf, retV, Reps, RepsL]
    exact ⟨#[], rfl, rfl⟩
  | [p], vs, h => by
    simp only [RepsL] at h
    obtain ⟨v, vs', rfl, h1, rfl⟩ := h
    exact h1
  | p :: q :: l, vs, h => by
    have h' := h
    simp only [RepsL] at h
    obtain ⟨v, vs', rfl, _, u, us, rfl, _⟩ := h
    simp only [retOf, retV, Reps]
    exact ⟨_, rfl, h'⟩

theorem run_results {fn : Func} {tmps : Array Value} {w : World} {vs : List Value} (h : (fn.results.toList.mapM (resOne tmps)).run E.P w = .ok vs w) :
    (results fn tmps).run E.P w = .ok (retV vs) w := by
  have e : (fn.results.mapM (resOne tmps)).run E.P w = .ok vs.toArray w := by
    rw [Array.mapM_eq_mapM_toList]
    simp [h]
  have e2 : results fn tmps = (do let vs ← fn.results.mapM (resOne tmps); pure (if h : vs.size = 1 then vs[0] else .tuple vs)) := by
    unfold results
    congr 1
  rw [e2, Sem.run_bind, e]
  simp only [Result.andThen_ok, Sem.run_pure]
  match vs with
  | [] => rfl
  | [v] => rfl
  | v :: u :: r => simp [retV]

theorem nth_args : ∀ {args : List PV} {vals : List Value} {G : Gh} {w : World}, RepsL G w args vals → ∀ (n t : Nat), Reps G w (nth (args ++ List.replicate n .un) t) ((vals ++ List.replicate n undef).getD t undef)
  | [], vals, G, w, h, n, t => by
    simp only [RepsL] at h
    subst h
    have : ∀ (n t : Nat), nth (List.replicate n .un) t = .un := fun n => by
      induction n with
      | zero => intro t; rfl
      | succ n ih => intro t; cases t with
        | zero => rfl
        | succ t => simpa [List.replicate_succ, nth] using ih t
    rw [List.nil_append, this]
    simp only [Reps]
  | p :: ps, vals, G, w, h, n, t => by
    simp only [RepsL] at h
    obtain ⟨v, vs, rfl, h1, h2⟩ := h
    cases t with
    | zero => simpa [nth] using h1
    | succ t => simpa [nth] using nth_args h2 n t

theorem callFunc_of {P : Program} {f : FuncId} {fn : Func} (hf : P.funcs[f]? = some fn) (hname : (fn.name == "runtime.NumGoroutine") = false) (hb : fn.body.isSome = true) : ∀ (as_ : Array Value) (w : World), (callFunc f as_).run P w = .ok (.enter f as_) w := by
  intro as_ w
  cases hb' : fn.body with
  | none => rw [hb'] at hb; cases hb
  | some c =>
    have hne : ¬ fn.name = "runtime.NumGoroutine" := by simpa using hname
    simp [callFunc, hf, hne, hb']

/-- WHAT A FUNCTION COMES TO. -/
theorem fn_ok {f : FuncId} {fn : Func} {c : Code} (hf : E.P.funcs[f]? = some fn) (hname : (fn.name == "runtime.NumGoroutine") = false) (hb : fn.body = some c) {args : List PV} {bin bl : List Blk} {r : PV} {n : Nat} (hn : fn.ntmps = args.length + n)
    (hk : aCode E (len bin) c (args ++ List.replicate n .un) bin (aFin E (len bin) fn.results.toList r bl)) : Spec E.P f args bin r bl := by
  refine ⟨callFunc_of hf hname (by rw [hb]; rfl), fun G w vals hi hargs hbin => ?_⟩
  have hlen := hargs.length
  rw [Array.length_toList] at hlen
  refine calls_of_wp hf hb ?_
  have R0 : Refs (len bin) G w := ⟨hi, fun b id h => by
    rcases Nat.lt_or_ge id (len bin) with h' | h'
    · exact h'
    · have := hbin id
      rw [nthB_ge bin id h'] at this
      exact absurd h (this.2 b), fun id q h => by
    rcases Nat.lt_or_ge id (len bin) with h' | h'
    · exact h'
    · have := hbin id
      rw [nthB_ge bin id h'] at this
      rw [this.1] at h
      cases h⟩
  have hr : fn.ntmps - vals.size = n := by omega
  rw [hr]
  refine code_ok R0 c _ bin _ hk G _ w _ ⟨rfl, by simp [hlen], fun t => ?_, hbin, hi⟩ ⟨[], Ext.refl hi []⟩ fun e s' h' G' a' w' hK r' f' => ?_
  · have := nth_args hargs n t
    have e1 : (vals ++ Array.replicate n undef).getD t undef = (vals.toList ++ List.replicate n undef).getD t undef := by
      rw [Array.getD_eq_getD_getElem?, List.getD_eq_getElem?_getD, ← Array.getElem?_toList]
      simp
    simp only
    rw [e1]
    exact this
  · have hK' : (e = .ret ∨ e = .normal) ∧ aRes E s' h' fn.results.toList fun ps => FinVC (len bin) (retOf ps) h' r bl := by
      cases e <;> first | exact ⟨.inl rfl, hK⟩ | exact ⟨.inr rfl, hK⟩ | exact hK.elim
    obtain ⟨he, hK⟩ := hK'
    obtain ⟨ps, vs, hfin, h2, h3⟩ := res_ok _ _ hK G' a' w' r'
    have hres := run_results (fn := fn) h2
    have hv0 := ret_rep h3
    generalize retV vs = v at hres hv0
    obtain ⟨Gf, qf, hf', ⟨ex, keep, k1, k2, k3, k4, k5, k6⟩, fi, ff, fb, hv⟩ : ∃ G2 q2 h2, Fin0 (len bin) q2 h2 r bl ∧ Inv G2 w' ∧ Fr G w G2 w' ∧ (∀ id, RelB G2 w' id (nthB h2 id)) ∧ Reps G2 w' q2 v := by
      cases hfin with
      | up k => exact ⟨G', _, h', k, r'.inv, f', r'.b, hv0⟩
      | dn id n sz ty fz els hq hb hn k =>
        have X := ext_frz r'.inv [id]
        rw [hq] at hv0
        have r0 := r'.b id
        rw [hb] at r0
        refine ⟨G'.frz [id], _, _, k, r'.inv.ext X, f'.step hi X, fun i => ?_, ?_⟩
        · by_cases e : i = id
          · subst e
            exact frz_rel r'.inv (fun j hj => r'.b j) (fun j hj => by rw [List.mem_singleton.1 hj, hb]; trivial) i (by simp)
          · rw [nthB_frz, if_neg (by simpa using e)]
            exact RelB.ext X r'.inv (by simpa using e) (r'.b i)
        · simp only [Reps]
          exact own_row (fun b o h1 h2 => (imm_old X r'.inv b o h1 h2).1) (fun b hb' => .inr (.inr ⟨id, sz, els.length, hb', by simp [Gh.frz, r0.1]⟩)) r0 hn hv0
    obtain ⟨G2, a1, a2, a3, a4, a5⟩ := name_all hi ex hf' Gf fi ff fb k1
    have hup := upP_ok qf (len hf') v (fun i h1 h2 => a5 i h1 (by rw [k2, len_eq] at h2; rw [len_eq] at h2 ⊢; exact h2)) (a4 _ _ hv)
    have rr : Rel [(upP (len hf') qf).1] (hf' ++ ex.map fun x => .arr x.1 x.2 false []) G2 { tmps := #[v], defers := [] } w' := by
      refine ⟨rfl, rfl, fun t => ?_, a3, a1⟩
      cases t with
      | zero => exact hup
      | succ t => simp only [nth, Reps]
    obtain ⟨G3, r3, f3⟩ := weak_ok0 R0 rr a2 ⟨keep, k3, k4, k5, rfl⟩
    have post : ∃ v2 G' ids, Ending.returned v = Ending.returned v2 ∧ Ext ids G w G' w' ∧ Reps G' w' r v2 ∧ ∀ id, RelB G' w' id (nthB bl id) := by
      obtain ⟨ids, X⟩ := f3
      refine ⟨v, G3, ids, rfl, X, ?_, r3.b⟩
      have := r3.t 0
      rw [gcT, nth_ren] at this
      simp only [nth] at this
      rw [k6] at this
      exact this
    cases e with
    | ret => exact ⟨r'.defers, _, hres, post⟩
    | normal => exact ⟨r'.defers, _, hres, post⟩
    | _ => rcases he with he | he <;> cases he
end
end Go.Proofs.YthkepmicdpgbbaaDoor.E

/- The same, with the state written out at every step. -/
namespace Go.Proofs.YthkepmicdpgbbaaDoor.E
open Go Go.RowKit Go.Proofs.YthkepmicdpgbbaaDoorW.PrintWords
set_option linter.unusedVariables false
set_option linter.unusedSimpArgs false

mutual
def forceP : PV → (PV → Prop) → Prop
  | .v c, K => K (.v c)
  | .nil, K => K .nil
  | .own i n, K => K (.own i n)
  | .ptr i o, K => K (.ptr i o)
  | .eptr i n e o, K => K (.eptr i n e o)
  | .rptr cs, K => K (.rptr cs)
  | .agg cs, K => forceL cs fun cs => K (.agg cs)
  | .tup cs, K => forceL cs fun cs => K (.tup cs)
  | .un, K => K .un
def forceL : List PV → (List PV → Prop) → Prop
  | [], K => K []
  | p :: r, K => forceP p fun p => forceL r fun r => K (p :: r)
end
/-- One place changes. -/
def forceAt : List PV → Nat → PV → (List PV → Prop) → Prop
  | [], _, _, K => K []
  | _ :: r, 0, q, K => forceP q fun q => K (q :: r)
  | p :: r, n + 1, q, K => forceAt r n q fun r => K (p :: r)
def forceO (s : List PV) (d : Option Tmp) (q : PV) (K : List PV → Prop) : Prop :=
  match d with
  | some t => forceAt s t q K
  | none => K s
def forceB : List Blk → (List Blk → Prop) → Prop
  | [], K => K []
  | .arr a b c d :: r, K => forceB r fun r => K (.arr a b c d :: r)
  | .box t cs :: r, K => forceL cs fun cs => forceB r fun r => K (.box t cs :: r)
mutual
theorem forceP_eq : ∀ (p : PV) (K : PV → Prop), forceP p K = K p
  | .v c, K => by simp only [forceP]
  | .nil, K => by simp only [forceP]
  | .own i n, K => by simp only [forceP]
  | .ptr i o, K => by simp only [forceP]
  | .eptr i n e o, K => by simp only [forceP]
  | .rptr cs, K => by simp only [forceP]
  | .agg cs, K => by simp only [forceP]; rw [forceL_eq cs]
  | .tup cs, K => by simp only [forceP]; rw [forceL_eq cs]
  | .un, K => by simp only [forceP]
theorem forceL_eq : ∀ (l : List PV) (K : List PV → Prop), forceL l K = K l
  | [], K => by simp only [forceL]
  | p :: r, K => by
    simp only [forceL]
    rw [forceP_eq p, forceL_eq r]
end
theorem forceAt_eq : ∀ (s : List PV) (t : Nat) (q : PV) (K : List PV → Prop), forceAt s t q K = K (put s t q)
  | [], t, q, K => by simp only [forceAt, put]
  | _ :: r, 0, q, K => by simp only [forceAt, put]; rw [forceP_eq]
  | p :: r, n + 1, q, K => by simp only [forceAt, put]; rw [forceAt_eq r n q]
theorem forceO_eq (s : List PV) (d : Option Tmp) (q : PV) (K : List PV → Prop) : forceO s d q K = K (putO s d q) := by
  cases d with
  | none => rfl
  | some t => exact forceAt_eq s t q K
theorem forceB_eq : ∀ (h : List Blk) (K : List Blk → Prop), forceB h K = K h
  | [], K => by simp only [forceB]
  | .arr a b c d :: r, K => by simp only [forceB]; rw [forceB_eq r]
  | .box t cs :: r, K => by simp only [forceB]; rw [forceL_eq, forceB_eq r]

def aOpsF (E : Env) (all : List Oper) : List Oper → List PV → List Blk → (List PV → List Blk → List (List Nat × List Nat) → Prop) → Prop
  | [], s, h, K => K s h []
  | o :: r, s, h, K => match o.guard with
    | none => aOp E h s o.op fun q h' rd wr => forceO s o.dst q fun s' => forceB h' fun h' => aOpsF E all r s' h' fun s2 h2 acc => K s2 h2 ((rd, wr) :: acc)
    | some (j, want) => match dstAt all j with
      | none => False
      | some t => match nth s t with
        | .v (.b x) =>
          Br2 x want (forceAt s t (.v (.b want)) fun s1 => aOp E h s1 o.op fun q h' rd wr => forceO s1 o.dst q fun s' => forceB h' fun h' => aOpsF E all r s' h' fun s2 h2 acc => K s2 h2 ((rd, wr) :: acc))
            (forceAt s t (.v (.b (!want))) fun s1 => forceO s1 o.dst (.tup []) fun s' => aOpsF E all r s' h fun s2 h2 acc => K s2 h2 (([], []) :: acc))
        | .tup [] => forceO s o.dst (.tup []) fun s' => aOpsF E all r s' h fun s2 h2 acc => K s2 h2 (([], []) :: acc)
        | _ => False
theorem aOpsF_eq (E : Env) (all : List Oper) : ∀ (r : List Oper) (s : List PV) (h : List Blk) (K : List PV → List Blk → List (List Nat × List Nat) → Prop), aOpsF E all r s h K = aOps E all r s h K
  | [], s, h, K => by simp only [aOpsF, aOps]
  | o :: r, s, h, K => by
    simp only [aOpsF, aOps, forceO_eq, forceB_eq, forceAt_eq, aOpsF_eq E all r]
    rfl

def forceS (s : List PV) (c : Operand) (x : Bool) (K : List PV → Prop) : Prop :=
  match c with
  | .tmp t => forceAt s t (.v (.b x)) K
  | _ => K s
theorem forceS_eq (s : List PV) (c : Operand) (x : Bool) (K : List PV → Prop) : forceS s c x K = K (setC s c x) := by
  cases c <;> first | rfl | exact forceAt_eq ..
def aCodeF (E : Env) (nref : Nat) : Code → List PV → List Blk → KontC → Prop
  | .skip, s, h, K => K .normal s h
  | .region _ ops draw, s, h, K => aOpsF E ops.toList ops.toList s h fun s' h' acc => cond (!draw || (afterOk 0 ops.toList && ordOk ops.toList (len ops.toList) 0 ops.toList acc)) (K .normal s' h') False
  | .seq a b, s, h, K => SeqVC nref (fun B => aCodeF E nref a s h fun e s' h' => match e with
    | .normal => B s' h'
    | e => K e s' h') fun s' h' => forceL s' fun s' => forceB h' fun h' => aCodeF E nref b s' h' K
  | .cond c x y, s, h, K => match ev s c with
    | .v (.b v) => Br v (forceS s c true fun s' => aCodeF E nref x s' h K) (forceS s c false fun s' => aCodeF E nref y s' h K)
    | _ => False
  | .block id c, s, h, K => aCodeF E nref c s h fun e s' h' => match e with
    | .exit j => cond (Nat.beq j id) (K .normal s' h') (K (.exit j) s' h')
    | e => K e s' h'
  | .loop c, s, h, K => LoopVC nref s h fun s h K' => forceL s fun s => forceB h fun h => aCodeF E nref c s h fun e s' h' => match e with
        | .normal => K' s' h'
        | e => K e s' h'
  | .exit id, s, h, K => K (.exit id) s h
  | .ret, s, h, K => K .ret s h
  | _, _, _, _ => False
theorem aCodeF_eq (E : Env) (nref : Nat) : ∀ (c : Code) (s : List PV) (h : List Blk) (K : KontC), aCodeF E nref c s h K = aCode E nref c s h K
  | .skip, s, h, K => by simp only [aCodeF, aCode]
  | .region _ ops draw, s, h, K => by simp only [aCodeF, aCode, aOpsF_eq]
  | .seq a b, s, h, K => by
    simp only [aCodeF, aCode, aCodeF_eq E nref b, aCodeF_eq E nref a, forceL_eq, forceB_eq]
    rfl
  | .cond c x y, s, h, K => by
    simp only [aCodeF, aCode, forceS_eq, aCodeF_eq E nref x, aCodeF_eq E nref y]
    rfl
  | .block id c, s, h, K => by
    simp only [aCodeF, aCode]
    exact aCodeF_eq E nref c _ _ _
  | .loop c, s, h, K => by
    simp only [aCodeF, aCode, forceL_eq, forceB_eq, aCodeF_eq E nref c]
    rfl
  | .exit id, s, h, K => by simp only [aCodeF, aCode]
  | .ret, s, h, K => by simp only [aCodeF, aCode]
  | .rangeFunc .., s, h, K => by simp only [aCodeF, aCode]
  | .scope _, s, h, K => by simp only [aCodeF, aCode]
  | .label _, s, h, K => by simp only [aCodeF, aCode]
  | .goto _, s, h, K => by simp only [aCodeF, aCode]
  | .refuse _, s, h, K => by simp only [aCodeF, aCode]
theorem fn_okF {E : Env} {f : FuncId} {fn : Func} {c : Code} (hf : E.P.funcs[f]? = some fn) (hname : (fn.name == "runtime.NumGoroutine") = false) (hb : fn.body = some c) {args : List PV} {bin bl : List Blk} {r : PV} {n : Nat} (hn : fn.ntmps = args.length + n)
    (hk : forceL (args ++ List.replicate n .un) fun s => forceB bin fun h => aCodeF E (len bin) c s h (aFin E (len bin) fn.results.toList r bl)) : Spec E.P f args bin r bl :=
  fn_ok hf hname hb hn (by rw [forceL_eq, forceB_eq, aCodeF_eq] at hk; exact hk)
end Go.Proofs.YthkepmicdpgbbaaDoor.E

/- How a function's code is gone through, step by step. -/
namespace Go.Proofs.YthkepmicdpgbbaaDoor.E
open Go Go.RowKit Go.Proofs.YthkepmicdpgbbaaDoorW.PrintWords
set_option linter.unusedVariables false
set_option linter.unusedSimpArgs false

theorem map_all {α : Type} (f : α → List CV) (n : Nat) (hf : ∀ x, (f x).length = n) (l : List α) : ∀ x ∈ List.map f l, x.length = n := by
  intro x hx
  obtain ⟨y, _, rfl⟩ := List.mem_map.1 hx
  exact hf y

theorem size_lit (l : List UInt8) : (ByteArray.mk l.toArray).size = l.length := by simp [ByteArray.size]
theorem eqn_ {a b : Nat} (h : a = b) : a = b := h
theorem side_ {p K : Prop} (k : K) (h : p := by first | with_reducible rfl | exact Nat.le_of_ble_eq_true rfl | with_reducible assumption | (refine map_all _ _ ?_ _; intro _; exact Eq.refl _) | decide | (refine eqn_ ?_; exact Eq.refl _) | (simp only [List.length_map, List.length_set]; done) | omega | (simp only [List.length_map, List.length_append, List.length_set, maxLen, size_lit, bytesOf_length, List.length_cons, List.length_nil]; first | with_reducible assumption | omega) | (simp only [List.length_map, List.length_append, List.length_set, maxLen, List.length_cons, List.length_nil, size_lit, bytesOf_length] at *; omega) | exact Eq.refl _) : Side p K := ⟨h, k⟩
theorem bnd_ {α β : Type} {x : Option α} {f : α → Option β} {b : β} (h : x.bind f = some b) : ∃ a, x = some a ∧ f a = some b := Option.bind_eq_some_iff.1 h
theorem peel_ {α : Type} {c : Prop} [Decidable c] {x : Option α} {r : α} (h : (if c then x else none) = some r) : c ∧ x = some r := by
  by_cases hc : c
  · rw [if_pos hc] at h
    exact ⟨hc, h⟩
  · rw [if_neg hc] at h
    cases h
end Go.Proofs.YthkepmicdpgbbaaDoor.E

/- How a function's code is gone through beside what it computes. -/
namespace Go.Proofs.YthkepmicdpgbbaaDoor.E
open Go Go.RowKit Go.Proofs.YthkepmicdpgbbaaDoorW.PrintWords
set_option linter.unusedVariables false
set_option linter.unusedSimpArgs false

/-! ### the side of the plain function -/
section
variable {α β : Type} {r : α}
theorem itet_ {a b : Option α} (h : (if true = true then a else b) = some r) : a = some r := by simpa using h
theorem itef_ {a b : Option α} (h : (if false = true then a else b) = some r) : b = some r := by simpa using h
theorem peeln_ {c : Prop} [Decidable c] {x : Option α} (h : (if c then none else x) = some r) : ¬c ∧ x = some r := by
  by_cases hc : c
  · rw [if_pos hc] at h
    cases h
  · rw [if_neg hc] at h
    exact ⟨hc, h⟩
theorem suc_ {k : Nat} {g : Nat → Option α} (h : g k = some r) (h0 : g 0 = none) : ∃ k', k = k' + 1 := by
  cases k with
  | zero => rw [h0] at h; cases h
  | succ k => exact ⟨k, rfl⟩
variable {c : Prop} [Decidable c] {A B : Option α} {P Q : Prop} {x : Bool}
theorem br_ (H : (if c then A else B) = some r) (h : x = decide c) (t : c → A = some r → P) (f : ¬c → B = some r → Q) : Br x P Q := by
  subst h
  refine ⟨fun e => ?_, fun e => ?_⟩
  · have e := of_decide_eq_true e
    rw [if_pos e] at H
    exact t e H
  · have e := of_decide_eq_false e
    rw [if_neg e] at H
    exact f e H
theorem brn_ (H : (if c then A else B) = some r) (h : x = !decide c) (t : ¬c → B = some r → P) (f : c → A = some r → Q) : Br x P Q := by
  subst h
  refine ⟨fun e => ?_, fun e => ?_⟩
  · have e := of_decide_eq_false (by simpa using e)
    rw [if_neg e] at H
    exact t e H
  · have e := of_decide_eq_true (by simpa using e)
    rw [if_pos e] at H
    exact f e H
theorem bd_ (b : Bool) : b = decide (b = true) := by cases b <;> rfl
theorem bs_ (x y : ByteArray) : (x.toList == y.toList) = decide (x.toList = y.toList) := by
  rw [Bool.eq_iff_iff]
  simp
theorem bs0_ (x y : ByteArray) : (!(x.toList == y.toList)) = !decide (x.toList = y.toList) := by rw [bs_]
theorem bi_ (x y : Int) : (x == y) = decide (x = y) := rfl
theorem bni_ (x y : Int) : (x != y) = !decide (x = y) := rfl
theorem bin_ (x y : Int) : (!(x == y)) = !decide (x = y) := rfl
theorem bn_ (b : Bool) : (!b) = !decide (b = true) := by cases b <;> rfl
theorem bnn_ (b : Bool) : b = !decide ((!b) = true) := by cases b <;> rfl
theorem nilB (a : ByteArray) : (a.toList == []) = (a.toList == (⟨#[]⟩ : ByteArray).toList) := by
  have : (⟨#[]⟩ : ByteArray).toList = [] := by unfold ByteArray.toList; unfold ByteArray.toList.loop; rfl
  rw [this]
theorem nilE (a : ByteArray) : (a.toList = []) = (a.toList = (⟨#[]⟩ : ByteArray).toList) := by
  have : (⟨#[]⟩ : ByteArray).toList = [] := by unfold ByteArray.toList; unfold ByteArray.toList.loop; rfl
  rw [this]
theorem sgo_ {nref : Nat} {A : (List PV → List Blk → Prop) → Prop} {B : List PV → List Blk → Prop} (k : A B) : SeqVC nref A B := .go k
theorem scut_ {E : Env} {nref : Nat} (id : Nat) {ops : Array Oper} {draw : Bool} {s : List PV} {h : List Blk} {B : List PV → List Blk → Prop} {C : (List PV → List Blk → Prop) → KontC} (J : List PV → List Blk → Prop)
    (a : aCodeF E nref (.region id ops draw) s h (C fun s h => ∃ s' h', Weak s h nref s' h' ∧ J s' h')) (b : ∀ s h, J s h → B s h) : SeqVC nref (fun B => aCodeF E nref (.region id ops draw) s h (C B)) B := .cut J a b
theorem brt_ (t : P) : Br true P Q := ⟨fun _ => t, fun h => by cases h⟩
theorem brf_ (f : Q) : Br false P Q := ⟨fun h => by (cases h), fun _ => f⟩
theorem brct_ {a b : Bool} (h : Br a P Q) : Br (cond true a b) P Q := h
theorem brcf_ {a b : Bool} (h : Br b P Q) : Br (cond false a b) P Q := h
theorem br2t_ (h : Br x P Q) : Br2 x true P Q := ⟨h.t, fun e => h.f e⟩
theorem br2f_ (h : Br x Q P) : Br2 x false P Q := ⟨h.f, fun e => h.t e⟩
end

/-! ### rows, written as lists -/
section
variable {e : Nat} {α : Type} {f : α → List CV} {K : List (List CV) → Prop}
theorem norm_nilapp {y : List α} (k : K (List.map f y)) : Norm e ([] ++ List.map f y) K := ⟨_, rfl, k⟩
theorem norm_appnil {y : List α} (k : K (List.map f y)) : Norm e (List.map f y ++ []) K := ⟨_, (List.append_nil _).symm, k⟩
theorem norm_app {x y : List α} (k : K (List.map f (x ++ y))) : Norm e (List.map f x ++ List.map f y) K := ⟨_, List.map_append, k⟩
theorem norm_set {l : List α} {i : Nat} {y : List CV} (v : α) (h : f v = y) (k : K (List.map f (l.set i v))) : Norm e ((List.map f l).set i y) K := ⟨_, by rw [List.map_set, h], k⟩
theorem norm_rep {n : Nat} {y : List CV} (v : α) (h : f v = y) (k : K (List.map f (List.replicate n v))) : Norm e (List.replicate n y) K := ⟨_, by rw [List.map_replicate, h], k⟩
theorem norm_td {l : List α} {m n : Nat} (k : K (List.map f ((l.take m).drop n))) : Norm e (((List.map f l).take m).drop n) K := ⟨_, by rw [List.map_drop, List.map_take], k⟩
theorem norm_t {l : List α} {m : Nat} (k : K (List.map f (l.take m))) : Norm e (((List.map f l).take m).drop ((0 : Int).toNat)) K := ⟨_, by rw [List.map_take]; rfl, k⟩
theorem norm_d {l : List α} {n : Nat} (k : K (List.map f (l.drop n))) : Norm e (((List.map f l).take (((List.map f l).length : Nat) : Int).toNat).drop n) K := ⟨_, by rw [List.map_drop, Int.toNat_natCast, List.take_length], k⟩
theorem norm_lit {sz n : Nat} {c : List CV} (l : List α) (h : List.map f l = chunks sz n c) (k : K (List.map f l)) : Norm e (chunks sz n c) K := ⟨_, h, k⟩
end
theorem elem_ {α : Type} {f : α → List CV} {l : List α} {j : Int} {K : List CV → Prop} (d v : α) (hv : l.getD j.toNat d = v) (k : K (f v)) (h0 : 0 ≤ j) (h1 : j < (l.length : Int)) : ElemAt (List.map f l) j.toNat K := by
  subst hv
  refine ⟨_, ?_, k⟩
  have h2 : j.toNat < l.length := by omega
  rw [List.getElem?_map, List.getD_eq_getElem?_getD, List.getElem?_eq_getElem h2]
  rfl
theorem lenm_ {α : Type} {f : α → List CV} {l : List α} {K : Nat → Prop} (k : K l.length) : LenAt (List.map f l) K := ⟨_, (List.length_map _).symm, k⟩
theorem stre_ {l : List Int} {K : List Int → Prop} (k : K l) : StrAt (List.map (fun x => [.i .u8 x]) l) K := ⟨l, rfl, k⟩
theorem stre0_ {K : List Int → Prop} (k : K []) : StrAt [] K := ⟨[], rfl, k⟩

theorem cons_eq {α : Type} {a b : α} {l m : List α} (h : a = b) (k : l = m) : a :: l = b :: m := by rw [h, k]
theorem vi_eq {k : IntKind} {a b : Int} (h : a = b) : PV.v (.i k a) = PV.v (.i k b) := by rw [h]
theorem wm_ (x : Int) : wrap64 (x % 256) = x % 256 := by unfold wrap64; omega
theorem own_eq {i n m : Nat} (h : n = m) : PV.own i n = PV.own i m := by rw [h]
theorem tup_eq {l m : List PV} (h : l = m) : PV.tup l = PV.tup m := by rw [h]
theorem agg_eq {l m : List PV} (h : l = m) : PV.agg l = PV.agg m := by rw [h]
/-! ### calls, loops, the end -/
theorem call_ {P : Program} {f : FuncId} {av av' : List PV} {bin bin' : List Blk} {K : PV → List Blk → Prop} {r : PV} {bl : List Blk} (h : Spec P f av' bin' r bl) (e : av' = av) (e2 : bin' = bin) (k : K r bl) : CallAt P f av bin K := by
  subst e e2
  exact ⟨r, bl, h, k⟩
section
variable {nref : Nat} {s : List PV} {h : List Blk}
theorem weak_ {keep : List Nat} {h' : List Blk} (ex : List (Nat × Nat)) (us : List (Option Nat)) (bs : List (List (Option Nat))) (ms : List Bool)
    (h0 : (posL ex && upIn (len h) (len h + len ex) us && upIns (len h) (len h + len ex) bs) = true) (hk : keepOf nref (upBs bs h ++ nils ex) (mask ms (upT us s)) = keep) (h2 : (nodup keep && pre 0 nref keep) = true)
    (h4 : pickB (idx keep) (upBs bs h ++ nils ex) keep = some h') : Weak s h nref (mask ms (gcT keep (upT us s))) h' := by
  simp only [Bool.and_eq_true] at h0 h2
  exact ⟨ex, us, bs, h0.1.1, h0.1.2, h0.2, _, ⟨keep, h2.1, fun i hi => by simpa using pre_ok nref 0 keep h2.2 i hi, h4, rfl⟩, ms, rfl⟩
theorem fin_ {q : PV} {r : PV} {bl : List Blk} (ex : List (Nat × Nat)) {keep : List Nat} (h0 : posL ex = true) (h1 : (upP (len h) q).2 = len h + len ex) (hk : keepOf nref (h ++ nils ex) [(upP (len h) q).1] = keep)
    (h2 : (nodup keep && pre 0 nref keep) = true) (h4 : pickB (idx keep) (h ++ nils ex) keep = some bl) (h5 : renP (idx keep) (upP (len h) q).1 = r) : Fin0 nref q h r bl := by
  simp only [Bool.and_eq_true] at h2
  exact ⟨ex, keep, posL_ok h0, h1, h2.1, fun i hi => by simpa using pre_ok nref 0 keep h2.2 i hi, by rw [← nils_map]; exact h4, h5⟩
end
/-! the same, written out as it goes -/
def forceN : List Nat → (List Nat → Prop) → Prop
  | [], K => K []
  | 0 :: r, K => forceN r fun r => K (0 :: r)
  | (n + 1) :: r, K => forceN r fun r => K ((n + 1) :: r)
theorem forceN_eq : ∀ (l : List Nat) (K : List Nat → Prop), forceN l K = K l
  | [], K => by simp only [forceN]
  | 0 :: r, K => by simp only [forceN]; rw [forceN_eq r]
  | (n + 1) :: r, K => by simp only [forceN]; rw [forceN_eq r]
def nodupB : List Nat → Bool
  | [] => true
  | x :: r => !(has r x) && nodupB r
theorem has_eq : ∀ (l : List Nat) (x : Nat), has l x = l.contains x
  | [], x => by simp [has]
  | y :: r, x => by
    simp only [has, has_eq r x, List.contains_cons]
    congr 1
    rw [Bool.eq_iff_iff]
    constructor
    · intro e
      rw [Nat.eq_of_beq_eq_true e]
      simp
    · intro e
      rw [eq_of_beq e]
      exact Nat.beq_refl _
theorem nodupB_eq : ∀ l : List Nat, nodupB l = nodup l
  | [] => rfl
  | x :: r => by simp only [nodupB, nodup, has_eq, nodupB_eq r]
structure FinEq (q : PV) (h : List Blk) (r : PV) (bl : List Blk) : Prop where
  a : h = bl
  b : q = r
def finK (nref : Nat) (q : PV) (h : List Blk) (ex : List (Nat × Nat)) (r : PV) (bl : List Blk) : Prop :=
  forceP q fun q => match upP (len h) q with
    | (q, n) => forceP q fun q => forceB (h ++ nils ex) fun h2 => forceN (keepOf nref h2 [q]) fun keep => cond (posL ex && Nat.beq n (len h2) && nodupB keep && pre 0 nref keep)
        (match pickB (idx keep) h2 keep with
          | some b => forceB b fun b => forceP (renP (idx keep) q) fun q => FinEq q b r bl
          | none => False) False
theorem len_nils : ∀ (h : List Blk) (ex : List (Nat × Nat)), len (h ++ nils ex) = len h + len ex
  | [], [] => rfl
  | [], x :: ex => by
    have := len_nils [] ex
    simp only [List.nil_append, nils, len] at this ⊢
    omega
  | b :: h, ex => by
    have := len_nils h ex
    simp only [List.cons_append, len] at this ⊢
    omega
theorem finK0_ {nref : Nat} {q : PV} {h : List Blk} {r : PV} {bl : List Blk} (ex : List (Nat × Nat)) (k : finK nref q h ex r bl) : Fin0 nref q h r bl := by
  simp only [finK, forceP_eq, forceB_eq, forceN_eq] at k
  generalize hc : (posL ex && Nat.beq (upP (len h) q).2 (len (h ++ nils ex)) && nodupB (keepOf nref (h ++ nils ex) [(upP (len h) q).1]) && pre 0 nref (keepOf nref (h ++ nils ex) [(upP (len h) q).1])) = c at k
  cases c with
  | false => exact k.elim
  | true =>
    simp only [Bool.and_eq_true, nodupB_eq] at hc
    obtain ⟨⟨⟨c1, c2⟩, c3⟩, c4⟩ := hc
    simp only [cond_true] at k
    have c2 := Nat.eq_of_beq_eq_true c2
    rw [len_nils] at c2
    cases hp : pickB (idx (keepOf nref (h ++ nils ex) [(upP (len h) q).1])) (h ++ nils ex) (keepOf nref (h ++ nils ex) [(upP (len h) q).1]) with
    | none => rw [hp] at k; exact k.elim
    | some b =>
      rw [hp] at k
      obtain ⟨rfl, rfl⟩ := k
      exact fin_ ex c1 c2 rfl (by rw [c3, c4]; rfl) hp rfl
theorem finK_ {nref : Nat} {q : PV} {h : List Blk} {r : PV} {bl : List Blk} (ex : List (Nat × Nat)) (k : finK nref q h ex r bl) : FinVC nref q h r bl := .up (finK0_ ex k)
def finDK (nref : Nat) (q : PV) (h : List Blk) (ex : List (Nat × Nat)) (r : PV) (bl : List Blk) : Prop :=
  match q with
  | .own id n => (match nthB h id with
    | some (.arr sz ty fz els) => Side (n = els.length) (finK nref (.v (.row els)) (frz [id] h) ex r bl)
    | _ => False)
  | _ => False
theorem finD_ {nref : Nat} {q : PV} {h : List Blk} {r : PV} {bl : List Blk} (ex : List (Nat × Nat)) (k : finDK nref q h ex r bl) : FinVC nref q h r bl := by
  unfold finDK at k
  split at k
  · split at k
    · rename_i hb
      exact .dn _ _ _ _ _ _ rfl hb k.h (finK0_ ex k.k)
    · exact k.elim
  · exact k.elim
def weakK (nref : Nat) (s : List PV) (h : List Blk) (ex : List (Nat × Nat)) (us : List (Option Nat)) (bs : List (List (Option Nat))) (ms : List Bool) (K : List PV → List Blk → Prop) : Prop :=
  forceL (mask ms (upT us s)) fun s1 => forceB (upBs bs h ++ nils ex) fun h1 => forceN (keepOf nref h1 s1) fun keep =>
    cond (posL ex && upIn (len h) (len h + len ex) us && upIns (len h) (len h + len ex) bs && nodupB keep && pre 0 nref keep)
      (match pickB (idx keep) h1 keep with
        | some b => forceB b fun b => forceL (gcT keep s1) fun s2 => K s2 b
        | none => False) False
theorem mask_ren (m : Nat → Option Nat) : ∀ (ms : List Bool) (l : List PV), mask ms (renL m l) = renL m (mask ms l)
  | [], l => by simp [mask]
  | true :: ms, [] => by simp [mask, renL]
  | false :: ms, [] => by simp [mask, renL]
  | true :: ms, p :: l => by simp [mask, renL, mask_ren m ms l]
  | false :: ms, p :: l => by simp [mask, renL, renP, mask_ren m ms l]
theorem weakK_ {nref : Nat} {s : List PV} {h : List Blk} {ex : List (Nat × Nat)} {us : List (Option Nat)} {bs : List (List (Option Nat))} {ms : List Bool} {K : List PV → List Blk → Prop} (k : weakK nref s h ex us bs ms K) :
    ∃ s' h', Weak s h nref s' h' ∧ K s' h' := by
  simp only [weakK, forceL_eq, forceB_eq, forceN_eq] at k
  generalize hk : keepOf nref (upBs bs h ++ nils ex) (mask ms (upT us s)) = keep at k
  generalize hc : (posL ex && upIn (len h) (len h + len ex) us && upIns (len h) (len h + len ex) bs && nodupB keep && pre 0 nref keep) = c at k
  cases c with
  | false => exact k.elim
  | true =>
    simp only [Bool.and_eq_true, nodupB_eq] at hc
    obtain ⟨⟨⟨⟨c1, c2⟩, c3⟩, c4⟩, c5⟩ := hc
    simp only [cond_true] at k
    cases hp : pickB (idx keep) (upBs bs h ++ nils ex) keep with
    | none => rw [hp] at k; exact k.elim
    | some b =>
      rw [hp] at k
      refine ⟨_, b, weak_ ex us bs ms (by rw [c1, c2, c3]; rfl) hk (by rw [c4, c5]; rfl) hp, ?_⟩
      simp only [gcT, mask_ren] at k ⊢
      exact k
theorem loopK_ {nref : Nat} {s : List PV} {h : List Blk} {B : List PV → List Blk → (List PV → List Blk → Prop) → Prop} (I : Nat → List PV → List Blk → Prop) (ex : List (Nat × Nat)) (us : List (Option Nat)) (bs : List (List (Option Nat))) (ms : List Bool) (N : Nat)
    (i : weakK nref s h ex us bs ms (I N)) (r : ∀ n s h, n ≤ N → I n s h → B s h (NextVC nref (fun n s h => n ≤ N ∧ I n s h) n)) : LoopVC nref s h B := by
  obtain ⟨s', h', w, i⟩ := weakK_ i
  exact ⟨fun n s h => n ≤ N ∧ I n s h, N, _, _, w, ⟨Nat.le_refl _, i⟩, fun n s h q => r n s h q.1 q.2⟩
theorem nextK_ {nref : Nat} {s : List PV} {h : List Blk} {I : Nat → List PV → List Blk → Prop} {n N m : Nat} {P : Nat → Prop} (H : P m) (ms : List Bool) (i : weakK nref s h [] [] [] ms (I m)) (le : m ≤ N) (lt : m < n) : NextVC nref (fun n s h => n ≤ N ∧ I n s h) n s h := by
  obtain ⟨s', h', w, i⟩ := weakK_ i
  exact ⟨m, _, _, lt, w, le, i⟩
/-! states by their places that hold something -/
def spr : Nat → Nat → List (Nat × PV) → List PV
  | 0, _, _ => []
  | n + 1, i, [] => .un :: spr n (i + 1) []
  | n + 1, i, x :: r => cond (Nat.beq i x.1) (x.2 :: spr n (i + 1) r) (.un :: spr n (i + 1) (x :: r))
def bsp : Nat → Nat → List Nat → List Bool
  | 0, _, _ => []
  | n + 1, i, [] => false :: bsp n (i + 1) []
  | n + 1, i, x :: r => cond (Nat.beq i x) (true :: bsp n (i + 1) r) (false :: bsp n (i + 1) (x :: r))
theorem scg_ {E : Env} {nref : Nat} (id : Nat) {ops : Array Oper} {draw : Bool} {s : List PV} {h : List Blk} {B : List PV → List Blk → Prop} {C : (List PV → List Blk → Prop) → KontC}
    (k : SeqVC nref (fun B => aCodeF E nref (.region id ops draw) s h (C B)) B) : SeqVC nref (fun B => aCodeF E nref (.region id ops draw) s h (C B)) B := k
/-! what is known already -/
/-! what a call is handed -/
theorem handid_ {A B : Prop} (h : HandVC A B) : HandVC A B := h
theorem handa_ {A B : Prop} (h : A) : HandVC A B := .a h
/-! an index into an array -/
theorem idxa_ {j : Int} {n : Nat} {K : Nat → Prop} (i : Nat) (h : j = (i : Int)) (lt : i < n) (k : K i) : IdxAt j n K := ⟨i, h, lt, k⟩
theorem idxc_ {α : Type} {r : α} {j c : Int} {n : Nat} {K : Nat → Prop} {A B : Option α} (H : (if j = c then A else B) = some r) (i : Nat) (hc : c = (i : Int)) (lt : i < n) (t : A = some r → K i) (f : B = some r → IdxAt j n K) : IdxAt j n K := by
  by_cases e : j = c
  · rw [if_pos e] at H
    exact ⟨i, e.trans hc, lt, t H⟩
  · rw [if_neg e] at H
    exact f H
/-! which kind of goal -/
section
variable {nref n : Nat} {A : (List PV → List Blk → Prop) → Prop} {B : List PV → List Blk → Prop} {p K : Prop} {x y : Bool} {P Q : Prop} {e j : Nat} {l : List (List CV)} {KL : List (List CV) → Prop} {KE : List CV → Prop} {KN : Nat → Prop} {KS : List Int → Prop}
theorem idxid_ {j : Int} {n : Nat} {K : Nat → Prop} (h : IdxAt j n K) : IdxAt j n K := h
theorem seqid_ (h : SeqVC nref A B) : SeqVC nref A B := h
theorem sideid_ (h : Side p K) : Side p K := h
theorem brid_ (h : Br x P Q) : Br x P Q := h
theorem br2id_ (h : Br2 x y P Q) : Br2 x y P Q := h
theorem normid_ (h : Norm e l KL) : Norm e l KL := h
theorem elemid_ (h : ElemAt l j KE) : ElemAt l j KE := h
theorem lenid_ (h : LenAt l KN) : LenAt l KN := h
theorem strid_ (h : StrAt l KS) : StrAt l KS := h
theorem callid_ {Pr : Program} {f : FuncId} {as_ : List PV} {bin : List Blk} {KC : PV → List Blk → Prop} (h : CallAt Pr f as_ bin KC) : CallAt Pr f as_ bin KC := h
theorem loopid_ {s : List PV} {h : List Blk} {C : List PV → List Blk → (List PV → List Blk → Prop) → Prop} (k : LoopVC nref s h C) : LoopVC nref s h C := k
theorem nextid_ {I : Nat → List PV → List Blk → Prop} {s : List PV} {h : List Blk} (k : NextVC nref I n s h) : NextVC nref I n s h := k
theorem finid_ {q r : PV} {h bl : List Blk} (k : FinVC nref q h r bl) : FinVC nref q h r bl := k
theorem idH_ {α : Type} {F : Nat → Option α} {k : Nat} {r : α} (h : F k = some r) : F k = some r := h
theorem exid_ {F : List PV → Prop} (k : ∃ s, F s) : ∃ s, F s := k
theorem allid_ {F : List PV → List Blk → Prop} {G : List PV → List Blk → Prop} (k : ∀ s h, F s h → G s h) : ∀ s h, F s h → G s h := k
end
end Go.Proofs.YthkepmicdpgbbaaDoor.E

/- What functions that are told in other words come to: values, and rows of their own. -/
namespace Go.Proofs.YthkepmicdpgbbaaDoor.E
open Go Go.RowKit Go.Proofs.YthkepmicdpgbbaaDoorW.PrintWords
set_option linter.unusedVariables false
set_option linter.unusedSimpArgs false

section
variable {G : Gh} {w w' : World}
theorem none_of (h : ∀ id, RelB G w id (nthB [] id)) : (∀ id, G.inf id = none) ∧ ∀ b, G.own b = none := by
  simp only [nthB, RelB] at h
  refine ⟨fun id => (h id).1, fun b => ?_⟩
  cases hb : G.own b with
  | none => rfl
  | some id => exact absurd hb ((h id).2 b)
theorem ext_below (hn : ∀ b, G.own b = none) (hb : Below w.heap.size w w') : Ext [] G w G w' where
  os := hb.os
  tape := hb.tape
  output := hb.output
  size := hb.size
  base := rfl
  old := rfl
  nn := fun b hlt h => ⟨h, hb.block b hlt⟩
  sm := fun b id h => by rw [hn b] at h; cases h
  same := fun b id cs ty h => by rw [hn b] at h; cases h
  fz := fun b id sz n h => by rw [hn b] at h; cases h
  inf := fun id sz n f h => ⟨n, f, h, Nat.le_refl _, fun e => ⟨e, rfl⟩, fun _ b hb => hb⟩
  out := fun _ _ => rfl
  new := fun b id _ h => by rw [hn b] at h; cases h
  keep := fun b id h => by rw [hn b] at h; cases h
def Gh.new1 (G : Gh) (b : Option Nat) (sz n : Nat) : Gh := { G with own := fun x => if some x = b then some 0 else none, inf := fun i => if i = 0 then some (sz, n, false) else none }
theorem ext_new1 (hf : ∀ id, G.inf id = none) (hn : ∀ b, G.own b = none) (hb : Below w.heap.size w w') (b0 : Option Nat) (sz n : Nat) (hle : ∀ x, b0 = some x → w.heap.size ≤ x ∧ x < w'.heap.size) : Ext [0] G w (G.new1 b0 sz n) w' where
  os := hb.os
  tape := hb.tape
  output := hb.output
  size := hb.size
  base := rfl
  old := rfl
  nn := fun b hlt h => ⟨by
    simp only [Gh.new1]
    rw [if_neg]
    intro e
    have := (hle b e.symm).1
    omega, hb.block b hlt⟩
  sm := fun b id h => by rw [hn b] at h; cases h
  same := fun b id cs ty h => by rw [hn b] at h; cases h
  fz := fun b id sz n h => by rw [hn b] at h; cases h
  inf := fun id sz n f h => by rw [hf id] at h; cases h
  out := fun id h => by
    simp only [Gh.new1]
    rw [hf id, if_neg (by simpa using h)]
  new := fun b id _ h => by
    simp only [Gh.new1] at h
    split at h
    · injection h with h
      simp [h]
    · cases h
  keep := fun b id h => by
    simp only [Gh.new1] at h
    split at h
    · rename_i e
      exact (hle b e.symm).2
    · cases h
end

section
variable {P : Program} {f : FuncId} {args : List PV}
/-- Values come out, and nothing else. -/
theorem spec_val {r : PV} (hc : ∀ (as_ : Array Value) (w : World), (callFunc f as_).run P w = .ok (.enter f as_) w)
    (h : ∀ (G : Gh) (w : World) (vals : Array Value), Go.Proofs.YthkepmicdpgbbaaDoor.P.GW w → RepsL G w args vals.toList → Calls P f vals w fun e w' => ∃ v, e = .returned v ∧ Below w.heap.size w w' ∧ ∀ G, Reps G w' r v) : Spec P f args [] r [] := by
  refine ⟨hc, fun G w vals hi hr hb => ?_⟩
  obtain ⟨h1, h2⟩ := none_of hb
  refine (h G w vals hi.gwat hr).mono fun e w' hq => ?_
  obtain ⟨v, rfl, hb', hv⟩ := hq
  refine ⟨v, G, [], rfl, ext_below h2 hb', hv G, fun id => ?_⟩
  simp only [nthB, RelB]
  exact ⟨h1 id, fun b => by rw [h2 b]; exact fun e => by cases e⟩
/-- A row of its own comes out. -/
theorem spec_row {sz ty : Nat} {els : List (List CV)} (hsz : 0 < sz) (hc : ∀ (as_ : Array Value) (w : World), (callFunc f as_).run P w = .ok (.enter f as_) w)
    (h : ∀ (G : Gh) (w : World) (vals : Array Value), Go.Proofs.YthkepmicdpgbbaaDoor.P.GW w → RepsL G w args vals.toList → Calls P f vals w fun e w' => ∃ v, e = .returned v ∧ Below w.heap.size w w' ∧
      ((v = .slice none 0 0 ∧ els = []) ∨ ∃ b c cs, v = .slice (some ⟨b, 0, none⟩) els.length c ∧ w.heap.size ≤ b ∧ w'.heap[b]? = some (.cells cs ty (0, 0)) ∧ cs.size = c * sz ∧ els.length ≤ c ∧ c ≤ maxLen ∧ ∀ I, RepE I w' sz els cs.toList)) :
    Spec P f args [] (.own 0 els.length) [.arr sz ty false els] := by
  refine ⟨hc, fun G w vals hi hr hb => ?_⟩
  obtain ⟨h1, h2⟩ := none_of hb
  refine (h G w vals hi.gwat hr).mono fun e w' hq => ?_
  obtain ⟨v, rfl, hb', hv⟩ := hq
  rcases hv with ⟨rfl, rfl⟩ | ⟨b, c, cs, rfl, q1, q2, q3, q4, q5, q6⟩
  · refine ⟨_, G.new1 none sz 0, [0], rfl, ext_new1 h1 h2 hb' none sz 0 (fun x e => by cases e), ?_, fun id => ?_⟩
    · simp only [Reps]
      exact ⟨sz, 0, false, rfl, hsz, rfl, .inr ⟨rfl, .inl ⟨rfl, rfl⟩⟩⟩
    · cases id with
      | zero =>
        simp only [nthB, RelB]
        exact ⟨rfl, hsz, fun b b' e => by simp [Gh.new1] at e, .inl ⟨by simp, fun b e => by simp [Gh.new1] at e⟩⟩
      | succ id =>
        simp only [nthB, RelB]
        exact ⟨rfl, fun b e => by simp [Gh.new1] at e⟩
  · have hlt : b < w'.heap.size := (Array.getElem?_eq_some_iff.1 q2).1
    refine ⟨_, G.new1 (some b) sz els.length, [0], rfl, ext_new1 h1 h2 hb' (some b) sz _ (fun x e => by injection e with e; subst e; exact ⟨q1, hlt⟩), ?_, fun id => ?_⟩
    · simp only [Reps]
      exact ⟨sz, els.length, false, rfl, hsz, rfl, .inr ⟨rfl, .inr ⟨b, c, cs, ty, rfl, by simp [Gh.new1], q2, q3, q4, q5⟩⟩⟩
    · cases id with
      | zero =>
        simp only [nthB, RelB]
        refine ⟨rfl, hsz, fun x y e e' => ?_, .inr ⟨b, cs, by simp [Gh.new1], q2, ?_, q6 _⟩⟩
        · simp only [Gh.new1] at e e'
          split at e <;> split at e' <;> simp_all
        · rw [q3]
          exact Nat.mul_le_mul_right _ q4
      | succ id =>
        simp only [nthB, RelB]
        refine ⟨rfl, fun x e => ?_⟩
        simp only [Gh.new1] at e
        split at e <;> simp at e
end

/-! ### the elder words -/
theorem repE_scalar {α : Type} {f : α → List CV} {enc : α → Value} (hf : ∀ I w x rest, RepP I w (f x) (enc x :: rest)) (hl : ∀ x, (f x).length = 1) {I : Nat → Prop} {w : World} : ∀ (xs : List α) (vs : List Value), vs.take xs.length = xs.map enc → RepE I w 1 (xs.map f) vs
  | [], _, _ => by simp [RepE]
  | x :: xs, [], h => by simp at h
  | x :: xs, v :: vs, h => by
    simp only [List.length_cons, List.take_succ_cons, List.map_cons, List.cons.injEq] at h
    simp only [List.map_cons, RepE, List.drop_succ_cons, List.drop_zero]
    exact ⟨hl x, by rw [h.1]; exact hf _ _ _ _, repE_scalar hf hl xs vs h.2⟩
theorem row_of_kd {α : Type} {f : α → List CV} {enc : α → Value} {h1 : ∀ x, (enc x).oneCell' = true} (hf : ∀ I w x rest, RepP I w (f x) (enc x :: rest)) (hl : ∀ x, (f x).length = 1) {e base : Nat} {w' : World} {ok : Nat → Prop} {v : Value} {xs : List α}
    (h : Kd.R (Kd.scalar enc h1) e w' base ok v xs) : (v = .slice none 0 0 ∧ xs.map f = []) ∨ ∃ b c cs, v = .slice (some ⟨b, 0, none⟩) (xs.map f).length c ∧ base ≤ b ∧ w'.heap[b]? = some (.cells cs e (0, 0)) ∧ cs.size = c * 1 ∧ (xs.map f).length ≤ c ∧ c ≤ maxLen ∧ ∀ I, RepE I w' 1 (xs.map f) cs.toList := by
  obtain ⟨_, inner, ⟨_, ho | ⟨g, cap, cur, rfl, hg, hh, r1, r2, r3, r4⟩⟩, hr⟩ := h
  · obtain ⟨rfl, h0⟩ := ho
    exact .inl ⟨rfl, by rw [List.eq_nil_of_length_eq_zero h0]; rfl⟩
  · refine .inr ⟨g, cap, cur, by rw [List.length_map], hg, hh, r3, by rw [List.length_map]; exact r1, r2, fun I => repE_scalar hf hl xs _ ?_⟩
    have r4' : cur.toList.take xs.length = inner := by rw [← r4]; congr 1; exact (Nat.mul_one _).symm
    rw [r4']
    apply List.ext_getElem?
    intro j
    rw [List.getElem?_map]
    cases hx : xs[j]? with
    | none =>
      have := List.getElem?_eq_none_iff.1 hx
      rw [List.getElem?_eq_none_iff.2 (by have := hr.1; simp only [Kd.scalar, Nat.mul_one] at this; omega)]
      rfl
    | some x =>
      have h2 := hr.2 j x hx
      have h3 : ((inner.drop (j * 1)).take 1) = [enc x] := h2
      rw [Nat.mul_one] at h3
      have h4 : (inner.drop j)[0]? = some (enc x) := by
        have := congrArg (fun l => l[0]?) h3
        simpa [List.getElem?_take] using this
      rw [List.getElem?_drop] at h4
      simpa using h4
theorem kdC_of {α : Type} (d : Kd α) (f : α → List CV) (hs : ∀ x, (f x).length = d.sz) (hk : ∀ x I w cs, RepP I w (f x) cs → d.K w x (cs.take d.sz)) {I : Nat → Prop} {w : World} {l : List α} {v : Value} (h : RepC I w (.row (l.map f)) v) :
    ∃ A c, v = .slice A l.length c ∧ l.length ≤ c ∧ d.C w A l.length l ∧ (l ≠ [] → ∀ ad, A = some ad → ad.spot = none) := by
  simp only [RepC, List.length_map] at h
  obtain ⟨A, c, rfl, h2, h3, h4⟩ := h
  refine ⟨A, c, rfl, h2, ⟨rfl, Nat.le_trans h3 (by decide), fun hpos => ?_⟩, fun hne ad hA => ?_⟩
  · rcases h4 with h4 | ⟨b, o, sz, cs, ty, fr, rfl, h6, h7, h8, h9⟩
    · have := List.map_eq_nil_iff.1 h4
      subst this
      simp at hpos
    · refine ⟨_, rfl, fun j p hp => ?_⟩
      obtain ⟨g1, g2⟩ := RepE.at j (f p) h9 (by rw [List.getElem?_map, hp]; rfl)
      rw [hs] at g1
      subst g1
      refine ⟨_, ?_, hk p _ _ _ g2, fun i u hu => ?_⟩
      · rw [List.length_take]
        have := g2.len
        rw [hs] at this
        omega
      · rw [List.getElem?_take] at hu
        split at hu
        · rw [List.getElem?_drop, List.getElem?_drop] at hu
          have hu' : cs[o + (j * d.sz + i)]? = some u := by simpa [Nat.add_assoc] using hu
          have e : (⟨b, o, none⟩ : Addr).add (j * d.sz + i) = ⟨b, o + (j * d.sz + i), none⟩ := by
            rw [Addr.add_lit]
          rw [e]
          simpa [World.cell?, h7] using hu'
        · cases hu
  · rcases h4 with h4 | ⟨b, o, sz, cs, ty, fr, h5, _⟩
    · exact absurd (List.map_eq_nil_iff.1 h4) hne
    · rw [h5] at hA
      injection hA with hA
      rw [← hA]
end Go.Proofs.YthkepmicdpgbbaaDoor.E

-- PRINTED BY print.sh 35421559b90ae4d0a3588c463048766b98c2df88dd9212a6774a882060cdf62d: not written by this session
/-! ### 53. '==' of structs as_ one Bool -/
namespace Go.Proofs.YthkepmicdpgbbaaDoorW.PrintWords
open Go.RowKit
section
variable {P : Program} {d : Nat} {xs ys : Array Value} {f : Field} {fs : List Field} {a b : Value} {r s : Bool} {w : World}
/-- The last field that counts. -/
theorem eqf_last (hn : (f.name == "_") = false) (ha : (part f.type xs f.offset).run P w = .ok a w) (hb : (part f.type ys f.offset).run P w = .ok b w) (he : (Op.equalIn d f.type a b).run P w = .ok r w) : (Op.eqFields d xs ys [f]).run P w = .ok r w := by
  have hn' : f.name ≠ "_" := by simpa using hn
  simp only [Op.eqFields, if_pos hn', Sem.run_bind, ha, hb, he, Result.andThen_ok]
  cases r <;> simp
theorem eqf_cons (hn : (f.name == "_") = false) (ha : (part f.type xs f.offset).run P w = .ok a w) (hb : (part f.type ys f.offset).run P w = .ok b w) (he : (Op.equalIn d f.type a b).run P w = .ok r w) (hr : (Op.eqFields d xs ys fs).run P w = .ok s w) : (Op.eqFields d xs ys (f :: fs)).run P w = .ok (r && s) w := by
  have hn' : f.name ≠ "_" := by simpa using hn
  rw [Op.eqFields]
  simp only [if_pos hn', Sem.run_bind, ha, hb, he, Result.andThen_ok]
  cases r
  · simp
  · simpa using hr
theorem eqA_of {t : TypeId} {fs : Array Field} (hu : P.underlying t = some (.struct fs)) (hp : P.stoodInHeld t = false) (h : (Op.eqFields d xs ys fs.toList).run P w = .ok r w) : (Op.equalIn (d + 1) t (.agg xs) (.agg ys)).run P w = .ok r w := by
  have hf : P.fieldsOf t = fs := by simp [Program.fieldsOf, hu]
  rw [run_equalIn_struct (P := P) w d t xs ys (by rw [hf]; exact hu) hp, hf]
  exact h
end
end Go.Proofs.YthkepmicdpgbbaaDoorW.PrintWords

/- The types that the functions use. -/
namespace Go.Proofs.YthkepmicdpgbbaaDoor.E
open Go Go.RowKit
theorem ty2 : TyFact Tryd.prog 2 ⟨1, 8, .int .i64 0, .int .i64⟩ := ⟨by kernel_rfl, (show Tryd.prog.underlying 2 = some (.int .i64) by kernel_rfl), by kernel_rfl⟩
theorem ty3 : TyFact Tryd.prog 3 ⟨1, 8, .int .i64 0, .int .i64⟩ := ⟨by kernel_rfl, (show Tryd.prog.underlying 3 = some (.int .i64) by kernel_rfl), by kernel_rfl⟩
theorem ty4 : TyFact Tryd.prog 4 ⟨1, 1, .bool false, .bool⟩ := ⟨by kernel_rfl, (show Tryd.prog.underlying 4 = some (.bool) by kernel_rfl), by kernel_rfl⟩
theorem ty5 : TyFact Tryd.prog 5 ⟨1, 1, .int .u8 0, .int .u8⟩ := ⟨by kernel_rfl, (show Tryd.prog.underlying 5 = some (.int .u8) by kernel_rfl), by kernel_rfl⟩
theorem ty7 : TyFact Tryd.prog 7 ⟨4, 24, .agg #[.int .i64 0, .int .i64 0, .bool false, .int .u8 0], .struct [(0, 1), (1, 1), (2, 1), (3, 1)]⟩ := ⟨by kernel_rfl, (show ((Tryd.prog.underlying 7).bind structOf).map (fun l => l.map fun x => (x.1, (Tryd.prog.info? x.2).map (·.size))) = some [(0, some 1), (1, some 1), (2, some 1), (3, some 1)] by kernel_rfl), by kernel_rfl⟩
theorem ty9 : TyFact Tryd.prog 9 ⟨1, 16, .string (⟨#[]⟩ : ByteArray), .str⟩ := ⟨by kernel_rfl, (show Tryd.prog.underlying 9 = some (.string) by kernel_rfl), by kernel_rfl⟩
theorem ty12 : TyFact Tryd.prog 12 ⟨1, 8, .int .u64 0, .int .u64⟩ := ⟨by kernel_rfl, (show Tryd.prog.underlying 12 = some (.int .u64) by kernel_rfl), by kernel_rfl⟩
theorem ty13 : TyFact Tryd.prog 13 ⟨2, 24, .agg #[.string (⟨#[]⟩ : ByteArray), .int .u64 0], .struct [(0, 1), (1, 1)]⟩ := ⟨by kernel_rfl, (show ((Tryd.prog.underlying 13).bind structOf).map (fun l => l.map fun x => (x.1, (Tryd.prog.info? x.2).map (·.size))) = some [(0, some 1), (1, some 1)] by kernel_rfl), by kernel_rfl⟩
theorem ty15 : TyFact Tryd.prog 15 ⟨1, 8, .pointer none, .ptr 154⟩ := ⟨by kernel_rfl, (show Tryd.prog.underlying 15 = some (.pointer 154) by kernel_rfl), by kernel_rfl⟩
theorem ty16 : TyFact Tryd.prog 16 ⟨1, 8, .pointer none, .ptr 157⟩ := ⟨by kernel_rfl, (show Tryd.prog.underlying 16 = some (.pointer 157) by kernel_rfl), by kernel_rfl⟩
theorem ty17 : TyFact Tryd.prog 17 ⟨1, 8, .pointer none, .ptr 165⟩ := ⟨by kernel_rfl, (show Tryd.prog.underlying 17 = some (.pointer 165) by kernel_rfl), by kernel_rfl⟩
theorem ty18 : TyFact Tryd.prog 18 ⟨1, 8, .agg #[.pointer none], .struct [(0, 1)]⟩ := ⟨by kernel_rfl, (show ((Tryd.prog.underlying 18).bind structOf).map (fun l => l.map fun x => (x.1, (Tryd.prog.info? x.2).map (·.size))) = some [(0, some 1)] by kernel_rfl), by kernel_rfl⟩
theorem ty21 : TyFact Tryd.prog 21 ⟨1, 4, .int .i32 0, .int .i32⟩ := ⟨by kernel_rfl, (show Tryd.prog.underlying 21 = some (.int .i32) by kernel_rfl), by kernel_rfl⟩
theorem ty22 : TyFact Tryd.prog 22 ⟨1, 24, .slice none 0 0, .slice 55⟩ := ⟨by kernel_rfl, (show Tryd.prog.underlying 22 = some (.slice 55) by kernel_rfl), by kernel_rfl⟩
theorem ty28 : TyFact Tryd.prog 28 ⟨6, 64, .agg #[.int .i64 0, .string (⟨#[]⟩ : ByteArray), .int .i64 0, .string (⟨#[]⟩ : ByteArray), .int .i64 0, .int .i64 0], .struct [(0, 1), (1, 1), (2, 1), (3, 1), (4, 1), (5, 1)]⟩ := ⟨by kernel_rfl, (show ((Tryd.prog.underlying 28).bind structOf).map (fun l => l.map fun x => (x.1, (Tryd.prog.info? x.2).map (·.size))) = some [(0, some 1), (1, some 1), (2, some 1), (3, some 1), (4, some 1), (5, some 1)] by kernel_rfl), by kernel_rfl⟩
theorem ty29 : TyFact Tryd.prog 29 ⟨6, 64, .agg #[.int .i64 0, .string (⟨#[]⟩ : ByteArray), .int .i64 0, .string (⟨#[]⟩ : ByteArray), .int .i64 0, .int .i64 0], .struct [(0, 1), (1, 1), (2, 1), (3, 1), (4, 1), (5, 1)]⟩ := ⟨by kernel_rfl, (show ((Tryd.prog.underlying 29).bind structOf).map (fun l => l.map fun x => (x.1, (Tryd.prog.info? x.2).map (·.size))) = some [(0, some 1), (1, some 1), (2, some 1), (3, some 1), (4, some 1), (5, some 1)] by kernel_rfl), by kernel_rfl⟩
theorem ty30 : TyFact Tryd.prog 30 ⟨4, 40, .agg #[.int .i64 0, .int .i64 0, .int .i64 0, .string (⟨#[]⟩ : ByteArray)], .struct [(0, 1), (1, 1), (2, 1), (3, 1)]⟩ := ⟨by kernel_rfl, (show ((Tryd.prog.underlying 30).bind structOf).map (fun l => l.map fun x => (x.1, (Tryd.prog.info? x.2).map (·.size))) = some [(0, some 1), (1, some 1), (2, some 1), (3, some 1)] by kernel_rfl), by kernel_rfl⟩
theorem ty31 : TyFact Tryd.prog 31 ⟨4, 40, .agg #[.int .i64 0, .int .i64 0, .int .i64 0, .string (⟨#[]⟩ : ByteArray)], .struct [(0, 1), (1, 1), (2, 1), (3, 1)]⟩ := ⟨by kernel_rfl, (show ((Tryd.prog.underlying 31).bind structOf).map (fun l => l.map fun x => (x.1, (Tryd.prog.info? x.2).map (·.size))) = some [(0, some 1), (1, some 1), (2, some 1), (3, some 1)] by kernel_rfl), by kernel_rfl⟩
theorem ty34 : TyFact Tryd.prog 34 ⟨6, 64, .agg #[.int .i64 0, .string (⟨#[]⟩ : ByteArray), .int .i64 0, .string (⟨#[]⟩ : ByteArray), .int .i64 0, .int .i64 0], .struct [(0, 1), (1, 1), (2, 1), (3, 1), (4, 1), (5, 1)]⟩ := ⟨by kernel_rfl, (show ((Tryd.prog.underlying 34).bind structOf).map (fun l => l.map fun x => (x.1, (Tryd.prog.info? x.2).map (·.size))) = some [(0, some 1), (1, some 1), (2, some 1), (3, some 1), (4, some 1), (5, some 1)] by kernel_rfl), by kernel_rfl⟩
theorem ty38 : TyFact Tryd.prog 38 ⟨4, 40, .agg #[.int .i64 0, .int .i64 0, .int .i64 0, .string (⟨#[]⟩ : ByteArray)], .struct [(0, 1), (1, 1), (2, 1), (3, 1)]⟩ := ⟨by kernel_rfl, (show ((Tryd.prog.underlying 38).bind structOf).map (fun l => l.map fun x => (x.1, (Tryd.prog.info? x.2).map (·.size))) = some [(0, some 1), (1, some 1), (2, some 1), (3, some 1)] by kernel_rfl), by kernel_rfl⟩
theorem ty42 : TyFact Tryd.prog 42 ⟨1, 24, .slice none 0 0, .slice 5⟩ := ⟨by kernel_rfl, (show Tryd.prog.underlying 42 = some (.slice 5) by kernel_rfl), by kernel_rfl⟩
theorem ty54 : TyFact Tryd.prog 54 ⟨5, 48, .agg #[.string (⟨#[]⟩ : ByteArray), .int .i64 0, .int .i64 0, .int .i64 0, .int .i64 0], .struct [(0, 1), (1, 1), (2, 1), (3, 1), (4, 1)]⟩ := ⟨by kernel_rfl, (show ((Tryd.prog.underlying 54).bind structOf).map (fun l => l.map fun x => (x.1, (Tryd.prog.info? x.2).map (·.size))) = some [(0, some 1), (1, some 1), (2, some 1), (3, some 1), (4, some 1)] by kernel_rfl), by kernel_rfl⟩
theorem ty55 : TyFact Tryd.prog 55 ⟨5, 48, .agg #[.string (⟨#[]⟩ : ByteArray), .int .i64 0, .int .i64 0, .int .i64 0, .int .i64 0], .struct [(0, 1), (1, 1), (2, 1), (3, 1), (4, 1)]⟩ := ⟨by kernel_rfl, (show ((Tryd.prog.underlying 55).bind structOf).map (fun l => l.map fun x => (x.1, (Tryd.prog.info? x.2).map (·.size))) = some [(0, some 1), (1, some 1), (2, some 1), (3, some 1), (4, some 1)] by kernel_rfl), by kernel_rfl⟩
theorem ty63 : TyFact Tryd.prog 63 ⟨1, 24, .slice none 0 0, .slice 38⟩ := ⟨by kernel_rfl, (show Tryd.prog.underlying 63 = some (.slice 38) by kernel_rfl), by kernel_rfl⟩
theorem ty69 : TyFact Tryd.prog 69 ⟨1, 24, .slice none 0 0, .slice 9⟩ := ⟨by kernel_rfl, (show Tryd.prog.underlying 69 = some (.slice 9) by kernel_rfl), by kernel_rfl⟩
theorem ty71 : TyFact Tryd.prog 71 ⟨1, 24, .slice none 0 0, .slice 3⟩ := ⟨by kernel_rfl, (show Tryd.prog.underlying 71 = some (.slice 3) by kernel_rfl), by kernel_rfl⟩
theorem ty77 : TyFact Tryd.prog 77 ⟨4, 32, .agg #[.int .i64 0, .int .i64 0, .int .i64 0, .int .i64 0], .array 4 3⟩ := ⟨by kernel_rfl, (show Tryd.prog.underlying 77 = some (.array 4 3) by kernel_rfl), by kernel_rfl⟩
theorem ty85 : TyFact Tryd.prog 85 ⟨1, 8, .pointer none, .ptr 105⟩ := ⟨by kernel_rfl, (show Tryd.prog.underlying 85 = some (.pointer 105) by kernel_rfl), by kernel_rfl⟩
theorem ty103 : TyFact Tryd.prog 103 ⟨1, 8, .int .u64 0, .int .u64⟩ := ⟨by kernel_rfl, (show Tryd.prog.underlying 103 = some (.int .u64) by kernel_rfl), by kernel_rfl⟩
theorem ty104 : TyFact Tryd.prog 104 ⟨3, 40, .agg #[.slice none 0 0, .int .i64 0, .int .i64 0], .struct [(0, 1), (1, 1), (2, 1)]⟩ := ⟨by kernel_rfl, (show ((Tryd.prog.underlying 104).bind structOf).map (fun l => l.map fun x => (x.1, (Tryd.prog.info? x.2).map (·.size))) = some [(0, some 1), (1, some 1), (2, some 1)] by kernel_rfl), by kernel_rfl⟩
theorem ty105 : TyFact Tryd.prog 105 ⟨3, 40, .agg #[.slice none 0 0, .int .i64 0, .int .i64 0], .struct [(0, 1), (1, 1), (2, 1)]⟩ := ⟨by kernel_rfl, (show ((Tryd.prog.underlying 105).bind structOf).map (fun l => l.map fun x => (x.1, (Tryd.prog.info? x.2).map (·.size))) = some [(0, some 1), (1, some 1), (2, some 1)] by kernel_rfl), by kernel_rfl⟩
theorem ty109 : TyFact Tryd.prog 109 ⟨1, 8, .pointer none, .ptr 111⟩ := ⟨by kernel_rfl, (show Tryd.prog.underlying 109 = some (.pointer 111) by kernel_rfl), by kernel_rfl⟩
theorem ty110 : TyFact Tryd.prog 110 ⟨2, 32, .agg #[.pointer none, .slice none 0 0], .struct [(0, 1), (1, 1)]⟩ := ⟨by kernel_rfl, (show ((Tryd.prog.underlying 110).bind structOf).map (fun l => l.map fun x => (x.1, (Tryd.prog.info? x.2).map (·.size))) = some [(0, some 1), (1, some 1)] by kernel_rfl), by kernel_rfl⟩
theorem ty123 : TyFact Tryd.prog 123 ⟨1, 8, .pointer none, .ptr 5⟩ := ⟨by kernel_rfl, (show Tryd.prog.underlying 123 = some (.pointer 5) by kernel_rfl), by kernel_rfl⟩
theorem ty133 : TyFact Tryd.prog 133 ⟨1, 4, .int .u32 0, .int .u32⟩ := ⟨by kernel_rfl, (show Tryd.prog.underlying 133 = some (.int .u32) by kernel_rfl), by kernel_rfl⟩
theorem ty137 : TyFact Tryd.prog 137 ⟨1, 8, .int .u64 0, .int .u64⟩ := ⟨by kernel_rfl, (show Tryd.prog.underlying 137 = some (.int .u64) by kernel_rfl), by kernel_rfl⟩
theorem ty143 : TyFact Tryd.prog 143 ⟨2, 2, .agg #[.int .u8 0, .int .u8 0], .struct [(0, 1), (1, 1)]⟩ := ⟨by kernel_rfl, (show ((Tryd.prog.underlying 143).bind structOf).map (fun l => l.map fun x => (x.1, (Tryd.prog.info? x.2).map (·.size))) = some [(0, some 1), (1, some 1)] by kernel_rfl), by kernel_rfl⟩
theorem ty153 : TyFact Tryd.prog 153 ⟨4, 40, .agg #[.pointer none, .pointer none, .pointer none, .string (⟨#[]⟩ : ByteArray)], .struct [(0, 1), (1, 1), (2, 1), (3, 1)]⟩ := ⟨by kernel_rfl, (show ((Tryd.prog.underlying 153).bind structOf).map (fun l => l.map fun x => (x.1, (Tryd.prog.info? x.2).map (·.size))) = some [(0, some 1), (1, some 1), (2, some 1), (3, some 1)] by kernel_rfl), by kernel_rfl⟩
def tys : List (Nat × TI) := [(2, ⟨1, 8, .int .i64 0, .int .i64⟩), (3, ⟨1, 8, .int .i64 0, .int .i64⟩), (4, ⟨1, 1, .bool false, .bool⟩), (5, ⟨1, 1, .int .u8 0, .int .u8⟩), (7, ⟨4, 24, .agg #[.int .i64 0, .int .i64 0, .bool false, .int .u8 0], .struct [(0, 1), (1, 1), (2, 1), (3, 1)]⟩), (9, ⟨1, 16, .string (⟨#[]⟩ : ByteArray), .str⟩), (12, ⟨1, 8, .int .u64 0, .int .u64⟩), (13, ⟨2, 24, .agg #[.string (⟨#[]⟩ : ByteArray), .int .u64 0], .struct [(0, 1), (1, 1)]⟩), (15, ⟨1, 8, .pointer none, .ptr 154⟩), (16, ⟨1, 8, .pointer none, .ptr 157⟩), (17, ⟨1, 8, .pointer none, .ptr 165⟩), (18, ⟨1, 8, .agg #[.pointer none], .struct [(0, 1)]⟩), (21, ⟨1, 4, .int .i32 0, .int .i32⟩), (22, ⟨1, 24, .slice none 0 0, .slice 55⟩), (28, ⟨6, 64, .agg #[.int .i64 0, .string (⟨#[]⟩ : ByteArray), .int .i64 0, .string (⟨#[]⟩ : ByteArray), .int .i64 0, .int .i64 0], .struct [(0, 1), (1, 1), (2, 1), (3, 1), (4, 1), (5, 1)]⟩), (29, ⟨6, 64, .agg #[.int .i64 0, .string (⟨#[]⟩ : ByteArray), .int .i64 0, .string (⟨#[]⟩ : ByteArray), .int .i64 0, .int .i64 0], .struct [(0, 1), (1, 1), (2, 1), (3, 1), (4, 1), (5, 1)]⟩), (30, ⟨4, 40, .agg #[.int .i64 0, .int .i64 0, .int .i64 0, .string (⟨#[]⟩ : ByteArray)], .struct [(0, 1), (1, 1), (2, 1), (3, 1)]⟩), (31, ⟨4, 40, .agg #[.int .i64 0, .int .i64 0, .int .i64 0, .string (⟨#[]⟩ : ByteArray)], .struct [(0, 1), (1, 1), (2, 1), (3, 1)]⟩), (34, ⟨6, 64, .agg #[.int .i64 0, .string (⟨#[]⟩ : ByteArray), .int .i64 0, .string (⟨#[]⟩ : ByteArray), .int .i64 0, .int .i64 0], .struct [(0, 1), (1, 1), (2, 1), (3, 1), (4, 1), (5, 1)]⟩), (38, ⟨4, 40, .agg #[.int .i64 0, .int .i64 0, .int .i64 0, .string (⟨#[]⟩ : ByteArray)], .struct [(0, 1), (1, 1), (2, 1), (3, 1)]⟩), (42, ⟨1, 24, .slice none 0 0, .slice 5⟩), (54, ⟨5, 48, .agg #[.string (⟨#[]⟩ : ByteArray), .int .i64 0, .int .i64 0, .int .i64 0, .int .i64 0], .struct [(0, 1), (1, 1), (2, 1), (3, 1), (4, 1)]⟩), (55, ⟨5, 48, .agg #[.string (⟨#[]⟩ : ByteArray), .int .i64 0, .int .i64 0, .int .i64 0, .int .i64 0], .struct [(0, 1), (1, 1), (2, 1), (3, 1), (4, 1)]⟩), (63, ⟨1, 24, .slice none 0 0, .slice 38⟩), (69, ⟨1, 24, .slice none 0 0, .slice 9⟩), (71, ⟨1, 24, .slice none 0 0, .slice 3⟩), (77, ⟨4, 32, .agg #[.int .i64 0, .int .i64 0, .int .i64 0, .int .i64 0], .array 4 3⟩), (85, ⟨1, 8, .pointer none, .ptr 105⟩), (103, ⟨1, 8, .int .u64 0, .int .u64⟩), (104, ⟨3, 40, .agg #[.slice none 0 0, .int .i64 0, .int .i64 0], .struct [(0, 1), (1, 1), (2, 1)]⟩), (105, ⟨3, 40, .agg #[.slice none 0 0, .int .i64 0, .int .i64 0], .struct [(0, 1), (1, 1), (2, 1)]⟩), (109, ⟨1, 8, .pointer none, .ptr 111⟩), (110, ⟨2, 32, .agg #[.pointer none, .slice none 0 0], .struct [(0, 1), (1, 1)]⟩), (123, ⟨1, 8, .pointer none, .ptr 5⟩), (133, ⟨1, 4, .int .u32 0, .int .u32⟩), (137, ⟨1, 8, .int .u64 0, .int .u64⟩), (143, ⟨2, 2, .agg #[.int .u8 0, .int .u8 0], .struct [(0, 1), (1, 1)]⟩), (153, ⟨4, 40, .agg #[.pointer none, .pointer none, .pointer none, .string (⟨#[]⟩ : ByteArray)], .struct [(0, 1), (1, 1), (2, 1), (3, 1)]⟩)]
theorem tys_ok : ∀ x ∈ tys, TyFact Tryd.prog x.1 x.2 := by
  intro x hx
  simp only [tys, List.mem_cons, List.not_mem_nil, or_false] at hx
  rcases hx with rfl | rfl | rfl | rfl | rfl | rfl | rfl | rfl | rfl | rfl | rfl | rfl | rfl | rfl | rfl | rfl | rfl | rfl | rfl | rfl | rfl | rfl | rfl | rfl | rfl | rfl | rfl | rfl | rfl | rfl | rfl | rfl | rfl | rfl | rfl | rfl | rfl | rfl
  · exact ty2
  · exact ty3
  · exact ty4
  · exact ty5
  · exact ty7
  · exact ty9
  · exact ty12
  · exact ty13
  · exact ty15
  · exact ty16
  · exact ty17
  · exact ty18
  · exact ty21
  · exact ty22
  · exact ty28
  · exact ty29
  · exact ty30
  · exact ty31
  · exact ty34
  · exact ty38
  · exact ty42
  · exact ty54
  · exact ty55
  · exact ty63
  · exact ty69
  · exact ty71
  · exact ty77
  · exact ty85
  · exact ty103
  · exact ty104
  · exact ty105
  · exact ty109
  · exact ty110
  · exact ty123
  · exact ty133
  · exact ty137
  · exact ty143
  · exact ty153
theorem mixed : Tryd.prog.follows .mixedOrders = true := Tryd.checked.mixed
open Go.Proofs.YthkepmicdpgbbaaDoorW.PrintWords
set_option maxRecDepth 100000
theorem eqA34 (d : Nat) (w : World) (x0 y0 : Int) (x1 y1 : ByteArray) (x2 y2 : Int) (x3 y3 : ByteArray) (x4 y4 : Int) (x5 y5 : Int) : (Op.equalIn (d + 2) 34 (.agg #[.int .i64 x0, .string x1, .int .i64 x2, .string x3, .int .i64 x4, .int .i64 x5]) (.agg #[.int .i64 y0, .string y1, .int .i64 y2, .string y3, .int .i64 y4, .int .i64 y5])).run Tryd.prog w = .ok ((x0 == y0) && ((x1.toList == y1.toList) && ((x2 == y2) && ((x3.toList == y3.toList) && ((x4 == y4) && (x5 == y5)))))) w := by
  refine eqA_of Tryd.underlying34 (by kernel_rfl) ?_
  refine eqf_cons (by rfl) (by go_simp <;> rfl) (by go_simp <;> rfl) (by go_simp) ?_
  refine eqf_cons (by rfl) (by go_simp <;> rfl) (by go_simp <;> rfl) (by go_simp) ?_
  refine eqf_cons (by rfl) (by go_simp <;> rfl) (by go_simp <;> rfl) (by go_simp) ?_
  refine eqf_cons (by rfl) (by go_simp <;> rfl) (by go_simp <;> rfl) (by go_simp) ?_
  refine eqf_cons (by rfl) (by go_simp <;> rfl) (by go_simp <;> rfl) (by go_simp) ?_
  exact eqf_last (by rfl) (by go_simp <;> rfl) (by go_simp <;> rfl) (by go_simp)
theorem eqA55 (d : Nat) (w : World) (x0 y0 : ByteArray) (x1 y1 : Int) (x2 y2 : Int) (x3 y3 : Int) (x4 y4 : Int) : (Op.equalIn (d + 2) 55 (.agg #[.string x0, .int .i64 x1, .int .i64 x2, .int .i64 x3, .int .i64 x4]) (.agg #[.string y0, .int .i64 y1, .int .i64 y2, .int .i64 y3, .int .i64 y4])).run Tryd.prog w = .ok ((x0.toList == y0.toList) && ((x1 == y1) && ((x2 == y2) && ((x3 == y3) && (x4 == y4))))) w := by
  refine eqA_of Tryd.underlying55 (by kernel_rfl) ?_
  refine eqf_cons (by rfl) (by go_simp <;> rfl) (by go_simp <;> rfl) (by go_simp) ?_
  refine eqf_cons (by rfl) (by go_simp <;> rfl) (by go_simp <;> rfl) (by go_simp) ?_
  refine eqf_cons (by rfl) (by go_simp <;> rfl) (by go_simp <;> rfl) (by go_simp) ?_
  refine eqf_cons (by rfl) (by go_simp <;> rfl) (by go_simp <;> rfl) (by go_simp) ?_
  exact eqf_last (by rfl) (by go_simp <;> rfl) (by go_simp <;> rfl) (by go_simp)
def eqF34 : EqF := fun cs ds => match cs, ds with
  | [.v (.i .i64 x0), .v (.s x1), .v (.i .i64 x2), .v (.s x3), .v (.i .i64 x4), .v (.i .i64 x5)], [.v (.i .i64 y0), .v (.s y1), .v (.i .i64 y2), .v (.s y3), .v (.i .i64 y4), .v (.i .i64 y5)] => some (((x0 == y0) && ((x1.toList == y1.toList) && ((x2 == y2) && ((x3.toList == y3.toList) && ((x4 == y4) && (x5 == y5)))))), (!(x0 == y0) || (!(x1.toList == y1.toList) || (!(x2 == y2) || (!(x3.toList == y3.toList) || (!(x4 == y4) || (!(x5 == y5))))))))
  | _, _ => none
theorem eqOk34 : EqFact Tryd.prog 34 eqF34 := by
  refine ⟨by kernel_rfl, fun cs ds b c hb => ?_⟩
  unfold eqF34 at hb
  split at hb
  · injection hb with hb
    injection hb with hb1 hb2
    subst hb1 hb2
    refine ⟨by simp only [Bool.not_and], fun G w xs ys hx hy => ?_⟩
    simp only [RepsL, Reps, RepC] at hx hy
    obtain ⟨_, _, hx1, rfl, _, _, rfl, rfl, _, _, rfl, rfl, _, _, rfl, rfl, _, _, rfl, rfl, _, _, rfl, rfl, rfl⟩ := hx
    obtain ⟨_, _, hy1, rfl, _, _, rfl, rfl, _, _, rfl, rfl, _, _, rfl, rfl, _, _, rfl, rfl, _, _, rfl, rfl, rfl⟩ := hy
    obtain rfl := show xs = #[.int .i64 _, .string _, .int .i64 _, .string _, .int .i64 _, .int .i64 _] by rw [← Array.toList_inj, hx1]
    obtain rfl := show ys = #[.int .i64 _, .string _, .int .i64 _, .string _, .int .i64 _, .int .i64 _] by rw [← Array.toList_inj, hy1]
    exact eqA34 9998 w _ _ _ _ _ _ _ _ _ _ _ _
  · cases hb
def eqF55 : EqF := fun cs ds => match cs, ds with
  | [.v (.s x0), .v (.i .i64 x1), .v (.i .i64 x2), .v (.i .i64 x3), .v (.i .i64 x4)], [.v (.s y0), .v (.i .i64 y1), .v (.i .i64 y2), .v (.i .i64 y3), .v (.i .i64 y4)] => some (((x0.toList == y0.toList) && ((x1 == y1) && ((x2 == y2) && ((x3 == y3) && (x4 == y4))))), (!(x0.toList == y0.toList) || (!(x1 == y1) || (!(x2 == y2) || (!(x3 == y3) || (!(x4 == y4)))))))
  | _, _ => none
theorem eqOk55 : EqFact Tryd.prog 55 eqF55 := by
  refine ⟨by kernel_rfl, fun cs ds b c hb => ?_⟩
  unfold eqF55 at hb
  split at hb
  · injection hb with hb
    injection hb with hb1 hb2
    subst hb1 hb2
    refine ⟨by simp only [Bool.not_and], fun G w xs ys hx hy => ?_⟩
    simp only [RepsL, Reps, RepC] at hx hy
    obtain ⟨_, _, hx1, rfl, _, _, rfl, rfl, _, _, rfl, rfl, _, _, rfl, rfl, _, _, rfl, rfl, rfl⟩ := hx
    obtain ⟨_, _, hy1, rfl, _, _, rfl, rfl, _, _, rfl, rfl, _, _, rfl, rfl, _, _, rfl, rfl, rfl⟩ := hy
    obtain rfl := show xs = #[.string _, .int .i64 _, .int .i64 _, .int .i64 _, .int .i64 _] by rw [← Array.toList_inj, hx1]
    obtain rfl := show ys = #[.string _, .int .i64 _, .int .i64 _, .int .i64 _, .int .i64 _] by rw [← Array.toList_inj, hy1]
    exact eqA55 9998 w _ _ _ _ _ _ _ _ _ _
  · cases hb
def eqs : List (Nat × EqF) := [(34, eqF34), (55, eqF55)]
theorem eqs_ok : ∀ x ∈ eqs, EqFact Tryd.prog x.1 x.2 := by
  intro x hx
  simp only [eqs, List.mem_cons, List.not_mem_nil, or_false] at hx
  rcases hx with rfl | rfl
  · exact eqOk34
  · exact eqOk55
noncomputable def env : Env := ⟨Tryd.prog, mixed, tys, tys_ok, eqs, eqs_ok⟩
end Go.Proofs.YthkepmicdpgbbaaDoor.E

-- PRINTED BY print.sh 35421559b90ae4d0a3588c463048766b98c2df88dd9212a6774a882060cdf62d: not written by this session
/-
  PRINTED WORDS, second file: A REGION THAT DRAWS ITS ORDER, WALKED BY HAND, where its last store writes what its own loads read ('x.f = append(x.f, f(i))'). Plain theorems; no macro, no elab. A claim may hold it (turn the namespace's name).
  A load may be taken first in every world that meets S; behind the operations of ds nothing is shown; sound because each of ds waits for what is taken (Region.lastB). The kernel checks it.
  By an AI agent of Go's test side, Mon Nov 16 2026. No person has read it.
-/
namespace Go.Proofs.YthkepmicdpgbbaaDoorW.PrintLast

section
variable {P : Program} {ops : Array Oper} {Q : Exit → Act → World → Prop} {md : Region.Mode} {S : World → Prop} {ds : List Nat}

/-- Operation d waits for operation i, by a chain of at most 'fuel' edges. -/
def Region.reachB (md : Region.Mode) (ops : Array Oper) (i : Nat) : Nat → Nat → Bool
  | 0, _ => false
  | fuel + 1, d => match ops[d]? with
    | some o => o.after.any fun e => Region.binds md e && (e.on == i || Region.reachB md ops i fuel e.on)
    | none => false

/-- Each of ds that has not come up yet waits for number i. -/
def Region.lastB (md : Region.Mode) (ops : Array Oper) (listed : Array Bool) (ds : List Nat) (i : Nat) : Bool :=
  ds.all fun d => listed.getD d true || Region.reachB md ops i ops.size d

def ListedClosed (md : Region.Mode) (ops : Array Oper) (listed : Array Bool) : Prop :=
  ∀ j oj, ops[j]? = some oj → listed.getD j false = true → ∀ e ∈ oj.after, Region.binds md e = true → listed.getD e.on false = true

theorem ListedClosed.set {listed : Array Bool} {i : Nat} (h : ListedClosed md ops listed) (hi : i ∈ Region.ready md ops listed) : ListedClosed md ops (listed.setIfInBounds i true) := by
  obtain ⟨_, oi, hoi, hall⟩ := mem_ready.1 hi
  intro j oj hj hl e he hb
  by_cases hij : i = j
  · subst hij
    have : oj = oi := Option.some.inj (hj.symm.trans hoi)
    subst this
    exact getD_set_true (hall e he hb)
  · rw [getD_set_ne false hij] at hl
    exact getD_set_true (h j oj hj hl e he hb)

/-- Whatever order is picked from here on, AND 'S' HOLDS BEHIND EVERY OPERATION THAT IS CARRIED OUT, those of ds apart. -/
def wpAnyLast (P : Program) (md : Region.Mode) (ops : Array Oper) (Q : Exit → Act → World → Prop) (S : World → Prop) (ds : List Nat) : Nat → Array Bool → Act → World → Prop
  | 0, listed, a, w => Region.ready md ops listed = [] ∧ Q .normal a w
  | fuel + 1, listed, a, w =>
    (Region.ready md ops listed = [] → Q .normal a w) ∧
    ∀ i ∈ Region.ready md ops listed, wpOp P ops Q i (fun a' w' => (i ∉ ds → S w → S w') ∧ wpAnyLast P md ops Q S ds fuel (listed.setIfInBounds i true) a' w') a w

end

section
variable {P : Program} {ops : Array Oper} {Q : Exit → Act → World → Prop} {md : Region.Mode} {S : World → Prop} {ds : List Nat}

def AllReadyL (P : Program) (md : Region.Mode) (ops : Array Oper) (Q : Exit → Act → World → Prop) (S : World → Prop) (ds : List Nat) (fuel : Nat) (listed : Array Bool) (a : Act) (w : World) (rs : List Nat) : Prop :=
  ∀ i ∈ rs, wpOp P ops Q i (fun a' w' => (i ∉ ds → S w → S w') ∧ wpAnyLast P md ops Q S ds fuel (listed.setIfInBounds i true) a' w') a w
theorem AllReadyL.nil {fuel : Nat} {listed : Array Bool} {a : Act} {w : World} : AllReadyL P md ops Q S ds fuel listed a w [] := fun _ h => by cases h
theorem AllReadyL.cons {fuel : Nat} {listed : Array Bool} {a : Act} {w : World} {i : Nat} {o : Oper} {rs : List Nat} (ho : ops[i]? = some o) (hd : i ∉ ds)
    (h : ∀ K' : Act → World → Prop, Shut (∀ a w, S w → (S w → wpAnyLast P md ops Q S ds fuel (listed.setIfInBounds i true) a w) → K' a w) → if Region.wanted o (yielded ops a.tmps) = true then Oper.wp P o a w K' Q else K' (a.put o.dst undef) w)
    (hs : AllReadyL P md ops Q S ds fuel listed a w rs) : AllReadyL P md ops Q S ds fuel listed a w (i :: rs) := fun j hj => by
  rcases List.mem_cons.1 hj with rfl | hj
  · exact wpOp_step ho (fun K' hK => h K' (fun a w hS hW => hK a w ⟨fun _ _ => hS, hW hS⟩))
  · exact hs j hj
/-! ### Several operations that write or call may come up: each order is walked, what follows is shown once (join_) -/
/-- A call of a Go function, by its contract. -/
theorem call_ {oi : Oper} {N : Option Tmp} {a : Act} {w : World} {K : Act → World → Prop} (f : FuncId) (args : Array Value) (hw : Region.wanted oi (yielded ops a.tmps) = true) (hN : oi.dst = N) (hrun : (execOp a.eval oi).run P w = .ok (.enter f args) w)
    (h : Calls P f args w fun e w' => ∃ v, e = .returned v ∧ K (a.put N v) w') : if Region.wanted oi (yielded ops a.tmps) = true then Oper.wp P oi a w K Q else K (a.put N undef) w := by
  rw [if_pos hw]
  subst hN
  unfold Oper.wp
  rw [hrun, Oper.upon_enter]
  refine h.mono fun e w'' hh => ?_
  obtain ⟨v, rfl, hk⟩ := hh
  exact hk
end
end Go.Proofs.YthkepmicdpgbbaaDoorW.PrintLast

-- PRINTED BY print.sh 35421559b90ae4d0a3588c463048766b98c2df88dd9212a6774a882060cdf62d: not written by this session
/-! ### 40. Elements whose inner rows lie apart: what is stored into one says nothing of the others.
   S: as R, with an owner function f (block to element's index). H: as S with a hole: of element i its cells alone are told, its blocks are oki. -/
namespace Go.Proofs.YthkepmicdpgbbaaDoorW.PrintWords
open Go.RowKit
namespace Kd
/-- An element with its index: its blocks are those that f gives to it. -/
def tag {α : Type} (f : Nat → Nat) (d : Kd α) : Kd (α × Nat) where
  sz := d.sz
  E := d.E
  K := fun w x cs => d.K w x.1 cs
  M := fun w base ok x cs => d.M w base (fun k => ok k ∧ f k = x.2) x.1 cs
  K_len := fun h => d.K_len h
  K_one := fun h => d.K_one h
  K_below := fun hb h => d.K_below hb h
  K_of_M := fun h => d.K_of_M h
  M_mono := fun hok h => d.M_mono (fun k hk => ⟨hok k hk.1, hk.2⟩) h
  M_bound := fun h => d.M_mono (fun _ hk => ⟨⟨hk.1.1, hk.2⟩, hk.1.2⟩) (d.M_bound h)
  M_move := fun hm h => d.M_move (fun k hk => hm k hk.1) h
  M_lower := fun hb h => d.M_lower hb h
/-- The cells themselves. -/
def raw (sz : Nat) : Kd (List Value) where
  sz := sz
  E := []
  K := fun _ x cs => cs = x ∧ cs.length = sz ∧ ∀ u ∈ cs, u.oneCell' = true
  M := fun _ _ _ x cs => cs = x ∧ cs.length = sz ∧ ∀ u ∈ cs, u.oneCell' = true
  K_len := fun h => h.2.1
  K_one := fun h => h.2.2
  K_below := fun _ h => h
  K_of_M := fun h => h
  M_mono := fun _ h => h
  M_bound := fun h => h
  M_move := fun _ h => h
  M_lower := fun _ h => h
/-- A row of elements (type e) of the call's own, no two of which lead to one block. -/
def S {α : Type} (d : Kd α) (e : Nat) (w : World) (base : Nat) (ok : Nat → Prop) (v : Value) (xs : List α) : Prop := ∃ f, (tag f d).R e w base ok v xs.zipIdx
section
variable {α β : Type} {d : Kd α} {d' : Kd β} {e e' : Nat} {w w1 W : World} {base b : Nat} {ok ok' okv oku : Nat → Prop} {u v : Value} {xs : List α} {ys : List β}
end
section
variable {α β : Type} {d : Kd α} {d' : Kd β} {e e' g : Nat} {w w1 W : World} {base b : Nat} {ok ok' okv oku : Nat → Prop} {u v : Value} {xs : List α} {ys : List β}
end
/-! #### append, make, literals: the new element's blocks are none of the elder ones' -/
section
variable {P : Program} {ops : Array Oper} {rest : List Oper} {o : Oper} {a : Act} {Q : Exit → Act → World → Prop} {Kc : Act → World → Prop} {α : Type}
end
/-! #### a row with a hole: element i is lent, its blocks are oki; of it the row says its cells alone -/
/-- Element i is these cells; the others are d's. -/
def gap {α : Type} (f : Nat → Nat) (d : Kd α) (i : Nat) (c : List Value) : Kd (α × Nat) where
  sz := d.sz
  E := d.E
  K := fun w x cs => (x.2 = i → cs = c ∧ cs.length = d.sz ∧ ∀ u ∈ cs, u.oneCell' = true) ∧ (x.2 ≠ i → d.K w x.1 cs)
  M := fun w base ok x cs => (x.2 = i → cs = c ∧ cs.length = d.sz ∧ ∀ u ∈ cs, u.oneCell' = true) ∧ (x.2 ≠ i → d.M w base (fun k => ok k ∧ f k = x.2) x.1 cs)
  K_len := fun {w x cs} h => by
    by_cases hx : x.2 = i
    · exact (h.1 hx).2.1
    · exact d.K_len (h.2 hx)
  K_one := fun {w x cs} h => by
    by_cases hx : x.2 = i
    · exact (h.1 hx).2.2
    · exact d.K_one (h.2 hx)
  K_below := fun hb h => ⟨h.1, fun hx => d.K_below hb (h.2 hx)⟩
  K_of_M := fun h => ⟨h.1, fun hx => d.K_of_M (h.2 hx)⟩
  M_mono := fun hok h => ⟨h.1, fun hx => d.M_mono (fun k hk => ⟨hok k hk.1, hk.2⟩) (h.2 hx)⟩
  M_bound := fun h => ⟨h.1, fun hx => d.M_mono (fun _ hk => ⟨⟨hk.1.1, hk.2⟩, hk.1.2⟩) (d.M_bound (h.2 hx))⟩
  M_move := fun hm h => ⟨h.1, fun hx => d.M_move (fun k hk => hm k hk.1) (h.2 hx)⟩
  M_lower := fun hb h => ⟨h.1, fun hx => d.M_lower hb (h.2 hx)⟩
def H {α : Type} (d : Kd α) (e : Nat) (w : World) (base : Nat) (ok : Nat → Prop) (v : Value) (xs : List α) (i : Int) (oki : Nat → Prop) (c : List Value) : Prop :=
  (∀ k, oki k → ok k) ∧ ∃ f, (gap f d i.toNat c).R e w base (fun k => ok k ∧ ¬ oki k) v xs.zipIdx
section
variable {α β : Type} {d : Kd α} {e e' g n cap : Nat} {w w1 W : World} {base : Nat} {ok ok' oki okp : Nat → Prop} {u v : Value} {xs : List α} {i : Int} {c : List Value}
end
section
variable {P : Program} {ops : Array Oper} {rest : List Oper} {o : Oper} {a : Act} {Q : Exit → Act → World → Prop} {α : Type}
end
end Kd
end Go.Proofs.YthkepmicdpgbbaaDoorW.PrintWords

-- PRINTED BY print.sh 35421559b90ae4d0a3588c463048766b98c2df88dd9212a6774a882060cdf62d: not written by this session
/-! ### 41. Arrays '[n]T' as_ values: a kind (a field, an element of a row), an element read, an element set -/
namespace Go.Proofs.YthkepmicdpgbbaaDoorW.PrintWords
open Go.RowKit
namespace Kd
theorem reps_one {α : Type} {R : α → List Value → Prop} {size : Nat} {ps : List α} {cs : List Value} (h : Reps R size ps cs) (hs0 : 0 < size) (hR : ∀ p c, R p c → ∀ u ∈ c, u.oneCell' = true) : ∀ u ∈ cs, u.oneCell' = true := by
  intro u hu
  obtain ⟨q, hq, rfl⟩ := List.mem_iff_getElem.1 hu
  have hql : q / size < ps.length := by
    rw [Nat.div_lt_iff_lt_mul hs0, ← h.1]
    exact hq
  refine hR _ _ (h.2 (q / size) _ (List.getElem?_eq_getElem hql)) _ ?_
  rw [List.mem_iff_getElem?]
  refine ⟨q % size, ?_⟩
  rw [List.getElem?_take, if_pos (Nat.mod_lt _ hs0), List.getElem?_drop, Nat.mul_comm, Nat.div_add_mod, List.getElem?_eq_getElem hq]
/-- An array of n elements of kind d. -/
def arr {α : Type} (n : Nat) (d : Kd α) (hs : 0 < d.sz) : Kd (List α) where
  sz := n * d.sz
  E := d.E
  K := fun w xs cs => xs.length = n ∧ Reps (d.K w) d.sz xs cs
  M := fun w base ok xs cs => xs.length = n ∧ Reps (d.M w base ok) d.sz xs cs
  K_len := fun h => by rw [← h.1]; exact h.2.1
  K_one := fun h => reps_one h.2 hs (fun _ _ hk => d.K_one hk)
  K_below := fun hb h => ⟨h.1, h.2.imp_ (fun _ _ hk => d.K_below hb hk)⟩
  K_of_M := fun h => ⟨h.1, h.2.imp_ (fun _ _ hk => d.K_of_M hk)⟩
  M_mono := fun hok h => ⟨h.1, h.2.imp_ (fun _ _ hk => d.M_mono hok hk)⟩
  M_bound := fun h => ⟨h.1, h.2.imp_ (fun _ _ hk => d.M_bound hk)⟩
  M_move := fun hm h => ⟨h.1, h.2.imp_ (fun _ _ hk => d.M_move hm hk)⟩
  M_lower := fun hb h => ⟨h.1, h.2.imp_ (fun _ _ hk => d.M_lower hb hk)⟩
section
variable {α : Type} {n : Nat} {d : Kd α} {hs : 0 < d.sz} {w : World} {base : Nat} {ok : Nat → Prop} {xs : List α} {cs : List Value}
end
section
variable {α : Type} {n : Nat} {enc : α → Value} {h1 : ∀ x, (enc x).oneCell' = true} {hs : 0 < (scalar enc h1).sz} {w : World} {base : Nat} {ok : Nat → Prop} {xs : List α} {cs : List Value}
end
end Kd
end Go.Proofs.YthkepmicdpgbbaaDoorW.PrintWords

-- PRINTED BY print.sh 35421559b90ae4d0a3588c463048766b98c2df88dd9212a6774a882060cdf62d: not written by this session
/-! ### 43. What is read beside a state: it stays read whatever the state's calls turn ('∀ W', KeepBut w W' g none → d.C W' A n xs') -/
namespace Go.Proofs.YthkepmicdpgbbaaDoorW.PrintWords
open Go.RowKit
namespace Kd
/-- What a kind reads lies in the blocks: nothing else of the world is looked at. -/
structure Heap {α : Type} (d : Kd α) : Prop where
  K : ∀ {w w1 : World} {x : α} {cs : List Value}, (∀ k, k < w.heap.size → w1.heap[k]? = w.heap[k]?) → d.K w x cs → d.K w1 x cs
theorem cell_heap {w w1 : World} (hb : ∀ k, k < w.heap.size → w1.heap[k]? = w.heap[k]?) {a : Addr} {v : Value} (h : w.cell? a = some v) : w1.cell? a = some v := by
  have := hb a.block (World.block_lt_of_cell? w a h)
  simpa [World.cell?, this] using h
theorem Heap.C {α : Type} {d : Kd α} (hd : Heap d) {w w1 : World} {A : Option Addr} {n : Nat} {xs : List α} (hb : ∀ k, k < w.heap.size → w1.heap[k]? = w.heap[k]?) (h : d.C w A n xs) : d.C w1 A n xs :=
  ⟨h.1, h.2.1, fun hn => by
    obtain ⟨ad, e, hc⟩ := h.2.2 hn
    refine ⟨ad, e, fun j p hj => ?_⟩
    obtain ⟨c, hs, hr, hcell⟩ := hc j p hj
    exact ⟨c, hs, hd.K hb hr, fun i u hu => cell_heap hb (hcell i u hu)⟩⟩
section
variable {α : Type} {d : Kd α} {e base g n c : Nat} {ok : Nat → Prop} {w w0 W : World} {A : Option Addr} {xs : List α}
end
end Kd
end Go.Proofs.YthkepmicdpgbbaaDoorW.PrintWords

-- PRINTED BY print.sh 35421559b90ae4d0a3588c463048766b98c2df88dd9212a6774a882060cdf62d: not written by this session
/-! ### 45. What a call keeps: all but the blocks of S (the rows that it was given to write) and what is new since -/
namespace Go.Proofs.YthkepmicdpgbbaaDoorW.PrintWords
open Go.RowKit
def Kept (w W : World) (S : Nat → Prop) : Prop := w.heap.size ≤ W.heap.size ∧ ∀ i, i < w.heap.size → ¬ S i → W.heap[i]? = w.heap[i]?
section
variable {w W W2 : World} {S S2 S' : Nat → Prop}
theorem Kept.refl (w : World) (S : Nat → Prop) : Kept w w S := ⟨Nat.le_refl _, fun _ _ _ => rfl⟩
theorem Kept.of_below (h : Below w.heap.size w W) (S : Nat → Prop) : Kept w W S := ⟨h.size, fun i hi _ => h.block i hi⟩
theorem Kept.mono (h : Kept w W S) (hs : ∀ k, S k → S' k) : Kept w W S' := ⟨h.1, fun i hi hn => h.2 i hi (fun hk => hn (hs i hk))⟩
theorem Kept.then_ (h : Kept w W S) (k : Kept W W2 S2) (hs : ∀ k, S2 k → S k ∨ w.heap.size ≤ k) : Kept w W2 S :=
  ⟨Nat.le_trans h.1 k.1, fun i hi hn => (k.2 i (Nat.lt_of_lt_of_le hi h.1) (fun h2 => (hs i h2).elim hn (fun h3 => by omega))).trans (h.2 i hi hn)⟩
theorem Kept.below (h : Kept w W S) (hb : Below W.heap.size W W2) : Kept w W2 S := h.then_ (Kept.of_below hb (fun _ => False)) (fun _ hk => hk.elim)
theorem Kept.alloc (h : Kept w W S) (o : Obj) : Kept w (W.alloc o) S := h.below (below_alloc (Below.refl _ _) o)
theorem Kept.drew (h : Kept w W S) : Kept w W.drew S := h
theorem Kept.drewN (h : Kept w W S) (m : Nat) : Kept w (W.drewN m) S := h
/-- Beside a state: what was written is new since. -/
theorem Kept.keep {g : Nat} (h : KeepBut w W g none) (k : Kept W W2 S2) (hs : ∀ k, S2 k → w.heap.size ≤ k) : KeepBut w W2 g none :=
  ⟨Nat.le_trans h.1 k.1, fun i hi hg hr => (k.2 i (Nat.lt_of_lt_of_le hi h.1) (fun h2 => by have := hs i h2; omega)).trans (h.2 i hi hg hr)⟩
end
namespace Kd
section
variable {α : Type} {d : Kd α} {e base n c : Nat} {ok oki S S2 : Nat → Prop} {w w0 W W1 W2 : World} {v : Value} {A : Option Addr} {xs : List α} {i : Int} {cs : List Value}
end
end Kd
end Go.Proofs.YthkepmicdpgbbaaDoorW.PrintWords

-- PRINTED BY print.sh 35421559b90ae4d0a3588c463048766b98c2df88dd9212a6774a882060cdf62d: not written by this session
/-! ### 46. Values that share: what is only read, with the blocks it lies in (its footprint 'ok'): Foot, F (a row that is read), FK (an element's cells) -/
namespace Go.Proofs.YthkepmicdpgbbaaDoorW.PrintWords
open Go.RowKit
/-- P holds in W and in every world that has W's blocks of ok. -/
def Foot (P : World → Prop) (W : World) (ok : Nat → Prop) : Prop := ∀ W' : World, (∀ k, ok k → k < W.heap.size → W'.heap[k]? = W.heap[k]?) → P W'
theorem heap_lt {W W1 : World} {k : Nat} (h : W1.heap[k]? = W.heap[k]?) (hlt : k < W.heap.size) : k < W1.heap.size := by
  rw [Array.getElem?_eq_getElem hlt] at h
  exact (Array.getElem?_eq_some_iff.1 h).1
namespace Foot
variable {P Q : World → Prop} {W W1 : World} {ok ok' : Nat → Prop}
theorem mono (h : Foot P W ok) (hok : ∀ k, ok k → ok' k) : Foot P W ok' := fun W' hW => h W' (fun k hk hlt => hW k (hok k hk) hlt)
theorem bound (h : Foot P W ok) : Foot P W (fun k => ok k ∧ k < W.heap.size) := fun W' hW => h W' (fun k hk hlt => hW k ⟨hk, hlt⟩ hlt)
theorem step (h : Foot P W ok) (hm : ∀ k, ok k → k < W.heap.size → W1.heap[k]? = W.heap[k]?) : Foot P W1 ok := fun W' hW => h W' (fun k hk hlt => (hW k hk (heap_lt (hm k hk hlt) hlt)).trans (hm k hk hlt))
/-- Moved, and still elder than what is new since W. -/
theorem old (h : Foot P W ok) (hb : Below W.heap.size W W1) : Foot P W1 (fun k => ok k ∧ k < W.heap.size) := (h.bound).step (fun k _ hlt => hb.block k hlt)
end Foot
namespace Kd
/-- A row that is only read: what it leads to lies in ok. -/
def F {α : Type} (d : Kd α) (W : World) (ok : Nat → Prop) (A : Option Addr) (n : Nat) (xs : List α) : Prop := Foot (fun W => d.C W A n xs) W ok
/-- An element's cells: what they lead to lies in ok. -/
def FK {α : Type} (d : Kd α) (W : World) (ok : Nat → Prop) (x : α) (c : List Value) : Prop := Foot (fun W => d.K W x c) W ok
section
variable {α β : Type} {d : Kd α} {e base n n' cc g N : Nat} {ok ok' okp S : Nat → Prop} {w w0 w1 W W1 : World} {A A' : Option Addr} {u v v1 : Value} {xs : List α} {xs' : List β} {d' : Kd β} {x : α} {c : List Value}
end
end Kd
end Go.Proofs.YthkepmicdpgbbaaDoorW.PrintWords

-- PRINTED BY print.sh 35421559b90ae4d0a3588c463048766b98c2df88dd9212a6774a882060cdf62d: not written by this session
/-! ### 47. N: a row of the call's own whose elements share (what they lead to is only read) -/
namespace Go.Proofs.YthkepmicdpgbbaaDoorW.PrintWords
open Go.RowKit
namespace Kd
/-- The cells one behind the other, element by element. -/
def chunks (sz : Nat) (n : Nat) (inner : List Value) : List (List Value) := (List.range n).map fun j => (inner.drop (j * sz)).take sz
theorem chunks_length (sz n : Nat) (inner : List Value) : (chunks sz n inner).length = n := by simp [chunks]
section
variable {α : Type} {d : Kd α} {e base n cc g : Nat} {ok ok' okp S : Nat → Prop} {w w1 W W1 : World} {A : Option Addr} {u v v1 : Value} {xs : List α} {x : α} {c : List Value}
/-- A row of elements (type e) of the call's own; what the elements lead to is only read, and is not this row. -/
def N {α : Type} (d : Kd α) (e : Nat) (w : World) (base : Nat) (ok : Nat → Prop) (v : Value) (xs : List α) : Prop :=
  (∀ k, v.ownBlock = some k → ok k) ∧ ∃ rows : List (List Value), rows.length = xs.length ∧ (raw d.sz).R e w base (fun k => some k = v.ownBlock) v rows ∧ ∀ (j : Nat) (x : α) (c : List Value), xs[j]? = some x → rows[j]? = some c → FK d w (fun k => ok k ∧ some k ≠ v.ownBlock) x c
end
end Kd
end Go.Proofs.YthkepmicdpgbbaaDoorW.PrintWords

-- PRINTED BY print.sh 35421559b90ae4d0a3588c463048766b98c2df88dd9212a6774a882060cdf62d: not written by this session
/-! ### 55. Reps told from the front, no append: for rows of one-cell elements and of wider ones -/
namespace Go.Proofs.YthkepmicdpgbbaaDoorW.PrintWords
/-- One cell an element. -/
theorem Reps.one {α : Type} {R : α → List Value → Prop} {ps : List α} {cs : List Value} {p : α} {v : Value} (hp : R p [v]) (h : Reps R 1 ps cs) : Reps R 1 (p :: ps) (v :: cs) := by
  refine ⟨by simp [h.1], fun j q hq => ?_⟩
  cases j with
  | zero =>
    simp only [List.getElem?_cons_zero, Option.some.injEq] at hq
    subst hq
    simpa using hp
  | succ j =>
    simp only [List.getElem?_cons_succ] at hq
    have h1 := h.2 j q hq
    simpa [Nat.mul_one] using h1
/-- More cells an element: told apart by the cells' list. -/
theorem Reps.front {α : Type} {R : α → List Value → Prop} {size : Nat} {ps : List α} {cs c all : List Value} {p : α} (hp : R p c) (hc : c.length = size) (h : Reps R size ps cs) (ha : c ++ cs = all) : Reps R size (p :: ps) all := by
  subst ha
  refine ⟨by rw [List.length_append, hc, h.1, List.length_cons, Nat.succ_mul, Nat.add_comm], fun j q hq => ?_⟩
  cases j with
  | zero =>
    simp only [List.getElem?_cons_zero, Option.some.injEq] at hq
    subst hq
    rw [Nat.zero_mul, List.drop_zero, List.take_append_of_le_length (by omega), List.take_of_length_le (by omega)]
    exact hp
  | succ j =>
    simp only [List.getElem?_cons_succ] at hq
    have h1 := h.2 j q hq
    rw [Nat.succ_mul, List.drop_append, List.drop_of_length_le (by rw [hc]; exact Nat.le_add_left _ _), List.nil_append, hc, Nat.add_sub_cancel]
    exact h1
theorem Reps.c2 {α : Type} {R : α → List Value → Prop} {ps : List α} {cs : List Value} {p : α} {va vb : Value} (hp : R p [va, vb]) (h : Reps R 2 ps cs) : Reps R 2 (p :: ps) (va :: vb :: cs) := Reps.front hp rfl h rfl
theorem Reps.c3 {α : Type} {R : α → List Value → Prop} {ps : List α} {cs : List Value} {p : α} {va vb vc : Value} (hp : R p [va, vb, vc]) (h : Reps R 3 ps cs) : Reps R 3 (p :: ps) (va :: vb :: vc :: cs) := Reps.front hp rfl h rfl
theorem Reps.c4 {α : Type} {R : α → List Value → Prop} {ps : List α} {cs : List Value} {p : α} {va vb vc vd : Value} (hp : R p [va, vb, vc, vd]) (h : Reps R 4 ps cs) : Reps R 4 (p :: ps) (va :: vb :: vc :: vd :: cs) := Reps.front hp rfl h rfl
theorem Reps.c5 {α : Type} {R : α → List Value → Prop} {ps : List α} {cs : List Value} {p : α} {va vb vc vd ve : Value} (hp : R p [va, vb, vc, vd, ve]) (h : Reps R 5 ps cs) : Reps R 5 (p :: ps) (va :: vb :: vc :: vd :: ve :: cs) := Reps.front hp rfl h rfl
end Go.Proofs.YthkepmicdpgbbaaDoorW.PrintWords

-- PRINTED BY print.sh 35421559b90ae4d0a3588c463048766b98c2df88dd9212a6774a882060cdf62d: not written by this session
/-! ### 57. A region of open order by ONE relation over what is listed so far: each operation is shown once, whatever came up before it -/
namespace Go.Proofs.YthkepmicdpgbbaaDoorW.PrintLast
/-- Number i is listed too. -/
def up (b : Nat → Bool) (i : Nat) : Nat → Bool := fun j => if j = i then true else b j
section
variable {P : Program} {ops : Array Oper} {Q : Exit → Act → World → Prop} {md : Region.Mode} {T : Bool × List (List Nat × List Nat)} {B : List Nat} {O : List Nat} {b : Nat → Bool} {i j n : Nat}
/-- The step of operation i: out of the relation, it not being listed, all it waits for being so, and nothing that waits for it. -/
def StepAt (P : Program) (ops : Array Oper) (Q : Exit → Act → World → Prop) (B : List Nat) (O : List Nat) (I : (Nat → Bool) → Act → World → Prop) (i : Nat) : Prop :=
  ∀ b a w, I b a w → b i = false → (∀ j, (O.contains j && (B.getD i 0).testBit j) = true → b j = true) → (∀ d, (O.contains d && (B.getD d 0).testBit i) = true → b d = false) →
    ∃ oi, ops[i]? = some oi ∧ ∀ K : Act → World → Prop, Shut (∀ a' w', I (up b i) a' w' → K a' w') → if Region.wanted oi (yielded ops a.tmps) = true then Oper.wp P oi a w K Q else K (a.put oi.dst undef) w
/-! The frame: what is listed has its destination filled. -/
end
end Go.Proofs.YthkepmicdpgbbaaDoorW.PrintLast

-- PRINTED BY print.sh 35421559b90ae4d0a3588c463048766b98c2df88dd9212a6774a882060cdf62d: not written by this session
-- PRINTED WORDS (module Derived/Print/More.lean): go-gate-2's additions: an AI agent of Go's test side, Tue Nov 17 2026; no person has read it. Lean checks it.
namespace Go.Proofs.YthkepmicdpgbbaaDoorW.PrintMore
open Go.RowKit Go.Proofs.YthkepmicdpgbbaaDoorW.PrintWords
namespace Kd
open Go.Proofs.YthkepmicdpgbbaaDoorW.PrintWords.Kd
end Kd

namespace Kd
open Go.Proofs.YthkepmicdpgbbaaDoorW.PrintWords.Kd
section
variable {α : Type} {d : Kd α} {e base g N : Nat} {ok : Nat → Prop} {W w1 : World} {u v : Value} {xs : List α}
end
end Kd
/-- 'max' and 'min' of two whole numbers. -/
theorem max2_int (k k' : IntKind) (x y : Int) : Builtin.max2 (.int k x) (.int k' y) = pure (.int k (if x < y then y else x)) := by simp only [Builtin.max2, gt_iff_lt]
theorem min2_int (k k' : IntKind) (x y : Int) : Builtin.min2 (.int k x) (.int k' y) = pure (.int k (if y < x then y else x)) := by simp only [Builtin.min2]
theorem max_two (ats : Array TypeId) (ty : TypeId) (a b : Value) : Builtin.max_ ats ty #[a, b] = (Builtin.max2 a b >>= fun s => pure s) := by simp only [Builtin.max_, List.foldlM_cons, List.foldlM_nil]
theorem min_two (ats : Array TypeId) (ty : TypeId) (a b : Value) : Builtin.min_ ats ty #[a, b] = (Builtin.min2 a b >>= fun s => pure s) := by simp only [Builtin.min_, List.foldlM_cons, List.foldlM_nil]
theorem max_three (ats : Array TypeId) (ty : TypeId) (a b c : Value) : Builtin.max_ ats ty #[a, b, c] = (Builtin.max2 a b >>= fun s => Builtin.max2 s c >>= fun s => pure s) := by simp only [Builtin.max_, List.foldlM_cons, List.foldlM_nil]
theorem min_three (ats : Array TypeId) (ty : TypeId) (a b c : Value) : Builtin.min_ ats ty #[a, b, c] = (Builtin.min2 a b >>= fun s => Builtin.min2 s c >>= fun s => pure s) := by simp only [Builtin.min_, List.foldlM_cons, List.foldlM_nil]
theorem max_four (ats : Array TypeId) (ty : TypeId) (a b c d : Value) : Builtin.max_ ats ty #[a, b, c, d] = (Builtin.max2 a b >>= fun s => Builtin.max2 s c >>= fun s => Builtin.max2 s d >>= fun s => pure s) := by simp only [Builtin.max_, List.foldlM_cons, List.foldlM_nil]
theorem min_four (ats : Array TypeId) (ty : TypeId) (a b c d : Value) : Builtin.min_ ats ty #[a, b, c, d] = (Builtin.min2 a b >>= fun s => Builtin.min2 s c >>= fun s => Builtin.min2 s d >>= fun s => pure s) := by simp only [Builtin.min_, List.foldlM_cons, List.foldlM_nil]
end Go.Proofs.YthkepmicdpgbbaaDoorW.PrintMore
namespace Go.Proofs.YthkepmicdpgbbaaDoorW.PrintWords
open Go.RowKit
section
variable {P : Program} {ops : Array Oper} {rest : List Oper} {o : Oper} {a : Act} {Q : Exit → Act → World → Prop} {W : World}
end
/-- The greater of two whole numbers, as Go's max tells it. -/
def mx (a b : Int) : Int := if a < b then b else a
/-- A shift to the left, as Go tells it: a count beyond the width leaves nothing. -/
def shl (k : IntKind) (x y : Int) : Int := k.wrap (x * 2 ^ min y.toNat k.bits)
/-- A shift to the right: a count beyond the width leaves the sign. -/
def shr (k : IntKind) (x y : Int) : Int := x / 2 ^ min y.toNat k.bits
namespace Kd
section
variable {α : Type} {d : Kd α} {e base : Nat} {ok : Nat → Prop} {W w1 : World} {v : Value} {xs : List α}
end
section
variable {α : Type} {d : Kd α} {e base g n cap : Nat} {ok oki okp : Nat → Prop} {W : World} {xs : List α} {i : Int} {c : List Value}
end
section
variable {α : Type} {d : Kd α} {e base b b' g N : Nat} {ok ok1 : Nat → Prop} {W W2 w1 : World} {u v : Value} {xs ys : List α} {S : Nat → Prop}
end
end Kd
end Go.Proofs.YthkepmicdpgbbaaDoorW.PrintWords
namespace Go.Proofs.YthkepmicdpgbbaaDoorW.PrintWords
open Go.RowKit
namespace Kd
section
variable {α β : Type} {d : Kd α} {e base base' n m c g N' lo hi : Nat} {ok ok' S : Nat → Prop} {w W w1 : World} {A : Option Addr} {ad : Addr} {u v v1 : Value} {xs : List α}
end
end Kd
end Go.Proofs.YthkepmicdpgbbaaDoorW.PrintWords

-- Written by xprint.py (by way of the kit's print program) out of the translation.
namespace Go.Proofs.YthkepmicdpgbbaaDoor.P
open Go.RowKit Go.Proofs.YthkepmicdpgbbaaDoorW.PrintWords Go.Proofs.YthkepmicdpgbbaaDoorW.PrintLast Go.Proofs.YthkepmicdpgbbaaDoorW.PrintMore
attribute [local go_sem] max2_int min2_int max_two min_two max_three min_three max_four min_four   -- for this text's walks alone
set_option linter.unusedVariables false
set_option linter.unusedSimpArgs false

-- the values' own types
/-! #### struct type 55 -/
structure S55 where
 f0 : ByteArray
 f1 : Int
 f2 : Int
 f3 : Int
 f4 : Int
def z55 : S55 := ⟨(⟨#[]⟩ : ByteArray), (0 : Int), (0 : Int), (0 : Int), (0 : Int)⟩
def k55 : Kd S55 := Kd.iso (Kd.pair Kd.string (Kd.pair (Kd.int .i64) (Kd.pair (Kd.int .i64) (Kd.pair (Kd.int .i64) (Kd.int .i64))))) (fun x : S55 => (x.f0, x.f1, x.f2, x.f3, x.f4))
theorem k55_open {w : World} {x : S55} {cs : List Value} (h : k55.K w x cs) : cs = [.string x.f0, .int .i64 x.f1, .int .i64 x.f2, .int .i64 x.f3, .int .i64 x.f4] := by
 obtain ⟨_, _, rfl, rfl, ⟨_, _, rfl, rfl, ⟨_, _, rfl, rfl, ⟨_, _, rfl, rfl, rfl⟩⟩⟩⟩ := h
 exact rfl
def rd_T55 (xs : List S55) (i : Int) : S55 := xs.getD i.toNat z55
theorem at_T55 {w : World} {A : Option Addr} {n : Nat} {xs : List S55} (h : Kd.C k55 w A n xs) (i : Int) (h0 : 0 ≤ i) (h1 : i < n) : ∃ ad , A = some ad ∧ w.cell? (ad.add (i.toNat * 5)) = some (.string (rd_T55 xs i).f0) ∧ w.cell? ⟨(ad.add (i.toNat * 5)).block, (ad.add (i.toNat * 5)).off + 1, none⟩ = some (.int .i64 (rd_T55 xs i).f1) ∧ w.cell? ⟨(ad.add (i.toNat * 5)).block, (ad.add (i.toNat * 5)).off + 2, none⟩ = some (.int .i64 (rd_T55 xs i).f2) ∧ w.cell? ⟨(ad.add (i.toNat * 5)).block, (ad.add (i.toNat * 5)).off + 3, none⟩ = some (.int .i64 (rd_T55 xs i).f3) ∧ w.cell? ⟨(ad.add (i.toNat * 5)).block, (ad.add (i.toNat * 5)).off + 4, none⟩ = some (.int .i64 (rd_T55 xs i).f4) := by
 obtain ⟨ad, c, e, _, hK, hc0⟩ := Kd.C_get h z55 i h0 h1
 have hc : ∀ j u, c[j]? = some u → w.cell? (ad.add (i.toNat * 5 + j)) = some u := hc0
 obtain rfl := k55_open hK
 exact ⟨ad, e, hc 0 _ rfl, by rw [← add_field _ _ 1 (by omega)]; exact hc 1 _ rfl, by rw [← add_field _ _ 2 (by omega)]; exact hc 2 _ rfl, by rw [← add_field _ _ 3 (by omega)]; exact hc 3 _ rfl, by rw [← add_field _ _ 4 (by omega)]; exact hc 4 _ rfl⟩

/-! #### struct type 29 -/

/-! #### struct type 31 -/
structure S31 where
 f0 : Int
 f1 : Int
 f2 : Int
 f3 : ByteArray
def z31 : S31 := ⟨(0 : Int), (0 : Int), (0 : Int), (⟨#[]⟩ : ByteArray)⟩

/-! #### struct type 38 -/

end Go.Proofs.YthkepmicdpgbbaaDoor.P

-- Written by xprint.py (by way of the kit's print program) out of the translation.
namespace Go.Proofs.YthkepmicdpgbbaaDoor.P
open Go.RowKit Go.Proofs.YthkepmicdpgbbaaDoorW.PrintWords Go.Proofs.YthkepmicdpgbbaaDoorW.PrintLast Go.Proofs.YthkepmicdpgbbaaDoorW.PrintMore
attribute [local go_sem] max2_int min2_int max_two min_two max_three min_three max_four min_four   -- for this text's walks alone
set_option linter.unusedVariables false
set_option linter.unusedSimpArgs false

def spec_l1In.f (a0 : Int) (a1 : Int) (a2 : Int) : Option (Bool) := if a0 ≥ a1 then (some (decide (a0 ≤ a2))) else (some false)
def spec_l1Name.l0 : Nat → ByteArray → Int → Option (Bool)
  | 0, _, _ => none
  | k + 1, x0, x3 => if x3 < (x0.size : Int) then (if 0 ≤ x3 then (if (bt x0 x3) < 97 then (some false) else (if (bt x0 x3) > 122 then (some false) else (spec_l1Name.l0 k x0 (wrap64 (x3 + 1))))) else (none)) else ((spec_l1In.f (x0.size : Int) 1 8).bind fun t101 => (some t101))
def spec_l1Name.f (k : Nat) (a0 : ByteArray) : Option (Bool) := spec_l1Name.l0 k a0 0
def spec_l3Db.f (k : Nat) (a0_0 : ByteArray) (a0_1 : Int) (a0_2 : Int) (a0_3 : Int) (a0_4 : Int) : Option (Bool) := (spec_l1Name.f k a0_0).bind fun t103 => (if t103 = true then ((spec_l1In.f a0_1 1 3).bind fun t104 => (if t104 = true then ((spec_l1In.f a0_2 0 4).bind fun t105 => (if t105 = true then ((spec_l1In.f a0_3 1 20).bind fun t106 => (if t106 = true then ((spec_l1In.f a0_4 1 20).bind fun t107 => (some t107)) else (some false))) else (some false))) else (some false))) else (some false))
mutual
def spec_ConfOk.l0 : Nat → List (S55) → Int → Option (Bool)
  | 0, _, _ => none
  | k + 1, x0, x3 => if x3 < (x0.length : Int) then (if 0 ≤ x3 then ((spec_l3Db.f k ((rd_T55 x0 x3).f0) ((rd_T55 x0 x3).f1) ((rd_T55 x0 x3).f2) ((rd_T55 x0 x3).f3) ((rd_T55 x0 x3).f4)).bind fun t110 => (if t110 = true then (spec_ConfOk.l1 k x0 x3 0) else (some false))) else (none)) else ((spec_l1In.f (x0.length : Int) 1 3).bind fun t108 => (some t108))
def spec_ConfOk.l1 : Nat → List (S55) → Int → Int → Option (Bool)
  | 0, _, _, _ => none
  | k + 1, x0, x3, x4 => if x4 < x3 then (if 0 ≤ x4 then (if x4 < (x0.length : Int) then (if 0 ≤ x3 then (if x3 < (x0.length : Int) then (if ((rd_T55 x0 x4).f0).toList = ((rd_T55 x0 x3).f0).toList then (some false) else (spec_ConfOk.l1 k x0 x3 (wrap64 (x4 + 1)))) else (none)) else (none)) else (none)) else (none)) else (spec_ConfOk.l0 k x0 (wrap64 (x3 + 1)))
end
def spec_ConfOk.f (k : Nat) (l0 : List (S55)) : Option (Bool) := spec_ConfOk.l0 k l0 0
def spec_l3Split.l0 : Nat → ByteArray → Int → List ByteArray → Int → Int → Option (List ByteArray)
  | 0, _, _, _, _, _ => none
  | k + 1, x0, x1, x5, x6, x7 => if x7 ≤ (x0.size : Int) then (if x7 = (x0.size : Int) then (if 0 ≤ x6 then (if x6 ≤ x7 then (if x5.length < 8796093022208 then (spec_l3Split.l0 k x0 x1 (x5 ++ [x0.extract (x6 : Int).toNat (x7 : Int).toNat]) (wrap64 (x7 + 1)) (wrap64 (x7 + 1))) else (none)) else (none)) else (none)) else (if 0 ≤ x7 then (if x7 < (x0.size : Int) then (if (bt x0 x7) = x1 then (if 0 ≤ x6 then (if x6 ≤ x7 then (if x5.length < 8796093022208 then (spec_l3Split.l0 k x0 x1 (x5 ++ [x0.extract (x6 : Int).toNat (x7 : Int).toNat]) (wrap64 (x7 + 1)) (wrap64 (x7 + 1))) else (none)) else (none)) else (none)) else (spec_l3Split.l0 k x0 x1 x5 x6 (wrap64 (x7 + 1)))) else (none)) else (none))) else (some x5)
def spec_l3Split.f (k : Nat) (a0 : ByteArray) (a1 : Int) : Option (List ByteArray) := spec_l3Split.l0 k a0 a1 (([] : List ByteArray)) 0 0
mutual
def spec_ParseNum.j0 : Nat → ByteArray → Int → Bool → Option (Int × Bool)
  | 0, _, _, _ => none
  | k + 1, x0, x1, x29 => if x29 = true then (some (0, false)) else (spec_ParseNum.l0 k x0 x1 0 0)
def spec_ParseNum.l0 : Nat → ByteArray → Int → Int → Int → Option (Int × Bool)
  | 0, _, _, _, _ => none
  | k + 1, x0, x1, x6, x7 => if x7 < (x0.size : Int) then (if 0 ≤ x7 then ((spec_l1In.f (wrap64 (bt x0 x7)) 48 57).bind fun t122 => (if t122 = true then (spec_ParseNum.l0 k x0 x1 (wrap64 ((wrap64 (10 * x6)) + (((bt x0 x7) - 48) % 256))) (wrap64 (x7 + 1))) else (some (0, false)))) else (none)) else (if x6 > x1 then (some (0, false)) else (some (x6, true)))
end
def spec_ParseNum.f (k : Nat) (a0 : ByteArray) (a1 : Int) : Option (Int × Bool) := if (a0.size : Int) = 0 then (spec_ParseNum.j0 k a0 a1 true) else (if (a0.size : Int) > 5 then (spec_ParseNum.j0 k a0 a1 true) else (if (a0.size : Int) > 1 then (if 0 < (a0.size : Int) then (if (bt a0 0) = 48 then (spec_ParseNum.j0 k a0 a1 true) else (spec_ParseNum.j0 k a0 a1 (decide (a1 > 65535)))) else (none)) else (spec_ParseNum.j0 k a0 a1 (decide (a1 > 65535)))))
mutual
def spec_ParseConf.l0 : Nat → List ByteArray → List (S55) → Int → Option ((List (S55)) × Bool)
  | 0, _, _, _ => none
  | k + 1, x4, x5, x6 => if x6 < (x4.length : Int) then (if 0 ≤ x6 then ((spec_l3Split.f k (rdOf ByteArray.empty x4 x6) 58).bind fun t137 => (if (t137.length : Int) = 2 then (if 1 < (t137.length : Int) then ((spec_l3Split.f k (rdOf ByteArray.empty t137 1) 47).bind fun t144 => (if (t144.length : Int) = 4 then (spec_ParseConf.l1 k x4 x5 x6 t137 t144 (([0, 0, 0, 0] : List Int)) 0) else (some ((([] : List (S55))), false)))) else (none)) else (some ((([] : List (S55))), false)))) else (none)) else ((spec_ConfOk.f k x5).bind fun t132 => (if t132 = true then (some (x5, true)) else (some ((([] : List (S55))), false))))
def spec_ParseConf.l1 : Nat → List ByteArray → List (S55) → Int → List ByteArray → List ByteArray → List Int → Int → Option ((List (S55)) × Bool)
  | 0, _, _, _, _, _, _, _ => none
  | k + 1, x4, x5, x6, x7, x8, x9, x10 => if x10 < 4 then (if 0 ≤ x10 then (if x10 < (x8.length : Int) then ((spec_ParseNum.f k (rdOf ByteArray.empty x8 x10) 99).bind fun bt154 => (if bt154.2 = true then (if x10 < (x9.length : Int) then (spec_ParseConf.l1 k x4 x5 x6 x7 x8 (x9.set (x10 : Int).toNat bt154.1) (wrap64 (x10 + 1))) else (none)) else (some ((([] : List (S55))), false)))) else (none)) else (none)) else (if 0 < (x7.length : Int) then (if 0 < (x9.length : Int) then (if 1 < (x9.length : Int) then (if 2 < (x9.length : Int) then (if 3 < (x9.length : Int) then (if x5.length < 2932031007402 then (spec_ParseConf.l0 k x4 (x5 ++ [(⟨rdOf ByteArray.empty x7 0, rd x9 0, rd x9 1, rd x9 2, rd x9 3⟩ : S55)]) (wrap64 (x6 + 1))) else (none)) else (none)) else (none)) else (none)) else (none)) else (none))
end
def spec_ParseConf.f (k : Nat) (a0 : ByteArray) : Option ((List (S55)) × Bool) := if (a0.size : Int) > 100 then (some ((([] : List (S55))), false)) else ((spec_l3Split.f k a0 59).bind fun t126 => (spec_ParseConf.l0 k t126 (([] : List (S55))) 0))
def impl_isIn.f (a0 : Int) (a1 : Int) (a2 : Int) : Option (Bool) := if a1 ≤ a0 then (some (decide (a0 ≤ a2))) else (some false)
def impl_nameOk.l0 : Nat → ByteArray → Int → Int → Option (Bool)
  | 0, _, _, _ => none
  | k + 1, x0, x5, x6 => if x6 < x5 then (if 0 ≤ x6 then (if x6 < (x0.size : Int) then (if (bt x0 x6) < 97 then (some false) else (if (bt x0 x6) > 122 then (some false) else (impl_nameOk.l0 k x0 x5 (wrap64 (x6 + 1))))) else (none)) else (none)) else ((impl_isIn.f (x0.size : Int) 1 8).bind fun t168 => (some t168))
def impl_nameOk.f (k : Nat) (a0 : ByteArray) : Option (Bool) := impl_nameOk.l0 k a0 (a0.size : Int) 0
def impl_dbPlace.l0 (l : List S55) (name : ByteArray) : Int → Int
  | i => match l with
    | [] => -1
    | x :: xs => if x.f0.toList = name.toList then i else impl_dbPlace.l0 xs name (i + 1)
def impl_dbPlace.f (l0 : List S55) (a1 : ByteArray) : Option (Int) := some (impl_dbPlace.l0 l0 a1 0)
def impl_ConfOk.l0 : Nat → List (S55) → List (S55) → Int → Int → Option (Bool)
  | 0, _, _, _, _ => none
  | k + 1, x0, x5, x6, x7 => if x7 < x6 then (if 0 ≤ x7 then (if x7 < (x5.length : Int) then ((impl_nameOk.f k ((rd_T55 x5 x7).f0)).bind fun t172 => (if t172 = true then ((impl_dbPlace.f x0 ((rd_T55 x5 x7).f0)).bind fun t173 => (if t173 = x7 then ((impl_isIn.f ((rd_T55 x5 x7).f1) 1 3).bind fun t174 => (if t174 = true then ((impl_isIn.f ((rd_T55 x5 x7).f2) 0 4).bind fun t175 => (if t175 = true then ((impl_isIn.f ((rd_T55 x5 x7).f3) 1 20).bind fun t176 => (if t176 = true then ((impl_isIn.f ((rd_T55 x5 x7).f4) 1 20).bind fun t177 => (if t177 = true then (impl_ConfOk.l0 k x0 x5 x6 (wrap64 (x7 + 1))) else (some false))) else (some false))) else (some false))) else (some false))) else (some false))) else (some false))) else (none)) else (none)) else ((impl_isIn.f (x0.length : Int) 1 3).bind fun t169 => (some t169))
def impl_ConfOk.f (k : Nat) (l0 : List (S55)) : Option (Bool) := impl_ConfOk.l0 k l0 l0 (l0.length : Int) 0
def strconv_Itoa_97.f (a0 : Int) : Option (ByteArray) := if -9223372036854775808 ≤ a0 ∧ a0 ≤ 9223372036854775807 then some ⟨(Lib.itoa a0).toArray⟩ else none
def impl_NumText.f (a0 : Int) : Option (ByteArray) := (strconv_Itoa_97.f a0).bind fun t178 => (some t178)
def strings_Join.f (l0 : List ByteArray) (a1 : ByteArray) : Option (ByteArray) := if l0.length ≤ 140737488355328 ∧ (Lib.join (l0.map (·.data.toList)) a1.data.toList).length ≤ 140737488355328 then some ⟨(Lib.join (l0.map (·.data.toList)) a1.data.toList).toArray⟩ else none
def impl_ConfText.l0 : Nat → List ByteArray → List (S55) → Int → Int → Option (ByteArray)
  | 0, _, _, _, _ => none
  | k + 1, x3, x10, x11, x12 => if x12 < x11 then (if 0 ≤ x12 then (if x12 < (x10.length : Int) then (if ((rd_T55 x10 x12).f0).size + 1 ≤ 9223372036854775807 then ((impl_NumText.f ((rd_T55 x10 x12).f1)).bind fun t186 => (if (((rd_T55 x10 x12).f0) ++ (⟨#[58]⟩ : ByteArray)).size + t186.size ≤ 9223372036854775807 then (if ((((rd_T55 x10 x12).f0) ++ (⟨#[58]⟩ : ByteArray)) ++ t186).size + 1 ≤ 9223372036854775807 then ((impl_NumText.f ((rd_T55 x10 x12).f2)).bind fun t187 => (if (((((rd_T55 x10 x12).f0) ++ (⟨#[58]⟩ : ByteArray)) ++ t186) ++ (⟨#[47]⟩ : ByteArray)).size + t187.size ≤ 9223372036854775807 then (if ((((((rd_T55 x10 x12).f0) ++ (⟨#[58]⟩ : ByteArray)) ++ t186) ++ (⟨#[47]⟩ : ByteArray)) ++ t187).size + 1 ≤ 9223372036854775807 then ((impl_NumText.f ((rd_T55 x10 x12).f3)).bind fun t188 => (if (((((((rd_T55 x10 x12).f0) ++ (⟨#[58]⟩ : ByteArray)) ++ t186) ++ (⟨#[47]⟩ : ByteArray)) ++ t187) ++ (⟨#[47]⟩ : ByteArray)).size + t188.size ≤ 9223372036854775807 then (if ((((((((rd_T55 x10 x12).f0) ++ (⟨#[58]⟩ : ByteArray)) ++ t186) ++ (⟨#[47]⟩ : ByteArray)) ++ t187) ++ (⟨#[47]⟩ : ByteArray)) ++ t188).size + 1 ≤ 9223372036854775807 then ((impl_NumText.f ((rd_T55 x10 x12).f4)).bind fun t189 => (if (((((((((rd_T55 x10 x12).f0) ++ (⟨#[58]⟩ : ByteArray)) ++ t186) ++ (⟨#[47]⟩ : ByteArray)) ++ t187) ++ (⟨#[47]⟩ : ByteArray)) ++ t188) ++ (⟨#[47]⟩ : ByteArray)).size + t189.size ≤ 9223372036854775807 then (if x3.length < 8796093022208 then (impl_ConfText.l0 k (x3 ++ [(((((((((rd_T55 x10 x12).f0) ++ (⟨#[58]⟩ : ByteArray)) ++ t186) ++ (⟨#[47]⟩ : ByteArray)) ++ t187) ++ (⟨#[47]⟩ : ByteArray)) ++ t188) ++ (⟨#[47]⟩ : ByteArray)) ++ t189]) x10 x11 (wrap64 (x12 + 1))) else (none)) else (none))) else (none)) else (none))) else (none)) else (none))) else (none)) else (none))) else (none)) else (none)) else (none)) else ((strings_Join.f x3 (⟨#[59]⟩ : ByteArray)).bind fun t183 => (some t183))
def impl_ConfText.f (k : Nat) (l0 : List (S55)) : Option (ByteArray) := (impl_ConfOk.f k l0).bind fun t179 => (if t179 = true then (impl_ConfText.l0 k (([] : List ByteArray)) l0 (l0.length : Int) 0) else (some (⟨#[]⟩ : ByteArray)))
def strings_Split.f (a0 : ByteArray) (a1 : ByteArray) : Option (List ByteArray) := if a0.size < 4294967281 ∧ 1 ≤ a1.size then some (Lib.splitB a1 0 (Lib.countB a0 a1) a0) else none
def strings_Cut.f (a0 : ByteArray) (a1 : ByteArray) : Option (ByteArray × ByteArray × Bool) := if a0.size < 4294967281 then some (⟨(Lib.cut a0.data.toList a1.data.toList).1.toArray⟩, ⟨(Lib.cut a0.data.toList a1.data.toList).2.1.toArray⟩, (Lib.cut a0.data.toList a1.data.toList).2.2) else none
def strings_SplitN.f (a0 : ByteArray) (a1 : ByteArray) (a2 : Int) : Option (List ByteArray) := if a0.size < 4294967281 ∧ 1 ≤ a1.size ∧ 1 ≤ a2 ∧ a2 ≤ 9223372036854775807 then some (Lib.splitB a1 0 (min a2.toNat (a0.size + 1) - 1) a0) else none
mutual
def impl_ParseNum.j0 : Nat → ByteArray → Int → Bool → Option (Int × Bool)
  | 0, _, _, _ => none
  | k + 1, x0, x1, x25 => if x25 = true then (some (0, false)) else (impl_ParseNum.l0 k x0 x1 0 (x0.size : Int) 0)
def impl_ParseNum.l0 : Nat → ByteArray → Int → Int → Int → Int → Option (Int × Bool)
  | 0, _, _, _, _, _ => none
  | k + 1, x0, x1, x6, x27, x28 => if x28 < x27 then (if 0 ≤ x28 then (if x28 < (x0.size : Int) then (if (bt x0 x28) < 48 then (some (0, false)) else (if (bt x0 x28) > 57 then (some (0, false)) else (impl_ParseNum.l0 k x0 x1 (wrap64 ((wrap64 (10 * x6)) + (((bt x0 x28) - 48) % 256))) x27 (wrap64 (x28 + 1))))) else (none)) else (none)) else (if x6 > x1 then (some (0, false)) else (some (x6, true)))
end
def impl_ParseNum.f (k : Nat) (a0 : ByteArray) (a1 : Int) : Option (Int × Bool) := if a1 > 65535 then (impl_ParseNum.j0 k a0 a1 true) else ((impl_isIn.f (a0.size : Int) 1 5).bind fun t193 => (if t193 = true then (if (a0.size : Int) > 1 then (if 0 < (a0.size : Int) then (impl_ParseNum.j0 k a0 a1 ((bt a0 0) == 48)) else (none)) else (impl_ParseNum.j0 k a0 a1 false)) else (impl_ParseNum.j0 k a0 a1 true)))
mutual
def impl_ParseConf.l0 : Nat → ByteArray → List (S55) → List ByteArray → Int → Int → Option ((List (S55)) × Bool)
  | 0, _, _, _, _, _ => none
  | k + 1, x0, x4, x15, x16, x17 => if x17 < x16 then (if 0 ≤ x17 then (if x17 < (x15.length : Int) then ((strings_Cut.f (rdOf ByteArray.empty x15 x17) (⟨#[58]⟩ : ByteArray)).bind fun bt208 => ((strings_SplitN.f bt208.2.1 (⟨#[47]⟩ : ByteArray) 4).bind fun t212 => (impl_ParseConf.l1 k x0 x4 bt208.1 x15 x16 x17 t212 (t212.length : Int) 0 0 0 0 0))) else (none)) else (none)) else (if x0.toList = ([] : List UInt8) then (some ((([] : List (S55))), false)) else ((impl_ConfText.f k x4).bind fun t203 => (if t203.toList = x0.toList then (some (x4, true)) else (some ((([] : List (S55))), false)))))
def impl_ParseConf.l1 : Nat → ByteArray → List (S55) → ByteArray → List ByteArray → Int → Int → List ByteArray → Int → Int → Int → Int → Int → Int → Option ((List (S55)) × Bool)
  | 0, _, _, _, _, _, _, _, _, _, _, _, _, _ => none
  | k + 1, x0, x4, x7, x15, x16, x17, x29, x30, x31, x212000, x212001, x212002, x212003 => if x31 < x30 then (if 0 ≤ x31 then (if x31 < (x29.length : Int) then ((impl_ParseNum.f k (rdOf ByteArray.empty x29 x31) 20).bind fun bt216 => (if x31 < 4 then (if x31 = 0 then (impl_ParseConf.l1 k x0 x4 x7 x15 x16 x17 x29 x30 (wrap64 (x31 + 1)) bt216.1 x212001 x212002 x212003) else (if x31 = 1 then (impl_ParseConf.l1 k x0 x4 x7 x15 x16 x17 x29 x30 (wrap64 (x31 + 1)) x212000 bt216.1 x212002 x212003) else (if x31 = 2 then (impl_ParseConf.l1 k x0 x4 x7 x15 x16 x17 x29 x30 (wrap64 (x31 + 1)) x212000 x212001 bt216.1 x212003) else (if x31 = 3 then (impl_ParseConf.l1 k x0 x4 x7 x15 x16 x17 x29 x30 (wrap64 (x31 + 1)) x212000 x212001 x212002 bt216.1) else (none))))) else (none))) else (none)) else (none)) else (if x4.length < 2932031007402 then (impl_ParseConf.l0 k x0 (x4 ++ [(⟨x7, x212000, x212001, x212002, x212003⟩ : S55)]) x15 x16 (wrap64 (x17 + 1))) else (none))
end
def impl_ParseConf.f (k : Nat) (a0 : ByteArray) : Option ((List (S55)) × Bool) := (strings_Split.f a0 (⟨#[59]⟩ : ByteArray)).bind fun t197 => (impl_ParseConf.l0 k a0 (([] : List (S55))) t197 (t197.length : Int) 0)
def laws_big.f (l0 : List Int) : Option (Bool) := some (decide ((l0.length : Int) > 1048576))
def spec_l1New.l0 : Nat → List Int → Int → Int → Option (List Int × Int × Int)
  | 0, _, _, _ => none
  | k + 1, x0, x3, x4 => if x4 < (x0.length : Int) then (if x4 < 4000 then (if 0 ≤ x4 then (spec_l1New.l0 k x0 (Go.bits .and .i64 (wrap64 ((wrap64 ((wrap64 (x3 * 137)) + (wrap64 (rd x0 x4)))) + 11)) 1073741823) (wrap64 (x4 + 1))) else (none)) else (some (x0, 0, x3))) else (some (x0, 0, x3))
def spec_l1New.f (k : Nat) (l0 : List Int) : Option (List Int × Int × Int) := spec_l1New.l0 k l0 (wrap64 (128871 + (l0.length : Int))) 0
def spec_l1Byte.f (s0_0 : List Int) (s0_1 : Int) (s0_2 : Int) : Option (Int × Int × Int) := if s0_1 < (s0_0.length : Int) then (if 0 ≤ s0_1 then (some (Go.bits .and .i64 (wrap64 ((Go.bits .and .i64 (Go.bits .xor .i64 ((wrap64 ((wrap64 (s0_2 * 6364136223846793005)) + 1442695040888963407)) / 8589934592) ((wrap64 ((wrap64 (s0_2 * 6364136223846793005)) + 1442695040888963407)) / 140737488355328)) 255) + (wrap64 (rd s0_0 s0_1)))) 255, wrap64 (s0_1 + 1), wrap64 ((wrap64 (s0_2 * 6364136223846793005)) + 1442695040888963407))) else (none)) else (some (Go.bits .and .i64 (Go.bits .xor .i64 ((wrap64 ((wrap64 (s0_2 * 6364136223846793005)) + 1442695040888963407)) / 8589934592) ((wrap64 ((wrap64 (s0_2 * 6364136223846793005)) + 1442695040888963407)) / 140737488355328)) 255, s0_1, wrap64 ((wrap64 (s0_2 * 6364136223846793005)) + 1442695040888963407)))
def spec_l1Below.f (s0_0 : List Int) (s0_1 : Int) (s0_2 : Int) (a1 : Int) : Option (Int × Int × Int) := if a1 ≤ 0 then (some (0, s0_1, s0_2)) else (if a1 ≤ 256 then ((spec_l1Byte.f s0_0 s0_1 s0_2).bind fun bt516 => (if a1 = 0 then (none) else (some (Int.tmod bt516.1 a1, bt516.2.1, bt516.2.2)))) else ((spec_l1Byte.f s0_0 s0_1 s0_2).bind fun bt519 => ((spec_l1Byte.f s0_0 bt519.2.1 bt519.2.2).bind fun bt522 => ((spec_l1Byte.f s0_0 bt522.2.1 bt522.2.2).bind fun bt525 => (if a1 = 0 then (none) else (some (Int.tmod (wrap64 ((wrap64 ((wrap64 (bt519.1 * 65536)) + (wrap64 (bt522.1 * 256)))) + bt525.1)) a1, bt525.2.1, bt525.2.2)))))))
def spec_l1Str.f (s0_0 : List Int) (s0_1 : Int) (s0_2 : Int) (l1 : List ByteArray) : Option (ByteArray × Int × Int) := (spec_l1Below.f s0_0 s0_1 s0_2 (l1.length : Int)).bind fun bt528 => (if 0 ≤ bt528.1 then (if bt528.1 < (l1.length : Int) then (some (rdOf ByteArray.empty l1 bt528.1, bt528.2.1, bt528.2.2)) else (none)) else (none))
def spec_l1Int.f (s0_0 : List Int) (s0_1 : Int) (s0_2 : Int) (l1 : List Int) : Option (Int × Int × Int) := (spec_l1Below.f s0_0 s0_1 s0_2 (l1.length : Int)).bind fun bt532 => (if 0 ≤ bt532.1 then (if bt532.1 < (l1.length : Int) then (some (rd l1 bt532.1, bt532.2.1, bt532.2.2)) else (none)) else (none))
def spec_l3One.f (s0_0 : List Int) (s0_1 : Int) (s0_2 : Int) : Option (ByteArray × Int × Int × Int × Int × Int × Int) := (spec_l1Str.f s0_0 s0_1 s0_2 (([(⟨#[109, 97, 105, 110]⟩ : ByteArray), (⟨#[109, 97, 105, 110]⟩ : ByteArray), (⟨#[108, 111, 103, 115]⟩ : ByteArray), (⟨#[120]⟩ : ByteArray)] : List ByteArray))).bind fun bt540 => ((spec_l1Below.f s0_0 bt540.2.1 bt540.2.2 3).bind fun bt543 => ((spec_l1Below.f s0_0 bt543.2.1 bt543.2.2 5).bind fun bt546 => ((spec_l1Int.f s0_0 bt546.2.1 bt546.2.2 (([1, 2, 5, 20] : List Int))).bind fun bt552 => ((spec_l1Int.f s0_0 bt552.2.1 bt552.2.2 (([1, 3, 20] : List Int))).bind fun bt558 => (some (bt540.1, wrap64 (1 + bt543.1), bt546.1, bt552.1, bt558.1, bt558.2.1, bt558.2.2))))))
def spec_DbAt.l0 : Nat → List (S55) → ByteArray → Int → Option (ByteArray × Int × Int × Int × Int × Bool)
  | 0, _, _, _ => none
  | k + 1, x0, x1, x6 => if x6 < (x0.length : Int) then (if 0 ≤ x6 then (if ((rd_T55 x0 x6).f0).toList = x1.toList then (some ((rd_T55 x0 x6).f0, (rd_T55 x0 x6).f1, (rd_T55 x0 x6).f2, (rd_T55 x0 x6).f3, (rd_T55 x0 x6).f4, true)) else (spec_DbAt.l0 k x0 x1 (wrap64 (x6 + 1)))) else (none)) else (some ((⟨#[]⟩ : ByteArray), 0, 0, 0, 0, false))
def spec_DbAt.f (k : Nat) (l0 : List (S55)) (a1 : ByteArray) : Option (ByteArray × Int × Int × Int × Int × Bool) := spec_DbAt.l0 k l0 a1 0
def spec_l3Draw.l0 : Nat → List (S55) → Int → List Int → Int → Int → Option ((List (S55)) × Int × Int)
  | 0, _, _, _, _, _ => none
  | k + 1, x3, x4, x1000, x1001, x1002 => if x4 > 0 then ((spec_l3One.f x1000 x1001 x1002).bind fun bt570 => ((spec_DbAt.f k x3 bt570.1).bind fun bt578 => (if bt578.2.2.2.2.2 = true then (spec_l3Draw.l0 k x3 (wrap64 (x4 - 1)) x1000 bt570.2.2.2.2.2.1 bt570.2.2.2.2.2.2) else (if x3.length < 2932031007402 then (spec_l3Draw.l0 k (x3 ++ [(⟨bt570.1, bt570.2.1, bt570.2.2.1, bt570.2.2.2.1, bt570.2.2.2.2.1⟩ : S55)]) (wrap64 (x4 - 1)) x1000 bt570.2.2.2.2.2.1 bt570.2.2.2.2.2.2) else (none))))) else (some (x3, x1001, x1002))
def spec_l3Draw.f (k : Nat) (s0_0 : List Int) (s0_1 : Int) (s0_2 : Int) : Option ((List (S55)) × Int × Int) := (spec_l1Below.f s0_0 s0_1 s0_2 3).bind fun bt567 => (spec_l3Draw.l0 k (([] : List (S55))) (wrap64 (1 + bt567.1)) s0_0 bt567.2.1 bt567.2.2)
def spec_l3Any.f (k : Nat) (s0_0 : List Int) (s0_1 : Int) (s0_2 : Int) : Option ((List (S55)) × Int × Int) := (spec_l3Draw.f k s0_0 s0_1 s0_2).bind fun bt588 => ((spec_l1Below.f s0_0 bt588.2.1 bt588.2.2 (bt588.1.length : Int)).bind fun bt593 => ((spec_l1Below.f s0_0 bt593.2.1 bt593.2.2 12).bind fun bt596 => (if bt596.1 = 0 then ((spec_l1Str.f s0_0 bt596.2.1 bt596.2.2 (([(⟨#[]⟩ : ByteArray), (⟨#[77, 97, 105, 110]⟩ : ByteArray), (⟨#[110, 105, 110, 101, 99, 104, 97, 114, 115]⟩ : ByteArray), (⟨#[97, 58, 98]⟩ : ByteArray)] : List ByteArray))).bind fun bt602 => (if 0 ≤ bt593.1 then (if bt593.1 < (bt588.1.length : Int) then (some ((bt588.1.set (bt593.1 : Int).toNat (⟨bt602.1, (rd_T55 bt588.1 bt593.1).f1, (rd_T55 bt588.1 bt593.1).f2, (rd_T55 bt588.1 bt593.1).f3, (rd_T55 bt588.1 bt593.1).f4⟩ : S55)), bt602.2.1, bt602.2.2)) else (none)) else (none))) else (if bt596.1 = 1 then ((spec_l1Int.f s0_0 bt596.2.1 bt596.2.2 (([0, 3, 4] : List Int))).bind fun bt609 => (if 0 ≤ bt593.1 then (if bt593.1 < (bt588.1.length : Int) then (some ((bt588.1.set (bt593.1 : Int).toNat (⟨(rd_T55 bt588.1 bt593.1).f0, bt609.1, (rd_T55 bt588.1 bt593.1).f2, (rd_T55 bt588.1 bt593.1).f3, (rd_T55 bt588.1 bt593.1).f4⟩ : S55)), bt609.2.1, bt609.2.2)) else (none)) else (none))) else (if bt596.1 = 2 then ((spec_l1Int.f s0_0 bt596.2.1 bt596.2.2 (([(-1), 4, 5] : List Int))).bind fun bt616 => (if 0 ≤ bt593.1 then (if bt593.1 < (bt588.1.length : Int) then (some ((bt588.1.set (bt593.1 : Int).toNat (⟨(rd_T55 bt588.1 bt593.1).f0, (rd_T55 bt588.1 bt593.1).f1, bt616.1, (rd_T55 bt588.1 bt593.1).f3, (rd_T55 bt588.1 bt593.1).f4⟩ : S55)), bt616.2.1, bt616.2.2)) else (none)) else (none))) else (if bt596.1 = 3 then ((spec_l1Int.f s0_0 bt596.2.1 bt596.2.2 (([0, 20, 21] : List Int))).bind fun bt623 => (if 0 ≤ bt593.1 then (if bt593.1 < (bt588.1.length : Int) then (some ((bt588.1.set (bt593.1 : Int).toNat (⟨(rd_T55 bt588.1 bt593.1).f0, (rd_T55 bt588.1 bt593.1).f1, (rd_T55 bt588.1 bt593.1).f2, bt623.1, (rd_T55 bt588.1 bt593.1).f4⟩ : S55)), bt623.2.1, bt623.2.2)) else (none)) else (none))) else (if bt596.1 = 4 then ((spec_l1Int.f s0_0 bt596.2.1 bt596.2.2 (([0, 20, 21] : List Int))).bind fun bt630 => (if 0 ≤ bt593.1 then (if bt593.1 < (bt588.1.length : Int) then (some ((bt588.1.set (bt593.1 : Int).toNat (⟨(rd_T55 bt588.1 bt593.1).f0, (rd_T55 bt588.1 bt593.1).f1, (rd_T55 bt588.1 bt593.1).f2, (rd_T55 bt588.1 bt593.1).f3, bt630.1⟩ : S55)), bt630.2.1, bt630.2.2)) else (none)) else (none))) else (if bt596.1 = 5 then (if 0 ≤ bt593.1 then (if bt593.1 < (bt588.1.length : Int) then (if bt588.1.length < 2932031007402 then (some ((bt588.1 ++ [(⟨(rd_T55 bt588.1 bt593.1).f0, (rd_T55 bt588.1 bt593.1).f1, (rd_T55 bt588.1 bt593.1).f2, (rd_T55 bt588.1 bt593.1).f3, (rd_T55 bt588.1 bt593.1).f4⟩ : S55)]), bt596.2.1, bt596.2.2)) else (none)) else (none)) else (none)) else (if bt596.1 = 6 then (some ((([] : List (S55))), bt596.2.1, bt596.2.2)) else (if bt596.1 = 7 then ((some (([(⟨(⟨#[112]⟩ : ByteArray), 1, 0, 1, 1⟩ : S55), (⟨(⟨#[113]⟩ : ByteArray), 1, 0, 1, 1⟩ : S55), (⟨(⟨#[114]⟩ : ByteArray), 1, 0, 1, 1⟩ : S55)] : List (S55)) : List (S55))).bind fun y641 => (if bt588.1.length + y641.length < 2932031007402 then (some ((bt588.1 ++ y641), bt596.2.1, bt596.2.2)) else (none))) else (some (bt588.1, bt596.2.1, bt596.2.2))))))))))))
def spec_DrawConfText.f (k : Nat) (l0 : List Int) : Option ((List (S55))) := (spec_l1New.f k l0).bind fun bt647 => ((spec_l3Any.f k bt647.1 bt647.2.1 bt647.2.2).bind fun bt651 => (some bt651.1))
def spec_l1Once.f (s0_0 : List Int) (s0_1 : Int) (s0_2 : Int) (a1 : Int) : Option (Bool × Int × Int) := (spec_l1Below.f s0_0 s0_1 s0_2 a1).bind fun bt656 => (some ((bt656.1 == 0), bt656.2.1, bt656.2.2))
def spec_NumText.l0 : Nat → Int → ByteArray → Int → Option (ByteArray)
  | 0, _, _, _ => none
  | k + 1, x0, x3, x4 => if x4 = 0 then (if x0 < 0 then (if 1 + x3.size ≤ 9223372036854775807 then (some ((⟨#[45]⟩ : ByteArray) ++ x3)) else (none)) else (some x3)) else (if (Int.tmod x4 10) < 0 then ((some (([(wrap64 (48 + (wrap64 (-(Int.tmod x4 10))))) % 256] : List Int) : List Int)).bind fun y659 => (if (strOfNums y659).size + x3.size ≤ 9223372036854775807 then (spec_NumText.l0 k x0 ((strOfNums y659) ++ x3) (wrap64 (Int.tdiv x4 10))) else (none))) else ((some (([(wrap64 (48 + (Int.tmod x4 10))) % 256] : List Int) : List Int)).bind fun y662 => (if (strOfNums y662).size + x3.size ≤ 9223372036854775807 then (spec_NumText.l0 k x0 ((strOfNums y662) ++ x3) (wrap64 (Int.tdiv x4 10))) else (none))))
def spec_NumText.f (k : Nat) (a0 : Int) : Option (ByteArray) := if a0 = 0 then (some (⟨#[48]⟩ : ByteArray)) else (spec_NumText.l0 k a0 (⟨#[]⟩ : ByteArray) a0)
mutual
def spec_ConfText.l0 : Nat → List (S55) → ByteArray → Int → Option (ByteArray)
  | 0, _, _, _ => none
  | k + 1, x0, x3, x4 => if x4 < (x0.length : Int) then ((spec_ConfOk.f k x0).bind fun t665 => (spec_ConfText.j1 k x0 x3 x4 t665)) else (spec_ConfText.j1 k x0 x3 x4 false)
def spec_ConfText.j1 : Nat → List (S55) → ByteArray → Int → Bool → Option (ByteArray)
  | 0, _, _, _, _ => none
  | k + 1, x0, x3, x4, x12 => if x12 = true then (if x4 > 0 then (if x3.size + 1 ≤ 9223372036854775807 then (spec_ConfText.j2 k x0 (x3 ++ (⟨#[59]⟩ : ByteArray)) x4) else (none)) else (spec_ConfText.j2 k x0 x3 x4)) else (some x3)
def spec_ConfText.j2 : Nat → List (S55) → ByteArray → Int → Option (ByteArray)
  | 0, _, _, _ => none
  | k + 1, x0, x3, x4 => if 0 ≤ x4 then (if x4 < (x0.length : Int) then (if x3.size + ((rd_T55 x0 x4).f0).size ≤ 9223372036854775807 then (if (x3 ++ ((rd_T55 x0 x4).f0)).size + 1 ≤ 9223372036854775807 then ((spec_NumText.f k ((rd_T55 x0 x4).f1)).bind fun t668 => (if ((x3 ++ ((rd_T55 x0 x4).f0)) ++ (⟨#[58]⟩ : ByteArray)).size + t668.size ≤ 9223372036854775807 then (if (((x3 ++ ((rd_T55 x0 x4).f0)) ++ (⟨#[58]⟩ : ByteArray)) ++ t668).size + 1 ≤ 9223372036854775807 then ((spec_NumText.f k ((rd_T55 x0 x4).f2)).bind fun t670 => (if ((((x3 ++ ((rd_T55 x0 x4).f0)) ++ (⟨#[58]⟩ : ByteArray)) ++ t668) ++ (⟨#[47]⟩ : ByteArray)).size + t670.size ≤ 9223372036854775807 then (if (((((x3 ++ ((rd_T55 x0 x4).f0)) ++ (⟨#[58]⟩ : ByteArray)) ++ t668) ++ (⟨#[47]⟩ : ByteArray)) ++ t670).size + 1 ≤ 9223372036854775807 then ((spec_NumText.f k ((rd_T55 x0 x4).f3)).bind fun t672 => (if ((((((x3 ++ ((rd_T55 x0 x4).f0)) ++ (⟨#[58]⟩ : ByteArray)) ++ t668) ++ (⟨#[47]⟩ : ByteArray)) ++ t670) ++ (⟨#[47]⟩ : ByteArray)).size + t672.size ≤ 9223372036854775807 then (if (((((((x3 ++ ((rd_T55 x0 x4).f0)) ++ (⟨#[58]⟩ : ByteArray)) ++ t668) ++ (⟨#[47]⟩ : ByteArray)) ++ t670) ++ (⟨#[47]⟩ : ByteArray)) ++ t672).size + 1 ≤ 9223372036854775807 then ((spec_NumText.f k ((rd_T55 x0 x4).f4)).bind fun t674 => (if ((((((((x3 ++ ((rd_T55 x0 x4).f0)) ++ (⟨#[58]⟩ : ByteArray)) ++ t668) ++ (⟨#[47]⟩ : ByteArray)) ++ t670) ++ (⟨#[47]⟩ : ByteArray)) ++ t672) ++ (⟨#[47]⟩ : ByteArray)).size + t674.size ≤ 9223372036854775807 then (spec_ConfText.l0 k x0 (((((((((x3 ++ ((rd_T55 x0 x4).f0)) ++ (⟨#[58]⟩ : ByteArray)) ++ t668) ++ (⟨#[47]⟩ : ByteArray)) ++ t670) ++ (⟨#[47]⟩ : ByteArray)) ++ t672) ++ (⟨#[47]⟩ : ByteArray)) ++ t674) (wrap64 (x4 + 1))) else (none))) else (none)) else (none))) else (none)) else (none))) else (none)) else (none))) else (none)) else (none)) else (none)) else (none)
end
def spec_ConfText.f (k : Nat) (l0 : List (S55)) : Option (ByteArray) := spec_ConfText.l0 k l0 (⟨#[]⟩ : ByteArray) 0
def spec_l3Text.f (k : Nat) (s0_0 : List Int) (s0_1 : Int) (s0_2 : Int) : Option (ByteArray × Int × Int) := (spec_l1Once.f s0_0 s0_1 s0_2 3).bind fun bt675 => (if bt675.1 = true then ((spec_l1Str.f s0_0 bt675.2.1 bt675.2.2 (([(⟨#[]⟩ : ByteArray), (⟨#[109, 97, 105, 110]⟩ : ByteArray), (⟨#[109, 97, 105, 110, 58, 49]⟩ : ByteArray), (⟨#[109, 97, 105, 110, 58, 49, 47, 50, 47, 51]⟩ : ByteArray), (⟨#[109, 97, 105, 110, 58, 48, 49, 47, 50, 47, 51, 47, 52]⟩ : ByteArray), (⟨#[109, 97, 105, 110, 58, 49, 47, 50, 47, 51, 47, 52, 59]⟩ : ByteArray), (⟨#[59, 109, 97, 105, 110, 58, 49, 47, 50, 47, 51, 47, 52]⟩ : ByteArray), (⟨#[109, 97, 105, 110, 58, 49, 47, 50, 47, 51, 47, 52, 59, 109, 97, 105, 110, 58, 49, 47, 49, 47, 49, 47, 49]⟩ : ByteArray), (⟨#[109, 97, 105, 110, 58, 49, 47, 50, 47, 51, 47, 52, 47, 53]⟩ : ByteArray), (⟨#[109, 97, 105, 110, 58, 52, 47, 50, 47, 51, 47, 52]⟩ : ByteArray), (⟨#[109, 97, 105, 110, 58, 49, 47, 53, 47, 51, 47, 52]⟩ : ByteArray), (⟨#[109, 97, 105, 110, 58, 49, 47, 50, 47, 48, 47, 52]⟩ : ByteArray), (⟨#[109, 97, 105, 110, 58, 49, 47, 50, 47, 51, 47, 49, 48, 48]⟩ : ByteArray), (⟨#[77, 97, 105, 110, 58, 49, 47, 50, 47, 51, 47, 52]⟩ : ByteArray), (⟨#[109, 97, 105, 110, 58, 49, 47, 50, 47, 51, 47, 52, 32]⟩ : ByteArray), (⟨#[58, 49, 47, 50, 47, 51, 47, 52]⟩ : ByteArray), (⟨#[97, 58, 49, 47, 48, 47, 49, 47, 49, 59, 98, 58, 49, 47, 48, 47, 49, 47, 49, 59, 99, 58, 49, 47, 48, 47, 49, 47, 49, 59, 100, 58, 49, 47, 48, 47, 49, 47, 49]⟩ : ByteArray), (⟨#[97, 58, 98, 58, 49, 47, 50, 47, 51, 47, 52]⟩ : ByteArray)] : List ByteArray))).bind fun bt681 => (some (bt681.1, bt681.2.1, bt681.2.2))) else ((spec_l3Draw.f k s0_0 bt675.2.1 bt675.2.2).bind fun bt684 => ((spec_ConfText.f k bt684.1).bind fun t689 => (some (t689, bt684.2.1, bt684.2.2)))))
def spec_l1Bend.f (s0_0 : List Int) (s0_1 : Int) (s0_2 : Int) (l1 : List Int) : Option (List Int × Int × Int) := (some (([] : List Int) : List Int)).bind fun y690 => (if y690.length + l1.length < 140737488355328 then ((some (y690 ++ l1 : List Int)).bind fun y693 => ((spec_l1Below.f s0_0 s0_1 s0_2 8).bind fun bt696 => (if bt696.1 = 0 then (if (y693.length : Int) > 0 then ((spec_l1Below.f s0_0 bt696.2.1 bt696.2.2 (y693.length : Int)).bind fun bt699 => (if 0 ≤ bt699.1 then (if bt699.1 < (y693.length : Int) then ((spec_l1Below.f s0_0 bt699.2.1 bt699.2.2 255).bind fun bt703 => (some ((y693.set (bt699.1 : Int).toNat (Go.bits .xor .u8 (rd y693 bt699.1) ((wrap64 (1 + bt703.1)) % 256))), bt703.2.1, bt703.2.2))) else (none)) else (none))) else (some (y693, bt696.2.1, bt696.2.2))) else (if bt696.1 = 1 then (if (y693.length : Int) > 0 then ((spec_l1Below.f s0_0 bt696.2.1 bt696.2.2 (y693.length : Int)).bind fun bt707 => (if 0 ≤ bt707.1 then (if bt707.1 ≤ (y693.length : Int) then (some ((y693.take (bt707.1 : Int).toNat), bt707.2.1, bt707.2.2)) else (none)) else (none))) else (some (y693, bt696.2.1, bt696.2.2))) else (if bt696.1 = 2 then ((spec_l1Byte.f s0_0 bt696.2.1 bt696.2.2).bind fun bt713 => (if y693.length < 140737488355328 then (some ((y693 ++ [(bt713.1) % 256]), bt713.2.1, bt713.2.2)) else (none))) else (some (y693, bt696.2.1, bt696.2.2))))))) else (none))
def spec_DrawParseConf.f (k : Nat) (l0 : List Int) : Option (ByteArray) := (spec_l1New.f k l0).bind fun bt1 => ((spec_l3Text.f k bt1.1 bt1.2.1 bt1.2.2).bind fun bt2 => ((spec_l1Once.f bt1.1 bt2.2.1 bt2.2.2 6).bind fun bt3 => (if bt3.1 = true then (if (bt2.1.size : Int) ≤ 9223372036854775807 then ((spec_l1Bend.f bt1.1 bt3.2.1 bt3.2.2 (bytesOf bt2.1)).bind fun bt4 => (some (strOfNums bt4.1))) else (none)) else (some bt2.1))))
def spec_DrawSameConf.f (k : Nat) (l0 : List Int) : Option ((List (S55)) × (List (S55))) := (spec_l1New.f k l0).bind fun bt719 => ((spec_l3Any.f k bt719.1 bt719.2.1 bt719.2.2).bind fun bt723 => ((spec_l1Once.f bt719.1 bt723.2.1 bt723.2.2 2).bind fun bt728 => (if bt728.1 = true then ((some (([] : List (S55)) : List (S55))).bind fun y731 => (if y731.length + bt723.1.length < 2932031007402 then (some (bt723.1, (y731 ++ bt723.1))) else (none))) else ((spec_l3Any.f k bt719.1 bt728.2.1 bt728.2.2).bind fun bt737 => (some (bt723.1, bt737.1))))))
def impl_Db_75.l0 : Nat → List (S55) → List (S55) → Int → Int → Option (Bool)
  | 0, _, _, _, _ => none
  | k + 1, x0, x1, x12, x13 => if x13 < x12 then (if 0 ≤ x13 then (if x13 < (x0.length : Int) then (if x13 < (x1.length : Int) then (if (!((((rd_T55 x0 x13).f0).toList) == (((rd_T55 x1 x13).f0).toList)) || (!(((rd_T55 x0 x13).f1) == ((rd_T55 x1 x13).f1)) || (!(((rd_T55 x0 x13).f2) == ((rd_T55 x1 x13).f2)) || (!(((rd_T55 x0 x13).f3) == ((rd_T55 x1 x13).f3)) || (!(((rd_T55 x0 x13).f4) == ((rd_T55 x1 x13).f4))))))) = true then (some false) else (impl_Db_75.l0 k x0 x1 x12 (wrap64 (x13 + 1)))) else (none)) else (none)) else (none)) else (some true)
def impl_Db_75.f (k : Nat) (l0 : List (S55)) (l1 : List (S55)) : Option (Bool) := if (l0.length : Int) = (l1.length : Int) then (impl_Db_75.l0 k l0 l1 (l0.length : Int) 0) else (some false)
def impl_SameConf.f (k : Nat) (l0 : List (S55)) (l1 : List (S55)) : Option (Bool) := (impl_Db_75.f k l0 l1).bind fun t744 => (some t744)
def spec_SameConf.l0 : Nat → List (S55) → List (S55) → Int → Option (Bool)
  | 0, _, _, _ => none
  | k + 1, x0, x1, x5 => if x5 < (x0.length : Int) then (if 0 ≤ x5 then (if x5 < (x1.length : Int) then (if (!((((rd_T55 x0 x5).f0).toList) == (((rd_T55 x1 x5).f0).toList)) || (!(((rd_T55 x0 x5).f1) == ((rd_T55 x1 x5).f1)) || (!(((rd_T55 x0 x5).f2) == ((rd_T55 x1 x5).f2)) || (!(((rd_T55 x0 x5).f3) == ((rd_T55 x1 x5).f3)) || (!(((rd_T55 x0 x5).f4) == ((rd_T55 x1 x5).f4))))))) = true then (some false) else (spec_SameConf.l0 k x0 x1 (wrap64 (x5 + 1)))) else (none)) else (none)) else (some true)
def spec_SameConf.f (k : Nat) (l0 : List (S55)) (l1 : List (S55)) : Option (Bool) := if (l0.length : Int) = (l1.length : Int) then (spec_SameConf.l0 k l0 l1 0) else (some false)
def impl_DbAt.f (l0 : List (S55)) (a1 : ByteArray) : Option (ByteArray × Int × Int × Int × Int × Bool) := (impl_dbPlace.f l0 a1).bind fun t748 => (if t748 < 0 then (some ((⟨#[]⟩ : ByteArray), 0, 0, 0, 0, false)) else (if 0 ≤ t748 then (if t748 < (l0.length : Int) then (some ((rd_T55 l0 t748).f0, (rd_T55 l0 t748).f1, (rd_T55 l0 t748).f2, (rd_T55 l0 t748).f3, (rd_T55 l0 t748).f4, true)) else (none)) else (none)))
mutual
def laws_FnConfs.j0 : Nat → List (S55) → ByteArray → List (S55) → Bool → Bool → Option (Bool)
  | 0, _, _, _, _, _ => none
  | k + 1, x3, x4, x5, x6, x72 => if x72 = true then (some false) else ((impl_ConfOk.f k x3).bind fun t781 => (if t781 = true then (laws_FnConfs.l0 k x3 x5 x6 0) else (if x4.toList = ([] : List UInt8) then (some (!x6)) else (some false))))
def laws_FnConfs.l0 : Nat → List (S55) → List (S55) → Bool → Int → Option (Bool)
  | 0, _, _, _, _ => none
  | k + 1, x3, x5, x6, x14 => if x14 < (x3.length : Int) then (if 0 ≤ x14 then ((impl_DbAt.f x3 ((rd_T55 x3 x14).f0)).bind fun bt783 => (if bt783.2.2.2.2.2 = true then (if (!(bt783.1.toList == (((rd_T55 x3 x14).f0).toList)) || (!(bt783.2.1 == ((rd_T55 x3 x14).f1)) || (!(bt783.2.2.1 == ((rd_T55 x3 x14).f2)) || (!(bt783.2.2.2.1 == ((rd_T55 x3 x14).f3)) || (!(bt783.2.2.2.2.1 == ((rd_T55 x3 x14).f4))))))) = true then (some false) else (laws_FnConfs.l0 k x3 x5 x6 (wrap64 (x14 + 1)))) else (some false))) else (none)) else (if x6 = true then ((impl_SameConf.f k x3 x5).bind fun t791 => (some t791)) else (some false))
end
def laws_FnConfs.f (k : Nat) (l0 : List Int) : Option (Bool) := (laws_big.f l0).bind fun t750 => (if t750 = true then (some true) else ((spec_DrawConfText.f k l0).bind fun t751 => ((impl_ConfText.f k t751).bind fun t754 => ((impl_ParseConf.f k t754).bind fun bt755 => ((spec_DrawParseConf.f k l0).bind fun t759 => ((impl_ParseConf.f k t759).bind fun bt760 => ((spec_ParseConf.f k t759).bind fun bt764 => ((spec_DrawSameConf.f k l0).bind fun bt768 => ((impl_ConfOk.f k t751).bind fun t774 => ((spec_ConfOk.f k t751).bind fun t775 => (if (t774 != t775) = true then (laws_FnConfs.j0 k t751 t754 bt755.1 bt755.2 true) else (if (bt760.2 != bt764.2) = true then (laws_FnConfs.j0 k t751 t754 bt755.1 bt755.2 true) else (if bt760.2 = true then ((impl_ConfText.f k bt760.1).bind fun t776 => (if t776.toList = t759.toList then ((impl_SameConf.f k bt768.1 bt768.2).bind fun t777 => ((spec_SameConf.f k bt768.1 bt768.2).bind fun t778 => (laws_FnConfs.j0 k t751 t754 bt755.1 bt755.2 (t777 != t778)))) else (laws_FnConfs.j0 k t751 t754 bt755.1 bt755.2 true))) else ((impl_SameConf.f k bt768.1 bt768.2).bind fun t779 => ((spec_SameConf.f k bt768.1 bt768.2).bind fun t780 => (laws_FnConfs.j0 k t751 t754 bt755.1 bt755.2 (t779 != t780)))))))))))))))))
def laws_FnConfs.Pure : Prop := ∀ (l0 : List Int), l0.length ≤ maxLen → l0.length * 1 ≤ 140737488351232 → (∀ x ∈ l0, (Lit.int .u8 x).wf = true) → ∃ k, laws_FnConfs.f k l0 = some true
end Go.Proofs.YthkepmicdpgbbaaDoor.P
