/- Texts of this seat's claims, put together: PkYEl1 -/
import Derived.Test.YthkepmicdpgbbaaGreatDoorPkYzB7
/- What the functions' codes come to. -/
namespace Go.Proofs.YthkepmicdpgbbaaGreatDoor.E
open Go Go.RowKit Go.Proofs.YthkepmicdpgbbaaGreatDoorW.PrintWords Go.Proofs.YthkepmicdpgbbaaGreatDoor.P
set_option linter.unusedVariables false
set_option linter.unusedSimpArgs false
set_option maxHeartbeats 0
set_option maxRecDepth 100000
theorem gYl1 : (∀ {l0 a1 r}, laws_szByteS.f l0 a1 = some r → Spec Tryz.prog 108 [.v (.row (List.map e5 l0)), .v (.i .i64 a1)] [] (.v (.i .i64 r)) []) ∧
  (∀ {kf l0 r}, laws_toByteS.f kf l0 = some r → Spec Tryz.prog 111 [.v (.row (List.map e5 l0))] [] (.own 0 (List.map e5 r).length) [.arr 1 5 false (List.map e5 r)]) ∧
  (∀ {kf l0 l1 r}, laws_eqByteS.f kf l0 l1 = some r → Spec Tryz.prog 113 [.v (.row (List.map e5 l0)), .v (.row (List.map e5 l1))] [] (.v (.b r)) []) ∧
  (∀ {a0_0 a0_1 a0_2 a0_3 a1 r}, laws_szRec.f a0_0 a0_1 a0_2 a0_3 a1 = some r → Spec Tryz.prog 33 [.agg [.v (.i .i64 a0_0), .v (.i .i64 a0_1), .v (.i .i64 a0_2), .v (.s a0_3)], .v (.i .i64 a1)] [] (.v (.i .i64 r)) []) ∧
  (∀ {a0_0 a0_1 a0_2 a0_3 r}, laws_toRec.f a0_0 a0_1 a0_2 a0_3 = some r → Spec Tryz.prog 35 [.agg [.v (.i .i64 a0_0), .v (.i .i64 a0_1), .v (.i .i64 a0_2), .v (.s a0_3)]] [] (.agg [.v (.i .i64 r.1), .v (.i .i64 r.2.1), .v (.i .i64 r.2.2.1), .v (.s r.2.2.2)]) []) ∧
  (∀ {kf l0 a1 r}, laws_markByteS.f kf l0 a1 = some r → Spec Tryz.prog 121 [.own 0 (List.map e5 l0).length, .v (.i .i64 a1)] [.arr 1 5 false (List.map e5 l0)] (.v (.i .i64 r.1)) [.arr 1 5 false (List.map e5 r.2)]) ∧
  (∀ {kf l0 a1 r}, laws_heldByteS.f kf l0 a1 = some r → Spec Tryz.prog 122 [.v (.row (List.map e5 l0)), .v (.i .i64 a1)] [] (.v (.i .i64 r)) []) ∧
  (∀ {l0 r}, laws_big.f l0 = some r → Spec Tryz.prog 9 [.v (.row (List.map e5 l0))] [] (.v (.b r)) []) ∧
  (∀ {l0 l1 r}, laws_same.f l0 l1 = some r → Spec Tryz.prog 17 [.v (.row (List.map e5 l0)), .v (.row (List.map e5 l1))] [] (.v (.b r)) []) ∧
  (∀ {l0 a1 r}, laws_at.f l0 a1 = some r → Spec Tryz.prog 30 [.v (.row (List.map e5 l0)), .v (.i .i64 a1)] [] (.v (.i .i64 r)) []) := by
  refine ⟨@fun l0 a1 r H => fn_okF (E := env) Tryz.func108 (by rfl) rfl (n := 10) (by rfl) ?_,
   @fun kf l0 r H => fn_okF (E := env) Tryz.func111 (by rfl) rfl (n := 21) (by rfl) ?_,
   @fun kf l0 l1 r H => fn_okF (E := env) Tryz.func113 (by rfl) rfl (n := 24) (by rfl) ?_,
   @fun a0_0 a0_1 a0_2 a0_3 a1 r H => fn_okF (E := env) Tryz.func33 (by rfl) rfl (n := 11) (by rfl) ?_,
   @fun a0_0 a0_1 a0_2 a0_3 r H => fn_okF (E := env) Tryz.func35 (by rfl) rfl (n := 16) (by rfl) ?_,
   @fun kf l0 a1 r H => fn_okF (E := env) Tryz.func121 (by rfl) rfl (n := 18) (by rfl) ?_,
   @fun kf l0 a1 r H => fn_okF (E := env) Tryz.func122 (by rfl) rfl (n := 20) (by rfl) ?_,
   @fun l0 r H => fn_okF (E := env) Tryz.func9 (by rfl) rfl (n := 5) (by rfl) ?_,
   @fun l0 l1 r H => fn_okF (E := env) Tryz.func17 (by rfl) rfl (n := 8) (by rfl) ?_,
   @fun l0 a1 r H => fn_okF (E := env) Tryz.func30 (by rfl) rfl (n := 19) (by rfl) ?_⟩
  all_goals simp only [laws_szByteS.f, laws_toByteS.f, laws_eqByteS.f, laws_szRec.f, laws_toRec.f, laws_markByteS.f, laws_heldByteS.f, laws_big.f, laws_same.f, laws_at.f, Option.bind_some, List.nil_append, if_true, if_false, Bool.false_eq_true, nilB, nilE] at H
  all_goals repeat' ((conv => whnf); first
   | ((with_reducible have hp := peel_ H); clear H; obtain ⟨_, H⟩ := hp)
   | ((with_reducible have hp := peeln_ H); clear H; obtain ⟨_, H⟩ := hp)
   | (with_reducible replace H := itet_ H)
   | (with_reducible replace H := itef_ H)
   | ((with_reducible refine sideid_ ?_); refine side_ ?_)
   | ((with_reducible refine seqid_ ?_); refine sgo_ ?_)
   | ((with_reducible refine brid_ ?_); first
    | (with_reducible refine brct_ ?_)
    | (with_reducible refine brcf_ ?_)
    | (with_reducible refine brt_ ?_)
    | (with_reducible refine brf_ ?_)
    | (refine bra_ H (fun _ H => ?_) (fun _ H => ?_))
    | (refine brna_ H (fun _ H => ?_) (fun _ H => ?_))
    | (refine brt_ ?_)
    | (refine brf_ ?_)
    | (refine bre_ H (fun _ H => ?_) (fun _ H => ?_))
    | (refine brne_ H (fun _ H => ?_) (fun _ H => ?_)))
   | ((with_reducible refine br2id_ ?_); first
    | (refine br2t_ ?_)
    | (refine br2f_ ?_))
   | ((with_reducible refine blkid_ ?_); refine bgo_ ?_)
   | ((with_reducible refine normid_ ?_); first
    | (refine norm_nilapp ?_)
    | (refine norm_appnil ?_)
    | (refine norm_app ?_)
    | (refine norm_t ?_)
    | (refine norm_d ?_)
    | (refine norm_td ?_)
    | (refine norm_set (e := 5) (f := e5) _ rfl ?_)
    | (refine norm_rep (e := 5) (f := e5) _ rfl ?_))
   | ((with_reducible refine elemid_ ?_); refine elema_ (f := e5) 0 (rd _ _) rfl ?_)
   | ((with_reducible refine lenid_ ?_); refine lenm_ ?_)
   | ((with_reducible refine strid_ ?_); first
    | (refine stre_ ?_)
    | (refine stre0_ ?_))
   | ((with_reducible refine handid_ ?_); refine handa_ ?_)
   | ((with_reducible refine mkid_ ?_); refine mka_ ?_)
   | ((with_reducible refine loopid_ ?_); (first
    | ((with_reducible have hk := idH_ (F := fun k => laws_heldByteS.l0 k _ _ _) H); clear hk; refine loopK_ (fun n s h => ∃ x0 x1 x5, laws_heldByteS.l0 n x0 x1 x5 = some r ∧ s = spr 22 0 [(0, .v (.row (List.map e5 x0))), (1, .v (.i .i64 x1)), (5, .v (.i .i64 x5))] ∧ h = []) [] [] [] (bsp 22 0 [0, 1, 5]) _ (by (conv => whnf); refine ⟨_, _, _, H, rfl, rfl⟩) ?_; rintro n s h hn ⟨x0, x1, x5, H, rfl, rfl⟩)
    | ((with_reducible have hk := idH_ (F := fun k => laws_markByteS.l0 k _ _ _) H); clear hk; refine loopK_ (fun n s h => ∃ x0 x1 x5, laws_markByteS.l0 n x0 x1 x5 = some r ∧ s = spr 20 0 [(0, .own 0 (List.map e5 x0).length), (1, .v (.i .i64 x1)), (5, .v (.i .i64 x5))] ∧ h = [.arr 1 5 false (List.map e5 x0)]) [] [] [] (bsp 20 0 [0, 1, 5]) _ (by (conv => whnf); refine ⟨_, _, _, H, rfl, rfl⟩) ?_; rintro n s h hn ⟨x0, x1, x5, H, rfl, rfl⟩)
    | ((with_reducible have hk := idH_ (F := fun k => laws_eqByteS.l0 k _ _ _) H); clear hk; refine loopK_ (fun n s h => ∃ x0 x1 x5, laws_eqByteS.l0 n x0 x1 x5 = some r ∧ s = spr 26 0 [(0, .v (.row (List.map e5 x0))), (1, .v (.row (List.map e5 x1))), (5, .v (.i .i64 x5))] ∧ h = []) [] [] [] (bsp 26 0 [0, 1, 5]) _ (by (conv => whnf); refine ⟨_, _, _, H, rfl, rfl⟩) ?_; rintro n s h hn ⟨x0, x1, x5, H, rfl, rfl⟩)
    | ((with_reducible have hk := idH_ (F := fun k => laws_toByteS.l0 k _ _ _) H); clear hk; refine loopK_ (fun n s h => ∃ x0 x3 x4, laws_toByteS.l0 n x0 x3 x4 = some r ∧ s = spr 22 0 [(0, .v (.row (List.map e5 x0))), (3, .own 0 (List.map e5 x3).length), (4, .v (.i .i64 x4))] ∧ h = [.arr 1 5 false (List.map e5 x3)]) [] [] [] (bsp 22 0 [0, 3, 4]) _ (by (conv => whnf); refine ⟨_, _, _, H, rfl, rfl⟩) ?_; rintro n s h hn ⟨x0, x3, x4, H, rfl, rfl⟩)); all_goals (obtain _ | kf := n; (· first | (cases H; done) | (simp only [laws_eqByteS.l0, laws_heldByteS.l0, laws_markByteS.l0, laws_toByteS.l0] at H; cases H; done)); simp only [laws_eqByteS.l0, laws_heldByteS.l0, laws_markByteS.l0, laws_toByteS.l0, Option.bind_some, List.nil_append, if_true, if_false, Bool.false_eq_true, nilB, nilE] at H))
   | ((with_reducible refine nextid_ ?_); (first
    | (refine nextK_ (P := fun m => laws_heldByteS.l0 m _ _ _ = some _) H (bsp 22 0 [0, 1, 5]) ?_ ?_ ?_)
    | (refine nextK_ (P := fun m => laws_markByteS.l0 m _ _ _ = some _) H (bsp 20 0 [0, 1, 5]) ?_ ?_ ?_)
    | (refine nextK_ (P := fun m => laws_eqByteS.l0 m _ _ _ = some _) H (bsp 26 0 [0, 1, 5]) ?_ ?_ ?_)
    | (refine nextK_ (P := fun m => laws_toByteS.l0 m _ _ _ = some _) H (bsp 22 0 [0, 3, 4]) ?_ ?_ ?_)); (conv => whnf); (first | refine ⟨_, _, _, H, ?_, rfl⟩ | refine ⟨_, _, _, H, ?_, ?_⟩); all_goals first | omega | rfl | (repeat' (first | rfl | refine own_eq ?_ | refine box_eq ?_ | refine cons_eq ?_ ?_ | refine vi_eq ?_ | simp only [List.length_map, List.length_set, wm_])))
   | ((with_reducible refine finid_ ?_); refine finK_ [] ?_; (conv => whnf); replace H := Option.some.inj H; subst H; (conv => whnf); exact feq_ rfl))
end Go.Proofs.YthkepmicdpgbbaaGreatDoor.E
