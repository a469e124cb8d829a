/- Texts of this seat's claims, put together: PkYEi2 -/
import Derived.Test.YthkepmicdpgbbaaGreatDoorPkYzEi1
/- What the functions' codes come to. -/
namespace Go.Proofs.YthkepmicdpgbbaaGreatDoor.E
open Go Go.RowKit Go.Proofs.YthkepmicdpgbbaaGreatDoorW.PrintWords Go.Proofs.YthkepmicdpgbbaaGreatDoor.P
set_option linter.unusedVariables false
set_option linter.unusedSimpArgs false
set_option maxHeartbeats 0
set_option maxRecDepth 100000
theorem gYi2 : (∀ {kf a0 a1 r}, impl_ParseNum.f kf a0 a1 = some r → Spec Tryz.prog 133 [.v (.s a0), .v (.i .i64 a1)] [] (.tup [.v (.i .i64 r.1), .v (.b r.2)]) []) ∧
  (∀ {kf a0 r}, impl_nameOk.f kf a0 = some r → Spec Tryz.prog 150 [.v (.s a0)] [] (.v (.b r)) []) ∧
  (∀ {a0 r}, impl_wordOk.f a0 = some r → Spec Tryz.prog 44 [.v (.i .i64 a0)] [] (.v (.b r)) []) ∧
  (∀ {kf l0 a1 r}, impl_PutText.f kf l0 a1 = some r → Spec Tryz.prog 46 [.v (.row (List.map e5 l0)), .v (.s a1)] [] (.own 0 (List.map e5 r).length) [.arr 1 5 false (List.map e5 r)]) ∧
  (∀ {l0 a1 r}, impl_GetWord.f l0 a1 = some r → Spec Tryz.prog 55 [.v (.row (List.map e5 l0)), .v (.i .i64 a1)] [] (.tup [.v (.i .i64 r.1), .v (.i .i64 r.2.1), .v (.b r.2.2)]) []) ∧
  (∀ {kf l0 a1 r}, impl_GetText.f kf l0 a1 = some r → Spec Tryz.prog 56 [.v (.row (List.map e5 l0)), .v (.i .i64 a1)] [] (.tup [.v (.s r.1), .v (.i .i64 r.2.1), .v (.b r.2.2)]) []) ∧
  (∀ {kf l0_0 l0_1 a0_2 a0_3 r}, impl_DiskOk.f kf l0_0 l0_1 a0_2 a0_3 = some r → Spec Tryz.prog 78 [.agg [.v (.row (List.map e22 l0_0)), .v (.row (List.map e109 l0_1)), .v (.i .i64 a0_2), .v (.b a0_3)]] [] (.v (.b r)) []) ∧
  (∀ {kf a0_0 a0_1 a0_2 a0_3 a0_4 a0_5 r}, impl_RecsOf.f kf a0_0 a0_1 a0_2 a0_3 a0_4 a0_5 = some r → Spec Tryz.prog 83 [.agg [.v (.i .i64 a0_0), .v (.s a0_1), .v (.i .i64 a0_2), .v (.s a0_3), .v (.i .i64 a0_4), .v (.i .i64 a0_5)]] [] (.own 0 (List.map e25 r).length) [.arr 4 25 false (List.map e25 r)]) := by
  refine ⟨@fun kf a0 a1 r133 H => fn_okF (E := env) Tryz.func133 (by rfl) rfl (n := 52) (by rfl) ?_,
   @fun kf a0 r H => fn_okF (E := env) Tryz.func150 (by rfl) rfl (n := 22) (by rfl) ?_,
   @fun a0 r H => fn_okF (E := env) Tryz.func44 (by rfl) rfl (n := 4) (by rfl) ?_,
   @fun kf l0 a1 r H => fn_okF (E := env) Tryz.func46 (by rfl) rfl (n := 18) (by rfl) ?_,
   @fun l0 a1 r H => fn_okF (E := env) Tryz.func55 (by rfl) rfl (n := 26) (by rfl) ?_,
   @fun kf l0 a1 r56 H => fn_okF (E := env) Tryz.func56 (by rfl) rfl (n := 45) (by rfl) ?_,
   @fun kf l0_0 l0_1 a0_2 a0_3 r78 H => fn_okF (E := env) Tryz.func78 (by rfl) rfl (n := 56) (by rfl) ?_,
   @fun kf a0_0 a0_1 a0_2 a0_3 a0_4 a0_5 r H => fn_okF (E := env) Tryz.func83 (by rfl) rfl (n := 41) (by rfl) ?_⟩
  all_goals simp only [impl_ParseNum.f, impl_nameOk.f, impl_wordOk.f, impl_PutText.f, impl_GetWord.f, impl_GetText.f, impl_DiskOk.f, impl_RecsOf.f, Option.bind_some, List.nil_append, if_true, if_false, Bool.false_eq_true, nilB, nilE] at H
  all_goals repeat' ((conv => whnf); first
   | ((with_reducible have hp := peel_ H); clear H; obtain ⟨_, H⟩ := hp)
   | ((with_reducible have hp := peeln_ H); clear H; obtain ⟨_, H⟩ := hp)
   | (with_reducible replace H := itet_ H)
   | (with_reducible replace H := itef_ H)
   | ((with_reducible have hk := idH_ (F := fun k => impl_RecsOf.j0 k _ _ _ _ _ _ _) H); clear hk; have hk := suc_ (g := fun k => impl_RecsOf.j0 k _ _ _ _ _ _ _) H (by simp only [impl_RecsOf.j0]); obtain ⟨kf, hk⟩ := hk; subst hk; simp only [impl_RecsOf.j0, Option.bind_some, List.nil_append, if_true, if_false, Bool.false_eq_true, nilB, nilE] at H)
   | ((with_reducible refine sideid_ ?_); refine side_ ?_)
   | ((with_reducible refine seqid_ ?_); first
    | ((with_reducible refine scg_ 1 ?_); refine scut_ 1 (fun s h => ∃ x23 x869000 x869001 x869002 x869003, impl_DiskOk.j0 kf x23 x869000 x869001 x869002 x869003 = some r78 ∧ s = spr 57 0 [(1, .ptr 0 0), (23, .v (.b x23))] ∧ h = [.box 46 [.v (.row (List.map e22 x869000)), .v (.row (List.map e109 x869001)), .v (.i .i64 x869002), .v (.b x869003)]]) ?_ ?_)
    | ((with_reducible refine scg_ 1 ?_); refine scut_ 1 (fun s h => ∃ x0 x1 x27, impl_GetText.j0 kf x0 x1 x27 = some r56 ∧ s = spr 47 0 [(0, .v (.row (List.map e5 x0))), (1, .v (.i .i64 x1)), (27, .v (.b x27))] ∧ h = []) ?_ ?_)
    | ((with_reducible refine scg_ 1 ?_); refine scut_ 1 (fun s h => ∃ x0 x1 x25, impl_ParseNum.j0 kf x0 x1 x25 = some r133 ∧ s = spr 54 0 [(0, .v (.s x0)), (1, .v (.i .i64 x1)), (25, .v (.b x25))] ∧ h = []) ?_ ?_)
    | (refine sgo_ ?_))
   | ((with_reducible refine brid_ ?_); first
    | (with_reducible refine brct_ ?_)
    | (with_reducible refine brcf_ ?_)
    | (with_reducible refine brt_ ?_)
    | (with_reducible refine brf_ ?_)
    | (refine bra_ H (fun _ H => ?_) (fun _ H => ?_))
    | (refine brna_ H (fun _ H => ?_) (fun _ H => ?_))
    | (refine brt_ ?_)
    | (refine brf_ ?_)
    | (refine bre_ H (fun _ H => ?_) (fun _ H => ?_))
    | (refine brne_ H (fun _ H => ?_) (fun _ H => ?_)))
   | ((with_reducible refine br2id_ ?_); first
    | (refine br2t_ ?_)
    | (refine br2f_ ?_))
   | ((with_reducible refine blkid_ ?_); refine bgo_ ?_)
   | ((with_reducible refine normid_ ?_); first
    | (refine norm_nilapp ?_)
    | (refine norm_appnil ?_)
    | (refine norm_app ?_)
    | (refine norm_t ?_)
    | (refine norm_d ?_)
    | (refine norm_td ?_)
    | (refine norm_set (e := 25) (f := e25) ⟨_, _, _, _⟩ rfl ?_)
    | (refine norm_rep (e := 25) (f := e25) ⟨_, _, _, _⟩ rfl ?_)
    | (refine norm_lit (e := 25) (n := 0) (f := e25) [] rfl ?_)
    | (refine lit25 _ _ _ _ rfl ?_)
    | (refine norm_lit (e := 25) (n := 1) (f := e25) [⟨_, _, _, _⟩] rfl ?_)
    | (refine norm_lit (e := 25) (n := 2) (f := e25) [⟨_, _, _, _⟩, ⟨_, _, _, _⟩] rfl ?_)
    | (refine norm_set (e := 5) (f := e5) _ rfl ?_)
    | (refine norm_rep (e := 5) (f := e5) _ rfl ?_)
    | (refine norm_set (e := 22) (f := e22) _ rfl ?_)
    | (refine norm_rep (e := 22) (f := e22) _ rfl ?_)
    | (refine norm_rep (e := 22) (f := e22) [] rfl ?_)
    | (refine norm_set (e := 22) (f := e22) [] rfl ?_)
    | (refine norm_set (e := 109) (f := e109) ⟨_, _⟩ rfl ?_)
    | (refine norm_rep (e := 109) (f := e109) ⟨_, _⟩ rfl ?_)
    | (refine norm_rep (e := 109) (f := e109) ⟨_, []⟩ rfl ?_)
    | (refine norm_set (e := 109) (f := e109) ⟨_, []⟩ rfl ?_)
    | (refine norm_lit (e := 5) (n := 1) (f := e5) [_] rfl ?_))
   | ((with_reducible refine elemid_ ?_); first
    | (refine elema_ (f := e25) z25 (rd_T25 _ _) rfl ?_)
    | (refine elema_ (f := e5) 0 (rd _ _) rfl ?_)
    | (refine elema_ (f := e22) [] (rd_L6 _ _) rfl ?_)
    | (refine elema_ (f := e109) z109 (rd_T109 _ _) rfl ?_))
   | ((with_reducible refine lenid_ ?_); refine lenm_ ?_)
   | ((with_reducible refine strid_ ?_); first
    | (refine stre_ ?_)
    | (refine stre0_ ?_))
   | ((with_reducible refine callid_ ?_); (first | with_reducible have hp := bnd_ H | have hp := tl_ H); clear H; obtain ⟨_, ht, H⟩ := hp; (first
    | (with_reducible have ht := slices_Clone_byte_byte_ev ht)
    | (with_reducible have ht := gYi1.2.2.2.1 ht)
    | (with_reducible have ht := gYi1.1 ht)); refine call_ ht rfl rfl ?_)
   | ((with_reducible refine handid_ ?_); refine handa_ ?_)
   | ((with_reducible refine mkid_ ?_); refine mka_ ?_)
   | ((with_reducible refine loopid_ ?_); (first
    | ((with_reducible have hk := idH_ (F := fun k => impl_DiskOk.l0 k _ _ _ _ _ _ _) H); clear hk; refine loopK_ (fun n s h => ∃ x25 x26 x27 x869000 x869001 x869002 x869003, impl_DiskOk.l0 n x25 x26 x27 x869000 x869001 x869002 x869003 = some r78 ∧ s = spr 57 0 [(1, .ptr 0 0), (25, .v (.row (List.map e22 x25))), (26, .v (.i .i64 x26)), (27, .v (.i .i64 x27))] ∧ h = [.box 46 [.v (.row (List.map e22 x869000)), .v (.row (List.map e109 x869001)), .v (.i .i64 x869002), .v (.b x869003)]]) [] [] [] (bsp 57 0 [1, 25, 26, 27]) _ (by (conv => whnf); refine ⟨_, _, _, _, _, _, _, H, rfl, rfl⟩) ?_; rintro n s h hn ⟨x25, x26, x27, x869000, x869001, x869002, x869003, H, rfl, rfl⟩)
    | ((with_reducible have hk := idH_ (F := fun k => impl_DiskOk.l1 k _ _ _ _ _ _ _) H); clear hk; refine loopK_ (fun n s h => ∃ x36 x37 x38 x869000 x869001 x869002 x869003, impl_DiskOk.l1 n x36 x37 x38 x869000 x869001 x869002 x869003 = some r78 ∧ s = spr 57 0 [(1, .ptr 0 0), (36, .v (.row (List.map e109 x36))), (37, .v (.i .i64 x37)), (38, .v (.i .i64 x38))] ∧ h = [.box 46 [.v (.row (List.map e22 x869000)), .v (.row (List.map e109 x869001)), .v (.i .i64 x869002), .v (.b x869003)]]) [] [] [] (bsp 57 0 [1, 36, 37, 38]) _ (by (conv => whnf); refine ⟨_, _, _, _, _, _, _, H, rfl, rfl⟩) ?_; rintro n s h hn ⟨x36, x37, x38, x869000, x869001, x869002, x869003, H, rfl, rfl⟩)
    | ((with_reducible have hk := idH_ (F := fun k => impl_nameOk.l0 k _ _ _) H); clear hk; refine loopK_ (fun n s h => ∃ x0 x5 x6, impl_nameOk.l0 n x0 x5 x6 = some r ∧ s = spr 23 0 [(0, .v (.s x0)), (5, .v (.i .i64 x5)), (6, .v (.i .i64 x6))] ∧ h = []) [] [] [] (bsp 23 0 [0, 5, 6]) _ (by (conv => whnf); refine ⟨_, _, _, H, rfl, rfl⟩) ?_; rintro n s h hn ⟨x0, x5, x6, H, rfl, rfl⟩)
    | ((with_reducible have hk := idH_ (F := fun k => impl_ParseNum.l0 k _ _ _ _ _) H); clear hk; refine loopK_ (fun n s h => ∃ x0 x1 x6 x27 x28, impl_ParseNum.l0 n x0 x1 x6 x27 x28 = some r133 ∧ s = spr 54 0 [(0, .v (.s x0)), (1, .v (.i .i64 x1)), (6, .v (.i .i64 x6)), (27, .v (.i .i64 x27)), (28, .v (.i .i64 x28))] ∧ h = []) [] [] [] (bsp 54 0 [0, 1, 6, 27, 28]) _ (by (conv => whnf); refine ⟨_, _, _, _, _, H, rfl, rfl⟩) ?_; rintro n s h hn ⟨x0, x1, x6, x27, x28, H, rfl, rfl⟩)); all_goals (obtain _ | kf := n; (· first | (cases H; done) | (simp only [impl_DiskOk.l0, impl_DiskOk.l1, impl_ParseNum.l0, impl_nameOk.l0] at H; cases H; done)); simp only [impl_DiskOk.l0, impl_DiskOk.l1, impl_ParseNum.l0, impl_nameOk.l0, Option.bind_some, List.nil_append, if_true, if_false, Bool.false_eq_true, nilB, nilE] at H))
   | ((with_reducible refine nextid_ ?_); (first
    | (refine nextK_ (P := fun m => impl_DiskOk.l0 m _ _ _ _ _ _ _ = some _) H (bsp 57 0 [1, 25, 26, 27]) ?_ ?_ ?_)
    | (refine nextK_ (P := fun m => impl_DiskOk.l1 m _ _ _ _ _ _ _ = some _) H (bsp 57 0 [1, 36, 37, 38]) ?_ ?_ ?_)
    | (refine nextK_ (P := fun m => impl_nameOk.l0 m _ _ _ = some _) H (bsp 23 0 [0, 5, 6]) ?_ ?_ ?_)
    | (refine nextK_ (P := fun m => impl_ParseNum.l0 m _ _ _ _ _ = some _) H (bsp 54 0 [0, 1, 6, 27, 28]) ?_ ?_ ?_)); (conv => whnf); (first | refine ⟨_, _, _, H, ?_, rfl⟩ | refine ⟨_, _, _, H, ?_, ?_⟩ | refine ⟨_, _, _, _, _, H, ?_, rfl⟩ | refine ⟨_, _, _, _, _, H, ?_, ?_⟩ | refine ⟨_, _, _, _, _, _, _, H, ?_, rfl⟩ | refine ⟨_, _, _, _, _, _, _, H, ?_, ?_⟩); all_goals first | omega | rfl | (repeat' (first | rfl | refine own_eq ?_ | refine box_eq ?_ | refine cons_eq ?_ ?_ | refine vi_eq ?_ | simp only [List.length_map, List.length_set, wm_])))
   | ((with_reducible refine exid_ ?_); first
    | (have hk := idH_ (F := fun k => impl_DiskOk.j0 k _ _ _ _ _) H; refine weakK_ (ex := []) (us := []) (bs := []) (ms := (bsp 57 0 [1, 23])) ?_; (conv => whnf); refine ⟨_, _, _, _, _, hk, rfl, rfl⟩)
    | (have hk := idH_ (F := fun k => impl_GetText.j0 k _ _ _) H; refine weakK_ (ex := []) (us := []) (bs := []) (ms := (bsp 47 0 [0, 1, 27])) ?_; (conv => whnf); refine ⟨_, _, _, hk, rfl, rfl⟩)
    | (have hk := idH_ (F := fun k => impl_ParseNum.j0 k _ _ _) H; refine weakK_ (ex := []) (us := []) (bs := []) (ms := (bsp 54 0 [0, 1, 25])) ?_; (conv => whnf); refine ⟨_, _, _, hk, rfl, rfl⟩))
   | ((with_reducible refine allid_ ?_); first
    | (intro s h hj; clear H; obtain ⟨x23, x869000, x869001, x869002, x869003, H, rfl, rfl⟩ := hj; have hk := suc_ (g := fun k => impl_DiskOk.j0 k _ _ _ _ _) H (by simp only [impl_DiskOk.j0]); obtain ⟨kf, hk⟩ := hk; subst hk; simp only [impl_DiskOk.j0, Option.bind_some, List.nil_append, if_true, if_false, Bool.false_eq_true, nilB, nilE] at H)
    | (intro s h hj; clear H; obtain ⟨x0, x1, x27, H, rfl, rfl⟩ := hj; have hk := suc_ (g := fun k => impl_GetText.j0 k _ _ _) H (by simp only [impl_GetText.j0]); obtain ⟨kf, hk⟩ := hk; subst hk; simp only [impl_GetText.j0, Option.bind_some, List.nil_append, if_true, if_false, Bool.false_eq_true, nilB, nilE] at H)
    | (intro s h hj; clear H; obtain ⟨x0, x1, x25, H, rfl, rfl⟩ := hj; have hk := suc_ (g := fun k => impl_ParseNum.j0 k _ _ _) H (by simp only [impl_ParseNum.j0]); obtain ⟨kf, hk⟩ := hk; subst hk; simp only [impl_ParseNum.j0, Option.bind_some, List.nil_append, if_true, if_false, Bool.false_eq_true, nilB, nilE] at H))
   | ((with_reducible refine finid_ ?_); refine finK_ [] ?_; (conv => whnf); replace H := Option.some.inj H; subst H; (conv => whnf); exact feq_ rfl))
end Go.Proofs.YthkepmicdpgbbaaGreatDoor.E
