/- Texts of this seat's claims, put together: PureFnCrash -/
import Derived.Lib.Bytes
import Derived.Test.YthkepmicdpgbbaaGreatDoorPkYzP4
namespace Go.Proofs.YthkepmicdpgbbaaGreatDoor.Pure
set_option linter.unusedVariables false
set_option linter.unusedSimpArgs false
set_option linter.unusedVariables false
set_option linter.unusedSimpArgs false
open Go.RowKit Go.Proofs.YthkepmicdpgbbaaGreatDoorW.PrintWords Go.Proofs.YthkepmicdpgbbaaGreatDoor.P Go.Proofs.YthkepmicdpgbbaaGreatDoor.Base Go.Proofs.YthkepmicdpgbbaaGreatDoor.Fn
theorem crash_j1 {s : List (List Int)} {K : Kn} {G : Int} {P : Nat} (h : Inv s K G P) (hG : G ≤ 50000) (he : K.e ≤ 50000) (jg jp : Int) : Ev (fun k => laws_FnCrash.j1 k false s [] (-1) false K.g K.t K.pg K.pt K.e K.o jg jp) true := by
 have hk := Chain.known h.chain
 obtain ⟨_, _, p3, _⟩ := known_parts hk
 have w3 : wrap64 (K.e + 1) = K.e + 1 := w64 (by omega) (by omega)
 have es : (⟨#[]⟩ : ByteArray).size ≤ 1048576 := by decide
 have hf := fits_bare h.secs (-1) false
 have hj := (h.jour (d := ⟨s, [], -1, false⟩) ⟨rfl, rfl, by dsimp only; omega, by dsimp only; omega⟩).1
 have hs := (jourOf_ok ⟨s, [], -1, false⟩).1
 rw [hj] at hs
 dsimp only at hs
 have ha : K.app ⟨3, K.e + 1, 1, ⟨#[]⟩⟩ = (K.g, K.t, K.pg, K.pt, K.e + 1, 1, true) := by
  unfold Kn.app
  dsimp only
  exact apply_epoch hk (recOk_epoch (by omega) (by omega)) (by omega)
 have hc : K.can ⟨3, K.e + 1, 1, ⟨#[]⟩⟩ = true := by
  unfold Kn.can
  rw [ha]
 have e1 := impl_addRec ⟨s, [], -1, false⟩ hf ⟨3, K.e + 1, 1, ⟨#[]⟩⟩ es
 have e2 := impl_apply K.g K.t K.pg K.pt K.e K.o 3 (K.e + 1) 1 ⟨#[]⟩ (by have := hs.1; omega) (by have := hs.2; omega) es
 have e4 : applyK K.g K.t K.pg K.pt K.e K.o 3 (K.e + 1) 1 ⟨#[]⟩ = (K.g, K.t, K.pg, K.pt, K.e + 1, 1, true) := ha
 rw [e4] at e2
 obtain ⟨s', G', P', i', _, can, a⟩ := add_at h (f := -1) (by omega) _ hc (by omega)
 rw [addRec_yes can, addRecOk_yes can] at e1
 rcases a with ⟨hv, _⟩ | ⟨f, _, hf', e⟩
 ·exact absurd rfl hv
 obtain rfl := hf' rfl
 rw [e] at e1
 have e3 := impl_openJour ⟨s', [], -1, false⟩ (fits_bare i'.secs (-1) false)
 obtain ⟨j1, j2⟩ := i'.jour (d := ⟨s', [], -1, false⟩) ⟨rfl, rfl, by dsimp only; omega, by dsimp only; omega⟩
 rw [openJour_eq, j1, j2] at e3
 have hn : K.nextV ⟨3, K.e + 1, 1, ⟨#[]⟩⟩ = ⟨K.g, K.t, K.pg, K.pt, K.e + 1, 1⟩ := by
  unfold Kn.nextV
  rw [ha]
 rw [hn] at e3
 refine Ev.step (fun k => laws_FnCrash.j1.eq_2 _ _ _ _ _ _ _ _ _ _ _ _ _ k) (Ev.neg (by simp) ?_)
 rw [w3]
 refine Ev.bind e1 (Ev.bind e2 (Ev.bind e3 (Ev.pos rfl (Ev.pos rfl (Ev.done ?_)))))
 simp [Jn.tup]
theorem FnCrash : laws_FnCrash.Pure := by
 intro l0 _ hl hb
 have hbytes := Bytes.of_wf hb
 suffices h : Ev (fun k => laws_FnCrash.f k l0) true by
  obtain ⟨n, hn⟩ := h
  exact ⟨n, hn n (Nat.le_refl _)⟩
 unfold laws_FnCrash.f
 refine Ev.then (big l0) ?_
 by_cases hbig : (l0.length : Int) > 1048576
 ·exact Ev.pos (by simpa using hbig) (Ev.done rfl)
 refine Ev.neg (by simpa using hbig) ?_
 obtain ⟨d, r, keep, e0, hd, hc, hr, hrn⟩ := drawJour l0 (by omega)
 obtain ⟨t, ek, t0, t1⟩ := at_ l0 hbytes (by omega) 2 (by omega) (by omega)
 obtain ⟨s, K, G, P, rfl, hi, b1, b2, b3, b4⟩ := hd
 obtain ⟨j1, j2⟩ := hi.jour (d := ⟨s, [], -1, false⟩) ⟨rfl, rfl, by dsimp only; omega, by dsimp only; omega⟩
 have e1 := impl_openJour ⟨s, [], -1, false⟩ (fits_bare hi.secs (-1) false)
 rw [openJour_eq, j1, j2] at e1
 rw [j1] at hc
 have hs := (jourOf_ok ⟨s, [], -1, false⟩).1
 rw [j1] at hs
 dsimp only at hs
 have e2 := impl_apply K.g K.t K.pg K.pt K.e K.o r.kind r.n r.ow r.s (by have := hs.1; omega) (by have := hs.2; omega) (by omega)
 have hm : 0 ≤ Int.tmod t 11 ∧ Int.tmod t 11 < 11 := by rw [Int.tmod_eq_emod_of_nonneg t0]; omega
 generalize hf : Int.tmod t 11 = q at hm
 have wf : wrap64 (q - 1) = q - 1 := w64 (by omega) (by omega)
 have e3 := impl_addRec ⟨s, [], q - 1, false⟩ (fits_bare hi.secs (q - 1) false) r (by omega)
 obtain ⟨s', G', P', i', hG', can, a⟩ := add_at hi (f := q - 1) (by omega) r hc (by omega)
 rw [addRec_yes can, addRecOk_yes can] at e3
 obtain ⟨s2, K2, G2, P2, i2, hk2, hb2, hfall⟩ := fall_at i' (by omega) a keep
 have hfits := addTo_fits (d := ⟨s, [], q - 1, false⟩) (fits_bare hi.secs (q - 1) false) r
 have e4 := impl_fallDisk (addTo ⟨s, [], q - 1, false⟩ r) hfits keep
 rw [hfall] at e4
 obtain ⟨k1, k2⟩ := i2.jour (d := ⟨s2, [], -1, false⟩) ⟨rfl, rfl, by dsimp only; omega, by dsimp only; omega⟩
 have e5 := impl_openJour ⟨s2, [], -1, false⟩ (fits_bare i2.secs (-1) false)
 rw [openJour_eq, k1, k2] at e5
 have hA : applyK K.g K.t K.pg K.pt K.e K.o r.kind r.n r.ow r.s = K.app r := rfl
 rw [hA] at e2
 have hc2 : (K.app r).2.2.2.2.2.2 = true := hc
 have he2 : K2.e ≤ 50000 := by
  rcases hk2 with rfl | ⟨rfl, _⟩
  ·have := (nextV_small (K := K) (r := r) (m := 101) (by omega) (by omega) (by omega) (by omega) hrn).2.2; omega
  ·omega
 have hgo := crash_j1 i2 (by omega) he2 G2 (P2 : Int)
 refine Ev.bind e0 (Ev.bind e1 (Ev.bind e2 (Ev.then ek ?_)))
 rw [hf, wf]
 refine Ev.bind e3 (Ev.bind e4 (Ev.bind e5 (Ev.pos hc2 ?_)))
 refine Ev.step (fun k => laws_FnCrash.j0.eq_2 _ _ _ _ _ _ _ _ _ _ _ _ _ _ _ _ _ _ _ _ _ _ _ _ _ _ _ _ k) (Ev.neg (by simp [Jn.tup]) ?_)
 have hsame : ∀ a b : Kn, a = b → (!(a.g == b.g) || (!(a.t.toList == b.t.toList) || (!(a.pg == b.pg) || (!(a.pt.toList == b.pt.toList) || (!(a.e == b.e) || (!(a.o == b.o))))))) = false := fun a b h => by subst h; simp
 rcases hk2 with rfl | ⟨rfl, hdown⟩
 ·have hq := hsame (K.nextV r) (K.nextV r) rfl
  by_cases hu : (!(addTo ⟨s, [], q - 1, false⟩ r).down) = true
  ·refine Ev.pos hu (Ev.neg (fun h => ?_) hgo)
   exact absurd (hq.symm.trans h) (by decide)
  ·refine Ev.neg hu (Ev.neg (fun h => ?_) hgo)
   exact absurd (hq.symm.trans h) (by decide)
 ·refine Ev.neg (by show ¬ (!(addTo ⟨s, [], q - 1, false⟩ r).down) = true; rw [hdown]; simp) ?_
  have hq := hsame K2 K2 rfl
  by_cases hu : (!(K2.g == (K2.app r).1) || (!(K2.t.toList == (K2.app r).2.1.toList) || (!(K2.pg == (K2.app r).2.2.1) || (!(K2.pt.toList == (K2.app r).2.2.2.1.toList) || (!(K2.e == (K2.app r).2.2.2.2.1) || (!(K2.o == (K2.app r).2.2.2.2.2.1))))))) = true
  ·refine Ev.pos hu ?_
   dsimp only [Jn.tup]
   rw [hq]
   exact hgo
  ·exact Ev.neg hu hgo
end Go.Proofs.YthkepmicdpgbbaaGreatDoor.Pure
