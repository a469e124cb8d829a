/- Texts of this seat's claims, put together: OpenJour, PureFnExactOpenJour -/
import Derived.Test.YthkepmicdpgbbaaGreatDoorPkZB5
import Derived.Test.YthkepmicdpgbbaaGreatDoorPkZP2
/- What the printed functions that open a journal come to. -/
namespace Go.Proofs.YthkepmicdpgbbaaGreatDoor.Fn
set_option linter.unusedVariables false
set_option linter.unusedSimpArgs false
open Go.RowKit Go.Proofs.YthkepmicdpgbbaaGreatDoorW.PrintWords Go.Proofs.YthkepmicdpgbbaaGreatDoor.P Go.Proofs.YthkepmicdpgbbaaGreatDoor.Base

structure Jn where
  K : Kn
  G : Int
  P : Int
def Jn.zero : Jn := ⟨Kn.zero, 0, 0⟩
def Jn.tup (J : Jn) (b : Bool) : Int × ByteArray × Int × ByteArray × Int × Int × Int × Int × Bool := (J.K.g, J.K.t, J.K.pg, J.K.pt, J.K.e, J.K.o, J.G, J.P, b)
noncomputable def headAt (d : Dk) (i : Nat) : Int × Int × Bool := getHead (readSec d (i : Int))
noncomputable def stepJ (d : Dk) (i : Nat) (J : Jn) : Jn :=
  if (headAt d i).2.2 = true ∧ Int.tmod (headAt d i).1 2 = (i : Int) ∧ J.G < (headAt d i).1 then (if (headAt d i).2.1 ≤ (replay d (headAt d i).1).2 then ⟨(replay d (headAt d i).1).1, (headAt d i).1, (replay d (headAt d i).1).2⟩ else J) else J
theorem headAt_range (d : Dk) (i : Nat) (h : (headAt d i).2.2 = true) : 1 ≤ (headAt d i).1 ∧ (headAt d i).1 ≤ 60000 := by
  unfold headAt at h ⊢
  by_cases hc : readSec d (i : Int) ≠ [] ∧ headOf (word (readSec d (i : Int)) 0).1 (word (readSec d (i : Int)) 2).1 = readSec d (i : Int)
  · rw [getHead_yes hc]
    have h2 := hc.2
    unfold headOf at h2
    split at h2
    · rename_i hr; exact ⟨hr.1, hr.2.1⟩
    · exact absurd h2.symm hc.1
  · rw [getHead_no hc] at h; cases h
theorem stepJ_pos (d : Dk) (i : Nat) (J : Jn) (h : 0 ≤ J.G) : 0 ≤ (stepJ d i J).G := by
  unfold stepJ
  split
  · rename_i hc
    split
    · have := headAt_range d i hc.1
      simp only; omega
    · exact h
  · exact h
theorem spec_OJ_round (d : Dk) (hd : Fits d) (i : Nat) (hi : i < 2) (J : Jn) (r : Int × ByteArray × Int × ByteArray × Int × Int × Int × Int × Bool)
    (h : Ev (fun k => spec_OpenJour.l0 k ((i + 1 : Nat) : Int) d.secs d.cache d.fuse d.down (stepJ d i J).K.g (stepJ d i J).K.t (stepJ d i J).K.pg (stepJ d i J).K.pt (stepJ d i J).K.e (stepJ d i J).K.o (stepJ d i J).G (stepJ d i J).P) r) :
    Ev (fun k => spec_OpenJour.l0 k (i : Int) d.secs d.cache d.fuse d.down J.K.g J.K.t J.K.pg J.K.pt J.K.e J.K.o J.G J.P) r := by
  have hl := readSec_length hd (i : Int)
  refine Ev.step (fun k => spec_OpenJour.l0.eq_2 _ _ _ _ _ _ _ _ _ _ _ _ _ k) (Ev.pos (by omega) (Ev.bind (spec_readSec d hd _) (Ev.bind (spec_getHead _ (readSec_bytes hd _) (by omega)) ?_)))
  show Ev (fun k => if (headAt d i).2.2 = true then _ else _) _
  have hw : wrap64 ((i : Int) + 1) = ((i + 1 : Nat) : Int) := by rw [w64 (by omega) (by omega)]; rfl
  have bad : stepJ d i J = J → ∀ b : Bool, b = true → Ev (fun k => spec_OpenJour.j2 k (i : Int) (headAt d i).1 (headAt d i).2.1 b d.secs d.cache d.fuse d.down J.K.g J.K.t J.K.pg J.K.pt J.K.e J.K.o J.G J.P) r := by
    intro hs b hb
    rw [hs] at h
    refine Ev.step (fun k => spec_OpenJour.j2.eq_2 _ _ _ _ _ _ _ _ _ _ _ _ _ _ _ _ k) (Ev.pos hb ?_)
    rw [hw]
    exact h
  by_cases h1 : (headAt d i).2.2 = true
  case neg => exact Ev.neg h1 (bad (by unfold stepJ; rw [if_neg (fun q => h1 q.1)]) _ rfl)
  refine Ev.pos h1 ?_
  by_cases h2 : Int.tmod (headAt d i).1 2 = (i : Int)
  case neg => exact Ev.neg h2 (bad (by unfold stepJ; rw [if_neg (fun q => h2 q.2.1)]) _ rfl)
  refine Ev.pos h2 ?_
  by_cases h3 : J.G < (headAt d i).1
  case neg => exact bad (by unfold stepJ; rw [if_neg (fun q => h3 q.2.2)]) _ (decide_eq_true (Int.not_lt.1 h3))
  refine Ev.step (fun k => spec_OpenJour.j2.eq_2 _ _ _ _ _ _ _ _ _ _ _ _ _ _ _ _ k) (Ev.neg (fun q => Int.not_lt.2 (of_decide_eq_true q) h3) (Ev.bind (spec_replay d hd _) ?_))
  rw [hw]
  by_cases h4 : (headAt d i).2.1 ≤ (replay d (headAt d i).1).2
  · have hs : stepJ d i J = ⟨(replay d (headAt d i).1).1, (headAt d i).1, (replay d (headAt d i).1).2⟩ := by unfold stepJ; rw [if_pos ⟨h1, h2, h3⟩, if_pos h4]
    rw [hs] at h
    exact Ev.pos h4 h
  · have hs : stepJ d i J = J := by unfold stepJ; rw [if_pos ⟨h1, h2, h3⟩, if_neg h4]
    rw [hs] at h
    exact Ev.neg h4 h
theorem impl_OJ_round (d : Dk) (hd : Fits d) (i : Nat) (hi : i < 2) (J : Jn) (hJ : 0 ≤ J.G) (r : Int × ByteArray × Int × ByteArray × Int × Int × Int × Int × Bool)
    (h : Ev (fun k => impl_OpenJour.l0 k (decide (0 < (stepJ d i J).G)) ((i + 1 : Nat) : Int) d.secs d.cache d.fuse d.down (stepJ d i J).K.g (stepJ d i J).K.t (stepJ d i J).K.pg (stepJ d i J).K.pt (stepJ d i J).K.e (stepJ d i J).K.o (stepJ d i J).G (stepJ d i J).P) r) :
    Ev (fun k => impl_OpenJour.l0 k (decide (0 < J.G)) (i : Int) d.secs d.cache d.fuse d.down J.K.g J.K.t J.K.pg J.K.pt J.K.e J.K.o J.G J.P) r := by
  have hl := readSec_length hd (i : Int)
  refine Ev.step (fun k => impl_OpenJour.l0.eq_2 _ _ _ _ _ _ _ _ _ _ _ _ _ _ k) (Ev.pos (by omega) (Ev.bind (impl_readSec d hd _) (Ev.bind (impl_getHead _ (readSec_bytes hd _) (by omega)) ?_)))
  show Ev (fun k => if (headAt d i).2.2 = true then _ else _) _
  have hw : wrap64 ((i : Int) + 1) = ((i + 1 : Nat) : Int) := by rw [w64 (by omega) (by omega)]; rfl
  have bad : stepJ d i J = J → ∀ b : Bool, b = true → Ev (fun k => impl_OpenJour.j2 k (decide (0 < J.G)) (headAt d i).1 (headAt d i).2.1 (i : Int) b d.secs d.cache d.fuse d.down J.K.g J.K.t J.K.pg J.K.pt J.K.e J.K.o J.G J.P) r := by
    intro hs b hb
    rw [hs] at h
    refine Ev.step (fun k => impl_OpenJour.j2.eq_2 _ _ _ _ _ _ _ _ _ _ _ _ _ _ _ _ _ k) (Ev.pos hb ?_)
    rw [hw]
    exact h
  by_cases h1 : (headAt d i).2.2 = true
  case neg => exact Ev.neg h1 (bad (by unfold stepJ; rw [if_neg (fun q => h1 q.1)]) _ rfl)
  have hr := headAt_range d i h1
  refine Ev.pos h1 ?_
  by_cases h2 : Int.tmod (headAt d i).1 2 = (i : Int)
  case neg => exact bad (by unfold stepJ; rw [if_neg (fun q => h2 q.2.1)]) _ (bne_iff_ne.2 h2)
  refine Ev.step (fun k => impl_OpenJour.j2.eq_2 _ _ _ _ _ _ _ _ _ _ _ _ _ _ _ _ _ k) (Ev.neg (fun q => (bne_iff_ne.1 q) h2) (Ev.bind (impl_replay d hd _) ?_))
  rw [hw]
  by_cases h4 : (headAt d i).2.1 ≤ (replay d (headAt d i).1).2
  · refine Ev.pos h4 ?_
    by_cases h3 : J.G < (headAt d i).1
    · have hs : stepJ d i J = ⟨(replay d (headAt d i).1).1, (headAt d i).1, (replay d (headAt d i).1).2⟩ := by unfold stepJ; rw [if_pos ⟨h1, h2, h3⟩, if_pos h4]
      rw [hs, decide_eq_true (show 0 < (headAt d i).1 by omega)] at h
      by_cases h5 : 0 < J.G
      · exact Ev.pos (decide_eq_true h5) (Ev.pos h3 h)
      · exact Ev.neg (by rw [decide_eq_false h5]; decide) h
    · have hs : stepJ d i J = J := by unfold stepJ; rw [if_neg (fun q => h3 q.2.2)]
      rw [hs] at h
      exact Ev.pos (decide_eq_true (by omega)) (Ev.neg h3 h)
  · have hs : stepJ d i J = J := by
      unfold stepJ
      rw [if_neg h4]
      exact ite_self J
    rw [hs] at h
    exact Ev.neg h4 h
noncomputable def openJ (d : Dk) : Jn := stepJ d 1 (stepJ d 0 Jn.zero)
noncomputable def openJour (d : Dk) : Int × ByteArray × Int × ByteArray × Int × Int × Int × Int × Bool :=
  @ite _ (DiskOk d ∧ d.secs.length = 38) (Classical.propDecidable _) ((openJ d).tup (decide (0 < (openJ d).G))) (Jn.zero.tup false)
theorem openJour_yes {d : Dk} (h : DiskOk d ∧ d.secs.length = 38) : openJour d = (openJ d).tup (decide (0 < (openJ d).G)) := if_pos h
theorem openJour_no {d : Dk} (h : ¬ (DiskOk d ∧ d.secs.length = 38)) : openJour d = Jn.zero.tup false := if_neg h
theorem spec_openJour (d : Dk) (hd : Fits d) : Ev (fun k => spec_OpenJour.f k d.secs d.cache d.fuse d.down) (openJour d) := by
  unfold spec_OpenJour.f
  have bad : ¬ (DiskOk d ∧ d.secs.length = 38) → ∀ b : Bool, b = true → Ev (fun k => spec_OpenJour.j0 k b d.secs d.cache d.fuse d.down 0 (⟨#[]⟩ : ByteArray) 0 (⟨#[]⟩ : ByteArray) 0 0 0 0) (openJour d) := fun hn b hb =>
    Ev.step (fun k => spec_OpenJour.j0.eq_2 _ _ _ _ _ _ _ _ _ _ _ _ _ k) (Ev.pos hb (Ev.done (openJour_no hn).symm))
  refine Ev.bind (spec_diskOk d hd.1 hd.2.2.1) ?_
  by_cases h1 : DiskOk d
  case neg => rw [diskOk_no h1]; exact Ev.neg (by decide) (bad (fun h => h1 h.1) _ rfl)
  rw [(diskOk_iff d).2 h1]
  refine Ev.pos rfl ?_
  by_cases h2 : d.secs.length = 38
  case neg => exact bad (fun h => h2 h.2) _ (by simp; omega)
  rw [openJour_yes ⟨h1, h2⟩]
  refine Ev.step (fun k => spec_OpenJour.j0.eq_2 _ _ _ _ _ _ _ _ _ _ _ _ _ k) (Ev.neg (by simp [h2]) ?_)
  refine spec_OJ_round d hd 0 (by omega) Jn.zero _ (spec_OJ_round d hd 1 (by omega) (stepJ d 0 Jn.zero) _ ?_)
  exact Ev.step (fun k => spec_OpenJour.l0.eq_2 _ _ _ _ _ _ _ _ _ _ _ _ _ k) (Ev.neg (by omega) (Ev.done rfl))
theorem impl_openJour (d : Dk) (hd : Fits d) : Ev (fun k => impl_OpenJour.f k d.secs d.cache d.fuse d.down) (openJour d) := by
  unfold impl_OpenJour.f
  have bad : ¬ (DiskOk d ∧ d.secs.length = 38) → ∀ b : Bool, b = true → Ev (fun k => impl_OpenJour.j0 k false b d.secs d.cache d.fuse d.down 0 (⟨#[]⟩ : ByteArray) 0 (⟨#[]⟩ : ByteArray) 0 0 0 0) (openJour d) := fun hn b hb =>
    Ev.step (fun k => impl_OpenJour.j0.eq_2 _ _ _ _ _ _ _ _ _ _ _ _ _ _ k) (Ev.pos hb (Ev.done (openJour_no hn).symm))
  refine Ev.bind (impl_diskOk d hd.1 hd.2.2.1) ?_
  by_cases h1 : DiskOk d
  case neg => rw [diskOk_no h1]; exact Ev.neg (by decide) (bad (fun h => h1 h.1) _ rfl)
  rw [(diskOk_iff d).2 h1]
  refine Ev.pos rfl ?_
  by_cases h2 : d.secs.length = 38
  case neg => exact bad (fun h => h2 h.2) _ (by simp; omega)
  rw [openJour_yes ⟨h1, h2⟩]
  refine Ev.step (fun k => impl_OpenJour.j0.eq_2 _ _ _ _ _ _ _ _ _ _ _ _ _ _ k) (Ev.neg (by simp [h2]) ?_)
  have hz : (0 : Int) ≤ (stepJ d 0 Jn.zero).G := stepJ_pos d 0 Jn.zero (by decide)
  have hf := impl_OJ_round d hd 0 (by omega) Jn.zero (by decide) _ (impl_OJ_round d hd 1 (by omega) (stepJ d 0 Jn.zero) hz _ (Ev.step (fun k => impl_OpenJour.l0.eq_2 _ _ _ _ _ _ _ _ _ _ _ _ _ _ k) (Ev.neg (by omega) (Ev.done (r := (openJ d).tup (decide (0 < (openJ d).G))) rfl))))
  exact hf
end Go.Proofs.YthkepmicdpgbbaaGreatDoor.Fn

/- The pure statement of the law FnExactOpenJour: the program's OpenJour and the reference's come to one answer, and the disk stays. -/
namespace Go.Proofs.YthkepmicdpgbbaaGreatDoor.Pure
set_option linter.unusedVariables false
set_option linter.unusedSimpArgs false
open Go.RowKit Go.Proofs.YthkepmicdpgbbaaGreatDoorW.PrintWords Go.Proofs.YthkepmicdpgbbaaGreatDoor.P Go.Proofs.YthkepmicdpgbbaaGreatDoor.Base Go.Proofs.YthkepmicdpgbbaaGreatDoor.Fn
theorem eqJour_same (a : Int) (s : ByteArray) (b : Int) (u : ByteArray) (c d e f : Int) : laws_eqJour.f a s b u c d e f a s b u c d e f = some true := by
  unfold laws_eqJour.f
  rw [eqKnown_same]
  simp
theorem FnExactOpenJour : laws_FnExactOpenJour.Pure := by
  rintro secs cache fuse down ⟨hs, hgs⟩ ⟨hc, hgc⟩ hf
  refine Ev.rounds ?_
  unfold laws_FnExactOpenJour.f
  obtain ⟨r, e, h1, h2⟩ := szDisk secs cache fuse down 1048576 ⟨hs, fun x hx => (hgs x hx).1⟩ ⟨hc, fun x hx => (hgc x hx).2.1⟩ (by omega) (by omega)
  refine Ev.bind e ?_
  by_cases h : r < 0
  · exact Ev.pos h (Ev.done rfl)
  have h3 := h2 (by omega)
  have hd := fits_of fuse down hgs hgc h3
  have td := toDisk secs cache fuse down h3.1 h3.2
  refine Ev.neg h (Ev.bind td (Ev.bind (spec_openJour ⟨secs, cache.map wrOf, fuse, down⟩ hd) (Ev.bind td (Ev.bind (impl_openJour ⟨secs, cache.map wrOf, fuse, down⟩ hd) (Ev.then (eqJour_same _ _ _ _ _ _ _ _) (Ev.pos rfl ?_))))))
  exact Ev.step (fun k => laws_FnExactOpenJour.j0.eq_2 _ _ _ _ _ _ _ _ _ k) (Ev.neg (by simp) (Ev.bind td (Ev.bind (eqDisk_same _ hd) (Ev.pos rfl (Ev.done rfl)))))
end Go.Proofs.YthkepmicdpgbbaaGreatDoor.Pure
