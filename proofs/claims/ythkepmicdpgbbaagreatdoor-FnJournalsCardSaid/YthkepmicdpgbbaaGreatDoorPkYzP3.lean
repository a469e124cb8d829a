/- Texts of this seat's claims, put together: AddRec -/
import Derived.Lib.Bytes
import Derived.Test.YthkepmicdpgbbaaGreatDoorPkYzP2
namespace Go.Proofs.YthkepmicdpgbbaaGreatDoor.Fn
set_option linter.unusedVariables false
set_option linter.unusedSimpArgs false
open Go.RowKit Go.Proofs.YthkepmicdpgbbaaGreatDoorW.PrintWords Go.Proofs.YthkepmicdpgbbaaGreatDoor.P Go.Proofs.YthkepmicdpgbbaaGreatDoor.Base
noncomputable def layRecs (g : Int) : List Rec → Nat → Dk → Dk
 | [], _, d => d
 | r :: rs, i, d => layRecs g rs (i + 1) (writeSec d (sector g (i : Int)) (putRec g (i : Int) r.f0 r.f1 r.f2 r.f3))
noncomputable def recsK (K : Kn) : List Rec := recsOf K.g K.t K.pg K.pt K.e K.o
noncomputable def layD (d : Dk) (K : Kn) (g : Int) : Dk := syncDisk (writeSec (syncDisk (layRecs g (recsK K) 0 d)) (Int.tmod g 2) (headOf g (recsK K).length))
theorem putRec_fits (g i a b c : Int) (s : ByteArray) : (putRec g i a b c s).length ≤ 1048576 ∧ Bytes (putRec g i a b c s) := ⟨by have := putRec_length g i a b c s; omega, putRec_bytes g i a b c s⟩
theorem layRecs_fits (g : Int) (L : List Rec) : ∀ (i : Nat) (d : Dk), Fits d → Fits (layRecs g L i d) := by
 induction L with
 | nil => intro i d hd; exact hd
 | cons r rs ih => intro i d hd; exact ih (i + 1) _ (writeSec_fits hd _ (putRec_fits ..))
theorem layD_fits {d : Dk} (hd : Fits d) (K : Kn) (g : Int) : Fits (layD d K g) := syncDisk_fits (writeSec_fits (syncDisk_fits (layRecs_fits g _ 0 d hd)) _ (head_small _ _))
noncomputable def jourOf (d : Dk) : Jn := @ite _ (DiskOk d ∧ d.secs.length = 38) (Classical.propDecidable _) (openJ d) Jn.zero
noncomputable def jourOk (d : Dk) : Bool := @ite _ (DiskOk d ∧ d.secs.length = 38) (Classical.propDecidable _) (decide (0 < (openJ d).G)) false
theorem openJour_eq (d : Dk) : openJour d = (jourOf d).tup (jourOk d) := by
 unfold jourOf jourOk
 by_cases h : DiskOk d ∧ d.secs.length = 38
 ·rw [openJour_yes h, if_pos h, if_pos h]
 ·rw [openJour_no h, if_neg h, if_neg h]
structure RecV where
 kind : Int
 n : Int
 ow : Int
 s : ByteArray
noncomputable def Kn.app (K : Kn) (r : RecV) : Int × ByteArray × Int × ByteArray × Int × Int × Bool := applyK K.g K.t K.pg K.pt K.e K.o r.kind r.n r.ow r.s
def CanAdd (d : Dk) (r : RecV) : Prop := jourOk d = true ∧ ((jourOf d).K.app r).2.2.2.2.2.2 = true ∧ d.down = false ∧ ¬ ((jourOf d).P = 18 ∧ (jourOf d).G = 60000)
noncomputable def baseD (d : Dk) : Dk := if (jourOf d).P = 18 then layD d (jourOf d).K ((jourOf d).G + 1) else d
noncomputable def genD (d : Dk) : Int := if (jourOf d).P = 18 then (jourOf d).G + 1 else (jourOf d).G
noncomputable def placeD (d : Dk) : Int := if (jourOf d).P = 18 then ((recsK (jourOf d).K).length : Int) else (jourOf d).P
noncomputable def addTo (d : Dk) (r : RecV) : Dk := syncDisk (writeSec (baseD d) (sector (genD d) (placeD d)) (putRec (genD d) (placeD d) r.kind r.n r.ow r.s))
noncomputable def addRec (d : Dk) (r : RecV) : Dk := @ite _ (CanAdd d r) (Classical.propDecidable _) (addTo d r) d
noncomputable def addRecOk (d : Dk) (r : RecV) : Bool := @ite _ (CanAdd d r) (Classical.propDecidable _) (!(addTo d r).down) false
theorem baseD_fits {d : Dk} (hd : Fits d) : Fits (baseD d) := by
 unfold baseD
 split
 ·exact layD_fits hd _ _
 ·exact hd
theorem addTo_fits {d : Dk} (hd : Fits d) (r : RecV) : Fits (addTo d r) := syncDisk_fits (writeSec_fits (baseD_fits hd) _ (putRec_fits ..))
theorem addRec_fits {d : Dk} (hd : Fits d) (r : RecV) : Fits (addRec d r) := by
 unfold addRec
 by_cases h : CanAdd d r
 ·rw [if_pos h]; exact addTo_fits hd r
 ·rw [if_neg h]; exact hd
theorem addRec_yes {d : Dk} {r : RecV} (h : CanAdd d r) : addRec d r = addTo d r := if_pos h
theorem addRec_no {d : Dk} {r : RecV} (h : ¬ CanAdd d r) : addRec d r = d := if_neg h
theorem addRecOk_yes {d : Dk} {r : RecV} (h : CanAdd d r) : addRecOk d r = !(addTo d r).down := if_pos h
theorem addRecOk_no {d : Dk} {r : RecV} (h : ¬ CanAdd d r) : addRecOk d r = false := if_neg h
def Jn.Ok (J : Jn) : Prop := J.K.Short ∧ (0 ≤ J.G ∧ J.G ≤ 60000) ∧ (0 ≤ J.P ∧ J.P ≤ 18)
theorem replayFrom_ok (d : Dk) (g : Int) (n : Nat) : ∀ (i : Nat) (K : Kn), i + n = 18 → K.Short → (replayFrom d g n i K).1.Short ∧ 0 ≤ (replayFrom d g n i K).2 ∧ (replayFrom d g n i K).2 ≤ 18 := by
 induction n with
 | zero => intro i K _ hK; exact ⟨hK, by simp [replayFrom], by simp [replayFrom]⟩
 | succ n ih =>
  intro i K hi hK
  unfold replayFrom
  split
  ·split
   ·exact ih (i + 1) _ (by omega) (Kn.next_short hK _ (getRec_short _))
   ·exact ⟨hK, by dsimp only; omega, by dsimp only; omega⟩
  ·exact ⟨hK, by dsimp only; omega, by dsimp only; omega⟩
theorem replay_ok (d : Dk) (g : Int) : (replay d g).1.Short ∧ 0 ≤ (replay d g).2 ∧ (replay d g).2 ≤ 18 := by
 unfold replay
 split
 ·exact replayFrom_ok d g 18 0 Kn.zero rfl Kn.zero_short
 ·exact ⟨Kn.zero_short, by decide, by decide⟩
theorem Jn.zero_ok : Jn.zero.Ok := ⟨Kn.zero_short, by decide, by decide⟩
theorem stepJ_ok (d : Dk) (i : Nat) {J : Jn} (h : J.Ok) : (stepJ d i J).Ok := by
 unfold stepJ
 split
 ·rename_i hc
  have := headAt_range d i hc.1
  have hr := replay_ok d (headAt d i).1
  split
  ·exact ⟨hr.1, by dsimp only; omega, hr.2⟩
  ·exact h
 ·exact h
theorem jourOf_ok (d : Dk) : (jourOf d).Ok := by
 unfold jourOf
 split
 ·exact stepJ_ok d 1 (stepJ_ok d 0 Jn.zero_ok)
 ·exact Jn.zero_ok
theorem jourOk_pos {d : Dk} (h : jourOk d = true) : 0 < (jourOf d).G := by
 unfold jourOk at h
 unfold jourOf
 by_cases hc : DiskOk d ∧ d.secs.length = 38
 ·rw [if_pos hc] at h ⊢
  exact of_decide_eq_true h
 ·rw [if_neg hc] at h; cases h
theorem recsK_short {K : Kn} (h : K.Short) : ∀ x ∈ recsK K, x.f3.size ≤ 1048576 := by
 have he : (⟨#[]⟩ : ByteArray).size ≤ 1048576 := by decide
 have h1 := h.1
 have h2 := h.2
 intro x hx
 unfold recsK recsOf at hx
 simp only [List.mem_append] at hx
 rcases hx with (hx | hx) | hx <;> split at hx <;> simp at hx <;> (try rcases hx with rfl | rfl) <;> (try subst hx) <;> first | exact he | (dsimp only; omega)
def Dk.tup5 (d : Dk) (b : Bool) : List (List Int) × List Wr × Int × Bool × Bool := (d.secs, d.cache, d.fuse, d.down, b)
noncomputable def addAt (D : Dk) (g : Int) (p : Int) (r : RecV) : Dk := syncDisk (writeSec D (sector g p) (putRec g p r.kind r.n r.ow r.s))
theorem impl_at (g : Int) (hg : 1 ≤ g) (i : Nat) (hi : i ≤ 100) : impl_sectorOf.f g (i : Int) = some (sector g (i : Int)) := by unfold impl_sectorOf.f; rw [sector_w g i hg hi]
theorem spec_at (g : Int) (hg : 1 ≤ g) (i : Nat) (hi : i ≤ 100) : spec_l5At.f g (i : Int) = some (sector g (i : Int)) := by unfold spec_l5At.f; rw [sector_w g i hg hi]
theorem impl_addAt (D : Dk) (hD : Fits D) (g : Int) (hg : 1 ≤ g) (i : Nat) (hi : i ≤ 100) (r : RecV) (hs : r.s.size ≤ 1048576) :
  Ev (fun k => (impl_sectorOf.f g (i : Int)).bind fun s => ((impl_PutRec.f k g (i : Int) r.kind r.n r.ow r.s).bind fun b => ((impl_WriteSec.f k D.secs D.cache D.fuse D.down s b).bind fun y => ((impl_SyncDisk.f k y.1 y.2.1 y.2.2.1 y.2.2.2).bind fun e => (some (e.1, e.2.1, e.2.2.1, e.2.2.2, (!e.2.2.2))))))) ((addAt D g (i : Int) r).tup5 (!(addAt D g (i : Int) r).down)) :=
 Ev.then (impl_at g hg i hi) (Ev.bind (impl_putRec _ _ _ _ _ _ hs) (Ev.bind (impl_writeSec D hD _ _ (putRec_fits ..).1) (Ev.bind (impl_syncDisk _ (writeSec_fits hD _ (putRec_fits ..))) (Ev.done rfl))))
theorem spec_addAt (D : Dk) (hD : Fits D) (g : Int) (hg : 1 ≤ g) (i : Nat) (hi : i ≤ 100) (r : RecV) (hs : r.s.size ≤ 1048576) :
  Ev (fun k => (spec_l5At.f g (i : Int)).bind fun s => ((spec_PutRec.f k g (i : Int) r.kind r.n r.ow r.s).bind fun b => ((spec_WriteSec.f k D.secs D.cache D.fuse D.down s b).bind fun y => ((spec_SyncDisk.f k y.1 y.2.1 y.2.2.1 y.2.2.2).bind fun e => (some (e.1, e.2.1, e.2.2.1, e.2.2.2, (!e.2.2.2))))))) ((addAt D g (i : Int) r).tup5 (!(addAt D g (i : Int) r).down)) :=
 Ev.then (spec_at g hg i hi) (Ev.bind (spec_putRec _ _ _ _ _ _ hs) (Ev.bind (spec_writeSec D hD _ _ (putRec_fits ..).1) (Ev.bind (spec_syncDisk _ (writeSec_fits hD _ (putRec_fits ..))) (Ev.done rfl))))
noncomputable def laid (D : Dk) (g : Int) (n : Nat) : Dk := syncDisk (writeSec (syncDisk D) (Int.tmod g 2) (headOf g n))
theorem impl_AddRec_l0 (L : List Rec) (hL : L.length ≤ 4) (ht : ∀ x ∈ L, x.f3.size ≤ 1048576) (g : Int) (hg : 1 ≤ g) (r : RecV) (hr : r.s.size ≤ 1048576) (c0 : List (List Int)) (c1 : List Wr) (c2 : Int) (c3 : Bool) (k0 : Int) (k1 : ByteArray) (k2 : Int) (k3 : ByteArray) (k4 k5 k7 : Int) (m : Nat) : ∀ (i : Nat) (D : Dk), Fits D → i + m = L.length →
  Ev (fun k => impl_AddRec.l0 k L (L.length : Int) (i : Int) c0 c1 c2 c3 r.kind r.n r.ow r.s k0 k1 k2 k3 k4 k5 g k7 D.secs D.cache D.fuse D.down) ((addAt (laid (layRecs g (L.drop i) i D) g L.length) g (L.length : Int) r).tup5 (!(addAt (laid (layRecs g (L.drop i) i D) g L.length) g (L.length : Int) r).down)) := by
 induction m with
 | zero =>
  intro i D hD hi
  rw [List.drop_of_length_le (by omega)]
  refine Ev.step (fun k => impl_AddRec.l0.eq_2 _ _ _ _ _ _ _ _ _ _ _ _ _ _ _ _ _ _ _ _ _ _ _ k) (Ev.neg (by omega) (Ev.bind (impl_syncDisk D hD) (Ev.bind (impl_headOf _ _) (Ev.bind (impl_writeSec _ (syncDisk_fits hD) _ _ (head_small _ _).1) (Ev.bind (impl_syncDisk _ (writeSec_fits (syncDisk_fits hD) _ (head_small _ _))) ?_)))))
  exact impl_addAt _ (syncDisk_fits (writeSec_fits (syncDisk_fits hD) _ (head_small _ _))) g hg L.length (by omega) r hr
 | succ m ih =>
  intro i D hD hi
  have hlt : i < L.length := by omega
  have he : rd_T25 L (i : Int) = L[i] := getD_nat L _ hlt
  refine Ev.step (fun k => impl_AddRec.l0.eq_2 _ _ _ _ _ _ _ _ _ _ _ _ _ _ _ _ _ _ _ _ _ _ _ k) (Ev.pos (by omega) (Ev.pos (by omega) (Ev.pos (by omega) ?_)))
  rw [he, w64 (n := (i : Int) + 1) (by omega) (by omega), cast_succ, List.drop_eq_getElem_cons hlt, layRecs]
  exact Ev.then (impl_at g hg i (by omega)) (Ev.bind (impl_putRec _ _ _ _ _ _ (ht _ (List.getElem_mem hlt))) (Ev.bind (impl_writeSec D hD _ _ (putRec_fits ..).1) (ih (i + 1) _ (writeSec_fits hD _ (putRec_fits ..)) (by omega))))
theorem spec_l5Lay_l0 (L : List Rec) (hL : L.length ≤ 4) (ht : ∀ x ∈ L, x.f3.size ≤ 1048576) (g : Int) (hg : 1 ≤ g) (k0 : Int) (k1 : ByteArray) (k2 : Int) (k3 : ByteArray) (k4 k5 k6 k7 : Int) (m : Nat) : ∀ (i : Nat) (D : Dk), Fits D → i + m = L.length →
  Ev (fun k => spec_l5Lay.l0 k L g (i : Int) k0 k1 k2 k3 k4 k5 k6 k7 D.secs D.cache D.fuse D.down) ((laid (layRecs g (L.drop i) i D) g L.length).secs, (laid (layRecs g (L.drop i) i D) g L.length).cache, (laid (layRecs g (L.drop i) i D) g L.length).fuse, (laid (layRecs g (L.drop i) i D) g L.length).down, k0, k1, k2, k3, k4, k5, g, (L.length : Int)) := by
 induction m with
 | zero =>
  intro i D hD hi
  rw [List.drop_of_length_le (by omega)]
  exact Ev.step (fun k => spec_l5Lay.l0.eq_2 _ _ _ _ _ _ _ _ _ _ _ _ _ _ _ k) (Ev.neg (by omega) (Ev.bind (spec_syncDisk D hD) (Ev.bind (spec_headOf _ _) (Ev.bind (spec_writeSec _ (syncDisk_fits hD) _ _ (head_small _ _).1) (Ev.bind (spec_syncDisk _ (writeSec_fits (syncDisk_fits hD) _ (head_small _ _))) (Ev.done rfl))))))
 | succ m ih =>
  intro i D hD hi
  have hlt : i < L.length := by omega
  have he : rd_T25 L (i : Int) = L[i] := getD_nat L _ hlt
  refine Ev.step (fun k => spec_l5Lay.l0.eq_2 _ _ _ _ _ _ _ _ _ _ _ _ _ _ _ k) (Ev.pos (by omega) (Ev.pos (by omega) ?_))
  rw [he, w64 (n := (i : Int) + 1) (by omega) (by omega), cast_succ, List.drop_eq_getElem_cons hlt, layRecs]
  exact Ev.then (spec_at g hg i (by omega)) (Ev.bind (spec_putRec _ _ _ _ _ _ (ht _ (List.getElem_mem hlt))) (Ev.bind (spec_writeSec D hD _ _ (putRec_fits ..).1) (ih (i + 1) _ (writeSec_fits hD _ (putRec_fits ..)) (by omega))))
theorem recsK_length (K : Kn) : (recsK K).length ≤ 4 := recsOf_length ..
theorem addTo_eq (d : Dk) (r : RecV) : addTo d r = addAt (baseD d) (genD d) (placeD d) r := rfl
theorem addTo_lay {d : Dk} (r : RecV) (h : (jourOf d).P = 18) : addTo d r = addAt (layD d (jourOf d).K ((jourOf d).G + 1)) ((jourOf d).G + 1) ((recsK (jourOf d).K).length : Int) r := by rw [addTo_eq]; unfold baseD genD placeD; rw [if_pos h, if_pos h, if_pos h]
theorem addTo_stay {d : Dk} (r : RecV) (h : ¬ (jourOf d).P = 18) : addTo d r = addAt d (jourOf d).G (jourOf d).P r := by rw [addTo_eq]; unfold baseD genD placeD; rw [if_neg h, if_neg h, if_neg h]
theorem fail5 (d : Dk) {r : RecV} (h : ¬ CanAdd d r) : (d.secs, d.cache, d.fuse, d.down, false) = (addRec d r).tup5 (addRecOk d r) := by rw [addRec_no h, addRecOk_no h]; rfl
theorem impl_addRec (d : Dk) (hd : Fits d) (r : RecV) (hr : r.s.size ≤ 1048576) : Ev (fun k => impl_AddRec.f k d.secs d.cache d.fuse d.down r.kind r.n r.ow r.s) ((addRec d r).tup5 (addRecOk d r)) := by
 unfold impl_AddRec.f
 have ho := impl_openJour d hd
 rw [openJour_eq] at ho
 obtain ⟨hK, hG, hP⟩ := jourOf_ok d
 have bad : ¬ CanAdd d r → Ev (fun k => (impl_diskCopy.f k d.secs d.cache d.fuse d.down).bind fun c => (some (c.1, c.2.1, c.2.2.1, c.2.2.2, false))) ((addRec d r).tup5 (addRecOk d r)) := fun h => Ev.bind (impl_diskCopy d hd) (Ev.done (fail5 d h))
 refine Ev.bind ho (Ev.bind (impl_apply _ _ _ _ _ _ _ _ _ _ (by have := hK.1; dsimp only [Jn.tup]; omega) (by have := hK.2; dsimp only [Jn.tup]; omega) hr) ?_)
 dsimp only [Jn.tup]
 by_cases h1 : jourOk d = true
 case neg => exact Ev.neg h1 (bad fun q => h1 q.1)
 have hpos := jourOk_pos h1
 refine Ev.pos h1 ?_
 by_cases h2 : ((jourOf d).K.app r).2.2.2.2.2.2 = true
 case neg => exact Ev.neg h2 (bad fun q => h2 q.2.1)
 refine Ev.pos h2 ?_
 by_cases h3 : d.down = true
 ·exact Ev.pos h3 (bad fun q => by rw [q.2.2.1] at h3; cases h3)
 refine Ev.neg h3 ?_
 have h3' : d.down = false := by simpa using h3
 have lay : (jourOf d).P = 18 → ¬ (jourOf d).G = 60000 → Ev (fun k => (impl_RecsOf.f k (jourOf d).K.g (jourOf d).K.t (jourOf d).K.pg (jourOf d).K.pt (jourOf d).K.e (jourOf d).K.o).bind fun l => (impl_AddRec.l0 k l (l.length : Int) 0 d.secs d.cache d.fuse d.down r.kind r.n r.ow r.s (jourOf d).K.g (jourOf d).K.t (jourOf d).K.pg (jourOf d).K.pt (jourOf d).K.e (jourOf d).K.o (wrap64 ((jourOf d).G + 1)) (jourOf d).P d.secs d.cache d.fuse d.down)) ((addRec d r).tup5 (addRecOk d r)) := by
  intro h4 h5
  have hc : CanAdd d r := ⟨h1, h2, h3', fun q => h5 q.2⟩
  rw [addRec_yes hc, addRecOk_yes hc, addTo_lay r h4, w64 (n := (jourOf d).G + 1) (by omega) (by omega)]
  exact Ev.bind (impl_recsOf _ _ _ _ _ _) (impl_AddRec_l0 (recsK (jourOf d).K) (recsK_length _) (recsK_short hK) ((jourOf d).G + 1) (by omega) r hr d.secs d.cache d.fuse d.down (jourOf d).K.g (jourOf d).K.t (jourOf d).K.pg (jourOf d).K.pt (jourOf d).K.e (jourOf d).K.o (jourOf d).P (recsK (jourOf d).K).length 0 d hd (by omega))
 by_cases h4 : (jourOf d).P = 18
 ·refine Ev.pos h4 ?_
  by_cases h5 : (jourOf d).G = 60000
  ·exact Ev.pos h5 (bad fun q => q.2.2.2 ⟨h4, h5⟩)
  ·exact Ev.neg h5 (Ev.bind (impl_diskCopy d hd) (lay h4 h5))
 ·refine Ev.neg h4 (Ev.bind (impl_diskCopy d hd) ?_)
  have hc : CanAdd d r := ⟨h1, h2, h3', fun q => h4 q.1⟩
  rw [addRec_yes hc, addRecOk_yes hc, addTo_stay r h4]
  obtain ⟨p, hp⟩ := Int.eq_ofNat_of_zero_le hP.1
  rw [hp]
  exact impl_addAt d hd _ (by omega) p (by omega) r hr
theorem spec_addRec (d : Dk) (hd : Fits d) (r : RecV) (hr : r.s.size ≤ 1048576) : Ev (fun k => spec_AddRec.f k d.secs d.cache d.fuse d.down r.kind r.n r.ow r.s) ((addRec d r).tup5 (addRecOk d r)) := by
 unfold spec_AddRec.f
 have ho := spec_openJour d hd
 rw [openJour_eq] at ho
 obtain ⟨hK, hG, hP⟩ := jourOf_ok d
 have bad : ¬ CanAdd d r → Ev (fun _ => some (d.secs, d.cache, d.fuse, d.down, false)) ((addRec d r).tup5 (addRecOk d r)) := fun h => Ev.done (fail5 d h)
 refine Ev.bind (spec_l2Copy d hd) (Ev.bind ho (Ev.bind (spec_apply _ _ _ _ _ _ _ _ _ _ (by have := hK.1; dsimp only [Jn.tup]; omega) (by have := hK.2; dsimp only [Jn.tup]; omega) hr) ?_))
 dsimp only [Jn.tup]
 by_cases h1 : jourOk d = true
 case neg => exact Ev.neg h1 (bad fun q => h1 q.1)
 have hpos := jourOk_pos h1
 refine Ev.pos h1 ?_
 by_cases h2 : ((jourOf d).K.app r).2.2.2.2.2.2 = true
 case neg => exact Ev.neg h2 (bad fun q => h2 q.2.1)
 refine Ev.pos h2 ?_
 by_cases h3 : d.down = true
 ·exact Ev.pos h3 (bad fun q => by rw [q.2.2.1] at h3; cases h3)
 refine Ev.neg h3 ?_
 have h3' : d.down = false := by simpa using h3
 by_cases h4 : (jourOf d).P = 18
 ·refine Ev.pos h4 ?_
  by_cases h5 : (jourOf d).G = 60000
  ·exact Ev.pos h5 (bad fun q => q.2.2.2 ⟨h4, h5⟩)
  refine Ev.neg h5 ?_
  have hc : CanAdd d r := ⟨h1, h2, h3', fun q => h5 q.2⟩
  rw [addRec_yes hc, addRecOk_yes hc, addTo_lay r h4]
  have hl : Ev (fun k => spec_l5Lay.f k d.secs d.cache d.fuse d.down (jourOf d).K.g (jourOf d).K.t (jourOf d).K.pg (jourOf d).K.pt (jourOf d).K.e (jourOf d).K.o (jourOf d).G (jourOf d).P) ((layD d (jourOf d).K ((jourOf d).G + 1)).secs, (layD d (jourOf d).K ((jourOf d).G + 1)).cache, (layD d (jourOf d).K ((jourOf d).G + 1)).fuse, (layD d (jourOf d).K ((jourOf d).G + 1)).down, (jourOf d).K.g, (jourOf d).K.t, (jourOf d).K.pg, (jourOf d).K.pt, (jourOf d).K.e, (jourOf d).K.o, (jourOf d).G + 1, ((recsK (jourOf d).K).length : Int)) := by
   unfold spec_l5Lay.f
   rw [w64 (n := (jourOf d).G + 1) (by omega) (by omega)]
   exact Ev.bind (spec_recsOf _ _ _ _ _ _) (spec_l5Lay_l0 (recsK (jourOf d).K) (recsK_length _) (recsK_short hK) ((jourOf d).G + 1) (by omega) (jourOf d).K.g (jourOf d).K.t (jourOf d).K.pg (jourOf d).K.pt (jourOf d).K.e (jourOf d).K.o (jourOf d).G (jourOf d).P (recsK (jourOf d).K).length 0 d hd (by omega))
  exact Ev.bind hl (spec_addAt (layD d (jourOf d).K ((jourOf d).G + 1)) (layD_fits hd _ _) ((jourOf d).G + 1) (by omega) (recsK (jourOf d).K).length (by have := recsK_length (jourOf d).K; omega) r hr)
 ·refine Ev.neg h4 ?_
  have hc : CanAdd d r := ⟨h1, h2, h3', fun q => h4 q.1⟩
  rw [addRec_yes hc, addRecOk_yes hc, addTo_stay r h4]
  obtain ⟨p, hp⟩ := Int.eq_ofNat_of_zero_le hP.1
  rw [hp]
  exact spec_addAt d hd _ (by omega) p (by omega) r hr
end Go.Proofs.YthkepmicdpgbbaaGreatDoor.Fn
