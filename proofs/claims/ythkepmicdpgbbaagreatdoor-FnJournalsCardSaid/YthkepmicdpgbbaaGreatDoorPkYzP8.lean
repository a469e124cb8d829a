/- Texts of this seat's claims, put together: JourSame, PureFnJournals -/
import Derived.Lib.Bytes
import Derived.Test.YthkepmicdpgbbaaGreatDoorPkYzP4
import Derived.Test.YthkepmicdpgbbaaGreatDoorPkYzP5
namespace Go.Proofs.YthkepmicdpgbbaaGreatDoor.Fn
set_option linter.unusedVariables false
set_option linter.unusedSimpArgs false
open Go.RowKit Go.Proofs.YthkepmicdpgbbaaGreatDoorW.PrintWords Go.Proofs.YthkepmicdpgbbaaGreatDoor.P Go.Proofs.YthkepmicdpgbbaaGreatDoor.Base
theorem same_no {a b : List Int} (ha : Bytes a) (hb : Bytes b) (h : a ≠ b) : laws_same.f a b = some false := by
 unfold laws_same.f
 rw [sameBytes ha hb]
 exact congrArg some (@decide_eq_false _ (Classical.propDecidable _) h)
theorem sd_l1 (x d : Dk) (hx : Fits x) (hd : Fits d) (hl : x.cache.length = d.cache.length) (m : Nat) : ∀ (i : Nat), i + m = x.cache.length → ∃ t, Ev (fun k => laws_sameDisk.l1 k (i : Int) x.secs x.cache x.fuse x.down d.secs d.cache d.fuse d.down) t ∧ (t = true → x.cache.drop i = d.cache.drop i) := by
 induction m with
 | zero =>
  intro i hi
  exact ⟨true, Ev.step (fun k => laws_sameDisk.l1.eq_2 _ _ _ _ _ _ _ _ _ k) (Ev.neg (by omega) (Ev.done rfl)), fun _ => by rw [List.drop_of_length_le (by omega), List.drop_of_length_le (by omega)]⟩
 | succ m ih =>
  intro i hi
  have hc := hx.2.2.1
  have ix : i < x.cache.length := by omega
  have id : i < d.cache.length := by omega
  have ex : rd_T109 x.cache (i : Int) = x.cache[i] := getD_nat x.cache _ ix
  have ed : rd_T109 d.cache (i : Int) = d.cache[i] := getD_nat d.cache _ id
  have bx := (hx.2.2.2 _ (List.getElem_mem ix)).2
  have bd := (hd.2.2.2 _ (List.getElem_mem id)).2
  by_cases h0 : x.cache[i].f0 = d.cache[i].f0
  ·by_cases h1 : x.cache[i].f1 = d.cache[i].f1
   ·obtain ⟨t, e, ht⟩ := ih (i + 1) (by omega)
    refine ⟨t, Ev.step (fun k => laws_sameDisk.l1.eq_2 _ _ _ _ _ _ _ _ _ k) (Ev.pos (by omega) (Ev.pos (by omega) (Ev.pos (by omega) ?_))), fun q => ?_⟩
    ·rw [ex, ed]
     refine Ev.pos h0 (Ev.then (same_of h1) (Ev.pos rfl ?_))
     rw [w64 (n := (i : Int) + 1) (by omega) (by omega), cast_succ]
     exact e
    ·rw [List.drop_eq_getElem_cons ix, List.drop_eq_getElem_cons id, ht q, wr_eq h0 h1]
   ·refine ⟨false, Ev.step (fun k => laws_sameDisk.l1.eq_2 _ _ _ _ _ _ _ _ _ k) (Ev.pos (by omega) (Ev.pos (by omega) (Ev.pos (by omega) ?_))), fun q => by cases q⟩
    rw [ex, ed]
    exact Ev.pos h0 (Ev.then (same_no bx bd h1) (Ev.neg (by decide) (Ev.done rfl)))
  ·refine ⟨false, Ev.step (fun k => laws_sameDisk.l1.eq_2 _ _ _ _ _ _ _ _ _ k) (Ev.pos (by omega) (Ev.pos (by omega) (Ev.pos (by omega) ?_))), fun q => by cases q⟩
   rw [ex, ed]
   exact Ev.neg h0 (Ev.done rfl)
theorem sd_l0 (x d : Dk) (hx : Fits x) (hd : Fits d) (hl : x.secs.length = d.secs.length) (hl2 : x.cache.length = d.cache.length) (m : Nat) : ∀ (i : Nat), i + m = x.secs.length → ∃ t, Ev (fun k => laws_sameDisk.l0 k (i : Int) x.secs x.cache x.fuse x.down d.secs d.cache d.fuse d.down) t ∧ (t = true → x.secs.drop i = d.secs.drop i ∧ x.cache = d.cache) := by
 induction m with
 | zero =>
  intro i hi
  obtain ⟨t, e, ht⟩ := sd_l1 x d hx hd hl2 x.cache.length 0 (by omega)
  exact ⟨t, Ev.step (fun k => laws_sameDisk.l0.eq_2 _ _ _ _ _ _ _ _ _ k) (Ev.neg (by omega) e), fun q => ⟨by rw [List.drop_of_length_le (by omega), List.drop_of_length_le (by omega)], ht q⟩⟩
 | succ m ih =>
  intro i hi
  have hc := hx.1
  have ix : i < x.secs.length := by omega
  have id : i < d.secs.length := by omega
  have ex : rd_L6 x.secs (i : Int) = x.secs[i] := getD_nat x.secs _ ix
  have ed : rd_L6 d.secs (i : Int) = d.secs[i] := getD_nat d.secs _ id
  have bx := (hx.2.1 _ (List.getElem_mem ix)).2
  have bd := (hd.2.1 _ (List.getElem_mem id)).2
  by_cases h1 : x.secs[i] = d.secs[i]
  ·obtain ⟨t, e, ht⟩ := ih (i + 1) (by omega)
   refine ⟨t, Ev.step (fun k => laws_sameDisk.l0.eq_2 _ _ _ _ _ _ _ _ _ k) (Ev.pos (by omega) (Ev.pos (by omega) (Ev.pos (by omega) ?_))), fun q => ?_⟩
   ·rw [ex, ed]
    refine Ev.then (same_of h1) (Ev.pos rfl ?_)
    rw [w64 (n := (i : Int) + 1) (by omega) (by omega), cast_succ]
    exact e
   ·obtain ⟨q1, q2⟩ := ht q
    exact ⟨by rw [List.drop_eq_getElem_cons ix, List.drop_eq_getElem_cons id, q1, h1], q2⟩
  ·refine ⟨false, Ev.step (fun k => laws_sameDisk.l0.eq_2 _ _ _ _ _ _ _ _ _ k) (Ev.pos (by omega) (Ev.pos (by omega) (Ev.pos (by omega) ?_))), fun q => by cases q⟩
   rw [ex, ed]
   exact Ev.then (same_no bx bd h1) (Ev.neg (by decide) (Ev.done rfl))
theorem sameDisk_no (x d : Dk) (hx : Fits x) (hd : Fits d) (ne : x ≠ d) : Ev (fun k => laws_sameDisk.f k x.secs x.cache x.fuse x.down d.secs d.cache d.fuse d.down) false := by
 unfold laws_sameDisk.f
 have off : Ev (fun k => laws_sameDisk.j0 k true x.secs x.cache x.fuse x.down d.secs d.cache d.fuse d.down) false := Ev.step (fun k => laws_sameDisk.j0.eq_2 _ _ _ _ _ _ _ _ _ k) (Ev.pos rfl (Ev.done rfl))
 by_cases h0 : x.fuse = d.fuse
 case neg => exact Ev.neg h0 off
 refine Ev.pos h0 ?_
 by_cases h1 : x.down = d.down
 case neg => exact Ev.pos (by simpa using h1) off
 refine Ev.neg (by simpa using h1) ?_
 by_cases h2 : (x.secs.length : Int) = (d.secs.length : Int)
 case neg => exact Ev.neg h2 off
 refine Ev.pos h2 ?_
 by_cases h3 : x.cache.length = d.cache.length
 case neg =>
  rw [show ((x.cache.length : Int) != (d.cache.length : Int)) = true by simp; omega]
  exact off
 rw [show ((x.cache.length : Int) != (d.cache.length : Int)) = false by simp; omega]
 obtain ⟨t, e, ht⟩ := sd_l0 x d hx hd (by omega) h3 x.secs.length 0 (by omega)
 cases t with
 | false => exact Ev.step (fun k => laws_sameDisk.j0.eq_2 _ _ _ _ _ _ _ _ _ k) (Ev.neg (by decide) e)
 | true =>
  obtain ⟨q1, q2⟩ := ht rfl
  exact absurd (by cases x; cases d; simp_all) ne
theorem fuseOf_le {f : Int} (h : -1 ≤ f) : fuseOf f ≤ f := by unfold fuseOf; split <;> (try split) <;> omega
theorem writeSec_le {d : Dk} (h : DiskOk d) (n : Int) (b : List Int) : DiskOk (writeSec d n b) ∧ (writeSec d n b).fuse ≤ d.fuse := by
 by_cases hw : CanWrite d n b
 ·rw [writeSec_yes hw]
  exact ⟨wroteD_ok h hw.2.2.1 hw.2.2.2.1 hw.2.2.2.2, fuseOf_le h.2.2.1.1⟩
 ·rw [writeSec_no hw]
  exact ⟨h, Int.le_refl _⟩
theorem syncDisk_le {d : Dk} (h : DiskOk d) : DiskOk (syncDisk d) ∧ (syncDisk d).fuse ≤ d.fuse := by
 by_cases hw : DiskOk d ∧ d.down = false
 ·rw [syncDisk_yes hw]
  split
  ·rename_i h0
   exact ⟨⟨h.1, h.2.1, by dsimp only; omega, h.2.2.2.1, h.2.2.2.2⟩, by dsimp only; omega⟩
  ·exact ⟨⟨by simp only [ap_length]; exact h.1, by simp, fuse_range h.2.2.1, ap_ok (n := 0) d.cache (fun x hx => (h.2.2.2.2 x hx).2) d.secs h.2.2.2.1, fun x hx => by cases hx⟩, fuseOf_le h.2.2.1.1⟩
 ·rw [syncDisk_no hw]
  exact ⟨h, Int.le_refl _⟩
theorem layRecs_le (g : Int) (L : List Rec) : ∀ (i : Nat) (d : Dk), DiskOk d → DiskOk (layRecs g L i d) ∧ (layRecs g L i d).fuse ≤ d.fuse := by
 induction L with
 | nil => intro i d h; exact ⟨h, Int.le_refl _⟩
 | cons r L ih =>
  intro i d h
  obtain ⟨a1, a2⟩ := writeSec_le h (sector g (i : Int)) (putRec g (i : Int) r.f0 r.f1 r.f2 r.f3)
  obtain ⟨b1, b2⟩ := ih (i + 1) _ a1
  exact ⟨b1, Int.le_trans b2 a2⟩
theorem baseD_le {d : Dk} (h : DiskOk d) : DiskOk (baseD d) ∧ (baseD d).fuse ≤ d.fuse := by
 unfold baseD
 split
 ·unfold layD
  obtain ⟨a1, a2⟩ := layRecs_le ((jourOf d).G + 1) (recsK (jourOf d).K) 0 d h
  obtain ⟨b1, b2⟩ := syncDisk_le a1
  obtain ⟨c1, c2⟩ := writeSec_le b1 (Int.tmod ((jourOf d).G + 1) 2) (headOf ((jourOf d).G + 1) (recsK (jourOf d).K).length)
  obtain ⟨d1, d2⟩ := syncDisk_le c1
  exact ⟨d1, Int.le_trans d2 (Int.le_trans c2 (Int.le_trans b2 a2))⟩
 ·exact ⟨h, Int.le_refl _⟩
theorem addTo_up {d : Dk} (h : DiskOk d) {r : RecV} (up : (addTo d r).down = false) : (addTo d r).cache = [] ∧ ((addTo d r).fuse = d.fuse → d.fuse = -1) := by
 obtain ⟨a1, a2⟩ := baseD_le h
 obtain ⟨b1, b2⟩ := writeSec_le a1 (sector (genD d) (placeD d)) (putRec (genD d) (placeD d) r.kind r.n r.ow r.s)
 unfold addTo at up ⊢
 generalize writeSec (baseD d) (sector (genD d) (placeD d)) (putRec (genD d) (placeD d) r.kind r.n r.ow r.s) = y at up b1 b2 ⊢
 by_cases hy : y.down = false
 ·rw [syncDisk_yes ⟨b1, hy⟩] at up ⊢
  by_cases h0 : y.fuse = 0
  ·rw [if_pos h0] at up; cases up
  ·rw [if_neg h0]
   refine ⟨rfl, fun e => ?_⟩
   have h1 := b1.2.2.1
   dsimp only at e
   unfold fuseOf at e
   rw [if_neg h0] at e
   split at e <;> omega
 ·rw [syncDisk_no (fun q => hy q.2)] at up
  exact absurd up hy
theorem replay_back {d : Dk} {s : List (List Int)} (h : Plain d s) (hs : SecsOk s) {g : Int} (hg : 0 ≤ g) : ∀ (n i : Nat) (K0 : Kn), i + n = 18 → Chain s g i K0 →
  ∃ p : Nat, i ≤ p ∧ p ≤ 18 ∧ (replayFrom d g n i K0).2 = (p : Int) ∧ Chain s g p (replayFrom d g n i K0).1 ∧ (p < 18 → ¬ ((recS s g p).ok = true ∧ (recS s g p).1 = g ∧ (recS s g p).2.1 = (p : Int) ∧ ((replayFrom d g n i K0).1.apply (recS s g p)).2.2.2.2.2.2 = true))
 | 0, i, K0, hi, hc => ⟨18, by omega, by omega, rfl, by rw [← show i = 18 by omega]; exact hc, fun q => absurd q (by omega)⟩
 | n + 1, i, K0, hi, hc => by
  rw [replayFrom, h.rec hs hg (by omega)]
  by_cases h1 : (recS s g i).2.2.2.2.2.2 = true ∧ (recS s g i).1 = g ∧ (recS s g i).2.1 = (i : Int)
  ·rw [if_pos h1]
   by_cases h2 : (K0.apply (recS s g i)).2.2.2.2.2.2 = true
   ·rw [if_pos h2]
    obtain ⟨p, a, b⟩ := replay_back h hs hg n (i + 1) (K0.next (recS s g i)) (by omega) ⟨K0, hc, h1.1, h1.2.1, h1.2.2, h2, rfl⟩
    exact ⟨p, by omega, b⟩
   ·rw [if_neg h2]
    exact ⟨i, Nat.le_refl _, by omega, rfl, hc, fun _ q => h2 q.2.2.2⟩
  ·rw [if_neg h1]
   exact ⟨i, Nat.le_refl _, by omega, rfl, hc, fun _ q => h1 ⟨q.1, q.2.1, q.2.2.1⟩⟩
def Jn.Said (d : Dk) (J : Jn) : Prop := J.G = 0 ∨ (1 ≤ J.G ∧ J.G ≤ 60000) ∧ replay d J.G = (J.K, J.P)
theorem stepJ_said (d : Dk) (i : Nat) {J : Jn} (h : J.Said d) : (stepJ d i J).Said d := by
 unfold stepJ
 split
 ·rename_i hc
  split
  ·exact .inr ⟨headAt_range d i hc.1, rfl⟩
  ·exact h
 ·exact h
theorem stepJ_up (d : Dk) (i : Nat) (J : Jn) : J.G ≤ (stepJ d i J).G := by
 unfold stepJ
 split
 ·rename_i hc
  split
  ·exact Int.le_of_lt hc.2.2
  ·exact Int.le_refl _
 ·exact Int.le_refl _
theorem stepJ_took {d : Dk} {i : Nat} {J : Jn} {g n : Int} (hh : headAt d i = (g, n, true)) (hp : Int.tmod g 2 = (i : Int)) (hr : n ≤ (replay d g).2) : g ≤ (stepJ d i J).G := by
 unfold stepJ
 rw [hh]
 dsimp only
 by_cases hc : J.G < g
 ·rw [if_pos ⟨rfl, hp, hc⟩, if_pos hr]
  exact Int.le_refl _
 ·rw [if_neg (fun q => hc q.2.2)]
  omega
theorem openJ_took {d : Dk} {s : List (List Int)} (h : Plain d s) (hs : SecsOk s) {g n : Int} (hg : 1 ≤ g) (hh : headS s (g % 2) = (g, n, true)) (hr : n ≤ (replay d g).2) : g ≤ (openJ d).G := by
 have hp := par g (by omega)
 unfold openJ
 by_cases hz : g % 2 = 0
 ·rw [hz] at hh
  exact Int.le_trans (stepJ_took (by rw [h.head hs 0 (by omega)]; exact hh) (by rw [hp]; exact hz) hr) (stepJ_up d 1 _)
 ·have hz1 : g % 2 = 1 := by omega
  rw [hz1] at hh
  exact stepJ_took (by rw [h.head hs 1 (by omega)]; exact hh) (by rw [hp]; exact hz1) hr
abbrev Any (_ : List (List Int)) (_ : List Wr) : Prop := True
theorem At.bare {s : List (List Int)} {d : Dk} (h : At Any True s [] d) : d = ⟨s, [], -1, false⟩ := by
 rcases h with ⟨hv, _⟩ | ⟨f, _, hf, e⟩
 ·exact absurd trivial hv
 ·rw [hf trivial] at e; exact e
theorem at_rec {s : List (List Int)} (hs : SecsOk s) {D : Dk} (h : At Any True s [] D) {g : Int} (hg : 1 ≤ g) {p : Nat} (hp : p < 18) (r : RecV) : At Any True (s.set (sector g (p : Int)).toNat (putRec g (p : Int) r.kind r.n r.ow r.s)) [] (addAt D g (p : Int) r) := by
 have hsec : 0 ≤ sector g (p : Int) ∧ sector g (p : Int) ≤ 37 := by rw [sector_eq (by omega)]; omega
 have hb := (putRec_sec g (p : Int) r.kind r.n r.ow r.s).1
 have hcw : CacheOk [⟨sector g (p : Int), putRec g (p : Int) r.kind r.n r.ow r.s⟩] := fun x hx => by
  rw [List.mem_singleton.1 hx]
  exact ⟨⟨hsec.1, by dsimp only; omega⟩, hb⟩
 exact At.sync (At.write h trivial hs (fun x hx => (by cases hx)) (by simp) hsec hb) trivial hs hcw (by simp)
theorem add_other {d : Dk} (hd : Fits d) {r : RecV} (can : CanAdd d r) (up : (addTo d r).down = false) : addTo d r ≠ d := by
 intro e
 have can0 := can
 obtain ⟨c1, c2, c3, c4⟩ := can
 have hok : DiskOk d ∧ d.secs.length = 38 := by
  unfold jourOk at c1
  by_cases hc : DiskOk d ∧ d.secs.length = 38
  ·exact hc
  ·rw [if_neg hc] at c1; cases c1
 obtain ⟨u1, u2⟩ := addTo_up hok.1 up
 rw [e] at u1 u2
 have u3 := u2 rfl
 have hjo : jourOf d = openJ d := if_pos hok
 have hG := jourOk_pos c1
 have hpos := (jourOf_ok d).2
 obtain ⟨s, c, f, b⟩ := d
 dsimp only at u1 u3 c3
 subst u1 u3 c3
 have hs : SecsOk s := ⟨hok.2, fun x hx => ⟨hok.1.2.2.2.1 x hx, (hd.2.1 x hx).2⟩⟩
 have pl : Plain ⟨s, [], -1, false⟩ s := ⟨rfl, rfl, by dsimp only; omega, by dsimp only; omega⟩
 have said : (jourOf ⟨s, [], -1, false⟩).Said ⟨s, [], -1, false⟩ := by
  rw [hjo]
  exact stepJ_said _ 1 (stepJ_said _ 0 (.inl rfl))
 have hd0 : At Any True s [] ⟨s, [], -1, false⟩ := .inr ⟨-1, by omega, fun _ => rfl, rfl⟩
 rcases said with h0 | ⟨hg, hrep⟩
 ·omega
 generalize hJ : jourOf ⟨s, [], -1, false⟩ = J at c2 c4 hjo hG hpos hg hrep
 obtain ⟨K, G, P⟩ := J
 dsimp only at c2 c4 hG hpos hg hrep
 unfold replay at hrep
 rw [if_pos hg] at hrep
 obtain ⟨p, _, hp, hp2, hch, hstop⟩ := replay_back pl hs (g := G) (by omega) 18 0 Kn.zero rfl rfl
 rw [hrep] at hp2 hch hstop
 dsimp only at hp2 hch hstop
 subst hp2
 by_cases hP : p = 18
 ·subst hP
  have hl := recsK_length K
  have hG2 : G + 1 ≤ 60000 := by
   have : ¬ G = 60000 := fun q => c4 ⟨rfl, q⟩
   omega
  rw [addTo_lay r (by rw [hJ]; rfl), hJ] at e
  dsimp only at e
  have hrun := recs_run (Chain.known hch)
  have hmem : ∀ w ∈ layW (G + 1) (recsK K) 0, WrOk 38 w ∧ Bytes w.f1 := fun w hw => by
   obtain ⟨j, hj, rfl⟩ := layW_mem _ _ _ _ hw
   rw [Nat.zero_add]
   exact ⟨⟨by dsimp only; rw [sector_eq (by omega)]; omega, (putRec_sec ..).1⟩, (putRec_sec ..).2⟩
  have h1 := At.lay (· ∈ layW (G + 1) (recsK K) 0) (fun w hw => (hmem w hw).1) (fun _ _ _ => trivial) hs (G + 1) (recsK K) 0 [] _ hd0 (fun w hw => (by cases hw)) (fun w hw => hw) (by simp; omega)
  rw [List.nil_append] at h1
  have hlw := layW_length (G + 1) (recsK K) 0
  have h2 := At.sync h1 trivial hs (fun x hx => (hmem x hx).1) (by omega)
  have s1 : SecsOk (ap s (layW (G + 1) (recsK K) 0)) := ap_any (Φ := SecsOk) _ (fun w hw t ht => SecsOk.set ht _ ⟨(hmem w hw).1.2, (hmem w hw).2⟩) s hs
  have hlay := ap_lay (g := G + 1) (by omega) (recsK K) 0 s hs.1 (by omega)
  generalize ap s (layW (G + 1) (recsK K) 0) = t at h2 s1 hlay
  have hhb : (headOf (G + 1) ((recsK K).length : Int)).length ≤ 160 ∧ Bytes (headOf (G + 1) ((recsK K).length : Int)) := ⟨by have := headOf_length (G + 1) ((recsK K).length : Int); omega, headOf_bytes _ _⟩
  have hcw : CacheOk [⟨(G + 1) % 2, headOf (G + 1) ((recsK K).length : Int)⟩] := fun x hx => by
   rw [List.mem_singleton.1 hx]
   exact ⟨by dsimp only; omega, hhb.1⟩
  have h4 := At.sync (At.write h2 trivial s1 (fun x hx => (by cases hx)) (by simp) (n := (G + 1) % 2) (by omega) hhb.1) trivial s1 hcw (by simp)
  have s2 : SecsOk (t.set ((G + 1) % 2).toNat (headOf (G + 1) ((recsK K).length : Int))) := SecsOk.set s1 _ hhb
  have e3 : layD ⟨s, [], -1, false⟩ K (G + 1) = syncDisk (writeSec (syncDisk (layRecs (G + 1) (recsK K) 0 ⟨s, [], -1, false⟩)) ((G + 1) % 2) (headOf (G + 1) ((recsK K).length : Int))) := by unfold layD; rw [par (G + 1) (by omega)]
  rw [← e3] at h4
  have h5 := (at_rec s2 h4 (g := G + 1) (by omega) (p := (recsK K).length) (by omega) r).bare
  rw [e] at h5
  have es : s = (t.set ((G + 1) % 2).toNat (headOf (G + 1) ((recsK K).length : Int))).set (sector (G + 1) ((recsK K).length : Int)).toNat (putRec (G + 1) ((recsK K).length : Int) r.kind r.n r.ow r.s) := congrArg Dk.secs h5
  have hsn := sector_eq (g := G + 1) (by omega) (recsK K).length
  have hrec : ∀ (j : Nat) (h : j < (recsK K).length), secAt s (sector (G + 1) ((0 + j : Nat) : Int)) = putRec (G + 1) ((0 + j : Nat) : Int) (recsK K)[j].f0 (recsK K)[j].f1 (recsK K)[j].f2 (recsK K)[j].f3 := fun j hj => by
   have hsj := sector_eq (g := G + 1) (by omega) (0 + j)
   rw [es, secAt_ne (by omega) (by omega) (by omega), secAt_ne (by omega) (by omega) (by omega)]
   exact hlay j hj
  have hhead : headS s ((G + 1) % 2) = (G + 1, ((recsK K).length : Int), true) := by
   unfold headS
   rw [es, secAt_ne (by omega) (by omega) (by omega), secAt_same (by rw [s1.1]; omega)]
   exact getHead_put (by omega) (by omega)
  have hch2 := Chain.runs (s := s) (g := G + 1) (by unfold wordIn; omega) (recsK K) 0 Kn.zero (by omega) rfl hrec hrun
  rw [Nat.zero_add] at hch2
  obtain ⟨p2, q1, _, q2, _⟩ := replay_back pl hs (g := G + 1) (by omega) (18 - (recsK K).length) (recsK K).length _ (by omega) hch2
  have := openJ_took pl hs (by omega) hhead (by
   unfold replay
   rw [if_pos (by omega), chain_replay pl hs (by omega) _ _ (by omega) hch2, q2]
   omega)
  rw [← hjo] at this
  dsimp only at this
  omega
 ·rw [addTo_stay r (by rw [hJ]; dsimp only; omega), hJ] at e
  dsimp only at e
  have h5 := (at_rec hs hd0 (g := G) (by omega) (p := p) (by omega) r).bare
  rw [e] at h5
  have es : s = s.set (sector G (p : Int)).toNat (putRec G (p : Int) r.kind r.n r.ow r.s) := congrArg Dk.secs h5
  have hsn := sector_eq (g := G) (by omega) p
  have hrec : recS s G p = (G, (p : Int), r.kind, r.n, r.ow, r.s, true) := by
   unfold recS
   rw [es, secAt_same (by rw [hs.1]; omega), getRec_put (by unfold wordIn; omega) (by unfold wordIn; omega) (can_rec c2)]
  refine hstop (by omega) ?_
  rw [hrec]
  exact ⟨rfl, rfl, rfl, c2⟩
end Go.Proofs.YthkepmicdpgbbaaGreatDoor.Fn

namespace Go.Proofs.YthkepmicdpgbbaaGreatDoor.Pure
set_option linter.unusedVariables false
set_option linter.unusedSimpArgs false
set_option linter.unusedVariables false
set_option linter.unusedSimpArgs false
open Go.RowKit Go.Proofs.YthkepmicdpgbbaaGreatDoorW.PrintWords Go.Proofs.YthkepmicdpgbbaaGreatDoor.P Go.Proofs.YthkepmicdpgbbaaGreatDoor.Base Go.Proofs.YthkepmicdpgbbaaGreatDoor.Fn
theorem fits_set {d : Dk} (h : Fits d) (n : Nat) {b : List Int} (hb : b.length ≤ 1048576 ∧ Bytes b) : Fits ⟨d.secs.set n b, d.cache, d.fuse, d.down⟩ := ⟨by simp only [List.length_set]; exact h.1, fun x hx => by
 rcases List.mem_or_eq_of_mem_set hx with hx | rfl
 ·exact h.2.1 x hx
 ·exact hb, h.2.2⟩
theorem l5Any {l : List Int} {i : Int} (hc : Cur l i) (h : Int) : ∃ d i' h', Ev (fun k => spec_l5Any.f k l i h 22) (d.secs, d.cache, d.fuse, d.down, i', h') ∧ Fits d ∧ Cur l i' := by
 unfold spec_l5Any.f
 obtain ⟨d, i1, h1, e1, hj, hc1⟩ := l5Draw hc h 22 (by omega)
 have hd := hj.fits
 have hl : d.secs.length = 38 := by obtain ⟨s, K, G, P, rfl, hi, _⟩ := hj; exact hi.secs.1
 obtain ⟨a, i2, h2, e2, a0, a1, _, hc2⟩ := l1Below hc1 h1 12
 by_cases k0 : a = 0
 ·obtain ⟨n, i3, h3, e3, n0, n1, _, hc3⟩ := l1Below hc2 h2 2
  have n2 := n1 (by omega)
  obtain ⟨b, i4, h4, e4, b1, _, hb, hc4⟩ := l1Bytes hc3 h3 6 (by omega)
  have b2 := b1 (by omega)
  exact ⟨⟨d.secs.set n.toNat b, d.cache, d.fuse, d.down⟩, i4, h4, Ev.bind e1 (Ev.then e2 (Ev.pos k0 (Ev.then e3 (Ev.bind e4 (Ev.pos n0 (Ev.pos (by dsimp only; omega) (Ev.done rfl))))))), fits_set hd _ ⟨by omega, hb⟩, hc4⟩
 by_cases k1 : a = 1
 ·obtain ⟨n, i3, h3, e3, n0, n1, _, hc3⟩ := l1Below hc2 h2 36
  have n2 := n1 (by omega)
  obtain ⟨b, i4, h4, e4, b1, _, hb, hc4⟩ := l1Bytes hc3 h3 4 (by omega)
  have b2 := b1 (by omega)
  have w : wrap64 (2 + n) = 2 + n := w64 (by omega) (by omega)
  refine ⟨⟨d.secs.set (2 + n).toNat b, d.cache, d.fuse, d.down⟩, i4, h4, Ev.bind e1 (Ev.then e2 (Ev.neg k0 (Ev.pos k1 (Ev.then e3 (Ev.bind e4 ?_))))), fits_set hd _ ⟨by omega, hb⟩, hc4⟩
  dsimp only
  rw [w]
  exact Ev.pos (by omega) (Ev.pos (by omega) (Ev.done rfl))
 by_cases k2 : a = 2
 ·obtain ⟨g, i3, h3, e3, hc3⟩ := l1Int hc2 h2 [1, 3, 2, 59999, 60000] (by simp)
  obtain ⟨n, i4, h4, e4, n0, n1, _, hc4⟩ := l1Below hc3 h3 4
  exact ⟨⟨d.secs.set (1 : Int).toNat (headOf g n), d.cache, d.fuse, d.down⟩, i4, h4, Ev.bind e1 (Ev.then e2 (Ev.neg k0 (Ev.neg k1 (Ev.pos k2 (Ev.then e3 (Ev.then e4 (Ev.bind (spec_headOf g n) (Ev.pos (by dsimp only; omega) (Ev.done rfl))))))))), fits_set hd _ (head_small g n), hc4⟩
 by_cases k3 : a = 3
 ·obtain ⟨d2, i3, h3, e3, hd2, hc3⟩ := l2Any hc2 h2
  exact ⟨d2, i3, h3, Ev.bind e1 (Ev.then e2 (Ev.neg k0 (Ev.neg k1 (Ev.neg k2 (Ev.pos k3 (Ev.bind e3 (Ev.done rfl))))))), hd2, hc3⟩
 by_cases k4 : a = 4
 ·exact ⟨⟨d.secs, d.cache, d.fuse, true⟩, i2, h2, Ev.bind e1 (Ev.then e2 (Ev.neg k0 (Ev.neg k1 (Ev.neg k2 (Ev.neg k3 (Ev.pos k4 (Ev.done rfl))))))), hd, hc2⟩
 by_cases k5 : a = 5
 ·obtain ⟨f, i3, h3, e3, _, _, _, hc3⟩ := l1Below hc2 h2 5
  exact ⟨⟨d.secs, d.cache, f, d.down⟩, i3, h3, Ev.bind e1 (Ev.then e2 (Ev.neg k0 (Ev.neg k1 (Ev.neg k2 (Ev.neg k3 (Ev.neg k4 (Ev.pos k5 (Ev.then e3 (Ev.done rfl))))))))), hd, hc3⟩
 by_cases k6 : a = 6
 ·obtain ⟨f, i3, h3, e3, _, _, _, hc3⟩ := l1Below hc2 h2 5
  exact ⟨⟨d.secs, d.cache, f, d.down⟩, i3, h3, Ev.bind e1 (Ev.then e2 (Ev.neg k0 (Ev.neg k1 (Ev.neg k2 (Ev.neg k3 (Ev.neg k4 (Ev.neg k5 (Ev.pos k6 (Ev.then e3 (Ev.done rfl)))))))))), hd, hc3⟩
 ·exact ⟨d, i2, h2, Ev.bind e1 (Ev.then e2 (Ev.neg k0 (Ev.neg k1 (Ev.neg k2 (Ev.neg k3 (Ev.neg k4 (Ev.neg k5 (Ev.neg k6 (Ev.done rfl))))))))), hd, hc2⟩
theorem drawAddRec (l : List Int) (hl : l.length ≤ 140737488351232) : ∃ d r, Ev (fun k => spec_DrawAddRec.f k l) (d.secs, d.cache, d.fuse, d.down, RecV.kind r, RecV.n r, RecV.ow r, RecV.s r) ∧ Fits d ∧ r.s.size ≤ 100 := by
 unfold spec_DrawAddRec.f
 obtain ⟨h0, e0⟩ := l1New l hl
 obtain ⟨d, i1, h1, e1, hd, hc1⟩ := l5Any (Cur.zero hl) h0
 obtain ⟨kind, n, owner, text, i2, h2, e2, ht, hc2⟩ := l4Any hc1 h1
 have e3 := spec_openJour d hd
 obtain ⟨q, i3, h3, e4, hc3⟩ := l1Once hc2 h2 4
 have go : ∀ N, ∃ d' r, (d.secs, d.cache, d.fuse, d.down, kind, N, owner, text) = (d'.secs, d'.cache, d'.fuse, d'.down, RecV.kind r, RecV.n r, RecV.ow r, RecV.s r) ∧ Fits d' ∧ r.s.size ≤ 100 := fun N => ⟨d, ⟨kind, N, owner, text⟩, rfl, hd, ht⟩
 by_cases k0 : q = true
 ·obtain ⟨d', r, e, a⟩ := go n
  exact ⟨d', r, Ev.bind e0 (Ev.bind e1 (Ev.bind e2 (Ev.bind e3 (Ev.then e4 (Ev.pos k0 (Ev.done e)))))), a⟩
 by_cases k1 : kind = 1
 ·obtain ⟨d', r, e, a⟩ := go (wrap64 ((openJour d).1 + 1))
  exact ⟨d', r, Ev.bind e0 (Ev.bind e1 (Ev.bind e2 (Ev.bind e3 (Ev.then e4 (Ev.neg k0 (Ev.pos k1 (Ev.done e))))))), a⟩
 by_cases k2 : kind = 2
 ·obtain ⟨d', r, e, a⟩ := go (openJour d).2.2.1
  exact ⟨d', r, Ev.bind e0 (Ev.bind e1 (Ev.bind e2 (Ev.bind e3 (Ev.then e4 (Ev.neg k0 (Ev.neg k1 (Ev.pos k2 (Ev.done e)))))))), a⟩
 by_cases k3 : kind = 3
 ·obtain ⟨d', r, e, a⟩ := go (wrap64 ((openJour d).2.2.2.2.1 + 1))
  exact ⟨d', r, Ev.bind e0 (Ev.bind e1 (Ev.bind e2 (Ev.bind e3 (Ev.then e4 (Ev.neg k0 (Ev.neg k1 (Ev.neg k2 (Ev.pos k3 (Ev.done e))))))))), a⟩
 ·obtain ⟨d', r, e, a⟩ := go n
  exact ⟨d', r, Ev.bind e0 (Ev.bind e1 (Ev.bind e2 (Ev.bind e3 (Ev.then e4 (Ev.neg k0 (Ev.neg k1 (Ev.neg k2 (Ev.neg k3 (Ev.done e))))))))), a⟩
theorem jour_j0 {d : Dk} (hd : Fits d) (r : RecV) : Ev (fun k => laws_FnJournals.j0 k (addRecOk d r) false d.secs d.cache d.fuse d.down (addRec d r).secs (addRec d r).cache (addRec d r).fuse (addRec d r).down) true := by
 have hx := addRec_fits hd r
 refine Ev.step (fun k => laws_FnJournals.j0.eq_2 _ _ _ _ _ _ _ _ _ _ k) (Ev.neg (by simp) ?_)
 by_cases can : CanAdd d r
 ·by_cases up : (addTo d r).down = false
  ·have ok : addRecOk d r = true := by rw [addRecOk_yes can, up]; rfl
   refine Ev.pos ok (Ev.bind (sameDisk_no _ d hx hd ?_) (Ev.done rfl))
   rw [addRec_yes can]
   exact add_other hd can up
  ·have dn : (addTo d r).down = true := by simpa using up
   have ok : ¬ addRecOk d r = true := by rw [addRecOk_yes can, dn]; simp
   exact Ev.neg ok (Ev.pos (by rw [addRec_yes can]; exact dn) (Ev.done rfl))
 ·have ok : ¬ addRecOk d r = true := by rw [addRecOk_no can]; simp
  refine Ev.neg ok ?_
  rw [addRec_no can]
  by_cases dn : d.down = true
  ·exact Ev.pos dn (Ev.done rfl)
  ·exact Ev.neg dn (Ev.bind (sameDisk d hd) (Ev.done rfl))
theorem FnJournals : laws_FnJournals.Pure := by
 intro l0 _ hl hb
 suffices h : Ev (fun k => laws_FnJournals.f k l0) true by
  obtain ⟨n, hn⟩ := h
  exact ⟨n, hn n (Nat.le_refl _)⟩
 unfold laws_FnJournals.f
 refine Ev.then (big l0) ?_
 by_cases hbig : (l0.length : Int) > 1048576
 ·exact Ev.pos (by simpa using hbig) (Ev.done rfl)
 refine Ev.neg (by simpa using hbig) ?_
 obtain ⟨d, r, e0, hd, hr⟩ := drawAddRec l0 (by omega)
 have e1 := impl_addRec d hd r (by omega)
 have e2 := spec_addRec d hd r (by omega)
 have e3 := impl_openJour d hd
 have e4 := spec_openJour d hd
 have e5 := impl_openJour formatD formatD_fits
 obtain ⟨f1, f2⟩ := new_inv.jour (d := formatD) (by rw [formatD_eq]; exact ⟨rfl, rfl, by dsimp only; omega, by dsimp only; omega⟩)
 rw [openJour_eq, f1, f2] at e5
 obtain ⟨D, R, keep, e6, hD, hc, hR, hRn⟩ := drawJour l0 (by omega)
 obtain ⟨s, K, G, P, rfl, hi, b1, b2, b3, b4⟩ := hD
 obtain ⟨j1, j2⟩ := hi.jour (d := ⟨s, [], -1, false⟩) ⟨rfl, rfl, by dsimp only; omega, by dsimp only; omega⟩
 have e7 := impl_openJour ⟨s, [], -1, false⟩ (fits_bare hi.secs (-1) false)
 rw [openJour_eq, j1, j2] at e7
 rw [j1] at hc
 have hs := (jourOf_ok ⟨s, [], -1, false⟩).1
 rw [j1] at hs
 dsimp only at hs
 have hp := hi.place
 have hgen := hi.gen
 have e8 := impl_addRec ⟨s, [], -1, false⟩ (fits_bare hi.secs (-1) false) R (by omega)
 obtain ⟨s', G', P', i', hG', can, a⟩ := add_at hi (f := -1) (by omega) R hc (by omega)
 rw [addRec_yes can, addRecOk_yes can] at e8
 rcases a with ⟨hv, _⟩ | ⟨f, _, hf', e⟩
 ·exact absurd rfl hv
 obtain rfl := hf' rfl
 rw [e] at e8
 have e9 := impl_openJour ⟨s', [], -1, false⟩ (fits_bare i'.secs (-1) false)
 obtain ⟨k1, k2⟩ := i'.jour (d := ⟨s', [], -1, false⟩) ⟨rfl, rfl, by dsimp only; omega, by dsimp only; omega⟩
 rw [openJour_eq, k1, k2] at e9
 have e10 := impl_apply K.g K.t K.pg K.pt K.e K.o R.kind R.n R.ow R.s (by have := hs.1; omega) (by have := hs.2; omega) (by omega)
 have hA : applyK K.g K.t K.pg K.pt K.e K.o R.kind R.n R.ow R.s = K.app R := rfl
 rw [hA] at e10
 have hc2 : (K.app R).2.2.2.2.2.2 = true := hc
 have hgo := jour_j0 hd r
 have wG : wrap64 (G + 1) = G + 1 := w64 (by omega) (by omega)
 have wP : wrap64 ((P : Int) + 1) = (P : Int) + 1 := w64 (by omega) (by omega)
 have hno : ∀ b : Bool, ¬ (b != b) = true := fun b => by cases b <;> decide
 refine Ev.bind e0 (Ev.bind e1 (Ev.bind e2 (Ev.bind e3 (Ev.bind e4 (Ev.bind impl_format (Ev.bind e5 (Ev.bind e6 (Ev.bind e7 (Ev.bind e8 (Ev.bind e9 (Ev.bind e10 ?_)))))))))))
 refine Ev.neg (hno _) (Ev.neg (hno _) (Ev.neg (by simp) (Ev.pos rfl (Ev.neg (by simp [Jn.tup, Kn.zero]) (Ev.pos hc2 (Ev.pos rfl (Ev.pos rfl (Ev.neg (by simp [Jn.tup, Kn.nextV]) ?_))))))))
 have hno2 : G' ≤ G + 1 → Ev (fun k => laws_FnJournals.j0 k (addRecOk d r) (decide (G' > wrap64 (G + 1))) d.secs d.cache d.fuse d.down (addRec d r).secs (addRec d r).cache (addRec d r).fuse (addRec d r).down) true := fun hle => by
  rw [decide_eq_false (show ¬ G' > wrap64 (G + 1) by rw [wG]; omega)]
  exact hgo
 rcases hG' with ⟨h1, rfl, rfl⟩ | ⟨h1, rfl⟩
 ·exact Ev.pos rfl (Ev.pos (by show ((P + 1 : Nat) : Int) = wrap64 ((P : Int) + 1); rw [wP]; omega) (hno2 (by omega)))
 ·exact Ev.neg (by show ¬ (G + 1 = G); omega) (hno2 (by omega))
end Go.Proofs.YthkepmicdpgbbaaGreatDoor.Pure
