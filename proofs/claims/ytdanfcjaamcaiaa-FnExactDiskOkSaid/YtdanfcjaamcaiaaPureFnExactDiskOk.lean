/- The pure statement of the law FnExactDiskOk: the program's DiskOk and the reference's come to one answer, and the disk stays. -/
import Derived.Test.YtdanfcjaamcaiaaPxd
import Derived.Test.YtdanfcjaamcaiaaDiskOk
namespace Go.Proofs.Ytdanfcjaamcaiaa.Pure
set_option linter.unusedVariables false
set_option linter.unusedSimpArgs false
open Go.RowKit Go.Proofs.YtdanfcjaamcaiaaW.PrintWords Go.Proofs.Ytdanfcjaamcaiaa.P Go.Proofs.Ytdanfcjaamcaiaa.Base Go.Proofs.Ytdanfcjaamcaiaa.Fn
theorem FnExactDiskOk : laws_FnExactDiskOk.Pure := by
  rintro secs cache fuse down ⟨hs, hgs⟩ ⟨hc, hgc⟩ hf
  refine Ev.rounds ?_
  unfold laws_FnExactDiskOk.f
  obtain ⟨r, e, h1, h2⟩ := szDisk secs cache fuse down 1048576 ⟨hs, fun x hx => (hgs x hx).1⟩ ⟨hc, fun x hx => (hgc x hx).2.1⟩ (by omega) (by omega)
  refine Ev.bind e ?_
  by_cases h : r < 0
  · exact Ev.pos h (Ev.done rfl)
  have h3 := h2 (by omega)
  have hd := fits_of fuse down hgs hgc h3
  have td := toDisk secs cache fuse down h3.1 h3.2
  refine Ev.neg h (Ev.bind td (Ev.bind (spec_diskOk ⟨secs, cache.map wrOf, fuse, down⟩ hd.1 hd.2.2.1) (Ev.bind td (Ev.bind (impl_diskOk ⟨secs, cache.map wrOf, fuse, down⟩ hd.1 hd.2.2.1) (Ev.neg (by simp) (Ev.bind td (Ev.bind (eqDisk_same _ hd) (Ev.pos rfl (Ev.done rfl)))))))))
end Go.Proofs.Ytdanfcjaamcaiaa.Pure
