/- What the library's contracts ask of the world in which they are met: the table of powers of ten, and the length from which a text is searched in another way. It lasts, whatever is made behind the heap. -/
import Derived.Test.YtldfehmaophfjaaDoorShelf
import Derived.Below
import Derived.Lib.AppendIntMem
import Derived.Lib.ItoaMem
import Derived.Lib.SplitLaws
import Derived.Laws.AppendOwn
namespace Go.Proofs.YtldfehmaophfjaaDoor.P
open Go Go.RowKit
set_option linter.unusedVariables false
structure GW (w : World) : Prop where
  tab : Lib.TabIs Tryd.prog w "internal/strconv.uint64pow10" .u64 Lib.pow10Tab
  most : ∃ (m : Int) (g : Nat), Tryd.prog.globalNamed "internal/bytealg.MaxLen" = some g ∧ w.cell? ⟨g, 0, none⟩ = some (.int .i64 m) ∧ g < w.heap.size
theorem GW.below {w w' : World} (h : GW w) (hb : Below w.heap.size w w') : GW w' := ⟨Lib.tabBelow_of_tabIs h.tab _ hb, let ⟨m, g, hn, hc, hl⟩ := h.most; ⟨m, g, hn, (hb.cell (p := ⟨g, 0, none⟩) hl).trans hc, Nat.lt_of_lt_of_le hl hb.size⟩⟩
theorem bas1 (a : UInt8) : ByteArray.size ⟨#[a]⟩ = 1 := rfl
/-- A row that a call has laid anew. -/
theorem own_new (w : World) (e : TypeId) (cur : Array Value) (n cap : Nat) (xs : List Value) (h0 : xs.length = n) (h1 : n ≤ cap) (h2 : cap ≤ maxLen) (h3 : cur.size = cap) (h4 : cur.toList.take n = xs) :
    (w.alloc (.cells cur e)).ownsRow w.heap.size e 1 (.slice (some ⟨w.heap.size, 0, none⟩) n cap) n xs := by
  refine ⟨by rw [h0, Nat.mul_one], .inr ⟨w.heap.size, cap, cur, rfl, Nat.le_refl _, ?_, h1, h2, by rw [h3, Nat.mul_one], by rw [Nat.mul_one]; exact h4⟩⟩
  exact heap_alloc_new w _
end Go.Proofs.YtldfehmaophfjaaDoor.P
