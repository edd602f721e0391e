/-
  Contracts of the derived keys. Conditions: none beside those that each theorem names.
-/
import Derived.Test.YtpfchphgbhgmmaaGreatMac
import Derived.Laws.IdiomStrings
namespace Go.Proofs.YtpfchphgbhgmmaaGreat
open Go.RowKit
def lstr (l : List UInt8) : ByteArray := ⟨l.toArray⟩
theorem rd_str (w : World) (e : TypeId) (s : List UInt8) (cap : Nat) (h : s.length ≤ cap) (fr : Nat × Nat) : Rd (w.drew.alloc (.cells (bytesRow (lstr s) cap) e fr)) (some ⟨w.heap.size, 0, none⟩) s.length cap (bys s) := by
  refine ⟨bys_len s, h, fun j hj => ⟨w.heap.size, 0, rfl, ?_⟩⟩
  rw [cell_of_row _ w.heap.size (0 + j) _ e fr (heap_alloc_new w.drew _), Nat.zero_add, bytesRow_at (lstr s) cap j (by simpa [lstr] using hj), bys_at s j hj]
  simp [lstr]
end Go.Proofs.YtpfchphgbhgmmaaGreat
