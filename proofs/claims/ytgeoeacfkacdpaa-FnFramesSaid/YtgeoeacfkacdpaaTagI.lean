/-
  Contracts of the two functions that lay the input of a tag. Conditions: none beside those that each theorem names.
-/
import Derived.Test.YtgeoeacfkacdpaaPut
import Derived.Deep.RegionHeld3
namespace Go.Proofs.Ytgeoeacfkacdpaa
open Go.RowKit
theorem tagInM_len (role : Int) (f : FrameM) : (tagInM role f).length ≤ 65 := by
  unfold tagInM
  split
  · rename_i h
    simp only [Bool.and_eq_true] at h
    have h1 := headM_len role f.sn f.epoch f.seq
    have h2 := (frOk_S h.2 h.1.2).2.2.1
    simp
    omega
  · simp
end Go.Proofs.Ytgeoeacfkacdpaa
