/-
  Contracts of the functions that open a sealed frame. Conditions: none beside those that each theorem names.
-/
import Derived.Test.YtjdaafemfpafdaaKeys3
import Derived.Test.YtjdaafemfpafdaaTagS
import Derived.Test.YtjdaafemfpafdaaTagI
import Derived.Test.YtjdaafemfpafdaaStrm
import Derived.Deep.RegionHeld3
namespace Go.Proofs.Ytjdaafemfpafdaa
open Go.RowKit
def unsealB (l : List UInt8) (x : Int) (f : FrameM) : Bool := ((l.length : Int) == 32) && (!(((tagInM x f).length : Int) == 0) && sameT f.tag (tagM l (tagInM x f)))
def unsealM (l : List UInt8) (x : Int) (f : FrameM) : List UInt8 := if unsealB l x f = true then mixM l (headM x f.sn f.epoch f.seq) f.body else []
theorem tagIn_ne {x : Int} {f : FrameM} (h : tagInM x f ≠ []) : roleB x = true ∧ sealedB f.kind = true ∧ frOk f = true := by
  unfold tagInM at h
  split at h
  · rename_i h2
    simp only [Bool.and_eq_true] at h2
    exact ⟨h2.1.1, h2.1.2, h2.2⟩
  · exact absurd rfl h
theorem unseal_len {l : List UInt8} {x : Int} {f : FrameM} (h : unsealB l x f = true) : l.length = 32 ∧ f.body.length ≤ 40 := by
  simp only [unsealB, Bool.and_eq_true, Bool.not_eq_true', beq_eq_false_iff_ne, beq_iff_eq] at h
  obtain ⟨h1, h2, -⟩ := h
  have h3 : tagInM x f ≠ [] := fun e => h2 (by rw [e]; rfl)
  obtain ⟨-, h4, h5⟩ := tagIn_ne h3
  exact ⟨by omega, (frOk_S h5 h4).2.2.1⟩
theorem unsealM_le (l : List UInt8) (x : Int) (f : FrameM) : (unsealM l x f).length ≤ 40 := by
  unfold unsealM
  split
  · rename_i h
    obtain ⟨h1, h2⟩ := unseal_len h
    rw [mixM_len (by omega) (Nat.le_trans (headM_len _ _ _ _) (by decide)) (by omega)]
    exact h2
  · simp
end Go.Proofs.Ytjdaafemfpafdaa
