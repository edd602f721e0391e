/-
  Contracts of the functions that lay frames into bytes. Conditions: none beside those that each theorem names.
-/
import Derived.Test.YtpfchphgbhgmmaaGreatFrOk
import Derived.Test.YtpfchphgbhgmmaaGreatGb
import Derived.Deep.RegionHeld3
namespace Go.Proofs.YtpfchphgbhgmmaaGreat
open Go.RowKit
def putM (f : FrameM) : List UInt8 :=
  if frOk f = true then
    (if f.kind = 1 then [1, b8 f.id] ++ f.cn ++ List.replicate 20 0
     else if f.kind = 2 then [2] ++ f.cn ++ f.sn ++ be f.tick.toNat 4 ++ f.cookie
     else if f.kind = 3 then [3, b8 f.id] ++ f.cn ++ f.sn ++ be f.tick.toNat 4 ++ f.cookie ++ f.proof
     else [b8 f.kind] ++ f.sn ++ be f.epoch.toNat 4 ++ be f.seq.toNat 6 ++ f.tag ++ f.body)
  else []
def tagInM (role : Int) (f : FrameM) : List UInt8 :=
  if roleB role && sealedB f.kind && frOk f then [116] ++ headM role f.sn f.epoch f.seq ++ [b8 f.kind] ++ f.body else []
theorem bodyB_le {k : Int} {n : Nat} (h : bodyB k n = true) : n ≤ 40 := by
  unfold bodyB at h
  split at h
  · simpa using h
  · split at h <;> simp at h <;> omega
theorem eqN_le {n : Nat} {m : Nat} (h : eqN n (m : Int) = true) : n ≤ m := by rw [eqN_iff] at h; omega
/-- what a frame that is right is bounded by -/
theorem frOk_S {f : FrameM} (h : frOk f = true) (hk : sealedB f.kind = true) : f.sn.length ≤ 12 ∧ f.tag.length ≤ 16 ∧ f.body.length ≤ 40 ∧ 0 ≤ f.epoch ∧ f.epoch ≤ 4294967295 ∧ 0 ≤ f.seq ∧ f.seq ≤ 281474976710655 ∧ 4 ≤ f.kind ∧ f.kind ≤ 8 := by
  have hk2 := inB_iff.1 hk
  simp only [frOk, frOkN, hk, if_true, Bool.and_eq_true, inB_iff] at h
  obtain ⟨⟨⟨⟨⟨⟨⟨⟨⟨-, -⟩, h2⟩, -⟩, -⟩, -⟩, h6⟩, h7⟩, h8⟩, h9⟩ := h
  exact ⟨eqN_le (m := 12) h2, eqN_le (m := 16) h9, bodyB_le h8, h6.1, h6.2, h7.1, h7.2, hk2.1, hk2.2⟩
theorem frOk_1 {f : FrameM} (h : frOk f = true) (hk : f.kind = 1) : f.cn.length ≤ 12 ∧ 1 ≤ f.id ∧ f.id ≤ 9 := by
  simp only [frOk, frOkN, hk, sealed_1, if_true, Bool.and_eq_true, inB_iff, not_neN, not_neI, Bool.false_eq_true, if_false] at h
  obtain ⟨⟨-, h1⟩, ⟨⟨⟨h2, -⟩, -⟩, -⟩, -⟩ := h
  exact ⟨eqN_le (m := 12) h1, h2.1, h2.2⟩
theorem frOk_2 {f : FrameM} (h : frOk f = true) (hk : f.kind = 2) : f.cn.length ≤ 12 ∧ f.sn.length ≤ 12 ∧ 0 ≤ f.tick ∧ f.tick ≤ 1000000 ∧ f.cookie.length ≤ 16 := by
  simp only [frOk, frOkN, hk, sealed_2, if_true, Bool.and_eq_true, inB_iff, not_neN, not_neI, Bool.false_eq_true, if_false, show ¬ (2 : Int) = 1 by decide] at h
  obtain ⟨⟨-, h1⟩, ⟨⟨⟨-, h2⟩, h3⟩, h4⟩, -⟩ := h
  exact ⟨eqN_le (m := 12) h1, eqN_le (m := 12) h2, h3.1, h3.2, eqN_le (m := 16) h4⟩
theorem frOk_3 {f : FrameM} (h : frOk f = true) (hk : f.kind = 3) : f.cn.length ≤ 12 ∧ f.sn.length ≤ 12 ∧ 0 ≤ f.tick ∧ f.tick ≤ 1000000 ∧ f.cookie.length ≤ 16 ∧ f.proof.length ≤ 16 ∧ 1 ≤ f.id ∧ f.id ≤ 9 := by
  simp only [frOk, frOkN, hk, sealed_3, if_true, Bool.and_eq_true, inB_iff, not_neN, not_neI, Bool.false_eq_true, if_false, show ¬ (3 : Int) = 1 by decide, show ¬ (3 : Int) = 2 by decide] at h
  obtain ⟨⟨-, h1⟩, ⟨⟨⟨h0, h2⟩, h3⟩, h4⟩, h5⟩ := h
  exact ⟨eqN_le (m := 12) h1, eqN_le (m := 12) h2, h3.1, h3.2, eqN_le (m := 16) h4, eqN_le (m := 16) h5, h0.1, h0.2⟩
theorem frOk_O {f : FrameM} (h : frOk f = true) (h1 : f.kind ≠ 1) (h2 : f.kind ≠ 2) (h3 : f.kind ≠ 3) : sealedB f.kind = true := by
  by_cases hs : sealedB f.kind = true
  · exact hs
  · simp [frOk, frOkN, hs, h1, h2, h3] at h
end Go.Proofs.YtpfchphgbhgmmaaGreat
