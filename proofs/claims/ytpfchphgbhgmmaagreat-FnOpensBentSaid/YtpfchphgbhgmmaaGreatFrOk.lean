/-
  Contracts of the two functions that check frames. Conditions: none beside those that each theorem names.
-/
import Derived.Test.YtpfchphgbhgmmaaGreatFrI1
import Derived.Test.YtpfchphgbhgmmaaGreatFrI2
import Derived.Test.YtpfchphgbhgmmaaGreatFrI3
import Derived.Test.YtpfchphgbhgmmaaGreatFrIS
import Derived.Test.YtpfchphgbhgmmaaGreatFrIO
import Derived.Test.YtpfchphgbhgmmaaGreatFrS1
import Derived.Test.YtpfchphgbhgmmaaGreatFrS2
import Derived.Test.YtpfchphgbhgmmaaGreatFrS3
import Derived.Test.YtpfchphgbhgmmaaGreatFrSS
import Derived.Test.YtpfchphgbhgmmaaGreatFrSO
namespace Go.Proofs.YtpfchphgbhgmmaaGreat
open Go.RowKit
theorem impl_FrameOk (v : Value) (f : FrameM) (w : World) (h : FrameR w v f) :
    Calls Tryz.prog 54 #[v] w fun e w' => e = .returned (.bool (frOk f)) ∧ w.grownBy w' none := by
  obtain ⟨a1, n1, c1, a2, n2, c2, a3, n3, c3, a4, n4, c4, a5, n5, c5, a6, n6, c6, rfl, r1, r2, r3, r4, r5, r6⟩ := h
  obtain ⟨kind, id, l1, l2, tick, l3, l4, epoch, seq, l5, l6⟩ := f
  simp only at r1 r2 r3 r4 r5 r6 ⊢
  rw [show frOk ⟨kind, id, l1, l2, tick, l3, l4, epoch, seq, l5, l6⟩ = frOkN kind id n1 n2 tick n3 n4 epoch seq n5 n6 by simp only [frOk, r1.blen, r2.blen, r3.blen, r4.blen, r5.blen, r6.blen]]
  by_cases hs : sealedB kind = true
  · exact impl_FrameOkS kind hs id tick epoch seq a1 n1 c1 l1 a2 n2 c2 l2 a3 n3 c3 l3 a4 n4 c4 l4 a5 n5 c5 l5 a6 n6 c6 l6 w r1 r2 r3 r4 r5 r6
  · have hs : sealedB kind = false := by simpa using hs
    by_cases h1 : kind = 1
    · subst h1; exact impl_FrameOk1 id tick epoch seq a1 n1 c1 l1 a2 n2 c2 l2 a3 n3 c3 l3 a4 n4 c4 l4 a5 n5 c5 l5 a6 n6 c6 l6 w r1 r2 r3 r4 r5 r6
    · by_cases h2 : kind = 2
      · subst h2; exact impl_FrameOk2 id tick epoch seq a1 n1 c1 l1 a2 n2 c2 l2 a3 n3 c3 l3 a4 n4 c4 l4 a5 n5 c5 l5 a6 n6 c6 l6 w r1 r2 r3 r4 r5 r6
      · by_cases h3 : kind = 3
        · subst h3; exact impl_FrameOk3 id tick epoch seq a1 n1 c1 l1 a2 n2 c2 l2 a3 n3 c3 l3 a4 n4 c4 l4 a5 n5 c5 l5 a6 n6 c6 l6 w r1 r2 r3 r4 r5 r6
        · exact impl_FrameOkO kind hs (by simpa using h1) (by simpa using h2) (by simpa using h3) id tick epoch seq a1 n1 c1 a2 n2 c2 a3 n3 c3 a4 n4 c4 a5 n5 c5 a6 n6 c6 w
theorem spec_FrameOk (v : Value) (f : FrameM) (w : World) (h : FrameR w v f) :
    Calls Tryz.prog 70 #[v] w fun e w' => e = .returned (.bool (frOk f)) ∧ w.grownBy w' none := by
  obtain ⟨a1, n1, c1, a2, n2, c2, a3, n3, c3, a4, n4, c4, a5, n5, c5, a6, n6, c6, rfl, r1, r2, r3, r4, r5, r6⟩ := h
  obtain ⟨kind, id, l1, l2, tick, l3, l4, epoch, seq, l5, l6⟩ := f
  simp only at r1 r2 r3 r4 r5 r6 ⊢
  rw [show frOk ⟨kind, id, l1, l2, tick, l3, l4, epoch, seq, l5, l6⟩ = frOkN kind id n1 n2 tick n3 n4 epoch seq n5 n6 by simp only [frOk, r1.blen, r2.blen, r3.blen, r4.blen, r5.blen, r6.blen]]
  by_cases hs : sealedB kind = true
  · exact spec_FrameOkS kind hs id tick epoch seq a1 n1 c1 a2 n2 c2 a3 n3 c3 a4 n4 c4 a5 n5 c5 a6 n6 c6 w
  · have hs : sealedB kind = false := by simpa using hs
    by_cases h1 : kind = 1
    · subst h1; exact spec_FrameOk1 id tick epoch seq a1 n1 c1 a2 n2 c2 a3 n3 c3 a4 n4 c4 a5 n5 c5 a6 n6 c6 w
    · by_cases h2 : kind = 2
      · subst h2; exact spec_FrameOk2 id tick epoch seq a1 n1 c1 a2 n2 c2 a3 n3 c3 a4 n4 c4 a5 n5 c5 a6 n6 c6 w
      · by_cases h3 : kind = 3
        · subst h3; exact spec_FrameOk3 id tick epoch seq a1 n1 c1 a2 n2 c2 a3 n3 c3 a4 n4 c4 a5 n5 c5 a6 n6 c6 w
        · exact spec_FrameOkO kind hs (by simpa using h1) (by simpa using h2) (by simpa using h3) id tick epoch seq a1 n1 c1 a2 n2 c2 a3 n3 c3 a4 n4 c4 a5 n5 c5 a6 n6 c6 w
end Go.Proofs.YtpfchphgbhgmmaaGreat
