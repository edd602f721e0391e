/-
  The walk of the check of frames, kind O. Conditions: none beside those that each theorem names.
-/
import Derived.Test.YtpfchphgbhgmmaaGreatFrOkP
import Derived.BigRegion
namespace Go.Proofs.YtpfchphgbhgmmaaGreat
open Go.RowKit
set_option maxRecDepth 100000 in
set_option maxHeartbeats 20000000 in
theorem impl_FrameOkO (kind : Int) (hk : sealedB kind = false) (k1 : (kind == 1) = false) (k2 : (kind == 2) = false) (k3 : (kind == 3) = false) (id tick epoch seq : Int) (a1 : Option Addr) (n1 c1 : Nat) (a2 : Option Addr) (n2 c2 : Nat) (a3 : Option Addr) (n3 c3 : Nat) (a4 : Option Addr) (n4 c4 : Nat) (a5 : Option Addr) (n5 c5 : Nat) (a6 : Option Addr) (n6 c6 : Nat) (w : World) :
    Calls Tryz.prog 54 #[.agg #[.int .i64 kind, .int .i64 id, .slice a1 n1 c1, .slice a2 n2 c2, .int .i64 tick, .slice a3 n3 c3, .slice a4 n4 c4, .int .i64 epoch, .int .i64 seq, .slice a5 n5 c5, .slice a6 n6 c6]] w fun e w' => e = .returned (.bool (frOkN kind id n1 n2 tick n3 n4 epoch seq n5 n6)) ∧ w.grownBy w' none := by
  have K1 : kind ≠ 1 := by simpa using k1
  have K2 : kind ≠ 2 := by simpa using k2
  have K3 : kind ≠ 3 := by simpa using k3
  rw [show frOkN kind id n1 n2 tick n3 n4 epoch seq n5 n6 = false by simp [frOkN, hk, K1, K2, K3]]
  clear K1 K2 K3
  have g0 := gb_alloc (gb_alloc (gb_refl w) (.cells #[.int .i64 kind, .int .i64 id, .slice a1 n1 c1, .slice a2 n2 c2, .int .i64 tick, .slice a3 n3 c3, .slice a4 n4 c4, .int .i64 epoch, .int .i64 seq, .slice a5 n5 c5, .slice a6 n6 c6] 32)) (.cells #[.int .i64 kind, .int .i64 0, .slice none 0 0, .slice none 0 0, .int .i64 0, .slice none 0 0, .slice none 0 0, .int .i64 0, .int .i64 0, .slice none 0 0, .slice none 0 0] 32)
  have G := Lib.hid g0
  clear g0
  go_enter Tryz.func54, Tryz.ntmps54
  go_wp2_with (first | (go_at_call 34; refine (impl_within _ _ _ _).mono ?_; rintro e w' ⟨rfl, rfl⟩) | (go_at_call 76; refine (impl_isNonce _ _ _ _).mono ?_; rintro e w' ⟨rfl, rfl⟩) | (go_at_call 53; refine (impl_Sealed _ _).mono ?_; rintro e w' ⟨rfl, rfl⟩) | (go_at_call 77; refine (impl_bodyOk _ _ _).mono ?_; rintro e w' ⟨rfl, rfl⟩))
  go_ret
  exact ⟨rfl, G.out⟩
end Go.Proofs.YtpfchphgbhgmmaaGreat
