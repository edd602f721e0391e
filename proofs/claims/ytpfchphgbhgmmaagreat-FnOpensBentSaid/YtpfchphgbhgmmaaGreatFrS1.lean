/-
  The walk of the reference's check of frames, kind 1. Conditions: none beside those that each theorem names.
-/
import Derived.Test.YtpfchphgbhgmmaaGreatFrOkP
namespace Go.Proofs.YtpfchphgbhgmmaaGreat
open Go.RowKit
set_option maxRecDepth 100000 in
set_option maxHeartbeats 20000000 in
theorem spec_FrameOk1 (id tick epoch seq : Int) (a1 : Option Addr) (n1 c1 : Nat) (a2 : Option Addr) (n2 c2 : Nat) (a3 : Option Addr) (n3 c3 : Nat) (a4 : Option Addr) (n4 c4 : Nat) (a5 : Option Addr) (n5 c5 : Nat) (a6 : Option Addr) (n6 c6 : Nat) (w : World) :
    Calls Tryz.prog 70 #[.agg #[.int .i64 1, .int .i64 id, .slice a1 n1 c1, .slice a2 n2 c2, .int .i64 tick, .slice a3 n3 c3, .slice a4 n4 c4, .int .i64 epoch, .int .i64 seq, .slice a5 n5 c5, .slice a6 n6 c6]] w fun e w' => e = .returned (.bool (frOkN 1 id n1 n2 tick n3 n4 epoch seq n5 n6)) ∧ w.grownBy w' none := by
  have G := Lib.hid (gb_alloc (gb_refl w) (.cells #[.int .i64 1, .int .i64 id, .slice a1 n1 c1, .slice a2 n2 c2, .int .i64 tick, .slice a3 n3 c3, .slice a4 n4 c4, .int .i64 epoch, .int .i64 seq, .slice a5 n5 c5, .slice a6 n6 c6] 32))
  have mtick : (tick == 0) = eqI tick 0 := rfl
  have m2 : ((n2 : Int) == 0) = eqN n2 0 := rfl
  have m3 : ((n3 : Int) == 0) = eqN n3 0 := rfl
  have m4 : ((n4 : Int) == 0) = eqN n4 0 := rfl
  have pepoch : (epoch != 0) = neI epoch 0 := rfl
  have pseq : (seq != 0) = neI seq 0 := rfl
  have p5 : ((n5 : Int) != 0) = neN n5 0 := rfl
  have p6 : ((n6 : Int) != 0) = neN n6 0 := rfl
  have p1 : ((n1 : Int) != 12) = neN n1 12 := rfl
  go_enter Tryz.func70, Tryz.ntmps70
  go_wp2_with (first | (go_at_call 59; refine (spec_l1In _ _ _ _).mono ?_; rintro e w' ⟨rfl, rfl⟩) | (go_at_call 31; refine (spec_Sealed _ _).mono ?_; rintro e w' ⟨rfl, rfl⟩) | (go_at_call 32; refine (spec_l7Body _ _ _).mono ?_; rintro e w' ⟨rfl, rfl⟩))
  all_goals
    go_ret
    exact ⟨ret_b (by simp [frOkN, *]), G.out⟩
end Go.Proofs.YtpfchphgbhgmmaaGreat
