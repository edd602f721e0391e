/-
  The walk of the check of frames, kind 1. Conditions: none beside those that each theorem names.
-/
import Derived.Test.YtpfchphgbhgmmaaGreatFrOkP
import Derived.BigRegion
namespace Go.Proofs.YtpfchphgbhgmmaaGreat
open Go.RowKit
set_option maxRecDepth 100000 in
set_option maxHeartbeats 20000000 in
theorem impl_FrameOk1 (id tick epoch seq : Int) (a1 : Option Addr) (n1 c1 : Nat) (l1 : List UInt8) (a2 : Option Addr) (n2 c2 : Nat) (l2 : List UInt8) (a3 : Option Addr) (n3 c3 : Nat) (l3 : List UInt8) (a4 : Option Addr) (n4 c4 : Nat) (l4 : List UInt8) (a5 : Option Addr) (n5 c5 : Nat) (l5 : List UInt8) (a6 : Option Addr) (n6 c6 : Nat) (l6 : List UInt8) (w : World)
    (r1 : Rd w a1 n1 c1 (bys l1)) (r2 : Rd w a2 n2 c2 (bys l2)) (r3 : Rd w a3 n3 c3 (bys l3)) (r4 : Rd w a4 n4 c4 (bys l4)) (r5 : Rd w a5 n5 c5 (bys l5)) (r6 : Rd w a6 n6 c6 (bys l6)) :
    Calls Tryz.prog 54 #[.agg #[.int .i64 1, .int .i64 id, .slice a1 n1 c1, .slice a2 n2 c2, .int .i64 tick, .slice a3 n3 c3, .slice a4 n4 c4, .int .i64 epoch, .int .i64 seq, .slice a5 n5 c5, .slice a6 n6 c6]] w fun e w' => e = .returned (.bool (frOkN 1 id n1 n2 tick n3 n4 epoch seq n5 n6)) ∧ w.grownBy w' none := by
  have g0 := gb_drew (gb_alloc (gb_alloc (gb_refl w) (.cells #[.int .i64 1, .int .i64 id, .slice a1 n1 c1, .slice a2 n2 c2, .int .i64 tick, .slice a3 n3 c3, .slice a4 n4 c4, .int .i64 epoch, .int .i64 seq, .slice a5 n5 c5, .slice a6 n6 c6] 32)) (.cells #[.int .i64 1, .int .i64 id, .slice a1 n1 c1, .slice none 0 0, .int .i64 0, .slice none 0 0, .slice none 0 0, .int .i64 0, .int .i64 0, .slice none 0 0, .slice none 0 0] 32))
  have G := Lib.hid g0
  have R := Lib.hid (frameR_mk (kind := 1) (id := id) (tick := tick) (epoch := epoch) (seq := seq) (r1.keep0 g0) (r2.keep0 g0) (r3.keep0 g0) (r4.keep0 g0) (r5.keep0 g0) (r6.keep0 g0))
  have R' := Lib.hid (frameR_mk (kind := 1) (id := id) (tick := 0) (epoch := 0) (seq := 0) (r1.keep0 g0) (rd_nilB _) (rd_nilB _) (rd_nilB _) (rd_nilB _) (rd_nilB _))
  have E := Lib.hid (show frEq ⟨1, id, l1, l2, tick, l3, l4, epoch, seq, l5, l6⟩ ⟨1, id, l1, [], 0, [], [], 0, 0, [], []⟩ = (eqI tick 0 && eqI epoch 0 && eqI seq 0 && eqN n2 0 && eqN n3 0 && eqN n4 0 && eqN n5 0 && eqN n6 0) by simp [frEq, eqI_self, eqL_self, nilN r2.blen, nilN r3.blen, nilN r4.blen, nilN r5.blen, nilN r6.blen, Bool.and_assoc])
  clear g0 r1 r2 r3 r4 r5 r6
  have m1 : ((n1 : Int) == 12) = eqN n1 12 := rfl
  go_enter Tryz.func54, Tryz.ntmps54
  go_wp2_with (first | (go_at_call 34; refine (impl_within _ _ _ _).mono ?_; rintro e w' ⟨rfl, rfl⟩) | (go_at_call 76; refine (impl_isNonce _ _ _ _).mono ?_; rintro e w' ⟨rfl, rfl⟩) | (go_at_call 53; refine (impl_Sealed _ _).mono ?_; rintro e w' ⟨rfl, rfl⟩) | (go_at_call 77; refine (impl_bodyOk _ _ _).mono ?_; rintro e w' ⟨rfl, rfl⟩))
  go_region
  go_wp2_with (first | (go_at_call 34; refine (impl_within _ _ _ _).mono ?_; rintro e w' ⟨rfl, rfl⟩) | (go_at_call 76; refine (impl_isNonce _ _ _ _).mono ?_; rintro e w' ⟨rfl, rfl⟩) | (go_at_call 53; refine (impl_Sealed _ _).mono ?_; rintro e w' ⟨rfl, rfl⟩) | (go_at_call 77; refine (impl_bodyOk _ _ _).mono ?_; rintro e w' ⟨rfl, rfl⟩) | (go_at_call 78; (with_reducible refine (impl_sameFrame _ _ _ _ _ R.out R'.out).mono ?_); rintro e w9 ⟨rfl, g9⟩))
  all_goals
    go_ret
    first
      | (refine ⟨ret_b ?_, gb_trans G.out g9⟩; rw [E.out]; first | (simp [frOkN, not_neN, not_neI, sealed_1, *]; done) | (simp [frOkN, not_neN, not_neI, sealed_1, *]; ac_rfl))
      | (refine ⟨ret_b ?_, G.out⟩; simp [frOkN, not_neN, not_neI, sealed_1, *])
end Go.Proofs.YtpfchphgbhgmmaaGreat
