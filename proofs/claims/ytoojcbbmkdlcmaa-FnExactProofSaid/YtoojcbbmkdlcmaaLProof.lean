/-
  FnExactProof returns true for every secret, id, nonces, tick and cookie. Conditions: none.
-/
import Derived.Test.YtoojcbbmkdlcmaaLaw
import Derived.Test.YtoojcbbmkdlcmaaKeys4
import Derived.Test.YtoojcbbmkdlcmaaHelpS
import Derived.Deep.RegionHeld3
namespace Go.Proofs.Ytoojcbbmkdlcmaa.lProof
open Go.ChangeShapes Go.WideShapes Go.ChangeAt Go.RowKit
theorem LS_Proof (a0 : Option Addr) (n0 c0 : Nat) (l0 : List UInt8) (x1 : Int) (a2 : Option Addr) (n2 c2 : Nat) (l2 : List UInt8) (a3 : Option Addr) (n3 c3 : Nat) (l3 : List UInt8) (x4 : Int) (a5 : Option Addr) (n5 c5 : Nat) (l5 : List UInt8) (w : World) (r0 : Rd w a0 n0 c0 (bys l0)) (r2 : Rd w a2 n2 c2 (bys l2)) (r3 : Rd w a3 n3 c3 (bys l3)) (r5 : Rd w a5 n5 c5 (bys l5)) (_s0 : l0.length ≤ 1048576) (_s2 : l2.length ≤ 1048576) (_s3 : l3.length ≤ 1048576) (_s5 : l5.length ≤ 1048576) : Calls Try.prog 36 #[.slice a0 n0 c0, .int .i64 x1, .slice a2 n2 c2, .slice a3 n3 c3, .int .i64 x4, .slice a5 n5 c5] w fun e w' => ∃ a n c, e = .returned (.slice a n c) ∧ Ow w.heap.size w' 5 a n c (bys (proofM l0 x1 l2 l3 x4 l5)) ∧ w.grownBy w' none := by
  exact spec_Proof a0 n0 c0 l0 x1 a2 n2 c2 l2 a3 n3 c3 l3 x4 a5 n5 c5 l5 w r0 r2 r3 r5
theorem LI_Proof (a0 : Option Addr) (n0 c0 : Nat) (l0 : List UInt8) (x1 : Int) (a2 : Option Addr) (n2 c2 : Nat) (l2 : List UInt8) (a3 : Option Addr) (n3 c3 : Nat) (l3 : List UInt8) (x4 : Int) (a5 : Option Addr) (n5 c5 : Nat) (l5 : List UInt8) (w : World) (r0 : Rd w a0 n0 c0 (bys l0)) (r2 : Rd w a2 n2 c2 (bys l2)) (r3 : Rd w a3 n3 c3 (bys l3)) (r5 : Rd w a5 n5 c5 (bys l5)) (_s0 : l0.length ≤ 1048576) (_s2 : l2.length ≤ 1048576) (_s3 : l3.length ≤ 1048576) (_s5 : l5.length ≤ 1048576) : Calls Try.prog 37 #[.slice a0 n0 c0, .int .i64 x1, .slice a2 n2 c2, .slice a3 n3 c3, .int .i64 x4, .slice a5 n5 c5] w fun e w' => ∃ a n c, e = .returned (.slice a n c) ∧ Ow w.heap.size w' 5 a n c (bys (proofM l0 x1 l2 l3 x4 l5)) ∧ w.grownBy w' none := by
  exact impl_Proof a0 n0 c0 l0 x1 a2 n2 c2 l2 a3 n3 c3 l3 x4 a5 n5 c5 l5 w r0 r2 r3 r5
set_option maxRecDepth 100000 in
set_option maxHeartbeats 4000000 in
theorem walk (w : World) (v0 v1 v2 v3 v4 v5 : Value) (h0 : InBytes w v0) (h1 : InInt v1) (h2 : InBytes w v2) (h3 : InBytes w v3) (h4 : InInt v4) (h5 : InBytes w v5) : Calls Try.prog 9 #[v0, v1, v2, v3, v4, v5] w fun e w' => e = .returned (.bool true) ∧ Below w.heap.size w w' := by
  obtain ⟨a0, n0, c0, l0, rfl, hR0, hC0⟩ := h0
  have hN0 := Lib.hid hR0.blen
  obtain ⟨x1, rfl, hx1⟩ := h1
  obtain ⟨a2, n2, c2, l2, rfl, hR2, hC2⟩ := h2
  have hN2 := Lib.hid hR2.blen
  obtain ⟨a3, n3, c3, l3, rfl, hR3, hC3⟩ := h3
  have hN3 := Lib.hid hR3.blen
  obtain ⟨x4, rfl, hx4⟩ := h4
  obtain ⟨a5, n5, c5, l5, rfl, hR5, hC5⟩ := h5
  have hN5 := Lib.hid hR5.blen
  have T0 : Below w.heap.size w w := Below.refl _ _
  go_enter Try.func9, Try.ntmps9
  rcases Nat.lt_or_ge 1048576 n0 with p0 | p0
  · go_wp2
    go_ret
    exact ⟨rfl, below_next T0 (by repeat (first | with_reducible exact gb_refl _ | refine gb_alloc ?_ _ | refine gb_drewN ?_ _ | refine gb_drew ?_))⟩
  have P0 := Lib.hid p0
  have p0z : ((n0 : Int) ≤ 1048576) := by have := P0.out; omega
  clear p0
  rcases Nat.lt_or_ge 1048576 n2 with p2 | p2
  · go_wp2
    go_ret
    exact ⟨rfl, below_next T0 (by repeat (first | with_reducible exact gb_refl _ | refine gb_alloc ?_ _ | refine gb_drewN ?_ _ | refine gb_drew ?_))⟩
  have P2 := Lib.hid p2
  have p2z : ((n2 : Int) ≤ 1048576) := by have := P2.out; omega
  clear p2
  rcases Nat.lt_or_ge 1048576 n3 with p3 | p3
  · go_wp2
    go_ret
    exact ⟨rfl, below_next T0 (by repeat (first | with_reducible exact gb_refl _ | refine gb_alloc ?_ _ | refine gb_drewN ?_ _ | refine gb_drew ?_))⟩
  have P3 := Lib.hid p3
  have p3z : ((n3 : Int) ≤ 1048576) := by have := P3.out; omega
  clear p3
  rcases Nat.lt_or_ge 1048576 n5 with p5 | p5
  · go_wp2
    go_ret
    exact ⟨rfl, below_next T0 (by repeat (first | with_reducible exact gb_refl _ | refine gb_alloc ?_ _ | refine gb_drewN ?_ _ | refine gb_drew ?_))⟩
  have P5 := Lib.hid p5
  have p5z : ((n5 : Int) ≤ 1048576) := by have := P5.out; omega
  clear p5
  go_wp2_with fail
  refine (laws_toByteS _ _ _ l0 _ ((hR0.below T0).keep0 (by repeat (first | with_reducible exact gb_refl _ | refine gb_alloc ?_ _ | refine gb_drewN ?_ _ | refine gb_drew ?_))) (by have := P0.out; omega)).mono ?_
  rintro e w1 ⟨a_tw00, c_tw00, rfl, o_tw00, g1⟩
  have u_tw00 := fun p hp => (o_tw00.lt p hp).2
  have R1 : w.grownBy w1 none := gb_trans (by repeat (first | with_reducible exact gb_refl _ | refine gb_alloc ?_ _ | refine gb_drewN ?_ _ | refine gb_drew ?_)) g1
  have T1 : Below w.heap.size w w1 := below_next T0 R1
  have z1 := R1.size
  replace o_tw00 := o_tw00.mono (B' := w.heap.size) (by first | exact Nat.le_refl _ | (simp; done) | (simp; omega))
  go_wp2_with fail
  refine (laws_toByteS _ _ _ l2 _ ((hR2.below T1).keep0 (by repeat (first | with_reducible exact gb_refl _ | refine gb_alloc ?_ _ | refine gb_drewN ?_ _ | refine gb_drew ?_))) (by have := P2.out; omega)).mono ?_
  rintro e w2 ⟨a_tw01, c_tw01, rfl, o_tw01, g2⟩
  have u_tw01 := fun p hp => (o_tw01.lt p hp).2
  have R2 : w1.grownBy w2 none := gb_trans (by repeat (first | with_reducible exact gb_refl _ | refine gb_alloc ?_ _ | refine gb_drewN ?_ _ | refine gb_drew ?_)) g2
  have T2 : Below w.heap.size w w2 := below_next T1 R2
  have z2 := R2.size
  replace o_tw00 := o_tw00.keep0 R2
  replace o_tw01 := o_tw01.mono (B' := w1.heap.size) (by first | exact Nat.le_refl _ | (simp; done) | (simp; omega))
  go_wp2_with fail
  refine (laws_toByteS _ _ _ l3 _ ((hR3.below T2).keep0 (by repeat (first | with_reducible exact gb_refl _ | refine gb_alloc ?_ _ | refine gb_drewN ?_ _ | refine gb_drew ?_))) (by have := P3.out; omega)).mono ?_
  rintro e w3 ⟨a_tw02, c_tw02, rfl, o_tw02, g3⟩
  have u_tw02 := fun p hp => (o_tw02.lt p hp).2
  have R3 : w2.grownBy w3 none := gb_trans (by repeat (first | with_reducible exact gb_refl _ | refine gb_alloc ?_ _ | refine gb_drewN ?_ _ | refine gb_drew ?_)) g3
  have T3 : Below w.heap.size w w3 := below_next T2 R3
  have z3 := R3.size
  replace o_tw00 := o_tw00.keep0 R3
  replace o_tw01 := o_tw01.keep0 R3
  replace o_tw02 := o_tw02.mono (B' := w2.heap.size) (by first | exact Nat.le_refl _ | (simp; done) | (simp; omega))
  go_wp2_with fail
  refine (laws_toByteS _ _ _ l5 _ ((hR5.below T3).keep0 (by repeat (first | with_reducible exact gb_refl _ | refine gb_alloc ?_ _ | refine gb_drewN ?_ _ | refine gb_drew ?_))) (by have := P5.out; omega)).mono ?_
  rintro e w4 ⟨a_tw03, c_tw03, rfl, o_tw03, g4⟩
  have u_tw03 := fun p hp => (o_tw03.lt p hp).2
  have R4 : w3.grownBy w4 none := gb_trans (by repeat (first | with_reducible exact gb_refl _ | refine gb_alloc ?_ _ | refine gb_drewN ?_ _ | refine gb_drew ?_)) g4
  have T4 : Below w.heap.size w w4 := below_next T3 R4
  have z4 := R4.size
  replace o_tw00 := o_tw00.keep0 R4
  replace o_tw01 := o_tw01.keep0 R4
  replace o_tw02 := o_tw02.keep0 R4
  replace o_tw03 := o_tw03.mono (B' := w3.heap.size) (by first | exact Nat.le_refl _ | (simp; done) | (simp; omega))
  go_wp2_with fail
  refine (LS_Proof _ _ _ l0 x1 _ _ _ l2 _ _ _ l3 x4 _ _ _ l5 _ (o_tw00.rd.keep0 (by repeat (first | with_reducible exact gb_refl _ | refine gb_alloc ?_ _ | refine gb_drewN ?_ _ | refine gb_drew ?_))) (o_tw01.rd.keep0 (by repeat (first | with_reducible exact gb_refl _ | refine gb_alloc ?_ _ | refine gb_drewN ?_ _ | refine gb_drew ?_))) (o_tw02.rd.keep0 (by repeat (first | with_reducible exact gb_refl _ | refine gb_alloc ?_ _ | refine gb_drewN ?_ _ | refine gb_drew ?_))) (o_tw03.rd.keep0 (by repeat (first | with_reducible exact gb_refl _ | refine gb_alloc ?_ _ | refine gb_drewN ?_ _ | refine gb_drew ?_))) (show l0.length ≤ 1048576 by have := hN0.out; have := P0.out; omega) (show l2.length ≤ 1048576 by have := hN2.out; have := P2.out; omega) (show l3.length ≤ 1048576 by have := hN3.out; have := P3.out; omega) (show l5.length ≤ 1048576 by have := hN5.out; have := P5.out; omega)).mono ?_
  rintro e w5 ⟨a_w0, n_w0, c_w0, rfl, o_w0, g5⟩
  have u_w0 := fun p hp => (o_w0.lt p hp).2
  have R5 : w4.grownBy w5 none := gb_trans (by repeat (first | with_reducible exact gb_refl _ | refine gb_alloc ?_ _ | refine gb_drewN ?_ _ | refine gb_drew ?_)) g5
  have T5 : Below w.heap.size w w5 := below_next T4 R5
  have z5 := R5.size
  replace o_tw00 := o_tw00.keep0 R5
  replace o_tw01 := o_tw01.keep0 R5
  replace o_tw02 := o_tw02.keep0 R5
  replace o_tw03 := o_tw03.keep0 R5
  replace o_w0 := o_w0.mono (B' := w4.heap.size) (by first | exact Nat.le_refl _ | (simp; done) | (simp; omega))
  clear o_tw00 u_tw00
  clear o_tw01 u_tw01
  clear o_tw02 u_tw02
  clear o_tw03 u_tw03
  go_wp2_with fail
  refine (laws_toByteS _ _ _ l0 _ ((hR0.below T5).keep0 (by repeat (first | with_reducible exact gb_refl _ | refine gb_alloc ?_ _ | refine gb_drewN ?_ _ | refine gb_drew ?_))) (by have := P0.out; omega)).mono ?_
  rintro e w6 ⟨a_x0, c_x0, rfl, o_x0, g6⟩
  have u_x0 := fun p hp => (o_x0.lt p hp).2
  have R6 : w5.grownBy w6 none := gb_trans (by repeat (first | with_reducible exact gb_refl _ | refine gb_alloc ?_ _ | refine gb_drewN ?_ _ | refine gb_drew ?_)) g6
  have T6 : Below w.heap.size w w6 := below_next T5 R6
  have z6 := R6.size
  replace o_w0 := o_w0.keep0 R6
  replace o_x0 := o_x0.mono (B' := w5.heap.size) (by first | exact Nat.le_refl _ | (simp; done) | (simp; omega))
  go_wp2_with fail
  refine (laws_toByteS _ _ _ l2 _ ((hR2.below T6).keep0 (by repeat (first | with_reducible exact gb_refl _ | refine gb_alloc ?_ _ | refine gb_drewN ?_ _ | refine gb_drew ?_))) (by have := P2.out; omega)).mono ?_
  rintro e w7 ⟨a_x2, c_x2, rfl, o_x2, g7⟩
  have u_x2 := fun p hp => (o_x2.lt p hp).2
  have R7 : w6.grownBy w7 none := gb_trans (by repeat (first | with_reducible exact gb_refl _ | refine gb_alloc ?_ _ | refine gb_drewN ?_ _ | refine gb_drew ?_)) g7
  have T7 : Below w.heap.size w w7 := below_next T6 R7
  have z7 := R7.size
  replace o_w0 := o_w0.keep0 R7
  replace o_x0 := o_x0.keep0 R7
  replace o_x2 := o_x2.mono (B' := w6.heap.size) (by first | exact Nat.le_refl _ | (simp; done) | (simp; omega))
  go_wp2_with fail
  refine (laws_toByteS _ _ _ l3 _ ((hR3.below T7).keep0 (by repeat (first | with_reducible exact gb_refl _ | refine gb_alloc ?_ _ | refine gb_drewN ?_ _ | refine gb_drew ?_))) (by have := P3.out; omega)).mono ?_
  rintro e w8 ⟨a_x3, c_x3, rfl, o_x3, g8⟩
  have u_x3 := fun p hp => (o_x3.lt p hp).2
  have R8 : w7.grownBy w8 none := gb_trans (by repeat (first | with_reducible exact gb_refl _ | refine gb_alloc ?_ _ | refine gb_drewN ?_ _ | refine gb_drew ?_)) g8
  have T8 : Below w.heap.size w w8 := below_next T7 R8
  have z8 := R8.size
  replace o_w0 := o_w0.keep0 R8
  replace o_x0 := o_x0.keep0 R8
  replace o_x2 := o_x2.keep0 R8
  replace o_x3 := o_x3.mono (B' := w7.heap.size) (by first | exact Nat.le_refl _ | (simp; done) | (simp; omega))
  go_wp2_with fail
  refine (laws_toByteS _ _ _ l5 _ ((hR5.below T8).keep0 (by repeat (first | with_reducible exact gb_refl _ | refine gb_alloc ?_ _ | refine gb_drewN ?_ _ | refine gb_drew ?_))) (by have := P5.out; omega)).mono ?_
  rintro e w9 ⟨a_x5, c_x5, rfl, o_x5, g9⟩
  have u_x5 := fun p hp => (o_x5.lt p hp).2
  have R9 : w8.grownBy w9 none := gb_trans (by repeat (first | with_reducible exact gb_refl _ | refine gb_alloc ?_ _ | refine gb_drewN ?_ _ | refine gb_drew ?_)) g9
  have T9 : Below w.heap.size w w9 := below_next T8 R9
  have z9 := R9.size
  replace o_w0 := o_w0.keep0 R9
  replace o_x0 := o_x0.keep0 R9
  replace o_x2 := o_x2.keep0 R9
  replace o_x3 := o_x3.keep0 R9
  replace o_x5 := o_x5.mono (B' := w8.heap.size) (by first | exact Nat.le_refl _ | (simp; done) | (simp; omega))
  go_wp2_with fail
  refine (LI_Proof _ _ _ l0 x1 _ _ _ l2 _ _ _ l3 x4 _ _ _ l5 _ (o_x0.rd.keep0 (by repeat (first | with_reducible exact gb_refl _ | refine gb_alloc ?_ _ | refine gb_drewN ?_ _ | refine gb_drew ?_))) (o_x2.rd.keep0 (by repeat (first | with_reducible exact gb_refl _ | refine gb_alloc ?_ _ | refine gb_drewN ?_ _ | refine gb_drew ?_))) (o_x3.rd.keep0 (by repeat (first | with_reducible exact gb_refl _ | refine gb_alloc ?_ _ | refine gb_drewN ?_ _ | refine gb_drew ?_))) (o_x5.rd.keep0 (by repeat (first | with_reducible exact gb_refl _ | refine gb_alloc ?_ _ | refine gb_drewN ?_ _ | refine gb_drew ?_))) (show l0.length ≤ 1048576 by have := hN0.out; have := P0.out; omega) (show l2.length ≤ 1048576 by have := hN2.out; have := P2.out; omega) (show l3.length ≤ 1048576 by have := hN3.out; have := P3.out; omega) (show l5.length ≤ 1048576 by have := hN5.out; have := P5.out; omega)).mono ?_
  rintro e w10 ⟨a_g0, n_g0, c_g0, rfl, o_g0, g10⟩
  have u_g0 := fun p hp => (o_g0.lt p hp).2
  have R10 : w9.grownBy w10 none := gb_trans (by repeat (first | with_reducible exact gb_refl _ | refine gb_alloc ?_ _ | refine gb_drewN ?_ _ | refine gb_drew ?_)) g10
  have T10 : Below w.heap.size w w10 := below_next T9 R10
  have z10 := R10.size
  replace o_w0 := o_w0.keep0 R10
  replace o_x0 := o_x0.keep0 R10
  replace o_x2 := o_x2.keep0 R10
  replace o_x3 := o_x3.keep0 R10
  replace o_x5 := o_x5.keep0 R10
  replace o_g0 := o_g0.mono (B' := w9.heap.size) (by first | exact Nat.le_refl _ | (simp; done) | (simp; omega))
  go_wp2_with fail
  refine (laws_eqByteS_same _ _ _ _ _ _ _ _ (o_g0.rd.keep0 (by repeat (first | with_reducible exact gb_refl _ | refine gb_alloc ?_ _ | refine gb_drewN ?_ _ | refine gb_drew ?_))) (o_w0.rd.keep0 (by repeat (first | with_reducible exact gb_refl _ | refine gb_alloc ?_ _ | refine gb_drewN ?_ _ | refine gb_drew ?_))) (by have h9 := (show (proofM l0 x1 l2 l3 x4 l5).length ≤ 1048576 from Nat.le_trans (proofM_le _ _ _ _ _ _) (by decide)); omega)).mono ?_
  rintro e w11 ⟨rfl, q11⟩
  have g11 := q11.gb
  have R11 : w10.grownBy w11 none := gb_trans (by repeat (first | with_reducible exact gb_refl _ | refine gb_alloc ?_ _ | refine gb_drewN ?_ _ | refine gb_drew ?_)) g11
  have T11 : Below w.heap.size w w11 := below_next T10 R11
  have z11 := R11.size
  replace o_w0 := o_w0.keep0 R11
  replace o_x0 := o_x0.keep0 R11
  replace o_x2 := o_x2.keep0 R11
  replace o_x3 := o_x3.keep0 R11
  replace o_x5 := o_x5.keep0 R11
  replace o_g0 := o_g0.keep0 R11
  go_wp2_with fail
  refine (laws_toByteS _ _ _ l0 _ ((hR0.below T11).keep0 (by repeat (first | with_reducible exact gb_refl _ | refine gb_alloc ?_ _ | refine gb_drewN ?_ _ | refine gb_drew ?_))) (by have := P0.out; omega)).mono ?_
  rintro e w12 ⟨a_tz_x0, c_tz_x0, rfl, o_tz_x0, g12⟩
  have u_tz_x0 := fun p hp => (o_tz_x0.lt p hp).2
  have R12 : w11.grownBy w12 none := gb_trans (by repeat (first | with_reducible exact gb_refl _ | refine gb_alloc ?_ _ | refine gb_drewN ?_ _ | refine gb_drew ?_)) g12
  have T12 : Below w.heap.size w w12 := below_next T11 R12
  have z12 := R12.size
  replace o_w0 := o_w0.keep0 R12
  replace o_x0 := o_x0.keep0 R12
  replace o_x2 := o_x2.keep0 R12
  replace o_x3 := o_x3.keep0 R12
  replace o_x5 := o_x5.keep0 R12
  replace o_g0 := o_g0.keep0 R12
  replace o_tz_x0 := o_tz_x0.mono (B' := w11.heap.size) (by first | exact Nat.le_refl _ | (simp; done) | (simp; omega))
  go_wp2_with fail
  refine (laws_eqByteS_same _ _ _ _ _ _ _ _ (o_x0.rd.keep0 (by repeat (first | with_reducible exact gb_refl _ | refine gb_alloc ?_ _ | refine gb_drewN ?_ _ | refine gb_drew ?_))) (o_tz_x0.rd.keep0 (by repeat (first | with_reducible exact gb_refl _ | refine gb_alloc ?_ _ | refine gb_drewN ?_ _ | refine gb_drew ?_))) (by have h9 := (show l0.length ≤ 1048576 by have := hN0.out; have := P0.out; omega); omega)).mono ?_
  rintro e w13 ⟨rfl, q13⟩
  have g13 := q13.gb
  have R13 : w12.grownBy w13 none := gb_trans (by repeat (first | with_reducible exact gb_refl _ | refine gb_alloc ?_ _ | refine gb_drewN ?_ _ | refine gb_drew ?_)) g13
  have T13 : Below w.heap.size w w13 := below_next T12 R13
  have z13 := R13.size
  replace o_w0 := o_w0.keep0 R13
  replace o_x0 := o_x0.keep0 R13
  replace o_x2 := o_x2.keep0 R13
  replace o_x3 := o_x3.keep0 R13
  replace o_x5 := o_x5.keep0 R13
  replace o_g0 := o_g0.keep0 R13
  replace o_tz_x0 := o_tz_x0.keep0 R13
  clear o_tz_x0 u_tz_x0
  go_wp2_with fail
  refine (laws_toByteS _ _ _ l2 _ ((hR2.below T13).keep0 (by repeat (first | with_reducible exact gb_refl _ | refine gb_alloc ?_ _ | refine gb_drewN ?_ _ | refine gb_drew ?_))) (by have := P2.out; omega)).mono ?_
  rintro e w14 ⟨a_tz_x2, c_tz_x2, rfl, o_tz_x2, g14⟩
  have u_tz_x2 := fun p hp => (o_tz_x2.lt p hp).2
  have R14 : w13.grownBy w14 none := gb_trans (by repeat (first | with_reducible exact gb_refl _ | refine gb_alloc ?_ _ | refine gb_drewN ?_ _ | refine gb_drew ?_)) g14
  have T14 : Below w.heap.size w w14 := below_next T13 R14
  have z14 := R14.size
  replace o_w0 := o_w0.keep0 R14
  replace o_x0 := o_x0.keep0 R14
  replace o_x2 := o_x2.keep0 R14
  replace o_x3 := o_x3.keep0 R14
  replace o_x5 := o_x5.keep0 R14
  replace o_g0 := o_g0.keep0 R14
  replace o_tz_x2 := o_tz_x2.mono (B' := w13.heap.size) (by first | exact Nat.le_refl _ | (simp; done) | (simp; omega))
  go_wp2_with fail
  refine (laws_eqByteS_same _ _ _ _ _ _ _ _ (o_x2.rd.keep0 (by repeat (first | with_reducible exact gb_refl _ | refine gb_alloc ?_ _ | refine gb_drewN ?_ _ | refine gb_drew ?_))) (o_tz_x2.rd.keep0 (by repeat (first | with_reducible exact gb_refl _ | refine gb_alloc ?_ _ | refine gb_drewN ?_ _ | refine gb_drew ?_))) (by have h9 := (show l2.length ≤ 1048576 by have := hN2.out; have := P2.out; omega); omega)).mono ?_
  rintro e w15 ⟨rfl, q15⟩
  have g15 := q15.gb
  have R15 : w14.grownBy w15 none := gb_trans (by repeat (first | with_reducible exact gb_refl _ | refine gb_alloc ?_ _ | refine gb_drewN ?_ _ | refine gb_drew ?_)) g15
  have T15 : Below w.heap.size w w15 := below_next T14 R15
  have z15 := R15.size
  replace o_w0 := o_w0.keep0 R15
  replace o_x0 := o_x0.keep0 R15
  replace o_x2 := o_x2.keep0 R15
  replace o_x3 := o_x3.keep0 R15
  replace o_x5 := o_x5.keep0 R15
  replace o_g0 := o_g0.keep0 R15
  replace o_tz_x2 := o_tz_x2.keep0 R15
  clear o_tz_x2 u_tz_x2
  go_wp2_with fail
  refine (laws_toByteS _ _ _ l3 _ ((hR3.below T15).keep0 (by repeat (first | with_reducible exact gb_refl _ | refine gb_alloc ?_ _ | refine gb_drewN ?_ _ | refine gb_drew ?_))) (by have := P3.out; omega)).mono ?_
  rintro e w16 ⟨a_tz_x3, c_tz_x3, rfl, o_tz_x3, g16⟩
  have u_tz_x3 := fun p hp => (o_tz_x3.lt p hp).2
  have R16 : w15.grownBy w16 none := gb_trans (by repeat (first | with_reducible exact gb_refl _ | refine gb_alloc ?_ _ | refine gb_drewN ?_ _ | refine gb_drew ?_)) g16
  have T16 : Below w.heap.size w w16 := below_next T15 R16
  have z16 := R16.size
  replace o_w0 := o_w0.keep0 R16
  replace o_x0 := o_x0.keep0 R16
  replace o_x2 := o_x2.keep0 R16
  replace o_x3 := o_x3.keep0 R16
  replace o_x5 := o_x5.keep0 R16
  replace o_g0 := o_g0.keep0 R16
  replace o_tz_x3 := o_tz_x3.mono (B' := w15.heap.size) (by first | exact Nat.le_refl _ | (simp; done) | (simp; omega))
  go_wp2_with fail
  refine (laws_eqByteS_same _ _ _ _ _ _ _ _ (o_x3.rd.keep0 (by repeat (first | with_reducible exact gb_refl _ | refine gb_alloc ?_ _ | refine gb_drewN ?_ _ | refine gb_drew ?_))) (o_tz_x3.rd.keep0 (by repeat (first | with_reducible exact gb_refl _ | refine gb_alloc ?_ _ | refine gb_drewN ?_ _ | refine gb_drew ?_))) (by have h9 := (show l3.length ≤ 1048576 by have := hN3.out; have := P3.out; omega); omega)).mono ?_
  rintro e w17 ⟨rfl, q17⟩
  have g17 := q17.gb
  have R17 : w16.grownBy w17 none := gb_trans (by repeat (first | with_reducible exact gb_refl _ | refine gb_alloc ?_ _ | refine gb_drewN ?_ _ | refine gb_drew ?_)) g17
  have T17 : Below w.heap.size w w17 := below_next T16 R17
  have z17 := R17.size
  replace o_w0 := o_w0.keep0 R17
  replace o_x0 := o_x0.keep0 R17
  replace o_x2 := o_x2.keep0 R17
  replace o_x3 := o_x3.keep0 R17
  replace o_x5 := o_x5.keep0 R17
  replace o_g0 := o_g0.keep0 R17
  replace o_tz_x3 := o_tz_x3.keep0 R17
  clear o_tz_x3 u_tz_x3
  go_wp2_with fail
  refine (laws_toByteS _ _ _ l5 _ ((hR5.below T17).keep0 (by repeat (first | with_reducible exact gb_refl _ | refine gb_alloc ?_ _ | refine gb_drewN ?_ _ | refine gb_drew ?_))) (by have := P5.out; omega)).mono ?_
  rintro e w18 ⟨a_tz_x5, c_tz_x5, rfl, o_tz_x5, g18⟩
  have u_tz_x5 := fun p hp => (o_tz_x5.lt p hp).2
  have R18 : w17.grownBy w18 none := gb_trans (by repeat (first | with_reducible exact gb_refl _ | refine gb_alloc ?_ _ | refine gb_drewN ?_ _ | refine gb_drew ?_)) g18
  have T18 : Below w.heap.size w w18 := below_next T17 R18
  have z18 := R18.size
  replace o_w0 := o_w0.keep0 R18
  replace o_x0 := o_x0.keep0 R18
  replace o_x2 := o_x2.keep0 R18
  replace o_x3 := o_x3.keep0 R18
  replace o_x5 := o_x5.keep0 R18
  replace o_g0 := o_g0.keep0 R18
  replace o_tz_x5 := o_tz_x5.mono (B' := w17.heap.size) (by first | exact Nat.le_refl _ | (simp; done) | (simp; omega))
  go_wp2_with fail
  refine (laws_eqByteS_same _ _ _ _ _ _ _ _ (o_x5.rd.keep0 (by repeat (first | with_reducible exact gb_refl _ | refine gb_alloc ?_ _ | refine gb_drewN ?_ _ | refine gb_drew ?_))) (o_tz_x5.rd.keep0 (by repeat (first | with_reducible exact gb_refl _ | refine gb_alloc ?_ _ | refine gb_drewN ?_ _ | refine gb_drew ?_))) (by have h9 := (show l5.length ≤ 1048576 by have := hN5.out; have := P5.out; omega); omega)).mono ?_
  rintro e w19 ⟨rfl, q19⟩
  have g19 := q19.gb
  have R19 : w18.grownBy w19 none := gb_trans (by repeat (first | with_reducible exact gb_refl _ | refine gb_alloc ?_ _ | refine gb_drewN ?_ _ | refine gb_drew ?_)) g19
  have T19 : Below w.heap.size w w19 := below_next T18 R19
  have z19 := R19.size
  replace o_w0 := o_w0.keep0 R19
  replace o_x0 := o_x0.keep0 R19
  replace o_x2 := o_x2.keep0 R19
  replace o_x3 := o_x3.keep0 R19
  replace o_x5 := o_x5.keep0 R19
  replace o_g0 := o_g0.keep0 R19
  replace o_tz_x5 := o_tz_x5.keep0 R19
  clear o_tz_x5 u_tz_x5
  go_wp2_with fail
  refine (laws_markByteS (w5.heap.size) _ _ _ (1) _ _ (o_x0.keep0 (by repeat (first | with_reducible exact gb_refl _ | refine gb_alloc ?_ _ | refine gb_drewN ?_ _ | refine gb_drew ?_))) (by have h9 := (show l0.length ≤ 1048576 by have := hN0.out; have := P0.out; omega); have h8 := o_x0.blen; omega)).mono ?_
  rintro e w20 ⟨rfl, z_x0, r20⟩
  have g20 := gbI.ofRow (B := w5.heap.size) (S := w6.heap.size) r20 (fun g hg => by obtain ⟨p, hp, rfl⟩ := row_of hg; exact ⟨(o_x0.lt p hp).1, u_x0 p hp⟩)
  have e_x0_20 := Lib.hid o_x0.blen
  replace o_x0 := z_x0
  clear z_x0
  have R20 : gbI (w5.heap.size) (w6.heap.size) w19 w20 := (gbI.of0 (by repeat (first | with_reducible exact gb_refl _ | refine gb_alloc ?_ _ | refine gb_drewN ?_ _ | refine gb_drew ?_))).trans g20
  have T20 : Below w.heap.size w w20 := below_nextI T19 R20 (by omega)
  have z20 := R20.size
  replace o_w0 := o_w0.keepI R20 (fun p hp => by have := u_w0 p hp; have := (o_w0.lt p hp).1; omega)
  replace o_x2 := o_x2.keepI R20 (fun p hp => by have := u_x2 p hp; have := (o_x2.lt p hp).1; omega)
  replace o_x3 := o_x3.keepI R20 (fun p hp => by have := u_x3 p hp; have := (o_x3.lt p hp).1; omega)
  replace o_x5 := o_x5.keepI R20 (fun p hp => by have := u_x5 p hp; have := (o_x5.lt p hp).1; omega)
  replace o_g0 := o_g0.keepI R20 (fun p hp => by have := u_g0 p hp; have := (o_g0.lt p hp).1; omega)
  go_wp2_with fail
  refine (laws_markByteS (w6.heap.size) _ _ _ (1 + n0) _ _ (o_x2.keep0 (by repeat (first | with_reducible exact gb_refl _ | refine gb_alloc ?_ _ | refine gb_drewN ?_ _ | refine gb_drew ?_))) (by have h9 := (show l2.length ≤ 1048576 by have := hN2.out; have := P2.out; omega); have h8 := o_x2.blen; have := (show l0.length ≤ 1048576 by have := hN0.out; have := P0.out; omega); have := e_x0_20.out; omega)).mono ?_
  rintro e w21 ⟨rfl, z_x2, r21⟩
  have g21 := gbI.ofRow (B := w6.heap.size) (S := w7.heap.size) r21 (fun g hg => by obtain ⟨p, hp, rfl⟩ := row_of hg; exact ⟨(o_x2.lt p hp).1, u_x2 p hp⟩)
  have e_x2_21 := Lib.hid o_x2.blen
  replace o_x2 := z_x2
  clear z_x2
  have R21 : gbI (w6.heap.size) (w7.heap.size) w20 w21 := (gbI.of0 (by repeat (first | with_reducible exact gb_refl _ | refine gb_alloc ?_ _ | refine gb_drewN ?_ _ | refine gb_drew ?_))).trans g21
  have T21 : Below w.heap.size w w21 := below_nextI T20 R21 (by omega)
  have z21 := R21.size
  replace o_w0 := o_w0.keepI R21 (fun p hp => by have := u_w0 p hp; have := (o_w0.lt p hp).1; omega)
  replace o_x0 := o_x0.keepI R21 (fun p hp => by have := u_x0 p hp; have := (o_x0.lt p hp).1; omega)
  replace o_x3 := o_x3.keepI R21 (fun p hp => by have := u_x3 p hp; have := (o_x3.lt p hp).1; omega)
  replace o_x5 := o_x5.keepI R21 (fun p hp => by have := u_x5 p hp; have := (o_x5.lt p hp).1; omega)
  replace o_g0 := o_g0.keepI R21 (fun p hp => by have := u_g0 p hp; have := (o_g0.lt p hp).1; omega)
  go_wp2_with fail
  refine (laws_markByteS (w7.heap.size) _ _ _ (1 + n0 + n2) _ _ (o_x3.keep0 (by repeat (first | with_reducible exact gb_refl _ | refine gb_alloc ?_ _ | refine gb_drewN ?_ _ | refine gb_drew ?_))) (by have h9 := (show l3.length ≤ 1048576 by have := hN3.out; have := P3.out; omega); have h8 := o_x3.blen; have := (show l0.length ≤ 1048576 by have := hN0.out; have := P0.out; omega); have := e_x0_20.out; have := (show l2.length ≤ 1048576 by have := hN2.out; have := P2.out; omega); have := e_x2_21.out; omega)).mono ?_
  rintro e w22 ⟨rfl, z_x3, r22⟩
  have g22 := gbI.ofRow (B := w7.heap.size) (S := w8.heap.size) r22 (fun g hg => by obtain ⟨p, hp, rfl⟩ := row_of hg; exact ⟨(o_x3.lt p hp).1, u_x3 p hp⟩)
  have e_x3_22 := Lib.hid o_x3.blen
  replace o_x3 := z_x3
  clear z_x3
  have R22 : gbI (w7.heap.size) (w8.heap.size) w21 w22 := (gbI.of0 (by repeat (first | with_reducible exact gb_refl _ | refine gb_alloc ?_ _ | refine gb_drewN ?_ _ | refine gb_drew ?_))).trans g22
  have T22 : Below w.heap.size w w22 := below_nextI T21 R22 (by omega)
  have z22 := R22.size
  replace o_w0 := o_w0.keepI R22 (fun p hp => by have := u_w0 p hp; have := (o_w0.lt p hp).1; omega)
  replace o_x0 := o_x0.keepI R22 (fun p hp => by have := u_x0 p hp; have := (o_x0.lt p hp).1; omega)
  replace o_x2 := o_x2.keepI R22 (fun p hp => by have := u_x2 p hp; have := (o_x2.lt p hp).1; omega)
  replace o_x5 := o_x5.keepI R22 (fun p hp => by have := u_x5 p hp; have := (o_x5.lt p hp).1; omega)
  replace o_g0 := o_g0.keepI R22 (fun p hp => by have := u_g0 p hp; have := (o_g0.lt p hp).1; omega)
  go_wp2_with fail
  refine (laws_markByteS (w8.heap.size) _ _ _ (1 + n0 + n2 + n3) _ _ (o_x5.keep0 (by repeat (first | with_reducible exact gb_refl _ | refine gb_alloc ?_ _ | refine gb_drewN ?_ _ | refine gb_drew ?_))) (by have h9 := (show l5.length ≤ 1048576 by have := hN5.out; have := P5.out; omega); have h8 := o_x5.blen; have := (show l0.length ≤ 1048576 by have := hN0.out; have := P0.out; omega); have := e_x0_20.out; have := (show l2.length ≤ 1048576 by have := hN2.out; have := P2.out; omega); have := e_x2_21.out; have := (show l3.length ≤ 1048576 by have := hN3.out; have := P3.out; omega); have := e_x3_22.out; omega)).mono ?_
  rintro e w23 ⟨rfl, z_x5, r23⟩
  have g23 := gbI.ofRow (B := w8.heap.size) (S := w9.heap.size) r23 (fun g hg => by obtain ⟨p, hp, rfl⟩ := row_of hg; exact ⟨(o_x5.lt p hp).1, u_x5 p hp⟩)
  have e_x5_23 := Lib.hid o_x5.blen
  replace o_x5 := z_x5
  clear z_x5
  have R23 : gbI (w8.heap.size) (w9.heap.size) w22 w23 := (gbI.of0 (by repeat (first | with_reducible exact gb_refl _ | refine gb_alloc ?_ _ | refine gb_drewN ?_ _ | refine gb_drew ?_))).trans g23
  have T23 : Below w.heap.size w w23 := below_nextI T22 R23 (by omega)
  have z23 := R23.size
  replace o_w0 := o_w0.keepI R23 (fun p hp => by have := u_w0 p hp; have := (o_w0.lt p hp).1; omega)
  replace o_x0 := o_x0.keepI R23 (fun p hp => by have := u_x0 p hp; have := (o_x0.lt p hp).1; omega)
  replace o_x2 := o_x2.keepI R23 (fun p hp => by have := u_x2 p hp; have := (o_x2.lt p hp).1; omega)
  replace o_x3 := o_x3.keepI R23 (fun p hp => by have := u_x3 p hp; have := (o_x3.lt p hp).1; omega)
  replace o_g0 := o_g0.keepI R23 (fun p hp => by have := u_g0 p hp; have := (o_g0.lt p hp).1; omega)
  go_wp2_with fail
  refine (laws_eqByteS_same _ _ _ _ _ _ _ _ (o_g0.rd.keep0 (by repeat (first | with_reducible exact gb_refl _ | refine gb_alloc ?_ _ | refine gb_drewN ?_ _ | refine gb_drew ?_))) (o_w0.rd.keep0 (by repeat (first | with_reducible exact gb_refl _ | refine gb_alloc ?_ _ | refine gb_drewN ?_ _ | refine gb_drew ?_))) (by have h9 := (show (proofM l0 x1 l2 l3 x4 l5).length ≤ 1048576 from Nat.le_trans (proofM_le _ _ _ _ _ _) (by decide)); omega)).mono ?_
  rintro e w24 ⟨rfl, q24⟩
  have g24 := q24.gb
  have R24 : w23.grownBy w24 none := gb_trans (by repeat (first | with_reducible exact gb_refl _ | refine gb_alloc ?_ _ | refine gb_drewN ?_ _ | refine gb_drew ?_)) g24
  have T24 : Below w.heap.size w w24 := below_next T23 R24
  have z24 := R24.size
  replace o_w0 := o_w0.keep0 R24
  replace o_x0 := o_x0.keep0 R24
  replace o_x2 := o_x2.keep0 R24
  replace o_x3 := o_x3.keep0 R24
  replace o_x5 := o_x5.keep0 R24
  replace o_g0 := o_g0.keep0 R24
  go_wp2_with fail
  refine (laws_markByteS (w9.heap.size) _ _ _ (1) _ _ (o_g0.keep0 (by repeat (first | with_reducible exact gb_refl _ | refine gb_alloc ?_ _ | refine gb_drewN ?_ _ | refine gb_drew ?_))) (by have h9 := (show (proofM l0 x1 l2 l3 x4 l5).length ≤ 1048576 from Nat.le_trans (proofM_le _ _ _ _ _ _) (by decide)); have h8 := o_g0.blen; omega)).mono ?_
  rintro e w25 ⟨rfl, z_g0, r25⟩
  have g25 := gbI.ofRow (B := w9.heap.size) (S := w10.heap.size) r25 (fun g hg => by obtain ⟨p, hp, rfl⟩ := row_of hg; exact ⟨(o_g0.lt p hp).1, u_g0 p hp⟩)
  have e_g0_25 := Lib.hid o_g0.blen
  replace o_g0 := z_g0
  clear z_g0
  have R25 : gbI (w9.heap.size) (w10.heap.size) w24 w25 := (gbI.of0 (by repeat (first | with_reducible exact gb_refl _ | refine gb_alloc ?_ _ | refine gb_drewN ?_ _ | refine gb_drew ?_))).trans g25
  have T25 : Below w.heap.size w w25 := below_nextI T24 R25 (by omega)
  have z25 := R25.size
  replace o_w0 := o_w0.keepI R25 (fun p hp => by have := u_w0 p hp; have := (o_w0.lt p hp).1; omega)
  replace o_x0 := o_x0.keepI R25 (fun p hp => by have := u_x0 p hp; have := (o_x0.lt p hp).1; omega)
  replace o_x2 := o_x2.keepI R25 (fun p hp => by have := u_x2 p hp; have := (o_x2.lt p hp).1; omega)
  replace o_x3 := o_x3.keepI R25 (fun p hp => by have := u_x3 p hp; have := (o_x3.lt p hp).1; omega)
  replace o_x5 := o_x5.keepI R25 (fun p hp => by have := u_x5 p hp; have := (o_x5.lt p hp).1; omega)
  go_wp2_with fail
  refine (laws_heldByteS _ n_g0 _ (1) _ (o_g0.rd.keep0 (by repeat (first | with_reducible exact gb_refl _ | refine gb_alloc ?_ _ | refine gb_drewN ?_ _ | refine gb_drew ?_))) (by have h9 := (show (proofM l0 x1 l2 l3 x4 l5).length ≤ 1048576 from Nat.le_trans (proofM_le _ _ _ _ _ _) (by decide)); have := (show (proofM l0 x1 l2 l3 x4 l5).length ≤ 1048576 from Nat.le_trans (proofM_le _ _ _ _ _ _) (by decide)); have := e_g0_25.out; omega)).mono ?_
  rintro e w26 ⟨rfl, q26⟩
  have g26 := q26.gb
  have R26 : w25.grownBy w26 none := gb_trans (by repeat (first | with_reducible exact gb_refl _ | refine gb_alloc ?_ _ | refine gb_drewN ?_ _ | refine gb_drew ?_)) g26
  have T26 : Below w.heap.size w w26 := below_next T25 R26
  have z26 := R26.size
  replace o_w0 := o_w0.keep0 R26
  replace o_x0 := o_x0.keep0 R26
  replace o_x2 := o_x2.keep0 R26
  replace o_x3 := o_x3.keep0 R26
  replace o_x5 := o_x5.keep0 R26
  replace o_g0 := o_g0.keep0 R26
  go_wp2_with fail
  refine (laws_toByteS _ _ _ l0 _ ((hR0.below T26).keep0 (by repeat (first | with_reducible exact gb_refl _ | refine gb_alloc ?_ _ | refine gb_drewN ?_ _ | refine gb_drew ?_))) (by have := P0.out; omega)).mono ?_
  rintro e w27 ⟨a_th00, c_th00, rfl, o_th00, g27⟩
  have u_th00 := fun p hp => (o_th00.lt p hp).2
  have R27 : w26.grownBy w27 none := gb_trans (by repeat (first | with_reducible exact gb_refl _ | refine gb_alloc ?_ _ | refine gb_drewN ?_ _ | refine gb_drew ?_)) g27
  have T27 : Below w.heap.size w w27 := below_next T26 R27
  have z27 := R27.size
  replace o_w0 := o_w0.keep0 R27
  replace o_x0 := o_x0.keep0 R27
  replace o_x2 := o_x2.keep0 R27
  replace o_x3 := o_x3.keep0 R27
  replace o_x5 := o_x5.keep0 R27
  replace o_g0 := o_g0.keep0 R27
  replace o_th00 := o_th00.mono (B' := w26.heap.size) (by first | exact Nat.le_refl _ | (simp; done) | (simp; omega))
  go_wp2_with fail
  refine (laws_toByteS _ _ _ l2 _ ((hR2.below T27).keep0 (by repeat (first | with_reducible exact gb_refl _ | refine gb_alloc ?_ _ | refine gb_drewN ?_ _ | refine gb_drew ?_))) (by have := P2.out; omega)).mono ?_
  rintro e w28 ⟨a_th01, c_th01, rfl, o_th01, g28⟩
  have u_th01 := fun p hp => (o_th01.lt p hp).2
  have R28 : w27.grownBy w28 none := gb_trans (by repeat (first | with_reducible exact gb_refl _ | refine gb_alloc ?_ _ | refine gb_drewN ?_ _ | refine gb_drew ?_)) g28
  have T28 : Below w.heap.size w w28 := below_next T27 R28
  have z28 := R28.size
  replace o_w0 := o_w0.keep0 R28
  replace o_x0 := o_x0.keep0 R28
  replace o_x2 := o_x2.keep0 R28
  replace o_x3 := o_x3.keep0 R28
  replace o_x5 := o_x5.keep0 R28
  replace o_g0 := o_g0.keep0 R28
  replace o_th00 := o_th00.keep0 R28
  replace o_th01 := o_th01.mono (B' := w27.heap.size) (by first | exact Nat.le_refl _ | (simp; done) | (simp; omega))
  go_wp2_with fail
  refine (laws_toByteS _ _ _ l3 _ ((hR3.below T28).keep0 (by repeat (first | with_reducible exact gb_refl _ | refine gb_alloc ?_ _ | refine gb_drewN ?_ _ | refine gb_drew ?_))) (by have := P3.out; omega)).mono ?_
  rintro e w29 ⟨a_th02, c_th02, rfl, o_th02, g29⟩
  have u_th02 := fun p hp => (o_th02.lt p hp).2
  have R29 : w28.grownBy w29 none := gb_trans (by repeat (first | with_reducible exact gb_refl _ | refine gb_alloc ?_ _ | refine gb_drewN ?_ _ | refine gb_drew ?_)) g29
  have T29 : Below w.heap.size w w29 := below_next T28 R29
  have z29 := R29.size
  replace o_w0 := o_w0.keep0 R29
  replace o_x0 := o_x0.keep0 R29
  replace o_x2 := o_x2.keep0 R29
  replace o_x3 := o_x3.keep0 R29
  replace o_x5 := o_x5.keep0 R29
  replace o_g0 := o_g0.keep0 R29
  replace o_th00 := o_th00.keep0 R29
  replace o_th01 := o_th01.keep0 R29
  replace o_th02 := o_th02.mono (B' := w28.heap.size) (by first | exact Nat.le_refl _ | (simp; done) | (simp; omega))
  go_wp2_with fail
  refine (laws_toByteS _ _ _ l5 _ ((hR5.below T29).keep0 (by repeat (first | with_reducible exact gb_refl _ | refine gb_alloc ?_ _ | refine gb_drewN ?_ _ | refine gb_drew ?_))) (by have := P5.out; omega)).mono ?_
  rintro e w30 ⟨a_th03, c_th03, rfl, o_th03, g30⟩
  have u_th03 := fun p hp => (o_th03.lt p hp).2
  have R30 : w29.grownBy w30 none := gb_trans (by repeat (first | with_reducible exact gb_refl _ | refine gb_alloc ?_ _ | refine gb_drewN ?_ _ | refine gb_drew ?_)) g30
  have T30 : Below w.heap.size w w30 := below_next T29 R30
  have z30 := R30.size
  replace o_w0 := o_w0.keep0 R30
  replace o_x0 := o_x0.keep0 R30
  replace o_x2 := o_x2.keep0 R30
  replace o_x3 := o_x3.keep0 R30
  replace o_x5 := o_x5.keep0 R30
  replace o_g0 := o_g0.keep0 R30
  replace o_th00 := o_th00.keep0 R30
  replace o_th01 := o_th01.keep0 R30
  replace o_th02 := o_th02.keep0 R30
  replace o_th03 := o_th03.mono (B' := w29.heap.size) (by first | exact Nat.le_refl _ | (simp; done) | (simp; omega))
  go_wp2_with fail
  refine (LI_Proof _ _ _ l0 x1 _ _ _ l2 _ _ _ l3 x4 _ _ _ l5 _ (o_th00.rd.keep0 (by repeat (first | with_reducible exact gb_refl _ | refine gb_alloc ?_ _ | refine gb_drewN ?_ _ | refine gb_drew ?_))) (o_th01.rd.keep0 (by repeat (first | with_reducible exact gb_refl _ | refine gb_alloc ?_ _ | refine gb_drewN ?_ _ | refine gb_drew ?_))) (o_th02.rd.keep0 (by repeat (first | with_reducible exact gb_refl _ | refine gb_alloc ?_ _ | refine gb_drewN ?_ _ | refine gb_drew ?_))) (o_th03.rd.keep0 (by repeat (first | with_reducible exact gb_refl _ | refine gb_alloc ?_ _ | refine gb_drewN ?_ _ | refine gb_drew ?_))) (show l0.length ≤ 1048576 by have := hN0.out; have := P0.out; omega) (show l2.length ≤ 1048576 by have := hN2.out; have := P2.out; omega) (show l3.length ≤ 1048576 by have := hN3.out; have := P3.out; omega) (show l5.length ≤ 1048576 by have := hN5.out; have := P5.out; omega)).mono ?_
  rintro e w31 ⟨a_h0, n_h0, c_h0, rfl, o_h0, g31⟩
  have u_h0 := fun p hp => (o_h0.lt p hp).2
  have R31 : w30.grownBy w31 none := gb_trans (by repeat (first | with_reducible exact gb_refl _ | refine gb_alloc ?_ _ | refine gb_drewN ?_ _ | refine gb_drew ?_)) g31
  have T31 : Below w.heap.size w w31 := below_next T30 R31
  have z31 := R31.size
  replace o_w0 := o_w0.keep0 R31
  replace o_x0 := o_x0.keep0 R31
  replace o_x2 := o_x2.keep0 R31
  replace o_x3 := o_x3.keep0 R31
  replace o_x5 := o_x5.keep0 R31
  replace o_g0 := o_g0.keep0 R31
  replace o_th00 := o_th00.keep0 R31
  replace o_th01 := o_th01.keep0 R31
  replace o_th02 := o_th02.keep0 R31
  replace o_th03 := o_th03.keep0 R31
  replace o_h0 := o_h0.mono (B' := w30.heap.size) (by first | exact Nat.le_refl _ | (simp; done) | (simp; omega))
  clear o_th00 u_th00
  clear o_th01 u_th01
  clear o_th02 u_th02
  clear o_th03 u_th03
  go_wp2_with fail
  refine (laws_eqByteS_same _ _ _ _ _ _ _ _ (o_h0.rd.keep0 (by repeat (first | with_reducible exact gb_refl _ | refine gb_alloc ?_ _ | refine gb_drewN ?_ _ | refine gb_drew ?_))) (o_w0.rd.keep0 (by repeat (first | with_reducible exact gb_refl _ | refine gb_alloc ?_ _ | refine gb_drewN ?_ _ | refine gb_drew ?_))) (by have h9 := (show (proofM l0 x1 l2 l3 x4 l5).length ≤ 1048576 from Nat.le_trans (proofM_le _ _ _ _ _ _) (by decide)); omega)).mono ?_
  rintro e w32 ⟨rfl, q32⟩
  have g32 := q32.gb
  have R32 : w31.grownBy w32 none := gb_trans (by repeat (first | with_reducible exact gb_refl _ | refine gb_alloc ?_ _ | refine gb_drewN ?_ _ | refine gb_drew ?_)) g32
  have T32 : Below w.heap.size w w32 := below_next T31 R32
  have z32 := R32.size
  replace o_w0 := o_w0.keep0 R32
  replace o_x0 := o_x0.keep0 R32
  replace o_x2 := o_x2.keep0 R32
  replace o_x3 := o_x3.keep0 R32
  replace o_x5 := o_x5.keep0 R32
  replace o_g0 := o_g0.keep0 R32
  replace o_h0 := o_h0.keep0 R32
  go_wp2_with fail
  refine (laws_heldByteS _ n_g0 _ (1) _ (o_g0.rd.keep0 (by repeat (first | with_reducible exact gb_refl _ | refine gb_alloc ?_ _ | refine gb_drewN ?_ _ | refine gb_drew ?_))) (by have h9 := (show (proofM l0 x1 l2 l3 x4 l5).length ≤ 1048576 from Nat.le_trans (proofM_le _ _ _ _ _ _) (by decide)); have := (show (proofM l0 x1 l2 l3 x4 l5).length ≤ 1048576 from Nat.le_trans (proofM_le _ _ _ _ _ _) (by decide)); have := e_g0_25.out; omega)).mono ?_
  rintro e w33 ⟨rfl, q33⟩
  have g33 := q33.gb
  have R33 : w32.grownBy w33 none := gb_trans (by repeat (first | with_reducible exact gb_refl _ | refine gb_alloc ?_ _ | refine gb_drewN ?_ _ | refine gb_drew ?_)) g33
  have T33 : Below w.heap.size w w33 := below_next T32 R33
  have z33 := R33.size
  replace o_w0 := o_w0.keep0 R33
  replace o_x0 := o_x0.keep0 R33
  replace o_x2 := o_x2.keep0 R33
  replace o_x3 := o_x3.keep0 R33
  replace o_x5 := o_x5.keep0 R33
  replace o_g0 := o_g0.keep0 R33
  replace o_h0 := o_h0.keep0 R33
  go_wp2
  go_ret
  exact ⟨rfl, T33⟩
set_option maxRecDepth 100000 in
theorem lifted (os : Os) (started : os.Started) (H : Type) (enc : TypeId × Value → H) :
    ReturnsInHanded {} Try.checked os 9 .any (Rows.fnExactProofSpec.pre6 enc Try.prog Try.f9 Rows.fnExactProofRow.domain false) (Rows.fnExactProofSpec.post enc Try.prog Try.f9 false true false false) := by
  refine returnsInHanded_of_change (C := Try.checked) own started (by kernel_rfl) Try.func9
    (ChangeSpec.witness6 (enc := enc) (C := Try.checked) false ⟨#[], #[.slice none 0 0, .int .i64 0, .slice none 0 0, .slice none 0 0, .int .i64 0, .slice none 0 0], []⟩ 8 (by kernel_rfl) (by kernel_rfl) (by kernel_rfl) (by kernel_rfl)) ?_
  intro W base args ds gs before hval0 hW _ _
  have hval : ∀ (j : Nat) t v, Try.f9.params[j]? = some t → args[j]? = some v → Value.okWide Try.prog W .any base t v := hval0
  have hW2 := hW
  obtain ⟨p, q, hA0, hV, hps, _, _⟩ := hW
  have hA : DataW.TrodAll enc Try.prog W 0 (fun _ => true) true Try.f9.params.toList args.toList ds p := hA0
  rw [Try.params9] at hA hval
  obtain ⟨rfl, rfl⟩ := trodVars_none hV
  obtain ⟨v0, vs0, d0, ds0, p0, q0, hargs, rfl, rfl, h0, r0⟩ := trodAll_cons hA
  obtain ⟨v1, vs1, d1, ds1, p1, q1, rfl, rfl, rfl, h1, r1⟩ := trodAll_cons r0
  obtain ⟨v2, vs2, d2, ds2, p2, q2, rfl, rfl, rfl, h2, r2⟩ := trodAll_cons r1
  obtain ⟨v3, vs3, d3, ds3, p3, q3, rfl, rfl, rfl, h3, r3⟩ := trodAll_cons r2
  obtain ⟨v4, vs4, d4, ds4, p4, q4, rfl, rfl, rfl, h4, r4⟩ := trodAll_cons r3
  obtain ⟨v5, vs5, d5, ds5, p5, q5, rfl, rfl, rfl, h5, r5⟩ := trodAll_cons r4
  obtain ⟨rfl, rfl, rfl⟩ := trodAll_nil r5
  obtain rfl : args = #[v0, v1, v2, v3, v4, v5] := by cases args; simp_all
  have i0 := open_B (hval 0 22 v0 rfl rfl) h0
  have i1 := open_I (hval 1 3 v1 rfl rfl) h1
  have i2 := open_B (hval 2 22 v2 rfl rfl) h2
  have i3 := open_B (hval 3 22 v3 rfl rfl) h3
  have i4 := open_I (hval 4 3 v4 rfl rfl) h4
  have i5 := open_B (hval 5 22 v5 rfl rfl) h5
  clear hA0 hval0
  refine (walk W v0 v1 v2 v3 v4 v5 i0 i1 i2 i3 i4 i5).mono fun e W2 ⟨he, hb⟩ => ?_
  subst he
  exact ⟨_, rfl, law_post (tb := 4) laidOut (by kernel_rfl) (by kernel_rfl) Try.underlying4 rfl ⟨rfl, rfl, rfl⟩ hW2 hb⟩
theorem over : Rows.fnExactProofRow.holds Try.pinned (OpenSpec.ofChange Rows.fnExactProofSpec) :=
  OpenClaim.holds_of_wide 9 Try.f9 rfl rfl rfl rfl rfl rfl rfl ⟨rfl, rfl, rfl, rfl, rfl⟩ rfl rfl rfl rfl rfl (by kernel_rfl) Try.func9 (by kernel_rfl)
    (of_decide_eq_true (by kernel_rfl)) (by unfold Func.isWrapper; first | (rw [if_pos (by decide +kernel)]; kernel_rfl) | (rw [if_neg (by decide +kernel)]; exact ⟨rfl, rfl⟩))
    (fun os started H enc _ => lifted os started H enc)
theorem proved : Rows.FnExactProofSaid :=
  over
#print axioms proved
end Go.Proofs.Ytoojcbbmkdlcmaa.lProof
