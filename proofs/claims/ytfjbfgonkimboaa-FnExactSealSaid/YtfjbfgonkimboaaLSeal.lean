/-
  FnExactSeal returns true for every key, role, nonce, epoch, number, kind and plain text. Conditions: none.
-/
import Derived.Test.YtfjbfgonkimboaaLaw
import Derived.Test.YtfjbfgonkimboaaSealC
import Derived.Deep.RegionHeld3
namespace Go.Proofs.Ytfjbfgonkimboaa.lSeal
open Go.ChangeShapes Go.WideShapes Go.ChangeAt Go.RowKit
theorem LS_Seal (a0 : Option Addr) (n0 c0 : Nat) (l0 : List UInt8) (x1 : Int) (a2 : Option Addr) (n2 c2 : Nat) (l2 : List UInt8) (x3 x4 x5 : Int) (a6 : Option Addr) (n6 c6 : Nat) (l6 : List UInt8) (w : World) (r0 : Rd w a0 n0 c0 (bys l0)) (r2 : Rd w a2 n2 c2 (bys l2)) (r6 : Rd w a6 n6 c6 (bys l6)) (_s0 : l0.length ≤ 1048576) (_s2 : l2.length ≤ 1048576) (_s6 : l6.length ≤ 1048576) : Calls Try.prog 9 #[.slice a0 n0 c0, .int .i64 x1, .slice a2 n2 c2, .int .i64 x3, .int .i64 x4, .int .i64 x5, .slice a6 n6 c6] w fun e w' => ∃ v', e = .returned (.tuple #[v', .bool (sealB l0 x1 l2 x3 x4 x5 l6)]) ∧ FrameO w.heap.size w'.heap.size w' v' (sealM l0 x1 l2 x3 x4 x5 l6) ∧ w.grownBy w' none :=
  spec_Seal a0 n0 c0 l0 x1 a2 n2 c2 l2 x3 x4 x5 a6 n6 c6 l6 w r0 r2 r6 _s2 _s6
theorem LI_Seal (a0 : Option Addr) (n0 c0 : Nat) (l0 : List UInt8) (x1 : Int) (a2 : Option Addr) (n2 c2 : Nat) (l2 : List UInt8) (x3 x4 x5 : Int) (a6 : Option Addr) (n6 c6 : Nat) (l6 : List UInt8) (w : World) (r0 : Rd w a0 n0 c0 (bys l0)) (r2 : Rd w a2 n2 c2 (bys l2)) (r6 : Rd w a6 n6 c6 (bys l6)) (_s0 : l0.length ≤ 1048576) (_s2 : l2.length ≤ 1048576) (_s6 : l6.length ≤ 1048576) : Calls Try.prog 11 #[.slice a0 n0 c0, .int .i64 x1, .slice a2 n2 c2, .int .i64 x3, .int .i64 x4, .int .i64 x5, .slice a6 n6 c6] w fun e w' => ∃ v', e = .returned (.tuple #[v', .bool (sealB l0 x1 l2 x3 x4 x5 l6)]) ∧ FrameO w.heap.size w'.heap.size w' v' (sealM l0 x1 l2 x3 x4 x5 l6) ∧ w.grownBy w' none :=
  impl_Seal a0 n0 c0 l0 x1 a2 n2 c2 l2 x3 x4 x5 a6 n6 c6 l6 w r0 r2 r6 _s2 _s6
set_option maxRecDepth 100000 in
set_option maxHeartbeats 4000000 in
theorem walk (w : World) (v0 v1 v2 v3 v4 v5 v6 : Value) (h0 : InBytes w v0) (h1 : InInt v1) (h2 : InBytes w v2) (h3 : InInt v3) (h4 : InInt v4) (h5 : InInt v5) (h6 : InBytes w v6) : Calls Try.prog 3 #[v0, v1, v2, v3, v4, v5, v6] w fun e w' => e = .returned (.bool true) ∧ Below w.heap.size w w' := by
  obtain ⟨a0, n0, c0, l0, rfl, hR0, hC0⟩ := h0
  have hN0 := Lib.hid hR0.blen
  obtain ⟨x1, rfl, hx1⟩ := h1
  obtain ⟨a2, n2, c2, l2, rfl, hR2, hC2⟩ := h2
  have hN2 := Lib.hid hR2.blen
  obtain ⟨x3, rfl, hx3⟩ := h3
  obtain ⟨x4, rfl, hx4⟩ := h4
  obtain ⟨x5, rfl, hx5⟩ := h5
  obtain ⟨a6, n6, c6, l6, rfl, hR6, hC6⟩ := h6
  have hN6 := Lib.hid hR6.blen
  have T0 : Below w.heap.size w w := Below.refl _ _
  go_enter Try.func3, Try.ntmps3
  rcases Nat.lt_or_ge 1048576 n0 with p0 | p0
  · go_wp2
    go_ret
    exact ⟨rfl, below_next T0 (by repeat (first | with_reducible exact gb_refl _ | refine gb_alloc ?_ _ | refine gb_drewN ?_ _ | refine gb_drew ?_))⟩
  have P0 := Lib.hid p0
  have p0z : ((n0 : Int) ≤ 1048576) := by have := P0.out; omega
  clear p0
  rcases Nat.lt_or_ge 1048576 n2 with p2 | p2
  · go_wp2
    go_ret
    exact ⟨rfl, below_next T0 (by repeat (first | with_reducible exact gb_refl _ | refine gb_alloc ?_ _ | refine gb_drewN ?_ _ | refine gb_drew ?_))⟩
  have P2 := Lib.hid p2
  have p2z : ((n2 : Int) ≤ 1048576) := by have := P2.out; omega
  clear p2
  rcases Nat.lt_or_ge 1048576 n6 with p6 | p6
  · go_wp2
    go_ret
    exact ⟨rfl, below_next T0 (by repeat (first | with_reducible exact gb_refl _ | refine gb_alloc ?_ _ | refine gb_drewN ?_ _ | refine gb_drew ?_))⟩
  have P6 := Lib.hid p6
  have p6z : ((n6 : Int) ≤ 1048576) := by have := P6.out; omega
  clear p6
  go_wp2_with fail
  refine (laws_toByteS _ _ _ l0 _ ((hR0.below T0).keep0 (by repeat (first | with_reducible exact gb_refl _ | refine gb_alloc ?_ _ | refine gb_drewN ?_ _ | refine gb_drew ?_))) (by have := P0.out; omega)).mono ?_
  rintro e w1 ⟨a_tw00, c_tw00, rfl, o_tw00, g1⟩
  have u_tw00 := fun p hp => (o_tw00.lt p hp).2
  have R1 : w.grownBy w1 none := gb_trans (by repeat (first | with_reducible exact gb_refl _ | refine gb_alloc ?_ _ | refine gb_drewN ?_ _ | refine gb_drew ?_)) g1
  have T1 : Below w.heap.size w w1 := below_next T0 R1
  have z1 := R1.size
  replace o_tw00 := o_tw00.mono (B' := w.heap.size) (by first | exact Nat.le_refl _ | (simp; done) | (simp; omega))
  go_wp2_with fail
  refine (laws_toByteS _ _ _ l2 _ ((hR2.below T1).keep0 (by repeat (first | with_reducible exact gb_refl _ | refine gb_alloc ?_ _ | refine gb_drewN ?_ _ | refine gb_drew ?_))) (by have := P2.out; omega)).mono ?_
  rintro e w2 ⟨a_tw01, c_tw01, rfl, o_tw01, g2⟩
  have u_tw01 := fun p hp => (o_tw01.lt p hp).2
  have R2 : w1.grownBy w2 none := gb_trans (by repeat (first | with_reducible exact gb_refl _ | refine gb_alloc ?_ _ | refine gb_drewN ?_ _ | refine gb_drew ?_)) g2
  have T2 : Below w.heap.size w w2 := below_next T1 R2
  have z2 := R2.size
  replace o_tw00 := o_tw00.keep0 R2
  replace o_tw01 := o_tw01.mono (B' := w1.heap.size) (by first | exact Nat.le_refl _ | (simp; done) | (simp; omega))
  go_wp2_with fail
  refine (laws_toByteS _ _ _ l6 _ ((hR6.below T2).keep0 (by repeat (first | with_reducible exact gb_refl _ | refine gb_alloc ?_ _ | refine gb_drewN ?_ _ | refine gb_drew ?_))) (by have := P6.out; omega)).mono ?_
  rintro e w3 ⟨a_tw02, c_tw02, rfl, o_tw02, g3⟩
  have u_tw02 := fun p hp => (o_tw02.lt p hp).2
  have R3 : w2.grownBy w3 none := gb_trans (by repeat (first | with_reducible exact gb_refl _ | refine gb_alloc ?_ _ | refine gb_drewN ?_ _ | refine gb_drew ?_)) g3
  have T3 : Below w.heap.size w w3 := below_next T2 R3
  have z3 := R3.size
  replace o_tw00 := o_tw00.keep0 R3
  replace o_tw01 := o_tw01.keep0 R3
  replace o_tw02 := o_tw02.mono (B' := w2.heap.size) (by first | exact Nat.le_refl _ | (simp; done) | (simp; omega))
  go_wp2_with fail
  refine (LS_Seal _ _ _ l0 x1 _ _ _ l2 x3 x4 x5 _ _ _ l6 _ (o_tw00.rd.keep0 (by repeat (first | with_reducible exact gb_refl _ | refine gb_alloc ?_ _ | refine gb_drewN ?_ _ | refine gb_drew ?_))) (o_tw01.rd.keep0 (by repeat (first | with_reducible exact gb_refl _ | refine gb_alloc ?_ _ | refine gb_drewN ?_ _ | refine gb_drew ?_))) (o_tw02.rd.keep0 (by repeat (first | with_reducible exact gb_refl _ | refine gb_alloc ?_ _ | refine gb_drewN ?_ _ | refine gb_drew ?_))) (show l0.length ≤ 1048576 by have := hN0.out; have := P0.out; omega) (show l2.length ≤ 1048576 by have := hN2.out; have := P2.out; omega) (show l6.length ≤ 1048576 by have := hN6.out; have := P6.out; omega)).mono ?_
  rintro e w4 ⟨v_w0, rfl, o_w0, g4⟩
  obtain ⟨a_w0_0, n_w0_0, c_w0_0, a_w0_1, n_w0_1, c_w0_1, a_w0_2, n_w0_2, c_w0_2, a_w0_3, n_w0_3, c_w0_3, a_w0_4, n_w0_4, c_w0_4, a_w0_5, n_w0_5, c_w0_5, rfl⟩ := o_w0.r.shape
  have R4 : w3.grownBy w4 none := gb_trans (by repeat (first | with_reducible exact gb_refl _ | refine gb_alloc ?_ _ | refine gb_drewN ?_ _ | refine gb_drew ?_)) g4
  have T4 : Below w.heap.size w w4 := below_next T3 R4
  have z4 := R4.size
  replace o_tw00 := o_tw00.keep0 R4
  replace o_tw01 := o_tw01.keep0 R4
  replace o_tw02 := o_tw02.keep0 R4
  replace o_w0 := o_w0.low (B' := w3.heap.size) (by first | exact Nat.le_refl _ | (simp; done) | (simp; omega))
  clear o_tw00 u_tw00
  clear o_tw01 u_tw01
  clear o_tw02 u_tw02
  go_wp2_with fail
  refine (laws_toByteS _ _ _ l0 _ ((hR0.below T4).keep0 (by repeat (first | with_reducible exact gb_refl _ | refine gb_alloc ?_ _ | refine gb_drewN ?_ _ | refine gb_drew ?_))) (by have := P0.out; omega)).mono ?_
  rintro e w5 ⟨a_x0, c_x0, rfl, o_x0, g5⟩
  have u_x0 := fun p hp => (o_x0.lt p hp).2
  have R5 : w4.grownBy w5 none := gb_trans (by repeat (first | with_reducible exact gb_refl _ | refine gb_alloc ?_ _ | refine gb_drewN ?_ _ | refine gb_drew ?_)) g5
  have T5 : Below w.heap.size w w5 := below_next T4 R5
  have z5 := R5.size
  replace o_w0 := o_w0.keep0 R5
  have bb_w0 : Bx w5 (w4.heap.size) 24 #[.int .i64 ((sealM l0 x1 l2 x3 x4 x5 l6)).kind, .int .i64 ((sealM l0 x1 l2 x3 x4 x5 l6)).id, .slice a_w0_0 n_w0_0 c_w0_0, .slice a_w0_1 n_w0_1 c_w0_1, .int .i64 ((sealM l0 x1 l2 x3 x4 x5 l6)).tick, .slice a_w0_2 n_w0_2 c_w0_2, .slice a_w0_3 n_w0_3 c_w0_3, .int .i64 ((sealM l0 x1 l2 x3 x4 x5 l6)).epoch, .int .i64 ((sealM l0 x1 l2 x3 x4 x5 l6)).seq, .slice a_w0_4 n_w0_4 c_w0_4, .slice a_w0_5 n_w0_5 c_w0_5] := by first | exact (bx1 w4 _ _).keep0 g5 | exact (bx1 w4 _ _).drew.keep0 g5
  have cc_w0 := fun o => bb_w0.cell o
  have ll_w0_5 := bb_w0.lt
  replace o_x0 := o_x0.mono (B' := w4.heap.size + 1) (by first | exact Nat.le_refl _ | (simp; done) | (simp; omega))
  go_wp2_with fail
  refine (laws_toByteS _ _ _ l2 _ ((hR2.below T5).keep0 (by repeat (first | with_reducible exact gb_refl _ | refine gb_alloc ?_ _ | refine gb_drewN ?_ _ | refine gb_drew ?_))) (by have := P2.out; omega)).mono ?_
  rintro e w6 ⟨a_x2, c_x2, rfl, o_x2, g6⟩
  have u_x2 := fun p hp => (o_x2.lt p hp).2
  have R6 : w5.grownBy w6 none := gb_trans (by repeat (first | with_reducible exact gb_refl _ | refine gb_alloc ?_ _ | refine gb_drewN ?_ _ | refine gb_drew ?_)) g6
  have T6 : Below w.heap.size w w6 := below_next T5 R6
  have z6 := R6.size
  replace o_w0 := o_w0.keep0 R6
  replace o_x0 := o_x0.keep0 R6
  clear cc_w0
  replace bb_w0 := bb_w0.keep0 R6
  have cc_w0 := fun o => bb_w0.cell o
  have ll_w0_6 := bb_w0.lt
  replace o_x2 := o_x2.mono (B' := w5.heap.size) (by first | exact Nat.le_refl _ | (simp; done) | (simp; omega))
  go_wp2_with fail
  refine (laws_toByteS _ _ _ l6 _ ((hR6.below T6).keep0 (by repeat (first | with_reducible exact gb_refl _ | refine gb_alloc ?_ _ | refine gb_drewN ?_ _ | refine gb_drew ?_))) (by have := P6.out; omega)).mono ?_
  rintro e w7 ⟨a_x6, c_x6, rfl, o_x6, g7⟩
  have u_x6 := fun p hp => (o_x6.lt p hp).2
  have R7 : w6.grownBy w7 none := gb_trans (by repeat (first | with_reducible exact gb_refl _ | refine gb_alloc ?_ _ | refine gb_drewN ?_ _ | refine gb_drew ?_)) g7
  have T7 : Below w.heap.size w w7 := below_next T6 R7
  have z7 := R7.size
  replace o_w0 := o_w0.keep0 R7
  replace o_x0 := o_x0.keep0 R7
  replace o_x2 := o_x2.keep0 R7
  clear cc_w0
  replace bb_w0 := bb_w0.keep0 R7
  have cc_w0 := fun o => bb_w0.cell o
  have ll_w0_7 := bb_w0.lt
  replace o_x6 := o_x6.mono (B' := w6.heap.size) (by first | exact Nat.le_refl _ | (simp; done) | (simp; omega))
  go_wp2_with fail
  refine (LI_Seal _ _ _ l0 x1 _ _ _ l2 x3 x4 x5 _ _ _ l6 _ (o_x0.rd.keep0 (by repeat (first | with_reducible exact gb_refl _ | refine gb_alloc ?_ _ | refine gb_drewN ?_ _ | refine gb_drew ?_))) (o_x2.rd.keep0 (by repeat (first | with_reducible exact gb_refl _ | refine gb_alloc ?_ _ | refine gb_drewN ?_ _ | refine gb_drew ?_))) (o_x6.rd.keep0 (by repeat (first | with_reducible exact gb_refl _ | refine gb_alloc ?_ _ | refine gb_drewN ?_ _ | refine gb_drew ?_))) (show l0.length ≤ 1048576 by have := hN0.out; have := P0.out; omega) (show l2.length ≤ 1048576 by have := hN2.out; have := P2.out; omega) (show l6.length ≤ 1048576 by have := hN6.out; have := P6.out; omega)).mono ?_
  rintro e w8 ⟨v_g0, rfl, o_g0, g8⟩
  obtain ⟨a_g0_0, n_g0_0, c_g0_0, a_g0_1, n_g0_1, c_g0_1, a_g0_2, n_g0_2, c_g0_2, a_g0_3, n_g0_3, c_g0_3, a_g0_4, n_g0_4, c_g0_4, a_g0_5, n_g0_5, c_g0_5, rfl⟩ := o_g0.r.shape
  have R8 : w7.grownBy w8 none := gb_trans (by repeat (first | with_reducible exact gb_refl _ | refine gb_alloc ?_ _ | refine gb_drewN ?_ _ | refine gb_drew ?_)) g8
  have T8 : Below w.heap.size w w8 := below_next T7 R8
  have z8 := R8.size
  replace o_w0 := o_w0.keep0 R8
  replace o_x0 := o_x0.keep0 R8
  replace o_x2 := o_x2.keep0 R8
  replace o_x6 := o_x6.keep0 R8
  clear cc_w0
  replace bb_w0 := bb_w0.keep0 R8
  have cc_w0 := fun o => bb_w0.cell o
  have ll_w0_8 := bb_w0.lt
  replace o_g0 := o_g0.low (B' := w7.heap.size) (by first | exact Nat.le_refl _ | (simp; done) | (simp; omega))
  go_wp2_with fail
  refine (laws_eqFrame _ _ (sealM l0 x1 l2 x3 x4 x5 l6) _ (o_g0.r.keep0 (by repeat (first | with_reducible exact gb_refl _ | refine gb_alloc ?_ _ | refine gb_drewN ?_ _ | refine gb_drew ?_))) (o_w0.r.keep0 (by repeat (first | with_reducible exact gb_refl _ | refine gb_alloc ?_ _ | refine gb_drewN ?_ _ | refine gb_drew ?_))) (by have h9 := (show (sealM l0 x1 l2 x3 x4 x5 l6).tot ≤ 1048576 from Nat.le_trans (sealM_tot _ _ _ _ _ _ _) (by decide)); simp only [FrameM.tot] at h9; omega) (by have h9 := (show (sealM l0 x1 l2 x3 x4 x5 l6).tot ≤ 1048576 from Nat.le_trans (sealM_tot _ _ _ _ _ _ _) (by decide)); simp only [FrameM.tot] at h9; omega) (by have h9 := (show (sealM l0 x1 l2 x3 x4 x5 l6).tot ≤ 1048576 from Nat.le_trans (sealM_tot _ _ _ _ _ _ _) (by decide)); simp only [FrameM.tot] at h9; omega) (by have h9 := (show (sealM l0 x1 l2 x3 x4 x5 l6).tot ≤ 1048576 from Nat.le_trans (sealM_tot _ _ _ _ _ _ _) (by decide)); simp only [FrameM.tot] at h9; omega) (by have h9 := (show (sealM l0 x1 l2 x3 x4 x5 l6).tot ≤ 1048576 from Nat.le_trans (sealM_tot _ _ _ _ _ _ _) (by decide)); simp only [FrameM.tot] at h9; omega) (by have h9 := (show (sealM l0 x1 l2 x3 x4 x5 l6).tot ≤ 1048576 from Nat.le_trans (sealM_tot _ _ _ _ _ _ _) (by decide)); simp only [FrameM.tot] at h9; omega)).mono ?_
  rintro e w9 ⟨rfl, g9⟩
  have R9 : w8.grownBy w9 none := gb_trans (by repeat (first | with_reducible exact gb_refl _ | refine gb_alloc ?_ _ | refine gb_drewN ?_ _ | refine gb_drew ?_)) g9
  have T9 : Below w.heap.size w w9 := below_next T8 R9
  have z9 := R9.size
  replace o_w0 := o_w0.keep0 R9
  replace o_x0 := o_x0.keep0 R9
  replace o_x2 := o_x2.keep0 R9
  replace o_x6 := o_x6.keep0 R9
  replace o_g0 := o_g0.keep0 R9
  clear cc_w0
  replace bb_w0 := bb_w0.keep0 R9
  have bb_g0 : Bx w9 (w8.heap.size) 24 #[.int .i64 ((sealM l0 x1 l2 x3 x4 x5 l6)).kind, .int .i64 ((sealM l0 x1 l2 x3 x4 x5 l6)).id, .slice a_g0_0 n_g0_0 c_g0_0, .slice a_g0_1 n_g0_1 c_g0_1, .int .i64 ((sealM l0 x1 l2 x3 x4 x5 l6)).tick, .slice a_g0_2 n_g0_2 c_g0_2, .slice a_g0_3 n_g0_3 c_g0_3, .int .i64 ((sealM l0 x1 l2 x3 x4 x5 l6)).epoch, .int .i64 ((sealM l0 x1 l2 x3 x4 x5 l6)).seq, .slice a_g0_4 n_g0_4 c_g0_4, .slice a_g0_5 n_g0_5 c_g0_5] := by first | exact (bx1 w8 _ _).keep0 g9 | exact (bx1 w8 _ _).drew.keep0 g9
  have cc_w0 := fun o => bb_w0.cell o
  have ll_w0_9 := bb_w0.lt
  have cc_g0 := fun o => bb_g0.cell o
  have ll_g0_9 := bb_g0.lt
  go_wp2_with fail
  refine (laws_toByteS _ _ _ l0 _ ((hR0.below T9).keep0 (by repeat (first | with_reducible exact gb_refl _ | refine gb_alloc ?_ _ | refine gb_drewN ?_ _ | refine gb_drew ?_))) (by have := P0.out; omega)).mono ?_
  rintro e w10 ⟨a_tz_x0, c_tz_x0, rfl, o_tz_x0, g10⟩
  have u_tz_x0 := fun p hp => (o_tz_x0.lt p hp).2
  have R10 : w9.grownBy w10 none := gb_trans (by repeat (first | with_reducible exact gb_refl _ | refine gb_alloc ?_ _ | refine gb_drewN ?_ _ | refine gb_drew ?_)) g10
  have T10 : Below w.heap.size w w10 := below_next T9 R10
  have z10 := R10.size
  replace o_w0 := o_w0.keep0 R10
  replace o_x0 := o_x0.keep0 R10
  replace o_x2 := o_x2.keep0 R10
  replace o_x6 := o_x6.keep0 R10
  replace o_g0 := o_g0.keep0 R10
  clear cc_w0 cc_g0
  replace bb_w0 := bb_w0.keep0 R10
  replace bb_g0 := bb_g0.keep0 R10
  have cc_w0 := fun o => bb_w0.cell o
  have ll_w0_10 := bb_w0.lt
  have cc_g0 := fun o => bb_g0.cell o
  have ll_g0_10 := bb_g0.lt
  replace o_tz_x0 := o_tz_x0.mono (B' := w9.heap.size) (by first | exact Nat.le_refl _ | (simp; done) | (simp; omega))
  go_wp2_with fail
  refine (laws_eqByteS_same _ _ _ _ _ _ _ _ (o_x0.rd.keep0 (by repeat (first | with_reducible exact gb_refl _ | refine gb_alloc ?_ _ | refine gb_drewN ?_ _ | refine gb_drew ?_))) (o_tz_x0.rd.keep0 (by repeat (first | with_reducible exact gb_refl _ | refine gb_alloc ?_ _ | refine gb_drewN ?_ _ | refine gb_drew ?_))) (by have h9 := (show l0.length ≤ 1048576 by have := hN0.out; have := P0.out; omega); omega)).mono ?_
  rintro e w11 ⟨rfl, q11⟩
  have g11 := q11.gb
  have R11 : w10.grownBy w11 none := gb_trans (by repeat (first | with_reducible exact gb_refl _ | refine gb_alloc ?_ _ | refine gb_drewN ?_ _ | refine gb_drew ?_)) g11
  have T11 : Below w.heap.size w w11 := below_next T10 R11
  have z11 := R11.size
  replace o_w0 := o_w0.keep0 R11
  replace o_x0 := o_x0.keep0 R11
  replace o_x2 := o_x2.keep0 R11
  replace o_x6 := o_x6.keep0 R11
  replace o_g0 := o_g0.keep0 R11
  replace o_tz_x0 := o_tz_x0.keep0 R11
  clear cc_w0 cc_g0
  replace bb_w0 := bb_w0.keep0 R11
  replace bb_g0 := bb_g0.keep0 R11
  have cc_w0 := fun o => bb_w0.cell o
  have ll_w0_11 := bb_w0.lt
  have cc_g0 := fun o => bb_g0.cell o
  have ll_g0_11 := bb_g0.lt
  clear o_tz_x0 u_tz_x0
  go_wp2_with fail
  refine (laws_toByteS _ _ _ l2 _ ((hR2.below T11).keep0 (by repeat (first | with_reducible exact gb_refl _ | refine gb_alloc ?_ _ | refine gb_drewN ?_ _ | refine gb_drew ?_))) (by have := P2.out; omega)).mono ?_
  rintro e w12 ⟨a_tz_x2, c_tz_x2, rfl, o_tz_x2, g12⟩
  have u_tz_x2 := fun p hp => (o_tz_x2.lt p hp).2
  have R12 : w11.grownBy w12 none := gb_trans (by repeat (first | with_reducible exact gb_refl _ | refine gb_alloc ?_ _ | refine gb_drewN ?_ _ | refine gb_drew ?_)) g12
  have T12 : Below w.heap.size w w12 := below_next T11 R12
  have z12 := R12.size
  replace o_w0 := o_w0.keep0 R12
  replace o_x0 := o_x0.keep0 R12
  replace o_x2 := o_x2.keep0 R12
  replace o_x6 := o_x6.keep0 R12
  replace o_g0 := o_g0.keep0 R12
  clear cc_w0 cc_g0
  replace bb_w0 := bb_w0.keep0 R12
  replace bb_g0 := bb_g0.keep0 R12
  have cc_w0 := fun o => bb_w0.cell o
  have ll_w0_12 := bb_w0.lt
  have cc_g0 := fun o => bb_g0.cell o
  have ll_g0_12 := bb_g0.lt
  replace o_tz_x2 := o_tz_x2.mono (B' := w11.heap.size) (by first | exact Nat.le_refl _ | (simp; done) | (simp; omega))
  go_wp2_with fail
  refine (laws_eqByteS_same _ _ _ _ _ _ _ _ (o_x2.rd.keep0 (by repeat (first | with_reducible exact gb_refl _ | refine gb_alloc ?_ _ | refine gb_drewN ?_ _ | refine gb_drew ?_))) (o_tz_x2.rd.keep0 (by repeat (first | with_reducible exact gb_refl _ | refine gb_alloc ?_ _ | refine gb_drewN ?_ _ | refine gb_drew ?_))) (by have h9 := (show l2.length ≤ 1048576 by have := hN2.out; have := P2.out; omega); omega)).mono ?_
  rintro e w13 ⟨rfl, q13⟩
  have g13 := q13.gb
  have R13 : w12.grownBy w13 none := gb_trans (by repeat (first | with_reducible exact gb_refl _ | refine gb_alloc ?_ _ | refine gb_drewN ?_ _ | refine gb_drew ?_)) g13
  have T13 : Below w.heap.size w w13 := below_next T12 R13
  have z13 := R13.size
  replace o_w0 := o_w0.keep0 R13
  replace o_x0 := o_x0.keep0 R13
  replace o_x2 := o_x2.keep0 R13
  replace o_x6 := o_x6.keep0 R13
  replace o_g0 := o_g0.keep0 R13
  replace o_tz_x2 := o_tz_x2.keep0 R13
  clear cc_w0 cc_g0
  replace bb_w0 := bb_w0.keep0 R13
  replace bb_g0 := bb_g0.keep0 R13
  have cc_w0 := fun o => bb_w0.cell o
  have ll_w0_13 := bb_w0.lt
  have cc_g0 := fun o => bb_g0.cell o
  have ll_g0_13 := bb_g0.lt
  clear o_tz_x2 u_tz_x2
  go_wp2_with fail
  refine (laws_toByteS _ _ _ l6 _ ((hR6.below T13).keep0 (by repeat (first | with_reducible exact gb_refl _ | refine gb_alloc ?_ _ | refine gb_drewN ?_ _ | refine gb_drew ?_))) (by have := P6.out; omega)).mono ?_
  rintro e w14 ⟨a_tz_x6, c_tz_x6, rfl, o_tz_x6, g14⟩
  have u_tz_x6 := fun p hp => (o_tz_x6.lt p hp).2
  have R14 : w13.grownBy w14 none := gb_trans (by repeat (first | with_reducible exact gb_refl _ | refine gb_alloc ?_ _ | refine gb_drewN ?_ _ | refine gb_drew ?_)) g14
  have T14 : Below w.heap.size w w14 := below_next T13 R14
  have z14 := R14.size
  replace o_w0 := o_w0.keep0 R14
  replace o_x0 := o_x0.keep0 R14
  replace o_x2 := o_x2.keep0 R14
  replace o_x6 := o_x6.keep0 R14
  replace o_g0 := o_g0.keep0 R14
  clear cc_w0 cc_g0
  replace bb_w0 := bb_w0.keep0 R14
  replace bb_g0 := bb_g0.keep0 R14
  have cc_w0 := fun o => bb_w0.cell o
  have ll_w0_14 := bb_w0.lt
  have cc_g0 := fun o => bb_g0.cell o
  have ll_g0_14 := bb_g0.lt
  replace o_tz_x6 := o_tz_x6.mono (B' := w13.heap.size) (by first | exact Nat.le_refl _ | (simp; done) | (simp; omega))
  go_wp2_with fail
  refine (laws_eqByteS_same _ _ _ _ _ _ _ _ (o_x6.rd.keep0 (by repeat (first | with_reducible exact gb_refl _ | refine gb_alloc ?_ _ | refine gb_drewN ?_ _ | refine gb_drew ?_))) (o_tz_x6.rd.keep0 (by repeat (first | with_reducible exact gb_refl _ | refine gb_alloc ?_ _ | refine gb_drewN ?_ _ | refine gb_drew ?_))) (by have h9 := (show l6.length ≤ 1048576 by have := hN6.out; have := P6.out; omega); omega)).mono ?_
  rintro e w15 ⟨rfl, q15⟩
  have g15 := q15.gb
  have R15 : w14.grownBy w15 none := gb_trans (by repeat (first | with_reducible exact gb_refl _ | refine gb_alloc ?_ _ | refine gb_drewN ?_ _ | refine gb_drew ?_)) g15
  have T15 : Below w.heap.size w w15 := below_next T14 R15
  have z15 := R15.size
  replace o_w0 := o_w0.keep0 R15
  replace o_x0 := o_x0.keep0 R15
  replace o_x2 := o_x2.keep0 R15
  replace o_x6 := o_x6.keep0 R15
  replace o_g0 := o_g0.keep0 R15
  replace o_tz_x6 := o_tz_x6.keep0 R15
  clear cc_w0 cc_g0
  replace bb_w0 := bb_w0.keep0 R15
  replace bb_g0 := bb_g0.keep0 R15
  have cc_w0 := fun o => bb_w0.cell o
  have ll_w0_15 := bb_w0.lt
  have cc_g0 := fun o => bb_g0.cell o
  have ll_g0_15 := bb_g0.lt
  clear o_tz_x6 u_tz_x6
  go_wp2_with fail
  refine (laws_markByteS (w4.heap.size + 1) _ _ _ (1) _ _ (o_x0.keep0 (by repeat (first | with_reducible exact gb_refl _ | refine gb_alloc ?_ _ | refine gb_drewN ?_ _ | refine gb_drew ?_))) (by have h9 := (show l0.length ≤ 1048576 by have := hN0.out; have := P0.out; omega); have h8 := o_x0.blen; omega)).mono ?_
  rintro e w16 ⟨rfl, z_x0, r16⟩
  have g16 := gbI.ofRow (B := w4.heap.size + 1) (S := w5.heap.size) r16 (fun g hg => by obtain ⟨p, hp, rfl⟩ := row_of hg; exact ⟨(o_x0.lt p hp).1, u_x0 p hp⟩)
  have e_x0_16 := Lib.hid o_x0.blen
  replace o_x0 := z_x0
  clear z_x0
  have R16 : gbI (w4.heap.size + 1) (w5.heap.size) w15 w16 := (gbI.of0 (by repeat (first | with_reducible exact gb_refl _ | refine gb_alloc ?_ _ | refine gb_drewN ?_ _ | refine gb_drew ?_))).trans g16
  have T16 : Below w.heap.size w w16 := below_nextI T15 R16 (by omega)
  have z16 := R16.size
  replace o_w0 := o_w0.keepI R16 (by omega)
  replace o_x2 := o_x2.keepI R16 (fun p hp => by have := u_x2 p hp; have := (o_x2.lt p hp).1; omega)
  replace o_x6 := o_x6.keepI R16 (fun p hp => by have := u_x6 p hp; have := (o_x6.lt p hp).1; omega)
  replace o_g0 := o_g0.keepI R16 (by omega)
  clear cc_w0 cc_g0
  replace bb_w0 := bb_w0.keepI R16 (by have := bb_w0.lt; omega)
  replace bb_g0 := bb_g0.keepI R16 (by have := bb_g0.lt; omega)
  have cc_w0 := fun o => bb_w0.cell o
  have ll_w0_16 := bb_w0.lt
  have cc_g0 := fun o => bb_g0.cell o
  have ll_g0_16 := bb_g0.lt
  go_wp2_with fail
  refine (laws_markByteS (w5.heap.size) _ _ _ (1 + n0) _ _ (o_x2.keep0 (by repeat (first | with_reducible exact gb_refl _ | refine gb_alloc ?_ _ | refine gb_drewN ?_ _ | refine gb_drew ?_))) (by have h9 := (show l2.length ≤ 1048576 by have := hN2.out; have := P2.out; omega); have h8 := o_x2.blen; have := (show l0.length ≤ 1048576 by have := hN0.out; have := P0.out; omega); have := e_x0_16.out; omega)).mono ?_
  rintro e w17 ⟨rfl, z_x2, r17⟩
  have g17 := gbI.ofRow (B := w5.heap.size) (S := w6.heap.size) r17 (fun g hg => by obtain ⟨p, hp, rfl⟩ := row_of hg; exact ⟨(o_x2.lt p hp).1, u_x2 p hp⟩)
  have e_x2_17 := Lib.hid o_x2.blen
  replace o_x2 := z_x2
  clear z_x2
  have R17 : gbI (w5.heap.size) (w6.heap.size) w16 w17 := (gbI.of0 (by repeat (first | with_reducible exact gb_refl _ | refine gb_alloc ?_ _ | refine gb_drewN ?_ _ | refine gb_drew ?_))).trans g17
  have T17 : Below w.heap.size w w17 := below_nextI T16 R17 (by omega)
  have z17 := R17.size
  replace o_w0 := o_w0.keepI R17 (by omega)
  replace o_x0 := o_x0.keepI R17 (fun p hp => by have := u_x0 p hp; have := (o_x0.lt p hp).1; omega)
  replace o_x6 := o_x6.keepI R17 (fun p hp => by have := u_x6 p hp; have := (o_x6.lt p hp).1; omega)
  replace o_g0 := o_g0.keepI R17 (by omega)
  clear cc_w0 cc_g0
  replace bb_w0 := bb_w0.keepI R17 (by have := bb_w0.lt; omega)
  replace bb_g0 := bb_g0.keepI R17 (by have := bb_g0.lt; omega)
  have cc_w0 := fun o => bb_w0.cell o
  have ll_w0_17 := bb_w0.lt
  have cc_g0 := fun o => bb_g0.cell o
  have ll_g0_17 := bb_g0.lt
  go_wp2_with fail
  refine (laws_markByteS (w6.heap.size) _ _ _ (1 + n0 + n2) _ _ (o_x6.keep0 (by repeat (first | with_reducible exact gb_refl _ | refine gb_alloc ?_ _ | refine gb_drewN ?_ _ | refine gb_drew ?_))) (by have h9 := (show l6.length ≤ 1048576 by have := hN6.out; have := P6.out; omega); have h8 := o_x6.blen; have := (show l0.length ≤ 1048576 by have := hN0.out; have := P0.out; omega); have := e_x0_16.out; have := (show l2.length ≤ 1048576 by have := hN2.out; have := P2.out; omega); have := e_x2_17.out; omega)).mono ?_
  rintro e w18 ⟨rfl, z_x6, r18⟩
  have g18 := gbI.ofRow (B := w6.heap.size) (S := w7.heap.size) r18 (fun g hg => by obtain ⟨p, hp, rfl⟩ := row_of hg; exact ⟨(o_x6.lt p hp).1, u_x6 p hp⟩)
  have e_x6_18 := Lib.hid o_x6.blen
  replace o_x6 := z_x6
  clear z_x6
  have R18 : gbI (w6.heap.size) (w7.heap.size) w17 w18 := (gbI.of0 (by repeat (first | with_reducible exact gb_refl _ | refine gb_alloc ?_ _ | refine gb_drewN ?_ _ | refine gb_drew ?_))).trans g18
  have T18 : Below w.heap.size w w18 := below_nextI T17 R18 (by omega)
  have z18 := R18.size
  replace o_w0 := o_w0.keepI R18 (by omega)
  replace o_x0 := o_x0.keepI R18 (fun p hp => by have := u_x0 p hp; have := (o_x0.lt p hp).1; omega)
  replace o_x2 := o_x2.keepI R18 (fun p hp => by have := u_x2 p hp; have := (o_x2.lt p hp).1; omega)
  replace o_g0 := o_g0.keepI R18 (by omega)
  clear cc_w0 cc_g0
  replace bb_w0 := bb_w0.keepI R18 (by have := bb_w0.lt; omega)
  replace bb_g0 := bb_g0.keepI R18 (by have := bb_g0.lt; omega)
  have cc_w0 := fun o => bb_w0.cell o
  have ll_w0_18 := bb_w0.lt
  have cc_g0 := fun o => bb_g0.cell o
  have ll_g0_18 := bb_g0.lt
  go_wp2_with fail
  refine (laws_eqFrame _ _ (sealM l0 x1 l2 x3 x4 x5 l6) _ (o_g0.r.keep0 (by repeat (first | with_reducible exact gb_refl _ | refine gb_alloc ?_ _ | refine gb_drewN ?_ _ | refine gb_drew ?_))) (o_w0.r.keep0 (by repeat (first | with_reducible exact gb_refl _ | refine gb_alloc ?_ _ | refine gb_drewN ?_ _ | refine gb_drew ?_))) (by have h9 := (show (sealM l0 x1 l2 x3 x4 x5 l6).tot ≤ 1048576 from Nat.le_trans (sealM_tot _ _ _ _ _ _ _) (by decide)); simp only [FrameM.tot] at h9; omega) (by have h9 := (show (sealM l0 x1 l2 x3 x4 x5 l6).tot ≤ 1048576 from Nat.le_trans (sealM_tot _ _ _ _ _ _ _) (by decide)); simp only [FrameM.tot] at h9; omega) (by have h9 := (show (sealM l0 x1 l2 x3 x4 x5 l6).tot ≤ 1048576 from Nat.le_trans (sealM_tot _ _ _ _ _ _ _) (by decide)); simp only [FrameM.tot] at h9; omega) (by have h9 := (show (sealM l0 x1 l2 x3 x4 x5 l6).tot ≤ 1048576 from Nat.le_trans (sealM_tot _ _ _ _ _ _ _) (by decide)); simp only [FrameM.tot] at h9; omega) (by have h9 := (show (sealM l0 x1 l2 x3 x4 x5 l6).tot ≤ 1048576 from Nat.le_trans (sealM_tot _ _ _ _ _ _ _) (by decide)); simp only [FrameM.tot] at h9; omega) (by have h9 := (show (sealM l0 x1 l2 x3 x4 x5 l6).tot ≤ 1048576 from Nat.le_trans (sealM_tot _ _ _ _ _ _ _) (by decide)); simp only [FrameM.tot] at h9; omega)).mono ?_
  rintro e w19 ⟨rfl, g19⟩
  have R19 : w18.grownBy w19 none := gb_trans (by repeat (first | with_reducible exact gb_refl _ | refine gb_alloc ?_ _ | refine gb_drewN ?_ _ | refine gb_drew ?_)) g19
  have T19 : Below w.heap.size w w19 := below_next T18 R19
  have z19 := R19.size
  replace o_w0 := o_w0.keep0 R19
  replace o_x0 := o_x0.keep0 R19
  replace o_x2 := o_x2.keep0 R19
  replace o_x6 := o_x6.keep0 R19
  replace o_g0 := o_g0.keep0 R19
  clear cc_w0 cc_g0
  replace bb_w0 := bb_w0.keep0 R19
  replace bb_g0 := bb_g0.keep0 R19
  have cc_w0 := fun o => bb_w0.cell o
  have ll_w0_19 := bb_w0.lt
  have cc_g0 := fun o => bb_g0.cell o
  have ll_g0_19 := bb_g0.lt
  go_wp2_with fail
  refine (laws_markFrame (w7.heap.size) (w8.heap.size) _ ((sealM l0 x1 l2 x3 x4 x5 l6)) (1) _ (o_g0.keep0 (by repeat (first | with_reducible exact gb_refl _ | refine gb_alloc ?_ _ | refine gb_drewN ?_ _ | refine gb_drew ?_))) (by have h9 := (show (sealM l0 x1 l2 x3 x4 x5 l6).tot ≤ 1048576 from Nat.le_trans (sealM_tot _ _ _ _ _ _ _) (by decide)); omega)).mono ?_
  rintro e w20 ⟨rfl, z_g0, g20⟩
  replace o_g0 := z_g0
  clear z_g0
  have R20 : gbI (w7.heap.size) (w8.heap.size) w19 w20 := (gbI.of0 (by repeat (first | with_reducible exact gb_refl _ | refine gb_alloc ?_ _ | refine gb_drewN ?_ _ | refine gb_drew ?_))).trans g20
  have T20 : Below w.heap.size w w20 := below_nextI T19 R20 (by omega)
  have z20 := R20.size
  replace o_w0 := o_w0.keepI R20 (by omega)
  replace o_x0 := o_x0.keepI R20 (fun p hp => by have := u_x0 p hp; have := (o_x0.lt p hp).1; omega)
  replace o_x2 := o_x2.keepI R20 (fun p hp => by have := u_x2 p hp; have := (o_x2.lt p hp).1; omega)
  replace o_x6 := o_x6.keepI R20 (fun p hp => by have := u_x6 p hp; have := (o_x6.lt p hp).1; omega)
  clear cc_w0 cc_g0
  replace bb_w0 := bb_w0.keepI R20 (by have := bb_w0.lt; omega)
  replace bb_g0 := bb_g0.keepI R20 (by have := bb_g0.lt; omega)
  have cc_w0 := fun o => bb_w0.cell o
  have ll_w0_20 := bb_w0.lt
  have cc_g0 := fun o => bb_g0.cell o
  have ll_g0_20 := bb_g0.lt
  go_wp2_with fail
  refine (laws_heldFrame _ ((sealM l0 x1 l2 x3 x4 x5 l6)) (1) _ (o_g0.r.keep0 (by repeat (first | with_reducible exact gb_refl _ | refine gb_alloc ?_ _ | refine gb_drewN ?_ _ | refine gb_drew ?_))) (by have h9 := (show (sealM l0 x1 l2 x3 x4 x5 l6).tot ≤ 1048576 from Nat.le_trans (sealM_tot _ _ _ _ _ _ _) (by decide)); have := (show (sealM l0 x1 l2 x3 x4 x5 l6).tot ≤ 1048576 from Nat.le_trans (sealM_tot _ _ _ _ _ _ _) (by decide)); omega)).mono ?_
  rintro e w21 ⟨rfl, g21⟩
  have R21 : w20.grownBy w21 none := gb_trans (by repeat (first | with_reducible exact gb_refl _ | refine gb_alloc ?_ _ | refine gb_drewN ?_ _ | refine gb_drew ?_)) g21
  have T21 : Below w.heap.size w w21 := below_next T20 R21
  have z21 := R21.size
  replace o_w0 := o_w0.keep0 R21
  replace o_x0 := o_x0.keep0 R21
  replace o_x2 := o_x2.keep0 R21
  replace o_x6 := o_x6.keep0 R21
  replace o_g0 := o_g0.keep0 R21
  clear cc_w0 cc_g0
  replace bb_w0 := bb_w0.keep0 R21
  replace bb_g0 := bb_g0.keep0 R21
  have cc_w0 := fun o => bb_w0.cell o
  have ll_w0_21 := bb_w0.lt
  have cc_g0 := fun o => bb_g0.cell o
  have ll_g0_21 := bb_g0.lt
  go_wp2_with fail
  refine (laws_toByteS _ _ _ l0 _ ((hR0.below T21).keep0 (by repeat (first | with_reducible exact gb_refl _ | refine gb_alloc ?_ _ | refine gb_drewN ?_ _ | refine gb_drew ?_))) (by have := P0.out; omega)).mono ?_
  rintro e w22 ⟨a_th00, c_th00, rfl, o_th00, g22⟩
  have u_th00 := fun p hp => (o_th00.lt p hp).2
  have R22 : w21.grownBy w22 none := gb_trans (by repeat (first | with_reducible exact gb_refl _ | refine gb_alloc ?_ _ | refine gb_drewN ?_ _ | refine gb_drew ?_)) g22
  have T22 : Below w.heap.size w w22 := below_next T21 R22
  have z22 := R22.size
  replace o_w0 := o_w0.keep0 R22
  replace o_x0 := o_x0.keep0 R22
  replace o_x2 := o_x2.keep0 R22
  replace o_x6 := o_x6.keep0 R22
  replace o_g0 := o_g0.keep0 R22
  clear cc_w0 cc_g0
  replace bb_w0 := bb_w0.keep0 R22
  replace bb_g0 := bb_g0.keep0 R22
  have cc_w0 := fun o => bb_w0.cell o
  have ll_w0_22 := bb_w0.lt
  have cc_g0 := fun o => bb_g0.cell o
  have ll_g0_22 := bb_g0.lt
  replace o_th00 := o_th00.mono (B' := w21.heap.size) (by first | exact Nat.le_refl _ | (simp; done) | (simp; omega))
  go_wp2_with fail
  refine (laws_toByteS _ _ _ l2 _ ((hR2.below T22).keep0 (by repeat (first | with_reducible exact gb_refl _ | refine gb_alloc ?_ _ | refine gb_drewN ?_ _ | refine gb_drew ?_))) (by have := P2.out; omega)).mono ?_
  rintro e w23 ⟨a_th01, c_th01, rfl, o_th01, g23⟩
  have u_th01 := fun p hp => (o_th01.lt p hp).2
  have R23 : w22.grownBy w23 none := gb_trans (by repeat (first | with_reducible exact gb_refl _ | refine gb_alloc ?_ _ | refine gb_drewN ?_ _ | refine gb_drew ?_)) g23
  have T23 : Below w.heap.size w w23 := below_next T22 R23
  have z23 := R23.size
  replace o_w0 := o_w0.keep0 R23
  replace o_x0 := o_x0.keep0 R23
  replace o_x2 := o_x2.keep0 R23
  replace o_x6 := o_x6.keep0 R23
  replace o_g0 := o_g0.keep0 R23
  replace o_th00 := o_th00.keep0 R23
  clear cc_w0 cc_g0
  replace bb_w0 := bb_w0.keep0 R23
  replace bb_g0 := bb_g0.keep0 R23
  have cc_w0 := fun o => bb_w0.cell o
  have ll_w0_23 := bb_w0.lt
  have cc_g0 := fun o => bb_g0.cell o
  have ll_g0_23 := bb_g0.lt
  replace o_th01 := o_th01.mono (B' := w22.heap.size) (by first | exact Nat.le_refl _ | (simp; done) | (simp; omega))
  go_wp2_with fail
  refine (laws_toByteS _ _ _ l6 _ ((hR6.below T23).keep0 (by repeat (first | with_reducible exact gb_refl _ | refine gb_alloc ?_ _ | refine gb_drewN ?_ _ | refine gb_drew ?_))) (by have := P6.out; omega)).mono ?_
  rintro e w24 ⟨a_th02, c_th02, rfl, o_th02, g24⟩
  have u_th02 := fun p hp => (o_th02.lt p hp).2
  have R24 : w23.grownBy w24 none := gb_trans (by repeat (first | with_reducible exact gb_refl _ | refine gb_alloc ?_ _ | refine gb_drewN ?_ _ | refine gb_drew ?_)) g24
  have T24 : Below w.heap.size w w24 := below_next T23 R24
  have z24 := R24.size
  replace o_w0 := o_w0.keep0 R24
  replace o_x0 := o_x0.keep0 R24
  replace o_x2 := o_x2.keep0 R24
  replace o_x6 := o_x6.keep0 R24
  replace o_g0 := o_g0.keep0 R24
  replace o_th00 := o_th00.keep0 R24
  replace o_th01 := o_th01.keep0 R24
  clear cc_w0 cc_g0
  replace bb_w0 := bb_w0.keep0 R24
  replace bb_g0 := bb_g0.keep0 R24
  have cc_w0 := fun o => bb_w0.cell o
  have ll_w0_24 := bb_w0.lt
  have cc_g0 := fun o => bb_g0.cell o
  have ll_g0_24 := bb_g0.lt
  replace o_th02 := o_th02.mono (B' := w23.heap.size) (by first | exact Nat.le_refl _ | (simp; done) | (simp; omega))
  go_wp2_with fail
  refine (LI_Seal _ _ _ l0 x1 _ _ _ l2 x3 x4 x5 _ _ _ l6 _ (o_th00.rd.keep0 (by repeat (first | with_reducible exact gb_refl _ | refine gb_alloc ?_ _ | refine gb_drewN ?_ _ | refine gb_drew ?_))) (o_th01.rd.keep0 (by repeat (first | with_reducible exact gb_refl _ | refine gb_alloc ?_ _ | refine gb_drewN ?_ _ | refine gb_drew ?_))) (o_th02.rd.keep0 (by repeat (first | with_reducible exact gb_refl _ | refine gb_alloc ?_ _ | refine gb_drewN ?_ _ | refine gb_drew ?_))) (show l0.length ≤ 1048576 by have := hN0.out; have := P0.out; omega) (show l2.length ≤ 1048576 by have := hN2.out; have := P2.out; omega) (show l6.length ≤ 1048576 by have := hN6.out; have := P6.out; omega)).mono ?_
  rintro e w25 ⟨v_h0, rfl, o_h0, g25⟩
  obtain ⟨a_h0_0, n_h0_0, c_h0_0, a_h0_1, n_h0_1, c_h0_1, a_h0_2, n_h0_2, c_h0_2, a_h0_3, n_h0_3, c_h0_3, a_h0_4, n_h0_4, c_h0_4, a_h0_5, n_h0_5, c_h0_5, rfl⟩ := o_h0.r.shape
  have R25 : w24.grownBy w25 none := gb_trans (by repeat (first | with_reducible exact gb_refl _ | refine gb_alloc ?_ _ | refine gb_drewN ?_ _ | refine gb_drew ?_)) g25
  have T25 : Below w.heap.size w w25 := below_next T24 R25
  have z25 := R25.size
  replace o_w0 := o_w0.keep0 R25
  replace o_x0 := o_x0.keep0 R25
  replace o_x2 := o_x2.keep0 R25
  replace o_x6 := o_x6.keep0 R25
  replace o_g0 := o_g0.keep0 R25
  replace o_th00 := o_th00.keep0 R25
  replace o_th01 := o_th01.keep0 R25
  replace o_th02 := o_th02.keep0 R25
  clear cc_w0 cc_g0
  replace bb_w0 := bb_w0.keep0 R25
  replace bb_g0 := bb_g0.keep0 R25
  have cc_w0 := fun o => bb_w0.cell o
  have ll_w0_25 := bb_w0.lt
  have cc_g0 := fun o => bb_g0.cell o
  have ll_g0_25 := bb_g0.lt
  replace o_h0 := o_h0.low (B' := w24.heap.size) (by first | exact Nat.le_refl _ | (simp; done) | (simp; omega))
  clear o_th00 u_th00
  clear o_th01 u_th01
  clear o_th02 u_th02
  go_wp2_with fail
  refine (laws_eqFrame _ _ (sealM l0 x1 l2 x3 x4 x5 l6) _ (o_h0.r.keep0 (by repeat (first | with_reducible exact gb_refl _ | refine gb_alloc ?_ _ | refine gb_drewN ?_ _ | refine gb_drew ?_))) (o_w0.r.keep0 (by repeat (first | with_reducible exact gb_refl _ | refine gb_alloc ?_ _ | refine gb_drewN ?_ _ | refine gb_drew ?_))) (by have h9 := (show (sealM l0 x1 l2 x3 x4 x5 l6).tot ≤ 1048576 from Nat.le_trans (sealM_tot _ _ _ _ _ _ _) (by decide)); simp only [FrameM.tot] at h9; omega) (by have h9 := (show (sealM l0 x1 l2 x3 x4 x5 l6).tot ≤ 1048576 from Nat.le_trans (sealM_tot _ _ _ _ _ _ _) (by decide)); simp only [FrameM.tot] at h9; omega) (by have h9 := (show (sealM l0 x1 l2 x3 x4 x5 l6).tot ≤ 1048576 from Nat.le_trans (sealM_tot _ _ _ _ _ _ _) (by decide)); simp only [FrameM.tot] at h9; omega) (by have h9 := (show (sealM l0 x1 l2 x3 x4 x5 l6).tot ≤ 1048576 from Nat.le_trans (sealM_tot _ _ _ _ _ _ _) (by decide)); simp only [FrameM.tot] at h9; omega) (by have h9 := (show (sealM l0 x1 l2 x3 x4 x5 l6).tot ≤ 1048576 from Nat.le_trans (sealM_tot _ _ _ _ _ _ _) (by decide)); simp only [FrameM.tot] at h9; omega) (by have h9 := (show (sealM l0 x1 l2 x3 x4 x5 l6).tot ≤ 1048576 from Nat.le_trans (sealM_tot _ _ _ _ _ _ _) (by decide)); simp only [FrameM.tot] at h9; omega)).mono ?_
  rintro e w26 ⟨rfl, g26⟩
  have R26 : w25.grownBy w26 none := gb_trans (by repeat (first | with_reducible exact gb_refl _ | refine gb_alloc ?_ _ | refine gb_drewN ?_ _ | refine gb_drew ?_)) g26
  have T26 : Below w.heap.size w w26 := below_next T25 R26
  have z26 := R26.size
  replace o_w0 := o_w0.keep0 R26
  replace o_x0 := o_x0.keep0 R26
  replace o_x2 := o_x2.keep0 R26
  replace o_x6 := o_x6.keep0 R26
  replace o_g0 := o_g0.keep0 R26
  replace o_h0 := o_h0.keep0 R26
  clear cc_w0 cc_g0
  replace bb_w0 := bb_w0.keep0 R26
  replace bb_g0 := bb_g0.keep0 R26
  have bb_h0 : Bx w26 (w25.heap.size) 24 #[.int .i64 ((sealM l0 x1 l2 x3 x4 x5 l6)).kind, .int .i64 ((sealM l0 x1 l2 x3 x4 x5 l6)).id, .slice a_h0_0 n_h0_0 c_h0_0, .slice a_h0_1 n_h0_1 c_h0_1, .int .i64 ((sealM l0 x1 l2 x3 x4 x5 l6)).tick, .slice a_h0_2 n_h0_2 c_h0_2, .slice a_h0_3 n_h0_3 c_h0_3, .int .i64 ((sealM l0 x1 l2 x3 x4 x5 l6)).epoch, .int .i64 ((sealM l0 x1 l2 x3 x4 x5 l6)).seq, .slice a_h0_4 n_h0_4 c_h0_4, .slice a_h0_5 n_h0_5 c_h0_5] := by first | exact (bx1 w25 _ _).keep0 g26 | exact (bx1 w25 _ _).drew.keep0 g26
  have cc_w0 := fun o => bb_w0.cell o
  have ll_w0_26 := bb_w0.lt
  have cc_g0 := fun o => bb_g0.cell o
  have ll_g0_26 := bb_g0.lt
  have cc_h0 := fun o => bb_h0.cell o
  have ll_h0_26 := bb_h0.lt
  go_wp2_with fail
  refine (laws_heldFrame _ ((sealM l0 x1 l2 x3 x4 x5 l6)) (1) _ (o_g0.r.keep0 (by repeat (first | with_reducible exact gb_refl _ | refine gb_alloc ?_ _ | refine gb_drewN ?_ _ | refine gb_drew ?_))) (by have h9 := (show (sealM l0 x1 l2 x3 x4 x5 l6).tot ≤ 1048576 from Nat.le_trans (sealM_tot _ _ _ _ _ _ _) (by decide)); have := (show (sealM l0 x1 l2 x3 x4 x5 l6).tot ≤ 1048576 from Nat.le_trans (sealM_tot _ _ _ _ _ _ _) (by decide)); omega)).mono ?_
  rintro e w27 ⟨rfl, g27⟩
  have R27 : w26.grownBy w27 none := gb_trans (by repeat (first | with_reducible exact gb_refl _ | refine gb_alloc ?_ _ | refine gb_drewN ?_ _ | refine gb_drew ?_)) g27
  have T27 : Below w.heap.size w w27 := below_next T26 R27
  have z27 := R27.size
  replace o_w0 := o_w0.keep0 R27
  replace o_x0 := o_x0.keep0 R27
  replace o_x2 := o_x2.keep0 R27
  replace o_x6 := o_x6.keep0 R27
  replace o_g0 := o_g0.keep0 R27
  replace o_h0 := o_h0.keep0 R27
  clear cc_w0 cc_g0 cc_h0
  replace bb_w0 := bb_w0.keep0 R27
  replace bb_g0 := bb_g0.keep0 R27
  replace bb_h0 := bb_h0.keep0 R27
  have cc_w0 := fun o => bb_w0.cell o
  have ll_w0_27 := bb_w0.lt
  have cc_g0 := fun o => bb_g0.cell o
  have ll_g0_27 := bb_g0.lt
  have cc_h0 := fun o => bb_h0.cell o
  have ll_h0_27 := bb_h0.lt
  go_wp2
  go_ret
  exact ⟨rfl, T27⟩
set_option maxRecDepth 100000 in
theorem lifted (os : Os) (started : os.Started) (H : Type) (enc : TypeId × Value → H) :
    ReturnsInHanded {} Try.checked os 3 .any (Rows.fnExactSealSpec.pre6 enc Try.prog Try.f3 Rows.fnExactSealRow.domain false) (Rows.fnExactSealSpec.post enc Try.prog Try.f3 false true false false) := by
  refine returnsInHanded_of_change (C := Try.checked) own started (by kernel_rfl) Try.func3
    (ChangeSpec.witness6 (enc := enc) (C := Try.checked) false ⟨#[], #[.slice none 0 0, .int .i64 0, .slice none 0 0, .int .i64 0, .int .i64 0, .int .i64 0, .slice none 0 0], []⟩ 8 (by kernel_rfl) (by kernel_rfl) (by kernel_rfl) (by kernel_rfl)) ?_
  intro W base args ds gs before hval0 hW _ _
  have hval : ∀ (j : Nat) t v, Try.f3.params[j]? = some t → args[j]? = some v → Value.okWide Try.prog W .any base t v := hval0
  have hW2 := hW
  obtain ⟨p, q, hA0, hV, hps, _, _⟩ := hW
  have hA : DataW.TrodAll enc Try.prog W 0 (fun _ => true) true Try.f3.params.toList args.toList ds p := hA0
  rw [Try.params3] at hA hval
  obtain ⟨rfl, rfl⟩ := trodVars_none hV
  obtain ⟨v0, vs0, d0, ds0, p0, q0, hargs, rfl, rfl, h0, r0⟩ := trodAll_cons hA
  obtain ⟨v1, vs1, d1, ds1, p1, q1, rfl, rfl, rfl, h1, r1⟩ := trodAll_cons r0
  obtain ⟨v2, vs2, d2, ds2, p2, q2, rfl, rfl, rfl, h2, r2⟩ := trodAll_cons r1
  obtain ⟨v3, vs3, d3, ds3, p3, q3, rfl, rfl, rfl, h3, r3⟩ := trodAll_cons r2
  obtain ⟨v4, vs4, d4, ds4, p4, q4, rfl, rfl, rfl, h4, r4⟩ := trodAll_cons r3
  obtain ⟨v5, vs5, d5, ds5, p5, q5, rfl, rfl, rfl, h5, r5⟩ := trodAll_cons r4
  obtain ⟨v6, vs6, d6, ds6, p6, q6, rfl, rfl, rfl, h6, r6⟩ := trodAll_cons r5
  obtain ⟨rfl, rfl, rfl⟩ := trodAll_nil r6
  obtain rfl : args = #[v0, v1, v2, v3, v4, v5, v6] := by cases args; simp_all
  have i0 := open_B (hval 0 22 v0 rfl rfl) h0
  have i1 := open_I (hval 1 3 v1 rfl rfl) h1
  have i2 := open_B (hval 2 22 v2 rfl rfl) h2
  have i3 := open_I (hval 3 3 v3 rfl rfl) h3
  have i4 := open_I (hval 4 3 v4 rfl rfl) h4
  have i5 := open_I (hval 5 3 v5 rfl rfl) h5
  have i6 := open_B (hval 6 22 v6 rfl rfl) h6
  clear hA0 hval0
  refine (walk W v0 v1 v2 v3 v4 v5 v6 i0 i1 i2 i3 i4 i5 i6).mono fun e W2 ⟨he, hb⟩ => ?_
  subst he
  exact ⟨_, rfl, law_post (tb := 4) laidOut (by kernel_rfl) (by kernel_rfl) Try.underlying4 rfl ⟨rfl, rfl, rfl⟩ hW2 hb⟩
theorem over : Rows.fnExactSealRow.holds Try.pinned (OpenSpec.ofChange Rows.fnExactSealSpec) :=
  OpenClaim.holds_of_wide 3 Try.f3 rfl rfl rfl rfl rfl rfl rfl ⟨rfl, rfl, rfl, rfl, rfl⟩ rfl rfl rfl rfl rfl (by kernel_rfl) Try.func3 (by kernel_rfl)
    (of_decide_eq_true (by kernel_rfl)) (by unfold Func.isWrapper; first | (rw [if_pos (by decide +kernel)]; kernel_rfl) | (rw [if_neg (by decide +kernel)]; exact ⟨rfl, rfl⟩))
    (fun os started H enc _ => lifted os started H enc)
theorem proved : Rows.FnExactSealSaid :=
  over
#print axioms proved
end Go.Proofs.Ytfjbfgonkimboaa.lSeal
