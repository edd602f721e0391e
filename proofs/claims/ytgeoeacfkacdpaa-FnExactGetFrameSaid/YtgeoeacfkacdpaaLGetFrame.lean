/-
  FnExactGetFrame returns true for every slice of bytes. Conditions: none.
-/
import Derived.Test.YtgeoeacfkacdpaaLaw
import Derived.Test.YtgeoeacfkacdpaaGetS6
import Derived.Deep.RegionHeld3
namespace Go.Proofs.Ytgeoeacfkacdpaa.lGetFrame
open Go.ChangeShapes Go.WideShapes Go.ChangeAt Go.RowKit
theorem cutL_le (l : List UInt8) (i k : Nat) : (cutL l i k).length ≤ k := by
  rw [cutL, List.length_take]
  exact Nat.min_le_left _ _
theorem getM_tot (l : List UInt8) : (getM l).1.tot ≤ 100 := by
  have h : (parI l).tot ≤ 100 := by
    have a1 := cutL_le l 2 12
    have a2 := cutL_le l 1 12
    have a3 := cutL_le l 13 12
    have a4 := cutL_le l 29 16
    have a5 := cutL_le l 14 12
    have a6 := cutL_le l 30 16
    have a7 := cutL_le l 46 16
    have a8 := cutL_le l 39 41
    have a9 := cutL_le l 23 16
    unfold parI
    repeat' split
    all_goals simp only [FrameM.tot, fr1, fr2, fr3, frS, frX, List.length_nil]
    all_goals omega
  unfold getM
  split
  · exact h
  · simp [FrameM.tot, fr0]
theorem LS_GetFrame (a0 : Option Addr) (n0 c0 : Nat) (l0 : List UInt8) (w : World) (r0 : Rd w a0 n0 c0 (bys l0)) (s0 : l0.length ≤ 1048576) : Calls Try.prog 50 #[.slice a0 n0 c0] w fun e w' => ∃ v', e = .returned (.tuple #[v', .bool (getM l0).2]) ∧ FrameO w.heap.size w'.heap.size w' v' (getM l0).1 ∧ w.grownBy w' none :=
  spec_GetFrame a0 n0 c0 l0 w r0 (by rw [← r0.blen]; exact s0)
theorem LI_GetFrame (a0 : Option Addr) (n0 c0 : Nat) (l0 : List UInt8) (w : World) (r0 : Rd w a0 n0 c0 (bys l0)) (s0 : l0.length ≤ 1048576) : Calls Try.prog 47 #[.slice a0 n0 c0] w fun e w' => ∃ v', e = .returned (.tuple #[v', .bool (getM l0).2]) ∧ FrameO w.heap.size w'.heap.size w' v' (getM l0).1 ∧ w.grownBy w' none :=
  impl_GetFrame a0 n0 c0 l0 w r0 (by rw [← r0.blen]; exact s0)
set_option maxRecDepth 100000 in
set_option maxHeartbeats 4000000 in
theorem walk (w : World) (v0 : Value) (h0 : InBytes w v0) : Calls Try.prog 9 #[v0] w fun e w' => e = .returned (.bool true) ∧ Below w.heap.size w w' := by
  obtain ⟨a0, n0, c0, l0, rfl, hR0, hC0⟩ := h0
  have hN0 := Lib.hid hR0.blen
  have T0 : Below w.heap.size w w := Below.refl _ _
  go_enter Try.func9, Try.ntmps9
  rcases Nat.lt_or_ge 1048576 n0 with p0 | p0
  · go_wp2
    go_ret
    exact ⟨rfl, below_next T0 (by repeat (first | with_reducible exact gb_refl _ | refine gb_alloc ?_ _ | refine gb_drewN ?_ _ | refine gb_drew ?_))⟩
  have P0 := Lib.hid p0
  have p0z : ((n0 : Int) ≤ 1048576) := by have := P0.out; omega
  clear p0
  go_wp2_with fail
  refine (laws_toByteS _ _ _ l0 _ ((hR0.below T0).keep0 (by repeat (first | with_reducible exact gb_refl _ | refine gb_alloc ?_ _ | refine gb_drewN ?_ _ | refine gb_drew ?_))) (by have := P0.out; omega)).mono ?_
  rintro e w1 ⟨a_tw00, c_tw00, rfl, o_tw00, g1⟩
  have u_tw00 := fun p hp => (o_tw00.lt p hp).2
  have R1 : w.grownBy w1 none := gb_trans (by repeat (first | with_reducible exact gb_refl _ | refine gb_alloc ?_ _ | refine gb_drewN ?_ _ | refine gb_drew ?_)) g1
  have T1 : Below w.heap.size w w1 := below_next T0 R1
  have z1 := R1.size
  replace o_tw00 := o_tw00.mono (B' := w.heap.size) (by first | exact Nat.le_refl _ | (simp; done) | (simp; omega))
  go_wp2_with fail
  refine (LS_GetFrame _ _ _ l0 _ (o_tw00.rd.keep0 (by repeat (first | with_reducible exact gb_refl _ | refine gb_alloc ?_ _ | refine gb_drewN ?_ _ | refine gb_drew ?_))) (show l0.length ≤ 1048576 by have := hN0.out; have := P0.out; omega)).mono ?_
  rintro e w2 ⟨v_w0, rfl, o_w0, g2⟩
  obtain ⟨a_w0_0, n_w0_0, c_w0_0, a_w0_1, n_w0_1, c_w0_1, a_w0_2, n_w0_2, c_w0_2, a_w0_3, n_w0_3, c_w0_3, a_w0_4, n_w0_4, c_w0_4, a_w0_5, n_w0_5, c_w0_5, rfl⟩ := o_w0.r.shape
  have R2 : w1.grownBy w2 none := gb_trans (by repeat (first | with_reducible exact gb_refl _ | refine gb_alloc ?_ _ | refine gb_drewN ?_ _ | refine gb_drew ?_)) g2
  have T2 : Below w.heap.size w w2 := below_next T1 R2
  have z2 := R2.size
  replace o_tw00 := o_tw00.keep0 R2
  replace o_w0 := o_w0.low (B' := w1.heap.size) (by first | exact Nat.le_refl _ | (simp; done) | (simp; omega))
  clear o_tw00 u_tw00
  go_wp2_with fail
  refine (laws_toByteS _ _ _ l0 _ ((hR0.below T2).keep0 (by repeat (first | with_reducible exact gb_refl _ | refine gb_alloc ?_ _ | refine gb_drewN ?_ _ | refine gb_drew ?_))) (by have := P0.out; omega)).mono ?_
  rintro e w3 ⟨a_x0, c_x0, rfl, o_x0, g3⟩
  have u_x0 := fun p hp => (o_x0.lt p hp).2
  have R3 : w2.grownBy w3 none := gb_trans (by repeat (first | with_reducible exact gb_refl _ | refine gb_alloc ?_ _ | refine gb_drewN ?_ _ | refine gb_drew ?_)) g3
  have T3 : Below w.heap.size w w3 := below_next T2 R3
  have z3 := R3.size
  replace o_w0 := o_w0.keep0 R3
  have bb_w0 : Bx w3 (w2.heap.size) 55 #[.int .i64 (((getM l0).1)).kind, .int .i64 (((getM l0).1)).id, .slice a_w0_0 n_w0_0 c_w0_0, .slice a_w0_1 n_w0_1 c_w0_1, .int .i64 (((getM l0).1)).tick, .slice a_w0_2 n_w0_2 c_w0_2, .slice a_w0_3 n_w0_3 c_w0_3, .int .i64 (((getM l0).1)).epoch, .int .i64 (((getM l0).1)).seq, .slice a_w0_4 n_w0_4 c_w0_4, .slice a_w0_5 n_w0_5 c_w0_5] := by first | exact (bx1 w2 _ _).keep0 g3 | exact (bx1 w2 _ _).drew.keep0 g3
  have cc_w0 := fun o => bb_w0.cell o
  have ll_w0_3 := bb_w0.lt
  replace o_x0 := o_x0.mono (B' := w2.heap.size + 1) (by first | exact Nat.le_refl _ | (simp; done) | (simp; omega))
  go_wp2_with fail
  refine (LI_GetFrame _ _ _ l0 _ (o_x0.rd.keep0 (by repeat (first | with_reducible exact gb_refl _ | refine gb_alloc ?_ _ | refine gb_drewN ?_ _ | refine gb_drew ?_))) (show l0.length ≤ 1048576 by have := hN0.out; have := P0.out; omega)).mono ?_
  rintro e w4 ⟨v_g0, rfl, o_g0, g4⟩
  obtain ⟨a_g0_0, n_g0_0, c_g0_0, a_g0_1, n_g0_1, c_g0_1, a_g0_2, n_g0_2, c_g0_2, a_g0_3, n_g0_3, c_g0_3, a_g0_4, n_g0_4, c_g0_4, a_g0_5, n_g0_5, c_g0_5, rfl⟩ := o_g0.r.shape
  have R4 : w3.grownBy w4 none := gb_trans (by repeat (first | with_reducible exact gb_refl _ | refine gb_alloc ?_ _ | refine gb_drewN ?_ _ | refine gb_drew ?_)) g4
  have T4 : Below w.heap.size w w4 := below_next T3 R4
  have z4 := R4.size
  replace o_w0 := o_w0.keep0 R4
  replace o_x0 := o_x0.keep0 R4
  clear cc_w0
  replace bb_w0 := bb_w0.keep0 R4
  have cc_w0 := fun o => bb_w0.cell o
  have ll_w0_4 := bb_w0.lt
  replace o_g0 := o_g0.low (B' := w3.heap.size) (by first | exact Nat.le_refl _ | (simp; done) | (simp; omega))
  go_wp2_with fail
  refine (laws_eqFrame _ _ ((getM l0).1) _ (o_g0.r.keep0 (by repeat (first | with_reducible exact gb_refl _ | refine gb_alloc ?_ _ | refine gb_drewN ?_ _ | refine gb_drew ?_))) (o_w0.r.keep0 (by repeat (first | with_reducible exact gb_refl _ | refine gb_alloc ?_ _ | refine gb_drewN ?_ _ | refine gb_drew ?_))) (by have h9 := (show ((getM l0).1).tot ≤ 1048576 from Nat.le_trans (getM_tot _) (by decide)); simp only [FrameM.tot] at h9; omega) (by have h9 := (show ((getM l0).1).tot ≤ 1048576 from Nat.le_trans (getM_tot _) (by decide)); simp only [FrameM.tot] at h9; omega) (by have h9 := (show ((getM l0).1).tot ≤ 1048576 from Nat.le_trans (getM_tot _) (by decide)); simp only [FrameM.tot] at h9; omega) (by have h9 := (show ((getM l0).1).tot ≤ 1048576 from Nat.le_trans (getM_tot _) (by decide)); simp only [FrameM.tot] at h9; omega) (by have h9 := (show ((getM l0).1).tot ≤ 1048576 from Nat.le_trans (getM_tot _) (by decide)); simp only [FrameM.tot] at h9; omega) (by have h9 := (show ((getM l0).1).tot ≤ 1048576 from Nat.le_trans (getM_tot _) (by decide)); simp only [FrameM.tot] at h9; omega)).mono ?_
  rintro e w5 ⟨rfl, g5⟩
  have R5 : w4.grownBy w5 none := gb_trans (by repeat (first | with_reducible exact gb_refl _ | refine gb_alloc ?_ _ | refine gb_drewN ?_ _ | refine gb_drew ?_)) g5
  have T5 : Below w.heap.size w w5 := below_next T4 R5
  have z5 := R5.size
  replace o_w0 := o_w0.keep0 R5
  replace o_x0 := o_x0.keep0 R5
  replace o_g0 := o_g0.keep0 R5
  clear cc_w0
  replace bb_w0 := bb_w0.keep0 R5
  have bb_g0 : Bx w5 (w4.heap.size) 55 #[.int .i64 (((getM l0).1)).kind, .int .i64 (((getM l0).1)).id, .slice a_g0_0 n_g0_0 c_g0_0, .slice a_g0_1 n_g0_1 c_g0_1, .int .i64 (((getM l0).1)).tick, .slice a_g0_2 n_g0_2 c_g0_2, .slice a_g0_3 n_g0_3 c_g0_3, .int .i64 (((getM l0).1)).epoch, .int .i64 (((getM l0).1)).seq, .slice a_g0_4 n_g0_4 c_g0_4, .slice a_g0_5 n_g0_5 c_g0_5] := by first | exact (bx1 w4 _ _).keep0 g5 | exact (bx1 w4 _ _).drew.keep0 g5
  have cc_w0 := fun o => bb_w0.cell o
  have ll_w0_5 := bb_w0.lt
  have cc_g0 := fun o => bb_g0.cell o
  have ll_g0_5 := bb_g0.lt
  go_wp2_with fail
  refine (laws_toByteS _ _ _ l0 _ ((hR0.below T5).keep0 (by repeat (first | with_reducible exact gb_refl _ | refine gb_alloc ?_ _ | refine gb_drewN ?_ _ | refine gb_drew ?_))) (by have := P0.out; omega)).mono ?_
  rintro e w6 ⟨a_tz_x0, c_tz_x0, rfl, o_tz_x0, g6⟩
  have u_tz_x0 := fun p hp => (o_tz_x0.lt p hp).2
  have R6 : w5.grownBy w6 none := gb_trans (by repeat (first | with_reducible exact gb_refl _ | refine gb_alloc ?_ _ | refine gb_drewN ?_ _ | refine gb_drew ?_)) g6
  have T6 : Below w.heap.size w w6 := below_next T5 R6
  have z6 := R6.size
  replace o_w0 := o_w0.keep0 R6
  replace o_x0 := o_x0.keep0 R6
  replace o_g0 := o_g0.keep0 R6
  clear cc_w0 cc_g0
  replace bb_w0 := bb_w0.keep0 R6
  replace bb_g0 := bb_g0.keep0 R6
  have cc_w0 := fun o => bb_w0.cell o
  have ll_w0_6 := bb_w0.lt
  have cc_g0 := fun o => bb_g0.cell o
  have ll_g0_6 := bb_g0.lt
  replace o_tz_x0 := o_tz_x0.mono (B' := w5.heap.size) (by first | exact Nat.le_refl _ | (simp; done) | (simp; omega))
  go_wp2_with fail
  refine (laws_eqByteS_same _ _ _ _ _ _ _ _ (o_x0.rd.keep0 (by repeat (first | with_reducible exact gb_refl _ | refine gb_alloc ?_ _ | refine gb_drewN ?_ _ | refine gb_drew ?_))) (o_tz_x0.rd.keep0 (by repeat (first | with_reducible exact gb_refl _ | refine gb_alloc ?_ _ | refine gb_drewN ?_ _ | refine gb_drew ?_))) (by have h9 := (show l0.length ≤ 1048576 by have := hN0.out; have := P0.out; omega); omega)).mono ?_
  rintro e w7 ⟨rfl, q7⟩
  have g7 := q7.gb
  have R7 : w6.grownBy w7 none := gb_trans (by repeat (first | with_reducible exact gb_refl _ | refine gb_alloc ?_ _ | refine gb_drewN ?_ _ | refine gb_drew ?_)) g7
  have T7 : Below w.heap.size w w7 := below_next T6 R7
  have z7 := R7.size
  replace o_w0 := o_w0.keep0 R7
  replace o_x0 := o_x0.keep0 R7
  replace o_g0 := o_g0.keep0 R7
  replace o_tz_x0 := o_tz_x0.keep0 R7
  clear cc_w0 cc_g0
  replace bb_w0 := bb_w0.keep0 R7
  replace bb_g0 := bb_g0.keep0 R7
  have cc_w0 := fun o => bb_w0.cell o
  have ll_w0_7 := bb_w0.lt
  have cc_g0 := fun o => bb_g0.cell o
  have ll_g0_7 := bb_g0.lt
  clear o_tz_x0 u_tz_x0
  go_wp2_with fail
  refine (laws_markByteS (w2.heap.size + 1) _ _ _ (1) _ _ (o_x0.keep0 (by repeat (first | with_reducible exact gb_refl _ | refine gb_alloc ?_ _ | refine gb_drewN ?_ _ | refine gb_drew ?_))) (by have h9 := (show l0.length ≤ 1048576 by have := hN0.out; have := P0.out; omega); have h8 := o_x0.blen; omega)).mono ?_
  rintro e w8 ⟨rfl, z_x0, r8⟩
  have g8 := gbI.ofRow (B := w2.heap.size + 1) (S := w3.heap.size) r8 (fun g hg => by obtain ⟨p, hp, rfl⟩ := row_of hg; exact ⟨(o_x0.lt p hp).1, u_x0 p hp⟩)
  have e_x0_8 := Lib.hid o_x0.blen
  replace o_x0 := z_x0
  clear z_x0
  have R8 : gbI (w2.heap.size + 1) (w3.heap.size) w7 w8 := (gbI.of0 (by repeat (first | with_reducible exact gb_refl _ | refine gb_alloc ?_ _ | refine gb_drewN ?_ _ | refine gb_drew ?_))).trans g8
  have T8 : Below w.heap.size w w8 := below_nextI T7 R8 (by omega)
  have z8 := R8.size
  replace o_w0 := o_w0.keepI R8 (by omega)
  replace o_g0 := o_g0.keepI R8 (by omega)
  clear cc_w0 cc_g0
  replace bb_w0 := bb_w0.keepI R8 (by have := bb_w0.lt; omega)
  replace bb_g0 := bb_g0.keepI R8 (by have := bb_g0.lt; omega)
  have cc_w0 := fun o => bb_w0.cell o
  have ll_w0_8 := bb_w0.lt
  have cc_g0 := fun o => bb_g0.cell o
  have ll_g0_8 := bb_g0.lt
  go_wp2_with fail
  refine (laws_eqFrame _ _ ((getM l0).1) _ (o_g0.r.keep0 (by repeat (first | with_reducible exact gb_refl _ | refine gb_alloc ?_ _ | refine gb_drewN ?_ _ | refine gb_drew ?_))) (o_w0.r.keep0 (by repeat (first | with_reducible exact gb_refl _ | refine gb_alloc ?_ _ | refine gb_drewN ?_ _ | refine gb_drew ?_))) (by have h9 := (show ((getM l0).1).tot ≤ 1048576 from Nat.le_trans (getM_tot _) (by decide)); simp only [FrameM.tot] at h9; omega) (by have h9 := (show ((getM l0).1).tot ≤ 1048576 from Nat.le_trans (getM_tot _) (by decide)); simp only [FrameM.tot] at h9; omega) (by have h9 := (show ((getM l0).1).tot ≤ 1048576 from Nat.le_trans (getM_tot _) (by decide)); simp only [FrameM.tot] at h9; omega) (by have h9 := (show ((getM l0).1).tot ≤ 1048576 from Nat.le_trans (getM_tot _) (by decide)); simp only [FrameM.tot] at h9; omega) (by have h9 := (show ((getM l0).1).tot ≤ 1048576 from Nat.le_trans (getM_tot _) (by decide)); simp only [FrameM.tot] at h9; omega) (by have h9 := (show ((getM l0).1).tot ≤ 1048576 from Nat.le_trans (getM_tot _) (by decide)); simp only [FrameM.tot] at h9; omega)).mono ?_
  rintro e w9 ⟨rfl, g9⟩
  have R9 : w8.grownBy w9 none := gb_trans (by repeat (first | with_reducible exact gb_refl _ | refine gb_alloc ?_ _ | refine gb_drewN ?_ _ | refine gb_drew ?_)) g9
  have T9 : Below w.heap.size w w9 := below_next T8 R9
  have z9 := R9.size
  replace o_w0 := o_w0.keep0 R9
  replace o_x0 := o_x0.keep0 R9
  replace o_g0 := o_g0.keep0 R9
  clear cc_w0 cc_g0
  replace bb_w0 := bb_w0.keep0 R9
  replace bb_g0 := bb_g0.keep0 R9
  have cc_w0 := fun o => bb_w0.cell o
  have ll_w0_9 := bb_w0.lt
  have cc_g0 := fun o => bb_g0.cell o
  have ll_g0_9 := bb_g0.lt
  go_wp2_with fail
  refine (laws_markFrame (w3.heap.size) (w4.heap.size) _ (((getM l0).1)) (1) _ (o_g0.keep0 (by repeat (first | with_reducible exact gb_refl _ | refine gb_alloc ?_ _ | refine gb_drewN ?_ _ | refine gb_drew ?_))) (by have h9 := (show ((getM l0).1).tot ≤ 1048576 from Nat.le_trans (getM_tot _) (by decide)); omega)).mono ?_
  rintro e w10 ⟨rfl, z_g0, g10⟩
  replace o_g0 := z_g0
  clear z_g0
  have R10 : gbI (w3.heap.size) (w4.heap.size) w9 w10 := (gbI.of0 (by repeat (first | with_reducible exact gb_refl _ | refine gb_alloc ?_ _ | refine gb_drewN ?_ _ | refine gb_drew ?_))).trans g10
  have T10 : Below w.heap.size w w10 := below_nextI T9 R10 (by omega)
  have z10 := R10.size
  replace o_w0 := o_w0.keepI R10 (by omega)
  replace o_x0 := o_x0.keepI R10 (fun p hp => by have := u_x0 p hp; have := (o_x0.lt p hp).1; omega)
  clear cc_w0 cc_g0
  replace bb_w0 := bb_w0.keepI R10 (by have := bb_w0.lt; omega)
  replace bb_g0 := bb_g0.keepI R10 (by have := bb_g0.lt; omega)
  have cc_w0 := fun o => bb_w0.cell o
  have ll_w0_10 := bb_w0.lt
  have cc_g0 := fun o => bb_g0.cell o
  have ll_g0_10 := bb_g0.lt
  go_wp2_with fail
  refine (laws_heldFrame _ (((getM l0).1)) (1) _ (o_g0.r.keep0 (by repeat (first | with_reducible exact gb_refl _ | refine gb_alloc ?_ _ | refine gb_drewN ?_ _ | refine gb_drew ?_))) (by have h9 := (show ((getM l0).1).tot ≤ 1048576 from Nat.le_trans (getM_tot _) (by decide)); have := (show ((getM l0).1).tot ≤ 1048576 from Nat.le_trans (getM_tot _) (by decide)); omega)).mono ?_
  rintro e w11 ⟨rfl, g11⟩
  have R11 : w10.grownBy w11 none := gb_trans (by repeat (first | with_reducible exact gb_refl _ | refine gb_alloc ?_ _ | refine gb_drewN ?_ _ | refine gb_drew ?_)) g11
  have T11 : Below w.heap.size w w11 := below_next T10 R11
  have z11 := R11.size
  replace o_w0 := o_w0.keep0 R11
  replace o_x0 := o_x0.keep0 R11
  replace o_g0 := o_g0.keep0 R11
  clear cc_w0 cc_g0
  replace bb_w0 := bb_w0.keep0 R11
  replace bb_g0 := bb_g0.keep0 R11
  have cc_w0 := fun o => bb_w0.cell o
  have ll_w0_11 := bb_w0.lt
  have cc_g0 := fun o => bb_g0.cell o
  have ll_g0_11 := bb_g0.lt
  go_wp2_with fail
  refine (laws_toByteS _ _ _ l0 _ ((hR0.below T11).keep0 (by repeat (first | with_reducible exact gb_refl _ | refine gb_alloc ?_ _ | refine gb_drewN ?_ _ | refine gb_drew ?_))) (by have := P0.out; omega)).mono ?_
  rintro e w12 ⟨a_th00, c_th00, rfl, o_th00, g12⟩
  have u_th00 := fun p hp => (o_th00.lt p hp).2
  have R12 : w11.grownBy w12 none := gb_trans (by repeat (first | with_reducible exact gb_refl _ | refine gb_alloc ?_ _ | refine gb_drewN ?_ _ | refine gb_drew ?_)) g12
  have T12 : Below w.heap.size w w12 := below_next T11 R12
  have z12 := R12.size
  replace o_w0 := o_w0.keep0 R12
  replace o_x0 := o_x0.keep0 R12
  replace o_g0 := o_g0.keep0 R12
  clear cc_w0 cc_g0
  replace bb_w0 := bb_w0.keep0 R12
  replace bb_g0 := bb_g0.keep0 R12
  have cc_w0 := fun o => bb_w0.cell o
  have ll_w0_12 := bb_w0.lt
  have cc_g0 := fun o => bb_g0.cell o
  have ll_g0_12 := bb_g0.lt
  replace o_th00 := o_th00.mono (B' := w11.heap.size) (by first | exact Nat.le_refl _ | (simp; done) | (simp; omega))
  go_wp2_with fail
  refine (LI_GetFrame _ _ _ l0 _ (o_th00.rd.keep0 (by repeat (first | with_reducible exact gb_refl _ | refine gb_alloc ?_ _ | refine gb_drewN ?_ _ | refine gb_drew ?_))) (show l0.length ≤ 1048576 by have := hN0.out; have := P0.out; omega)).mono ?_
  rintro e w13 ⟨v_h0, rfl, o_h0, g13⟩
  obtain ⟨a_h0_0, n_h0_0, c_h0_0, a_h0_1, n_h0_1, c_h0_1, a_h0_2, n_h0_2, c_h0_2, a_h0_3, n_h0_3, c_h0_3, a_h0_4, n_h0_4, c_h0_4, a_h0_5, n_h0_5, c_h0_5, rfl⟩ := o_h0.r.shape
  have R13 : w12.grownBy w13 none := gb_trans (by repeat (first | with_reducible exact gb_refl _ | refine gb_alloc ?_ _ | refine gb_drewN ?_ _ | refine gb_drew ?_)) g13
  have T13 : Below w.heap.size w w13 := below_next T12 R13
  have z13 := R13.size
  replace o_w0 := o_w0.keep0 R13
  replace o_x0 := o_x0.keep0 R13
  replace o_g0 := o_g0.keep0 R13
  replace o_th00 := o_th00.keep0 R13
  clear cc_w0 cc_g0
  replace bb_w0 := bb_w0.keep0 R13
  replace bb_g0 := bb_g0.keep0 R13
  have cc_w0 := fun o => bb_w0.cell o
  have ll_w0_13 := bb_w0.lt
  have cc_g0 := fun o => bb_g0.cell o
  have ll_g0_13 := bb_g0.lt
  replace o_h0 := o_h0.low (B' := w12.heap.size) (by first | exact Nat.le_refl _ | (simp; done) | (simp; omega))
  clear o_th00 u_th00
  go_wp2_with fail
  refine (laws_eqFrame _ _ ((getM l0).1) _ (o_h0.r.keep0 (by repeat (first | with_reducible exact gb_refl _ | refine gb_alloc ?_ _ | refine gb_drewN ?_ _ | refine gb_drew ?_))) (o_w0.r.keep0 (by repeat (first | with_reducible exact gb_refl _ | refine gb_alloc ?_ _ | refine gb_drewN ?_ _ | refine gb_drew ?_))) (by have h9 := (show ((getM l0).1).tot ≤ 1048576 from Nat.le_trans (getM_tot _) (by decide)); simp only [FrameM.tot] at h9; omega) (by have h9 := (show ((getM l0).1).tot ≤ 1048576 from Nat.le_trans (getM_tot _) (by decide)); simp only [FrameM.tot] at h9; omega) (by have h9 := (show ((getM l0).1).tot ≤ 1048576 from Nat.le_trans (getM_tot _) (by decide)); simp only [FrameM.tot] at h9; omega) (by have h9 := (show ((getM l0).1).tot ≤ 1048576 from Nat.le_trans (getM_tot _) (by decide)); simp only [FrameM.tot] at h9; omega) (by have h9 := (show ((getM l0).1).tot ≤ 1048576 from Nat.le_trans (getM_tot _) (by decide)); simp only [FrameM.tot] at h9; omega) (by have h9 := (show ((getM l0).1).tot ≤ 1048576 from Nat.le_trans (getM_tot _) (by decide)); simp only [FrameM.tot] at h9; omega)).mono ?_
  rintro e w14 ⟨rfl, g14⟩
  have R14 : w13.grownBy w14 none := gb_trans (by repeat (first | with_reducible exact gb_refl _ | refine gb_alloc ?_ _ | refine gb_drewN ?_ _ | refine gb_drew ?_)) g14
  have T14 : Below w.heap.size w w14 := below_next T13 R14
  have z14 := R14.size
  replace o_w0 := o_w0.keep0 R14
  replace o_x0 := o_x0.keep0 R14
  replace o_g0 := o_g0.keep0 R14
  replace o_h0 := o_h0.keep0 R14
  clear cc_w0 cc_g0
  replace bb_w0 := bb_w0.keep0 R14
  replace bb_g0 := bb_g0.keep0 R14
  have bb_h0 : Bx w14 (w13.heap.size) 55 #[.int .i64 (((getM l0).1)).kind, .int .i64 (((getM l0).1)).id, .slice a_h0_0 n_h0_0 c_h0_0, .slice a_h0_1 n_h0_1 c_h0_1, .int .i64 (((getM l0).1)).tick, .slice a_h0_2 n_h0_2 c_h0_2, .slice a_h0_3 n_h0_3 c_h0_3, .int .i64 (((getM l0).1)).epoch, .int .i64 (((getM l0).1)).seq, .slice a_h0_4 n_h0_4 c_h0_4, .slice a_h0_5 n_h0_5 c_h0_5] := by first | exact (bx1 w13 _ _).keep0 g14 | exact (bx1 w13 _ _).drew.keep0 g14
  have cc_w0 := fun o => bb_w0.cell o
  have ll_w0_14 := bb_w0.lt
  have cc_g0 := fun o => bb_g0.cell o
  have ll_g0_14 := bb_g0.lt
  have cc_h0 := fun o => bb_h0.cell o
  have ll_h0_14 := bb_h0.lt
  go_wp2_with fail
  refine (laws_heldFrame _ (((getM l0).1)) (1) _ (o_g0.r.keep0 (by repeat (first | with_reducible exact gb_refl _ | refine gb_alloc ?_ _ | refine gb_drewN ?_ _ | refine gb_drew ?_))) (by have h9 := (show ((getM l0).1).tot ≤ 1048576 from Nat.le_trans (getM_tot _) (by decide)); have := (show ((getM l0).1).tot ≤ 1048576 from Nat.le_trans (getM_tot _) (by decide)); omega)).mono ?_
  rintro e w15 ⟨rfl, g15⟩
  have R15 : w14.grownBy w15 none := gb_trans (by repeat (first | with_reducible exact gb_refl _ | refine gb_alloc ?_ _ | refine gb_drewN ?_ _ | refine gb_drew ?_)) g15
  have T15 : Below w.heap.size w w15 := below_next T14 R15
  have z15 := R15.size
  replace o_w0 := o_w0.keep0 R15
  replace o_x0 := o_x0.keep0 R15
  replace o_g0 := o_g0.keep0 R15
  replace o_h0 := o_h0.keep0 R15
  clear cc_w0 cc_g0 cc_h0
  replace bb_w0 := bb_w0.keep0 R15
  replace bb_g0 := bb_g0.keep0 R15
  replace bb_h0 := bb_h0.keep0 R15
  have cc_w0 := fun o => bb_w0.cell o
  have ll_w0_15 := bb_w0.lt
  have cc_g0 := fun o => bb_g0.cell o
  have ll_g0_15 := bb_g0.lt
  have cc_h0 := fun o => bb_h0.cell o
  have ll_h0_15 := bb_h0.lt
  go_wp2
  go_ret
  exact ⟨rfl, T15⟩
set_option maxRecDepth 100000 in
theorem lifted (os : Os) (started : os.Started) (H : Type) (enc : TypeId × Value → H) :
    ReturnsInHanded {} Try.checked os 9 .any (Rows.fnExactGetFrameSpec.pre6 enc Try.prog Try.f9 Rows.fnExactGetFrameRow.domain false) (Rows.fnExactGetFrameSpec.post enc Try.prog Try.f9 false true false false) := by
  refine returnsInHanded_of_change (C := Try.checked) own started (by kernel_rfl) Try.func9
    (ChangeSpec.witness6 (enc := enc) (C := Try.checked) false ⟨#[], #[.slice none 0 0], []⟩ 8 (by kernel_rfl) (by kernel_rfl) (by kernel_rfl) (by kernel_rfl)) ?_
  intro W base args ds gs before hval0 hW _ _
  have hval : ∀ (j : Nat) t v, Try.f9.params[j]? = some t → args[j]? = some v → Value.okWide Try.prog W .any base t v := hval0
  have hW2 := hW
  obtain ⟨p, q, hA0, hV, hps, _, _⟩ := hW
  have hA : DataW.TrodAll enc Try.prog W 0 (fun _ => true) true Try.f9.params.toList args.toList ds p := hA0
  rw [Try.params9] at hA hval
  obtain ⟨rfl, rfl⟩ := trodVars_none hV
  obtain ⟨v0, vs0, d0, ds0, p0, q0, hargs, rfl, rfl, h0, r0⟩ := trodAll_cons hA
  obtain ⟨rfl, rfl, rfl⟩ := trodAll_nil r0
  obtain rfl : args = #[v0] := by cases args; simp_all
  have i0 := open_B (hval 0 22 v0 rfl rfl) h0
  clear hA0 hval0
  refine (walk W v0 i0).mono fun e W2 ⟨he, hb⟩ => ?_
  subst he
  exact ⟨_, rfl, law_post (tb := 4) laidOut (by kernel_rfl) (by kernel_rfl) Try.underlying4 rfl ⟨rfl, rfl, rfl⟩ hW2 hb⟩
theorem over : Rows.fnExactGetFrameRow.holds Try.pinned (OpenSpec.ofChange Rows.fnExactGetFrameSpec) :=
  OpenClaim.holds_of_wide 9 Try.f9 rfl rfl rfl rfl rfl rfl rfl ⟨rfl, rfl, rfl, rfl, rfl⟩ rfl rfl rfl rfl rfl (by kernel_rfl) Try.func9 (by kernel_rfl)
    (of_decide_eq_true (by kernel_rfl)) (by unfold Func.isWrapper; first | (rw [if_pos (by decide +kernel)]; kernel_rfl) | (rw [if_neg (by decide +kernel)]; exact ⟨rfl, rfl⟩))
    (fun os started H enc _ => lifted os started H enc)
theorem proved : Rows.FnExactGetFrameSaid :=
  over
#print axioms proved
end Go.Proofs.Ytgeoeacfkacdpaa.lGetFrame
