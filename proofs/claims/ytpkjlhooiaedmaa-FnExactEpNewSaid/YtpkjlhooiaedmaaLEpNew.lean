/-
  FnExactEpNew returns true for every number and key. Conditions: none.
-/
import Derived.Test.YtpkjlhooiaedmaaLaw
import Derived.Test.YtpkjlhooiaedmaaEp
import Derived.Deep.RegionHeld3
namespace Go.Proofs.Ytpkjlhooiaedmaa.lEpNew
open Go.ChangeShapes Go.WideShapes Go.ChangeAt Go.RowKit
theorem LS_EpNew (x : Int) (a : Option Addr) (n c : Nat) (l : List UInt8) (w : World) (h : Rd w a n c (bys l)) (_hs : l.length ≤ 1048576) : Calls Try.prog 35 #[.int .i64 x, .slice a n c] w fun e w' => ∃ v', e = .returned v' ∧ EpO w.heap.size w'.heap.size w' v' (epNewM x l) ∧ w.grownBy w' none :=
  spec_EpNew x a n c l w h
theorem LI_EpNew (x : Int) (a : Option Addr) (n c : Nat) (l : List UInt8) (w : World) (h : Rd w a n c (bys l)) (_hs : l.length ≤ 1048576) : Calls Try.prog 36 #[.int .i64 x, .slice a n c] w fun e w' => ∃ v', e = .returned v' ∧ EpO w.heap.size w'.heap.size w' v' (epNewM x l) ∧ w.grownBy w' none :=
  impl_EpNew x a n c l w h
set_option maxRecDepth 100000 in
set_option maxHeartbeats 4000000 in
theorem walk (w : World) (v0 v1 : Value) (h0 : InInt v0) (h1 : InBytes w v1) : Calls Try.prog 8 #[v0, v1] w fun e w' => e = .returned (.bool true) ∧ Below w.heap.size w w' := by
  obtain ⟨x0, rfl, hx0⟩ := h0
  obtain ⟨a1, n1, c1, l1, rfl, hR1, hC1⟩ := h1
  have hN1 := Lib.hid hR1.blen
  have T0 : Below w.heap.size w w := Below.refl _ _
  go_enter Try.func8, Try.ntmps8
  rcases Nat.lt_or_ge 1048576 n1 with p1 | p1
  · go_wp2
    go_ret
    exact ⟨rfl, below_next T0 (by repeat (first | with_reducible exact gb_refl _ | refine gb_alloc ?_ _ | refine gb_drewN ?_ _ | refine gb_drew ?_))⟩
  have P1 := Lib.hid p1
  have p1z : ((n1 : Int) ≤ 1048576) := by have := P1.out; omega
  clear p1
  go_wp2_with fail
  refine (laws_toByteS _ _ _ l1 _ ((hR1.below T0).keep0 (by repeat (first | with_reducible exact gb_refl _ | refine gb_alloc ?_ _ | refine gb_drewN ?_ _ | refine gb_drew ?_))) (by have := P1.out; omega)).mono ?_
  rintro e w1 ⟨a_tw00, c_tw00, rfl, o_tw00, g1⟩
  have u_tw00 := fun p hp => (o_tw00.lt p hp).2
  have R1 : w.grownBy w1 none := gb_trans (by repeat (first | with_reducible exact gb_refl _ | refine gb_alloc ?_ _ | refine gb_drewN ?_ _ | refine gb_drew ?_)) g1
  have T1 : Below w.heap.size w w1 := below_next T0 R1
  have z1 := R1.size
  replace o_tw00 := o_tw00.mono (B' := w.heap.size) (by first | exact Nat.le_refl _ | (simp; done) | (simp; omega))
  go_wp2_with fail
  refine (LS_EpNew x0 _ _ _ l1 _ (o_tw00.rd.keep0 (by repeat (first | with_reducible exact gb_refl _ | refine gb_alloc ?_ _ | refine gb_drewN ?_ _ | refine gb_drew ?_))) (show l1.length ≤ 1048576 by have := hN1.out; have := P1.out; omega)).mono ?_
  rintro e w2 ⟨v_w0, rfl, o_w0, g2⟩
  obtain ⟨a_w0_0, n_w0_0, c_w0_0, a_w0_1, n_w0_1, c_w0_1, rfl⟩ := o_w0.r.shape
  have R2 : w1.grownBy w2 none := gb_trans (by repeat (first | with_reducible exact gb_refl _ | refine gb_alloc ?_ _ | refine gb_drewN ?_ _ | refine gb_drew ?_)) g2
  have T2 : Below w.heap.size w w2 := below_next T1 R2
  have z2 := R2.size
  replace o_tw00 := o_tw00.keep0 R2
  replace o_w0 := o_w0.low (B' := w1.heap.size) (by first | exact Nat.le_refl _ | (simp; done) | (simp; omega))
  clear o_tw00 u_tw00
  go_wp2_with fail
  refine (laws_toByteS _ _ _ l1 _ ((hR1.below T2).keep0 (by repeat (first | with_reducible exact gb_refl _ | refine gb_alloc ?_ _ | refine gb_drewN ?_ _ | refine gb_drew ?_))) (by have := P1.out; omega)).mono ?_
  rintro e w3 ⟨a_x1, c_x1, rfl, o_x1, g3⟩
  have u_x1 := fun p hp => (o_x1.lt p hp).2
  have R3 : w2.grownBy w3 none := gb_trans (by repeat (first | with_reducible exact gb_refl _ | refine gb_alloc ?_ _ | refine gb_drewN ?_ _ | refine gb_drew ?_)) g3
  have T3 : Below w.heap.size w w3 := below_next T2 R3
  have z3 := R3.size
  replace o_w0 := o_w0.keep0 R3
  have bb_w0 : Bx w3 (w2.heap.size) 55 #[.int .i64 ((epNewM x0 l1)).n, .slice a_w0_0 n_w0_0 c_w0_0, .int .i64 ((epNewM x0 l1)).seq, .int .i64 ((epNewM x0 l1)).win.top, .slice a_w0_1 n_w0_1 c_w0_1] := (bx1 w2 _ _).keep0 g3
  have cc_w0 := fun o => bb_w0.cell o
  have ll_w0_3 := bb_w0.lt
  replace o_x1 := o_x1.mono (B' := w2.heap.size + 1) (by first | exact Nat.le_refl _ | (simp; done) | (simp; omega))
  go_wp2_with fail
  refine (LI_EpNew x0 _ _ _ l1 _ (o_x1.rd.keep0 (by repeat (first | with_reducible exact gb_refl _ | refine gb_alloc ?_ _ | refine gb_drewN ?_ _ | refine gb_drew ?_))) (show l1.length ≤ 1048576 by have := hN1.out; have := P1.out; omega)).mono ?_
  rintro e w4 ⟨v_g0, rfl, o_g0, g4⟩
  obtain ⟨a_g0_0, n_g0_0, c_g0_0, a_g0_1, n_g0_1, c_g0_1, rfl⟩ := o_g0.r.shape
  have R4 : w3.grownBy w4 none := gb_trans (by repeat (first | with_reducible exact gb_refl _ | refine gb_alloc ?_ _ | refine gb_drewN ?_ _ | refine gb_drew ?_)) g4
  have T4 : Below w.heap.size w w4 := below_next T3 R4
  have z4 := R4.size
  replace o_w0 := o_w0.keep0 R4
  replace o_x1 := o_x1.keep0 R4
  clear cc_w0
  replace bb_w0 := bb_w0.keep0 R4
  have cc_w0 := fun o => bb_w0.cell o
  have ll_w0_4 := bb_w0.lt
  replace o_g0 := o_g0.low (B' := w3.heap.size) (by first | exact Nat.le_refl _ | (simp; done) | (simp; omega))
  go_wp2_with fail
  refine (laws_eqEp _ _ (epNewM x0 l1) _ (o_g0.r.keep0 (by repeat (first | with_reducible exact gb_refl _ | refine gb_alloc ?_ _ | refine gb_drewN ?_ _ | refine gb_drew ?_))) (o_w0.r.keep0 (by repeat (first | with_reducible exact gb_refl _ | refine gb_alloc ?_ _ | refine gb_drewN ?_ _ | refine gb_drew ?_))) (by have h9 := (show (epNewM x0 l1).tot ≤ 1048576 from Nat.le_trans (epNewM_tot _ _) (by decide)); simp only [EpM.tot] at h9; omega) (by have h9 := (show (epNewM x0 l1).tot ≤ 1048576 from Nat.le_trans (epNewM_tot _ _) (by decide)); simp only [EpM.tot] at h9; omega)).mono ?_
  rintro e w5 ⟨rfl, g5⟩
  have R5 : w4.grownBy w5 none := gb_trans (by repeat (first | with_reducible exact gb_refl _ | refine gb_alloc ?_ _ | refine gb_drewN ?_ _ | refine gb_drew ?_)) g5
  have T5 : Below w.heap.size w w5 := below_next T4 R5
  have z5 := R5.size
  replace o_w0 := o_w0.keep0 R5
  replace o_x1 := o_x1.keep0 R5
  replace o_g0 := o_g0.keep0 R5
  clear cc_w0
  replace bb_w0 := bb_w0.keep0 R5
  have bb_g0 : Bx w5 (w4.heap.size) 55 #[.int .i64 ((epNewM x0 l1)).n, .slice a_g0_0 n_g0_0 c_g0_0, .int .i64 ((epNewM x0 l1)).seq, .int .i64 ((epNewM x0 l1)).win.top, .slice a_g0_1 n_g0_1 c_g0_1] := (bx1 w4 _ _).keep0 g5
  have cc_w0 := fun o => bb_w0.cell o
  have ll_w0_5 := bb_w0.lt
  have cc_g0 := fun o => bb_g0.cell o
  have ll_g0_5 := bb_g0.lt
  go_wp2_with fail
  refine (laws_toByteS _ _ _ l1 _ ((hR1.below T5).keep0 (by repeat (first | with_reducible exact gb_refl _ | refine gb_alloc ?_ _ | refine gb_drewN ?_ _ | refine gb_drew ?_))) (by have := P1.out; omega)).mono ?_
  rintro e w6 ⟨a_tz_x1, c_tz_x1, rfl, o_tz_x1, g6⟩
  have u_tz_x1 := fun p hp => (o_tz_x1.lt p hp).2
  have R6 : w5.grownBy w6 none := gb_trans (by repeat (first | with_reducible exact gb_refl _ | refine gb_alloc ?_ _ | refine gb_drewN ?_ _ | refine gb_drew ?_)) g6
  have T6 : Below w.heap.size w w6 := below_next T5 R6
  have z6 := R6.size
  replace o_w0 := o_w0.keep0 R6
  replace o_x1 := o_x1.keep0 R6
  replace o_g0 := o_g0.keep0 R6
  clear cc_w0 cc_g0
  replace bb_w0 := bb_w0.keep0 R6
  replace bb_g0 := bb_g0.keep0 R6
  have cc_w0 := fun o => bb_w0.cell o
  have ll_w0_6 := bb_w0.lt
  have cc_g0 := fun o => bb_g0.cell o
  have ll_g0_6 := bb_g0.lt
  replace o_tz_x1 := o_tz_x1.mono (B' := w5.heap.size) (by first | exact Nat.le_refl _ | (simp; done) | (simp; omega))
  go_wp2_with fail
  refine (laws_eqByteS_same _ _ _ _ _ _ _ _ (o_x1.rd.keep0 (by repeat (first | with_reducible exact gb_refl _ | refine gb_alloc ?_ _ | refine gb_drewN ?_ _ | refine gb_drew ?_))) (o_tz_x1.rd.keep0 (by repeat (first | with_reducible exact gb_refl _ | refine gb_alloc ?_ _ | refine gb_drewN ?_ _ | refine gb_drew ?_))) (by have h9 := (show l1.length ≤ 1048576 by have := hN1.out; have := P1.out; omega); omega)).mono ?_
  rintro e w7 ⟨rfl, q7⟩
  have g7 := q7.gb
  have R7 : w6.grownBy w7 none := gb_trans (by repeat (first | with_reducible exact gb_refl _ | refine gb_alloc ?_ _ | refine gb_drewN ?_ _ | refine gb_drew ?_)) g7
  have T7 : Below w.heap.size w w7 := below_next T6 R7
  have z7 := R7.size
  replace o_w0 := o_w0.keep0 R7
  replace o_x1 := o_x1.keep0 R7
  replace o_g0 := o_g0.keep0 R7
  replace o_tz_x1 := o_tz_x1.keep0 R7
  clear cc_w0 cc_g0
  replace bb_w0 := bb_w0.keep0 R7
  replace bb_g0 := bb_g0.keep0 R7
  have cc_w0 := fun o => bb_w0.cell o
  have ll_w0_7 := bb_w0.lt
  have cc_g0 := fun o => bb_g0.cell o
  have ll_g0_7 := bb_g0.lt
  clear o_tz_x1 u_tz_x1
  go_wp2_with fail
  refine (laws_markByteS (w2.heap.size + 1) _ _ _ (1) _ _ (o_x1.keep0 (by repeat (first | with_reducible exact gb_refl _ | refine gb_alloc ?_ _ | refine gb_drewN ?_ _ | refine gb_drew ?_))) (by have h9 := (show l1.length ≤ 1048576 by have := hN1.out; have := P1.out; omega); have h8 := o_x1.blen; omega)).mono ?_
  rintro e w8 ⟨rfl, z_x1, r8⟩
  have g8 := gbI.ofRow (B := w2.heap.size + 1) (S := w3.heap.size) r8 (fun g hg => by obtain ⟨p, hp, rfl⟩ := row_of hg; exact ⟨(o_x1.lt p hp).1, u_x1 p hp⟩)
  have e_x1_8 := Lib.hid o_x1.blen
  replace o_x1 := z_x1
  clear z_x1
  have R8 : gbI (w2.heap.size + 1) (w3.heap.size) w7 w8 := (gbI.of0 (by repeat (first | with_reducible exact gb_refl _ | refine gb_alloc ?_ _ | refine gb_drewN ?_ _ | refine gb_drew ?_))).trans g8
  have T8 : Below w.heap.size w w8 := below_nextI T7 R8 (by omega)
  have z8 := R8.size
  replace o_w0 := o_w0.keepI R8 (by omega)
  replace o_g0 := o_g0.keepI R8 (by omega)
  clear cc_w0 cc_g0
  replace bb_w0 := bb_w0.keepI R8 (by have := bb_w0.lt; omega)
  replace bb_g0 := bb_g0.keepI R8 (by have := bb_g0.lt; omega)
  have cc_w0 := fun o => bb_w0.cell o
  have ll_w0_8 := bb_w0.lt
  have cc_g0 := fun o => bb_g0.cell o
  have ll_g0_8 := bb_g0.lt
  go_wp2_with fail
  refine (laws_eqEp _ _ (epNewM x0 l1) _ (o_g0.r.keep0 (by repeat (first | with_reducible exact gb_refl _ | refine gb_alloc ?_ _ | refine gb_drewN ?_ _ | refine gb_drew ?_))) (o_w0.r.keep0 (by repeat (first | with_reducible exact gb_refl _ | refine gb_alloc ?_ _ | refine gb_drewN ?_ _ | refine gb_drew ?_))) (by have h9 := (show (epNewM x0 l1).tot ≤ 1048576 from Nat.le_trans (epNewM_tot _ _) (by decide)); simp only [EpM.tot] at h9; omega) (by have h9 := (show (epNewM x0 l1).tot ≤ 1048576 from Nat.le_trans (epNewM_tot _ _) (by decide)); simp only [EpM.tot] at h9; omega)).mono ?_
  rintro e w9 ⟨rfl, g9⟩
  have R9 : w8.grownBy w9 none := gb_trans (by repeat (first | with_reducible exact gb_refl _ | refine gb_alloc ?_ _ | refine gb_drewN ?_ _ | refine gb_drew ?_)) g9
  have T9 : Below w.heap.size w w9 := below_next T8 R9
  have z9 := R9.size
  replace o_w0 := o_w0.keep0 R9
  replace o_x1 := o_x1.keep0 R9
  replace o_g0 := o_g0.keep0 R9
  clear cc_w0 cc_g0
  replace bb_w0 := bb_w0.keep0 R9
  replace bb_g0 := bb_g0.keep0 R9
  have cc_w0 := fun o => bb_w0.cell o
  have ll_w0_9 := bb_w0.lt
  have cc_g0 := fun o => bb_g0.cell o
  have ll_g0_9 := bb_g0.lt
  go_wp2_with fail
  refine (laws_markEp (w3.heap.size) (w4.heap.size) _ ((epNewM x0 l1)) (1) _ (o_g0.keep0 (by repeat (first | with_reducible exact gb_refl _ | refine gb_alloc ?_ _ | refine gb_drewN ?_ _ | refine gb_drew ?_))) (by have h9 := (show (epNewM x0 l1).tot ≤ 1048576 from Nat.le_trans (epNewM_tot _ _) (by decide)); omega)).mono ?_
  rintro e w10 ⟨rfl, z_g0, g10⟩
  replace o_g0 := z_g0
  clear z_g0
  have R10 : gbI (w3.heap.size) (w4.heap.size) w9 w10 := (gbI.of0 (by repeat (first | with_reducible exact gb_refl _ | refine gb_alloc ?_ _ | refine gb_drewN ?_ _ | refine gb_drew ?_))).trans g10
  have T10 : Below w.heap.size w w10 := below_nextI T9 R10 (by omega)
  have z10 := R10.size
  replace o_w0 := o_w0.keepI R10 (by omega)
  replace o_x1 := o_x1.keepI R10 (fun p hp => by have := u_x1 p hp; have := (o_x1.lt p hp).1; omega)
  clear cc_w0 cc_g0
  replace bb_w0 := bb_w0.keepI R10 (by have := bb_w0.lt; omega)
  replace bb_g0 := bb_g0.keepI R10 (by have := bb_g0.lt; omega)
  have cc_w0 := fun o => bb_w0.cell o
  have ll_w0_10 := bb_w0.lt
  have cc_g0 := fun o => bb_g0.cell o
  have ll_g0_10 := bb_g0.lt
  go_wp2_with fail
  refine (laws_heldEp _ ((epNewM x0 l1)) (1) _ (o_g0.r.keep0 (by repeat (first | with_reducible exact gb_refl _ | refine gb_alloc ?_ _ | refine gb_drewN ?_ _ | refine gb_drew ?_))) (by have h9 := (show (epNewM x0 l1).tot ≤ 1048576 from Nat.le_trans (epNewM_tot _ _) (by decide)); have := (show (epNewM x0 l1).tot ≤ 1048576 from Nat.le_trans (epNewM_tot _ _) (by decide)); omega)).mono ?_
  rintro e w11 ⟨rfl, g11⟩
  have R11 : w10.grownBy w11 none := gb_trans (by repeat (first | with_reducible exact gb_refl _ | refine gb_alloc ?_ _ | refine gb_drewN ?_ _ | refine gb_drew ?_)) g11
  have T11 : Below w.heap.size w w11 := below_next T10 R11
  have z11 := R11.size
  replace o_w0 := o_w0.keep0 R11
  replace o_x1 := o_x1.keep0 R11
  replace o_g0 := o_g0.keep0 R11
  clear cc_w0 cc_g0
  replace bb_w0 := bb_w0.keep0 R11
  replace bb_g0 := bb_g0.keep0 R11
  have cc_w0 := fun o => bb_w0.cell o
  have ll_w0_11 := bb_w0.lt
  have cc_g0 := fun o => bb_g0.cell o
  have ll_g0_11 := bb_g0.lt
  go_wp2_with fail
  refine (laws_toByteS _ _ _ l1 _ ((hR1.below T11).keep0 (by repeat (first | with_reducible exact gb_refl _ | refine gb_alloc ?_ _ | refine gb_drewN ?_ _ | refine gb_drew ?_))) (by have := P1.out; omega)).mono ?_
  rintro e w12 ⟨a_th00, c_th00, rfl, o_th00, g12⟩
  have u_th00 := fun p hp => (o_th00.lt p hp).2
  have R12 : w11.grownBy w12 none := gb_trans (by repeat (first | with_reducible exact gb_refl _ | refine gb_alloc ?_ _ | refine gb_drewN ?_ _ | refine gb_drew ?_)) g12
  have T12 : Below w.heap.size w w12 := below_next T11 R12
  have z12 := R12.size
  replace o_w0 := o_w0.keep0 R12
  replace o_x1 := o_x1.keep0 R12
  replace o_g0 := o_g0.keep0 R12
  clear cc_w0 cc_g0
  replace bb_w0 := bb_w0.keep0 R12
  replace bb_g0 := bb_g0.keep0 R12
  have cc_w0 := fun o => bb_w0.cell o
  have ll_w0_12 := bb_w0.lt
  have cc_g0 := fun o => bb_g0.cell o
  have ll_g0_12 := bb_g0.lt
  replace o_th00 := o_th00.mono (B' := w11.heap.size) (by first | exact Nat.le_refl _ | (simp; done) | (simp; omega))
  go_wp2_with fail
  refine (LI_EpNew x0 _ _ _ l1 _ (o_th00.rd.keep0 (by repeat (first | with_reducible exact gb_refl _ | refine gb_alloc ?_ _ | refine gb_drewN ?_ _ | refine gb_drew ?_))) (show l1.length ≤ 1048576 by have := hN1.out; have := P1.out; omega)).mono ?_
  rintro e w13 ⟨v_h0, rfl, o_h0, g13⟩
  obtain ⟨a_h0_0, n_h0_0, c_h0_0, a_h0_1, n_h0_1, c_h0_1, rfl⟩ := o_h0.r.shape
  have R13 : w12.grownBy w13 none := gb_trans (by repeat (first | with_reducible exact gb_refl _ | refine gb_alloc ?_ _ | refine gb_drewN ?_ _ | refine gb_drew ?_)) g13
  have T13 : Below w.heap.size w w13 := below_next T12 R13
  have z13 := R13.size
  replace o_w0 := o_w0.keep0 R13
  replace o_x1 := o_x1.keep0 R13
  replace o_g0 := o_g0.keep0 R13
  replace o_th00 := o_th00.keep0 R13
  clear cc_w0 cc_g0
  replace bb_w0 := bb_w0.keep0 R13
  replace bb_g0 := bb_g0.keep0 R13
  have cc_w0 := fun o => bb_w0.cell o
  have ll_w0_13 := bb_w0.lt
  have cc_g0 := fun o => bb_g0.cell o
  have ll_g0_13 := bb_g0.lt
  replace o_h0 := o_h0.low (B' := w12.heap.size) (by first | exact Nat.le_refl _ | (simp; done) | (simp; omega))
  clear o_th00 u_th00
  go_wp2_with fail
  refine (laws_eqEp _ _ (epNewM x0 l1) _ (o_h0.r.keep0 (by repeat (first | with_reducible exact gb_refl _ | refine gb_alloc ?_ _ | refine gb_drewN ?_ _ | refine gb_drew ?_))) (o_w0.r.keep0 (by repeat (first | with_reducible exact gb_refl _ | refine gb_alloc ?_ _ | refine gb_drewN ?_ _ | refine gb_drew ?_))) (by have h9 := (show (epNewM x0 l1).tot ≤ 1048576 from Nat.le_trans (epNewM_tot _ _) (by decide)); simp only [EpM.tot] at h9; omega) (by have h9 := (show (epNewM x0 l1).tot ≤ 1048576 from Nat.le_trans (epNewM_tot _ _) (by decide)); simp only [EpM.tot] at h9; omega)).mono ?_
  rintro e w14 ⟨rfl, g14⟩
  have R14 : w13.grownBy w14 none := gb_trans (by repeat (first | with_reducible exact gb_refl _ | refine gb_alloc ?_ _ | refine gb_drewN ?_ _ | refine gb_drew ?_)) g14
  have T14 : Below w.heap.size w w14 := below_next T13 R14
  have z14 := R14.size
  replace o_w0 := o_w0.keep0 R14
  replace o_x1 := o_x1.keep0 R14
  replace o_g0 := o_g0.keep0 R14
  replace o_h0 := o_h0.keep0 R14
  clear cc_w0 cc_g0
  replace bb_w0 := bb_w0.keep0 R14
  replace bb_g0 := bb_g0.keep0 R14
  have bb_h0 : Bx w14 (w13.heap.size) 55 #[.int .i64 ((epNewM x0 l1)).n, .slice a_h0_0 n_h0_0 c_h0_0, .int .i64 ((epNewM x0 l1)).seq, .int .i64 ((epNewM x0 l1)).win.top, .slice a_h0_1 n_h0_1 c_h0_1] := (bx1 w13 _ _).keep0 g14
  have cc_w0 := fun o => bb_w0.cell o
  have ll_w0_14 := bb_w0.lt
  have cc_g0 := fun o => bb_g0.cell o
  have ll_g0_14 := bb_g0.lt
  have cc_h0 := fun o => bb_h0.cell o
  have ll_h0_14 := bb_h0.lt
  go_wp2_with fail
  refine (laws_heldEp _ ((epNewM x0 l1)) (1) _ (o_g0.r.keep0 (by repeat (first | with_reducible exact gb_refl _ | refine gb_alloc ?_ _ | refine gb_drewN ?_ _ | refine gb_drew ?_))) (by have h9 := (show (epNewM x0 l1).tot ≤ 1048576 from Nat.le_trans (epNewM_tot _ _) (by decide)); have := (show (epNewM x0 l1).tot ≤ 1048576 from Nat.le_trans (epNewM_tot _ _) (by decide)); omega)).mono ?_
  rintro e w15 ⟨rfl, g15⟩
  have R15 : w14.grownBy w15 none := gb_trans (by repeat (first | with_reducible exact gb_refl _ | refine gb_alloc ?_ _ | refine gb_drewN ?_ _ | refine gb_drew ?_)) g15
  have T15 : Below w.heap.size w w15 := below_next T14 R15
  have z15 := R15.size
  replace o_w0 := o_w0.keep0 R15
  replace o_x1 := o_x1.keep0 R15
  replace o_g0 := o_g0.keep0 R15
  replace o_h0 := o_h0.keep0 R15
  clear cc_w0 cc_g0 cc_h0
  replace bb_w0 := bb_w0.keep0 R15
  replace bb_g0 := bb_g0.keep0 R15
  replace bb_h0 := bb_h0.keep0 R15
  have cc_w0 := fun o => bb_w0.cell o
  have ll_w0_15 := bb_w0.lt
  have cc_g0 := fun o => bb_g0.cell o
  have ll_g0_15 := bb_g0.lt
  have cc_h0 := fun o => bb_h0.cell o
  have ll_h0_15 := bb_h0.lt
  go_wp2
  go_ret
  exact ⟨rfl, T15⟩
set_option maxRecDepth 100000 in
theorem lifted (os : Os) (started : os.Started) (H : Type) (enc : TypeId × Value → H) :
    ReturnsInHanded {} Try.checked os 8 .any (Rows.fnExactEpNewSpec.pre6 enc Try.prog Try.f8 Rows.fnExactEpNewRow.domain false) (Rows.fnExactEpNewSpec.post enc Try.prog Try.f8 false true false false) := by
  refine returnsInHanded_of_change (C := Try.checked) own started (by kernel_rfl) Try.func8
    (ChangeSpec.witness6 (enc := enc) (C := Try.checked) false ⟨#[], #[.int .i64 0, .slice none 0 0], []⟩ 8 (by kernel_rfl) (by kernel_rfl) (by kernel_rfl) (by kernel_rfl)) ?_
  intro W base args ds gs before hval0 hW _ _
  have hval : ∀ (j : Nat) t v, Try.f8.params[j]? = some t → args[j]? = some v → Value.okWide Try.prog W .any base t v := hval0
  have hW2 := hW
  obtain ⟨p, q, hA0, hV, hps, _, _⟩ := hW
  have hA : DataW.TrodAll enc Try.prog W 0 (fun _ => true) true Try.f8.params.toList args.toList ds p := hA0
  rw [Try.params8] at hA hval
  obtain ⟨rfl, rfl⟩ := trodVars_none hV
  obtain ⟨v0, vs0, d0, ds0, p0, q0, hargs, rfl, rfl, h0, r0⟩ := trodAll_cons hA
  obtain ⟨v1, vs1, d1, ds1, p1, q1, rfl, rfl, rfl, h1, r1⟩ := trodAll_cons r0
  obtain ⟨rfl, rfl, rfl⟩ := trodAll_nil r1
  obtain rfl : args = #[v0, v1] := by cases args; simp_all
  have i0 := open_I (hval 0 3 v0 rfl rfl) h0
  have i1 := open_B (hval 1 22 v1 rfl rfl) h1
  clear hA0 hval0
  refine (walk W v0 v1 i0 i1).mono fun e W2 ⟨he, hb⟩ => ?_
  subst he
  exact ⟨_, rfl, law_post (tb := 4) laidOut (by kernel_rfl) (by kernel_rfl) Try.underlying4 rfl ⟨rfl, rfl, rfl⟩ hW2 hb⟩
theorem over : Rows.fnExactEpNewRow.holds Try.pinned (OpenSpec.ofChange Rows.fnExactEpNewSpec) :=
  OpenClaim.holds_of_wide 8 Try.f8 rfl rfl rfl rfl rfl rfl rfl ⟨rfl, rfl, rfl, rfl, rfl⟩ rfl rfl rfl rfl rfl (by kernel_rfl) Try.func8 (by kernel_rfl)
    (of_decide_eq_true (by kernel_rfl)) (by unfold Func.isWrapper; first | (rw [if_pos (by decide +kernel)]; kernel_rfl) | (rw [if_neg (by decide +kernel)]; exact ⟨rfl, rfl⟩))
    (fun os started H enc _ => lifted os started H enc)
theorem proved : Rows.FnExactEpNewSaid :=
  over
#print axioms proved
end Go.Proofs.Ytpkjlhooiaedmaa.lEpNew
