/-
  FnExactEpSeal returns true for every epoch, role, nonce, kind and plain text. Conditions: none.
-/
import Derived.Test.YtfjbfgonkimboaaLaw
import Derived.Test.YtfjbfgonkimboaaEpS
import Derived.Deep.RegionHeld3
namespace Go.Proofs.Ytfjbfgonkimboaa.lEpSeal
open Go.ChangeShapes Go.WideShapes Go.ChangeAt Go.RowKit
theorem LI_EpSeal (v : Value) (f : EpM) (x1 : Int) (a2 : Option Addr) (n2 c2 : Nat) (l2 : List UInt8) (x3 : Int) (a4 : Option Addr) (n4 c4 : Nat) (l4 : List UInt8) (w : World) (h : EpR w v f) (r2 : Rd w a2 n2 c2 (bys l2)) (r4 : Rd w a4 n4 c4 (bys l4)) (_hs : f.tot ≤ 1048576) (_s2 : l2.length ≤ 1048576) (_s4 : l4.length ≤ 1048576) :
    Calls Try.prog 35 #[v, .int .i64 x1, .slice a2 n2 c2, .int .i64 x3, .slice a4 n4 c4] w fun e w' => ∃ M v1 v2, e = .returned (.tuple #[v1, v2, .int .i64 (epSealC f x1 l2 x3 l4)]) ∧ w.heap.size ≤ M ∧ M ≤ w'.heap.size ∧
      EpO w.heap.size M w' v1 (epSealE f x1 l2 x3 l4) ∧ FrameO M w'.heap.size w' v2 (epSealF f x1 l2 x3 l4) ∧ w.grownBy w' none :=
  impl_EpSeal v f x1 a2 n2 c2 l2 x3 a4 n4 c4 l4 w h r2 r4 (by simp only [EpM.tot] at _hs; omega) (by simp only [EpM.tot] at _hs; omega) _s2 _s4
theorem LS_EpSeal (v : Value) (f : EpM) (x1 : Int) (a2 : Option Addr) (n2 c2 : Nat) (l2 : List UInt8) (x3 : Int) (a4 : Option Addr) (n4 c4 : Nat) (l4 : List UInt8) (w : World) (h : EpR w v f) (r2 : Rd w a2 n2 c2 (bys l2)) (r4 : Rd w a4 n4 c4 (bys l4)) (_hs : f.tot ≤ 1048576) (_s2 : l2.length ≤ 1048576) (_s4 : l4.length ≤ 1048576) :
    Calls Try.prog 33 #[v, .int .i64 x1, .slice a2 n2 c2, .int .i64 x3, .slice a4 n4 c4] w fun e w' => ∃ v1 v2, e = .returned (.tuple #[v1, v2, .int .i64 (epSealC f x1 l2 x3 l4)]) ∧
      EpO w.heap.size w'.heap.size w' v1 (epSealE f x1 l2 x3 l4) ∧ FrameO w.heap.size w'.heap.size w' v2 (epSealF f x1 l2 x3 l4) ∧ w.grownBy w' none :=
  (spec_EpSeal v f x1 a2 n2 c2 l2 x3 a4 n4 c4 l4 w h r2 r4 (by simp only [EpM.tot] at _hs; omega) (by simp only [EpM.tot] at _hs; omega) _s2 _s4).mono fun e w' ⟨M, v1, v2, he, h1, h2, h3, h4, g⟩ => by
    obtain ⟨a1, n1, c1, a7, n7, c7, hv, ⟨o1, u1⟩, ⟨o7, u7⟩, d⟩ := h3
    exact ⟨v1, v2, he, ⟨a1, n1, c1, a7, n7, c7, hv, ⟨o1, fun p hp => Nat.lt_of_lt_of_le (u1 p hp) h2⟩, ⟨o7, fun p hp => Nat.lt_of_lt_of_le (u7 p hp) h2⟩, d⟩, h4.low h1, g⟩
set_option maxRecDepth 100000 in
set_option maxHeartbeats 4000000 in
theorem walk (w : World) (v0 v1 v2 v3 v4 : Value) (h0 : InEp w v0) (h1 : InInt v1) (h2 : InBytes w v2) (h3 : InInt v3) (h4 : InBytes w v4) : Calls Try.prog 8 #[v0, v1, v2, v3, v4] w fun e w' => e = .returned (.bool true) ∧ Below w.heap.size w w' := by
  obtain ⟨f0, hR0, hL0⟩ := h0
  have hS0 := hR0.shape
  obtain ⟨a0_0, n0_0, c0_0, a0_1, n0_1, c0_1, rfl⟩ := hS0
  obtain ⟨x1, rfl, hx1⟩ := h1
  obtain ⟨a2, n2, c2, l2, rfl, hR2, hC2⟩ := h2
  have hN2 := Lib.hid hR2.blen
  obtain ⟨x3, rfl, hx3⟩ := h3
  obtain ⟨a4, n4, c4, l4, rfl, hR4, hC4⟩ := h4
  have hN4 := Lib.hid hR4.blen
  have T0 : Below w.heap.size w w := Below.refl _ _
  go_enter Try.func8, Try.ntmps8
  rcases Nat.lt_or_ge 1048576 n2 with p2 | p2
  · go_wp2
    go_ret
    exact ⟨rfl, below_next T0 (by repeat (first | with_reducible exact gb_refl _ | refine gb_alloc ?_ _ | refine gb_drewN ?_ _ | refine gb_drew ?_))⟩
  have P2 := Lib.hid p2
  have p2z : ((n2 : Int) ≤ 1048576) := by have := P2.out; omega
  clear p2
  rcases Nat.lt_or_ge 1048576 n4 with p4 | p4
  · go_wp2
    go_ret
    exact ⟨rfl, below_next T0 (by repeat (first | with_reducible exact gb_refl _ | refine gb_alloc ?_ _ | refine gb_drewN ?_ _ | refine gb_drew ?_))⟩
  have P4 := Lib.hid p4
  have p4z : ((n4 : Int) ≤ 1048576) := by have := P4.out; omega
  clear p4
  rcases Nat.lt_or_ge (1048576) f0.tot with p0 | p0
  · go_wp2_with fail
    refine (laws_szEp _ f0 (1048576) _ ((hR0.below T0).keep0 (by repeat (first | with_reducible exact gb_refl _ | refine gb_alloc ?_ _ | refine gb_drewN ?_ _ | refine gb_drew ?_))) (by omega) (hL0.len1) (hL0.len2)).mono ?_
    rintro e w9 ⟨_, hn9, g9⟩
    obtain rfl := hn9 p0
    clear hn9
    go_wp2
    go_ret
    exact ⟨rfl, below_next T0 (gb_trans (by repeat (first | with_reducible exact gb_refl _ | refine gb_alloc ?_ _ | refine gb_drewN ?_ _ | refine gb_drew ?_)) g9)⟩
  have P0 := Lib.hid p0
  clear p0
  go_wp2_with fail
  refine (laws_szEp _ f0 (1048576) _ ((hR0.below T0).keep0 (by repeat (first | with_reducible exact gb_refl _ | refine gb_alloc ?_ _ | refine gb_drewN ?_ _ | refine gb_drew ?_))) (by omega) (hL0.len1) (hL0.len2)).mono ?_
  rintro e w1 ⟨hy9, hn9, g1⟩
  obtain rfl := hy9 P0.out
  clear hy9 hn9
  have R1 : w.grownBy w1 none := gb_trans (by repeat (first | with_reducible exact gb_refl _ | refine gb_alloc ?_ _ | refine gb_drewN ?_ _ | refine gb_drew ?_)) g1
  have T1 : Below w.heap.size w w1 := below_next T0 R1
  have z1 := R1.size
  have bb_aE : Bx w1 (w.heap.size) 58 #[.int .i64 f0.n, .slice a0_0 n0_0 c0_0, .int .i64 f0.seq, .int .i64 f0.win.top, .slice a0_1 n0_1 c0_1] := by first | exact (bx1 w _ _).keep0 g1 | exact (bx1 w _ _).drew.keep0 g1
  have cc_aE := fun o => bb_aE.cell o
  have ll_aE_1 := bb_aE.lt
  go_wp2_with fail
  refine (laws_toEp _ f0 _ ((hR0.below T1).keep0 (by repeat (first | with_reducible exact gb_refl _ | refine gb_alloc ?_ _ | refine gb_drewN ?_ _ | refine gb_drew ?_))) (by have := P0.out; simp only [EpM.tot] at this; omega) (by have := P0.out; simp only [EpM.tot] at this; omega)).mono ?_
  rintro e w2 ⟨v_tw00, rfl, o_tw00, g2⟩
  obtain ⟨a_tw00_0, n_tw00_0, c_tw00_0, a_tw00_1, n_tw00_1, c_tw00_1, rfl⟩ := o_tw00.r.shape
  have R2 : w1.grownBy w2 none := gb_trans (by repeat (first | with_reducible exact gb_refl _ | refine gb_alloc ?_ _ | refine gb_drewN ?_ _ | refine gb_drew ?_)) g2
  have T2 : Below w.heap.size w w2 := below_next T1 R2
  have z2 := R2.size
  clear cc_aE
  replace bb_aE := bb_aE.keep0 R2
  have cc_aE := fun o => bb_aE.cell o
  have ll_aE_2 := bb_aE.lt
  replace o_tw00 := o_tw00.low (B' := w1.heap.size) (by first | exact Nat.le_refl _ | (simp; done) | (simp; omega))
  go_wp2_with fail
  refine (laws_toByteS _ _ _ l2 _ ((hR2.below T2).keep0 (by repeat (first | with_reducible exact gb_refl _ | refine gb_alloc ?_ _ | refine gb_drewN ?_ _ | refine gb_drew ?_))) (by have := P2.out; omega)).mono ?_
  rintro e w3 ⟨a_tw01, c_tw01, rfl, o_tw01, g3⟩
  have u_tw01 := fun p hp => (o_tw01.lt p hp).2
  have R3 : w2.grownBy w3 none := gb_trans (by repeat (first | with_reducible exact gb_refl _ | refine gb_alloc ?_ _ | refine gb_drewN ?_ _ | refine gb_drew ?_)) g3
  have T3 : Below w.heap.size w w3 := below_next T2 R3
  have z3 := R3.size
  replace o_tw00 := o_tw00.keep0 R3
  clear cc_aE
  replace bb_aE := bb_aE.keep0 R3
  have cc_aE := fun o => bb_aE.cell o
  have ll_aE_3 := bb_aE.lt
  replace o_tw01 := o_tw01.mono (B' := w2.heap.size) (by first | exact Nat.le_refl _ | (simp; done) | (simp; omega))
  go_wp2_with fail
  refine (laws_toByteS _ _ _ l4 _ ((hR4.below T3).keep0 (by repeat (first | with_reducible exact gb_refl _ | refine gb_alloc ?_ _ | refine gb_drewN ?_ _ | refine gb_drew ?_))) (by have := P4.out; omega)).mono ?_
  rintro e w4 ⟨a_tw02, c_tw02, rfl, o_tw02, g4⟩
  have u_tw02 := fun p hp => (o_tw02.lt p hp).2
  have R4 : w3.grownBy w4 none := gb_trans (by repeat (first | with_reducible exact gb_refl _ | refine gb_alloc ?_ _ | refine gb_drewN ?_ _ | refine gb_drew ?_)) g4
  have T4 : Below w.heap.size w w4 := below_next T3 R4
  have z4 := R4.size
  replace o_tw00 := o_tw00.keep0 R4
  replace o_tw01 := o_tw01.keep0 R4
  clear cc_aE
  replace bb_aE := bb_aE.keep0 R4
  have cc_aE := fun o => bb_aE.cell o
  have ll_aE_4 := bb_aE.lt
  replace o_tw02 := o_tw02.mono (B' := w3.heap.size) (by first | exact Nat.le_refl _ | (simp; done) | (simp; omega))
  go_wp2_with fail
  refine (LS_EpSeal _ f0 x1 _ _ _ l2 x3 _ _ _ l4 _ (o_tw00.r.keep0 (by repeat (first | with_reducible exact gb_refl _ | refine gb_alloc ?_ _ | refine gb_drewN ?_ _ | refine gb_drew ?_))) (o_tw01.rd.keep0 (by repeat (first | with_reducible exact gb_refl _ | refine gb_alloc ?_ _ | refine gb_drewN ?_ _ | refine gb_drew ?_))) (o_tw02.rd.keep0 (by repeat (first | with_reducible exact gb_refl _ | refine gb_alloc ?_ _ | refine gb_drewN ?_ _ | refine gb_drew ?_))) (by have := P0.out; omega) (show l2.length ≤ 1048576 by have := hN2.out; have := P2.out; omega) (show l4.length ≤ 1048576 by have := hN4.out; have := P4.out; omega)).mono ?_
  rintro e w5 ⟨v_w0, v_w1, rfl, o_w0, o_w1, g5⟩
  obtain ⟨a_w0_0, n_w0_0, c_w0_0, a_w0_1, n_w0_1, c_w0_1, rfl⟩ := o_w0.r.shape
  obtain ⟨a_w1_0, n_w1_0, c_w1_0, a_w1_1, n_w1_1, c_w1_1, a_w1_2, n_w1_2, c_w1_2, a_w1_3, n_w1_3, c_w1_3, a_w1_4, n_w1_4, c_w1_4, a_w1_5, n_w1_5, c_w1_5, rfl⟩ := o_w1.r.shape
  have R5 : w4.grownBy w5 none := gb_trans (by repeat (first | with_reducible exact gb_refl _ | refine gb_alloc ?_ _ | refine gb_drewN ?_ _ | refine gb_drew ?_)) g5
  have T5 : Below w.heap.size w w5 := below_next T4 R5
  have z5 := R5.size
  replace o_tw00 := o_tw00.keep0 R5
  replace o_tw01 := o_tw01.keep0 R5
  replace o_tw02 := o_tw02.keep0 R5
  clear cc_aE
  replace bb_aE := bb_aE.keep0 R5
  have cc_aE := fun o => bb_aE.cell o
  have ll_aE_5 := bb_aE.lt
  replace o_w0 := o_w0.low (B' := w4.heap.size) (by first | exact Nat.le_refl _ | (simp; done) | (simp; omega))
  replace o_w1 := o_w1.low (B' := w4.heap.size) (by first | exact Nat.le_refl _ | (simp; done) | (simp; omega))
  clear o_tw00
  clear o_tw01 u_tw01
  clear o_tw02 u_tw02
  go_wp2_with fail
  refine (laws_toEp _ f0 _ ((hR0.below T5).keep0 (by repeat (first | with_reducible exact gb_refl _ | refine gb_alloc ?_ _ | refine gb_drewN ?_ _ | refine gb_drew ?_))) (by have := P0.out; simp only [EpM.tot] at this; omega) (by have := P0.out; simp only [EpM.tot] at this; omega)).mono ?_
  rintro e w6 ⟨v_x0, rfl, o_x0, g6⟩
  obtain ⟨a_x0_0, n_x0_0, c_x0_0, a_x0_1, n_x0_1, c_x0_1, rfl⟩ := o_x0.r.shape
  have R6 : w5.grownBy w6 none := gb_trans (by repeat (first | with_reducible exact gb_refl _ | refine gb_alloc ?_ _ | refine gb_drewN ?_ _ | refine gb_drew ?_)) g6
  have T6 : Below w.heap.size w w6 := below_next T5 R6
  have z6 := R6.size
  replace o_w0 := o_w0.keep0 R6
  replace o_w1 := o_w1.keep0 R6
  clear cc_aE
  replace bb_aE := bb_aE.keep0 R6
  have bb_w0 : Bx w6 (w5.heap.size) 62 #[.int .i64 ((epSealE f0 x1 l2 x3 l4)).n, .slice a_w0_0 n_w0_0 c_w0_0, .int .i64 ((epSealE f0 x1 l2 x3 l4)).seq, .int .i64 ((epSealE f0 x1 l2 x3 l4)).win.top, .slice a_w0_1 n_w0_1 c_w0_1] := by first | exact (bx2 w5 _ _ _ _).1.keep0 g6 | exact (bx2 w5 _ _ _ _).1.drew.keep0 g6
  have bb_w1 : Bx w6 (w5.heap.size + 1) 24 #[.int .i64 ((epSealF f0 x1 l2 x3 l4)).kind, .int .i64 ((epSealF f0 x1 l2 x3 l4)).id, .slice a_w1_0 n_w1_0 c_w1_0, .slice a_w1_1 n_w1_1 c_w1_1, .int .i64 ((epSealF f0 x1 l2 x3 l4)).tick, .slice a_w1_2 n_w1_2 c_w1_2, .slice a_w1_3 n_w1_3 c_w1_3, .int .i64 ((epSealF f0 x1 l2 x3 l4)).epoch, .int .i64 ((epSealF f0 x1 l2 x3 l4)).seq, .slice a_w1_4 n_w1_4 c_w1_4, .slice a_w1_5 n_w1_5 c_w1_5] := by first | exact (bx2 w5 _ _ _ _).2.keep0 g6 | exact (bx2 w5 _ _ _ _).2.drew.keep0 g6
  have cc_aE := fun o => bb_aE.cell o
  have ll_aE_6 := bb_aE.lt
  have cc_w0 := fun o => bb_w0.cell o
  have ll_w0_6 := bb_w0.lt
  have cc_w1 := fun o => bb_w1.cell o
  have ll_w1_6 := bb_w1.lt
  replace o_x0 := o_x0.low (B' := w5.heap.size + 2) (by first | exact Nat.le_refl _ | (simp; done) | (simp; omega))
  go_wp2_with fail
  refine (laws_toByteS _ _ _ l2 _ ((hR2.below T6).keep0 (by repeat (first | with_reducible exact gb_refl _ | refine gb_alloc ?_ _ | refine gb_drewN ?_ _ | refine gb_drew ?_))) (by have := P2.out; omega)).mono ?_
  rintro e w7 ⟨a_x2, c_x2, rfl, o_x2, g7⟩
  have u_x2 := fun p hp => (o_x2.lt p hp).2
  have R7 : w6.grownBy w7 none := gb_trans (by repeat (first | with_reducible exact gb_refl _ | refine gb_alloc ?_ _ | refine gb_drewN ?_ _ | refine gb_drew ?_)) g7
  have T7 : Below w.heap.size w w7 := below_next T6 R7
  have z7 := R7.size
  replace o_w0 := o_w0.keep0 R7
  replace o_w1 := o_w1.keep0 R7
  replace o_x0 := o_x0.keep0 R7
  clear cc_aE cc_w0 cc_w1
  replace bb_aE := bb_aE.keep0 R7
  replace bb_w0 := bb_w0.keep0 R7
  replace bb_w1 := bb_w1.keep0 R7
  have bb_x0 : Bx w7 (w6.heap.size) 62 #[.int .i64 f0.n, .slice a_x0_0 n_x0_0 c_x0_0, .int .i64 f0.seq, .int .i64 f0.win.top, .slice a_x0_1 n_x0_1 c_x0_1] := by first | exact (bx1 w6 _ _).keep0 g7 | exact (bx1 w6 _ _).drew.keep0 g7
  have cc_aE := fun o => bb_aE.cell o
  have ll_aE_7 := bb_aE.lt
  have cc_w0 := fun o => bb_w0.cell o
  have ll_w0_7 := bb_w0.lt
  have cc_w1 := fun o => bb_w1.cell o
  have ll_w1_7 := bb_w1.lt
  have cc_x0 := fun o => bb_x0.cell o
  have ll_x0_7 := bb_x0.lt
  replace o_x2 := o_x2.mono (B' := w6.heap.size + 1) (by first | exact Nat.le_refl _ | (simp; done) | (simp; omega))
  go_wp2_with fail
  refine (laws_toByteS _ _ _ l4 _ ((hR4.below T7).keep0 (by repeat (first | with_reducible exact gb_refl _ | refine gb_alloc ?_ _ | refine gb_drewN ?_ _ | refine gb_drew ?_))) (by have := P4.out; omega)).mono ?_
  rintro e w8 ⟨a_x4, c_x4, rfl, o_x4, g8⟩
  have u_x4 := fun p hp => (o_x4.lt p hp).2
  have R8 : w7.grownBy w8 none := gb_trans (by repeat (first | with_reducible exact gb_refl _ | refine gb_alloc ?_ _ | refine gb_drewN ?_ _ | refine gb_drew ?_)) g8
  have T8 : Below w.heap.size w w8 := below_next T7 R8
  have z8 := R8.size
  replace o_w0 := o_w0.keep0 R8
  replace o_w1 := o_w1.keep0 R8
  replace o_x0 := o_x0.keep0 R8
  replace o_x2 := o_x2.keep0 R8
  clear cc_aE cc_w0 cc_w1 cc_x0
  replace bb_aE := bb_aE.keep0 R8
  replace bb_w0 := bb_w0.keep0 R8
  replace bb_w1 := bb_w1.keep0 R8
  replace bb_x0 := bb_x0.keep0 R8
  have cc_aE := fun o => bb_aE.cell o
  have ll_aE_8 := bb_aE.lt
  have cc_w0 := fun o => bb_w0.cell o
  have ll_w0_8 := bb_w0.lt
  have cc_w1 := fun o => bb_w1.cell o
  have ll_w1_8 := bb_w1.lt
  have cc_x0 := fun o => bb_x0.cell o
  have ll_x0_8 := bb_x0.lt
  replace o_x4 := o_x4.mono (B' := w7.heap.size) (by first | exact Nat.le_refl _ | (simp; done) | (simp; omega))
  go_wp2_with fail
  refine (LI_EpSeal _ f0 x1 _ _ _ l2 x3 _ _ _ l4 _ (o_x0.r.keep0 (by repeat (first | with_reducible exact gb_refl _ | refine gb_alloc ?_ _ | refine gb_drewN ?_ _ | refine gb_drew ?_))) (o_x2.rd.keep0 (by repeat (first | with_reducible exact gb_refl _ | refine gb_alloc ?_ _ | refine gb_drewN ?_ _ | refine gb_drew ?_))) (o_x4.rd.keep0 (by repeat (first | with_reducible exact gb_refl _ | refine gb_alloc ?_ _ | refine gb_drewN ?_ _ | refine gb_drew ?_))) (by have := P0.out; omega) (show l2.length ≤ 1048576 by have := hN2.out; have := P2.out; omega) (show l4.length ≤ 1048576 by have := hN4.out; have := P4.out; omega)).mono ?_
  rintro e w9 ⟨M_g0, v_g0, v_g1, rfl, ml_g0, mh_g0, o_g0, o_g1, g9⟩
  obtain ⟨a_g0_0, n_g0_0, c_g0_0, a_g0_1, n_g0_1, c_g0_1, rfl⟩ := o_g0.r.shape
  obtain ⟨a_g1_0, n_g1_0, c_g1_0, a_g1_1, n_g1_1, c_g1_1, a_g1_2, n_g1_2, c_g1_2, a_g1_3, n_g1_3, c_g1_3, a_g1_4, n_g1_4, c_g1_4, a_g1_5, n_g1_5, c_g1_5, rfl⟩ := o_g1.r.shape
  have R9 : w8.grownBy w9 none := gb_trans (by repeat (first | with_reducible exact gb_refl _ | refine gb_alloc ?_ _ | refine gb_drewN ?_ _ | refine gb_drew ?_)) g9
  have T9 : Below w.heap.size w w9 := below_next T8 R9
  have z9 := R9.size
  replace o_w0 := o_w0.keep0 R9
  replace o_w1 := o_w1.keep0 R9
  replace o_x0 := o_x0.keep0 R9
  replace o_x2 := o_x2.keep0 R9
  replace o_x4 := o_x4.keep0 R9
  clear cc_aE cc_w0 cc_w1 cc_x0
  replace bb_aE := bb_aE.keep0 R9
  replace bb_w0 := bb_w0.keep0 R9
  replace bb_w1 := bb_w1.keep0 R9
  replace bb_x0 := bb_x0.keep0 R9
  have cc_aE := fun o => bb_aE.cell o
  have ll_aE_9 := bb_aE.lt
  have cc_w0 := fun o => bb_w0.cell o
  have ll_w0_9 := bb_w0.lt
  have cc_w1 := fun o => bb_w1.cell o
  have ll_w1_9 := bb_w1.lt
  have cc_x0 := fun o => bb_x0.cell o
  have ll_x0_9 := bb_x0.lt
  replace ml_g0 : w8.heap.size ≤ M_g0 := Nat.le_trans (by first | exact Nat.le_refl _ | (simp; done) | (simp; omega)) ml_g0
  replace o_g0 := o_g0.low (B' := w8.heap.size) (by first | exact Nat.le_refl _ | (simp; done) | (simp; omega))
  go_wp2_with fail
  refine (laws_eqEp _ _ (epSealE f0 x1 l2 x3 l4) _ (o_g0.r.keep0 (by repeat (first | with_reducible exact gb_refl _ | refine gb_alloc ?_ _ | refine gb_drewN ?_ _ | refine gb_drew ?_))) (o_w0.r.keep0 (by repeat (first | with_reducible exact gb_refl _ | refine gb_alloc ?_ _ | refine gb_drewN ?_ _ | refine gb_drew ?_))) (by have h9 := (show (epSealE f0 x1 l2 x3 l4).tot ≤ 1048576 by rw [epSealE_tot]; have := P0.out; omega); simp only [EpM.tot] at h9; omega) (by have h9 := (show (epSealE f0 x1 l2 x3 l4).tot ≤ 1048576 by rw [epSealE_tot]; have := P0.out; omega); simp only [EpM.tot] at h9; omega)).mono ?_
  rintro e w10 ⟨rfl, g10⟩
  have R10 : w9.grownBy w10 none := gb_trans (by repeat (first | with_reducible exact gb_refl _ | refine gb_alloc ?_ _ | refine gb_drewN ?_ _ | refine gb_drew ?_)) g10
  have T10 : Below w.heap.size w w10 := below_next T9 R10
  have z10 := R10.size
  replace o_w0 := o_w0.keep0 R10
  replace o_w1 := o_w1.keep0 R10
  replace o_x0 := o_x0.keep0 R10
  replace o_x2 := o_x2.keep0 R10
  replace o_x4 := o_x4.keep0 R10
  replace o_g0 := o_g0.keep0 R10
  replace o_g1 := o_g1.keep0 R10
  clear cc_aE cc_w0 cc_w1 cc_x0
  replace bb_aE := bb_aE.keep0 R10
  replace bb_w0 := bb_w0.keep0 R10
  replace bb_w1 := bb_w1.keep0 R10
  replace bb_x0 := bb_x0.keep0 R10
  have bb_g0 : Bx w10 (w9.heap.size) 62 #[.int .i64 ((epSealE f0 x1 l2 x3 l4)).n, .slice a_g0_0 n_g0_0 c_g0_0, .int .i64 ((epSealE f0 x1 l2 x3 l4)).seq, .int .i64 ((epSealE f0 x1 l2 x3 l4)).win.top, .slice a_g0_1 n_g0_1 c_g0_1] := by first | exact (bx2 w9 _ _ _ _).1.keep0 g10 | exact (bx2 w9 _ _ _ _).1.drew.keep0 g10
  have bb_g1 : Bx w10 (w9.heap.size + 1) 24 #[.int .i64 ((epSealF f0 x1 l2 x3 l4)).kind, .int .i64 ((epSealF f0 x1 l2 x3 l4)).id, .slice a_g1_0 n_g1_0 c_g1_0, .slice a_g1_1 n_g1_1 c_g1_1, .int .i64 ((epSealF f0 x1 l2 x3 l4)).tick, .slice a_g1_2 n_g1_2 c_g1_2, .slice a_g1_3 n_g1_3 c_g1_3, .int .i64 ((epSealF f0 x1 l2 x3 l4)).epoch, .int .i64 ((epSealF f0 x1 l2 x3 l4)).seq, .slice a_g1_4 n_g1_4 c_g1_4, .slice a_g1_5 n_g1_5 c_g1_5] := by first | exact (bx2 w9 _ _ _ _).2.keep0 g10 | exact (bx2 w9 _ _ _ _).2.drew.keep0 g10
  have cc_aE := fun o => bb_aE.cell o
  have ll_aE_10 := bb_aE.lt
  have cc_w0 := fun o => bb_w0.cell o
  have ll_w0_10 := bb_w0.lt
  have cc_w1 := fun o => bb_w1.cell o
  have ll_w1_10 := bb_w1.lt
  have cc_x0 := fun o => bb_x0.cell o
  have ll_x0_10 := bb_x0.lt
  have cc_g0 := fun o => bb_g0.cell o
  have ll_g0_10 := bb_g0.lt
  have cc_g1 := fun o => bb_g1.cell o
  have ll_g1_10 := bb_g1.lt
  go_wp2_with fail
  refine (laws_eqFrame _ _ (epSealF f0 x1 l2 x3 l4) _ (o_g1.r.keep0 (by repeat (first | with_reducible exact gb_refl _ | refine gb_alloc ?_ _ | refine gb_drewN ?_ _ | refine gb_drew ?_))) (o_w1.r.keep0 (by repeat (first | with_reducible exact gb_refl _ | refine gb_alloc ?_ _ | refine gb_drewN ?_ _ | refine gb_drew ?_))) (by have h9 := (show (epSealF f0 x1 l2 x3 l4).tot ≤ 1048576 from Nat.le_trans (epSealF_tot _ _ _ _ _) (by decide)); simp only [FrameM.tot] at h9; omega) (by have h9 := (show (epSealF f0 x1 l2 x3 l4).tot ≤ 1048576 from Nat.le_trans (epSealF_tot _ _ _ _ _) (by decide)); simp only [FrameM.tot] at h9; omega) (by have h9 := (show (epSealF f0 x1 l2 x3 l4).tot ≤ 1048576 from Nat.le_trans (epSealF_tot _ _ _ _ _) (by decide)); simp only [FrameM.tot] at h9; omega) (by have h9 := (show (epSealF f0 x1 l2 x3 l4).tot ≤ 1048576 from Nat.le_trans (epSealF_tot _ _ _ _ _) (by decide)); simp only [FrameM.tot] at h9; omega) (by have h9 := (show (epSealF f0 x1 l2 x3 l4).tot ≤ 1048576 from Nat.le_trans (epSealF_tot _ _ _ _ _) (by decide)); simp only [FrameM.tot] at h9; omega) (by have h9 := (show (epSealF f0 x1 l2 x3 l4).tot ≤ 1048576 from Nat.le_trans (epSealF_tot _ _ _ _ _) (by decide)); simp only [FrameM.tot] at h9; omega)).mono ?_
  rintro e w11 ⟨rfl, g11⟩
  have R11 : w10.grownBy w11 none := gb_trans (by repeat (first | with_reducible exact gb_refl _ | refine gb_alloc ?_ _ | refine gb_drewN ?_ _ | refine gb_drew ?_)) g11
  have T11 : Below w.heap.size w w11 := below_next T10 R11
  have z11 := R11.size
  replace o_w0 := o_w0.keep0 R11
  replace o_w1 := o_w1.keep0 R11
  replace o_x0 := o_x0.keep0 R11
  replace o_x2 := o_x2.keep0 R11
  replace o_x4 := o_x4.keep0 R11
  replace o_g0 := o_g0.keep0 R11
  replace o_g1 := o_g1.keep0 R11
  clear cc_aE cc_w0 cc_w1 cc_x0 cc_g0 cc_g1
  replace bb_aE := bb_aE.keep0 R11
  replace bb_w0 := bb_w0.keep0 R11
  replace bb_w1 := bb_w1.keep0 R11
  replace bb_x0 := bb_x0.keep0 R11
  replace bb_g0 := bb_g0.keep0 R11
  replace bb_g1 := bb_g1.keep0 R11
  have cc_aE := fun o => bb_aE.cell o
  have ll_aE_11 := bb_aE.lt
  have cc_w0 := fun o => bb_w0.cell o
  have ll_w0_11 := bb_w0.lt
  have cc_w1 := fun o => bb_w1.cell o
  have ll_w1_11 := bb_w1.lt
  have cc_x0 := fun o => bb_x0.cell o
  have ll_x0_11 := bb_x0.lt
  have cc_g0 := fun o => bb_g0.cell o
  have ll_g0_11 := bb_g0.lt
  have cc_g1 := fun o => bb_g1.cell o
  have ll_g1_11 := bb_g1.lt
  go_wp2_with fail
  have KX : Hid (∀ w', w11.grownBy w' none → (w'.cell? ⟨w.heap.size, 0, none⟩ = some (.int .i64 f0.n) ∧ w'.cell? ⟨w.heap.size, 1, none⟩ = some (.slice a0_0 n0_0 c0_0) ∧ w'.cell? ⟨w.heap.size, 2, none⟩ = some (.int .i64 f0.seq) ∧ w'.cell? ⟨w.heap.size, 3, none⟩ = some (.int .i64 f0.win.top) ∧ w'.cell? ⟨w.heap.size, 4, none⟩ = some (.slice a0_1 n0_1 c0_1) ∧ w'.cell? ⟨w6.heap.size, 0, none⟩ = some (.int .i64 f0.n) ∧ w'.cell? ⟨w6.heap.size, 1, none⟩ = some (.slice a_x0_0 n_x0_0 c_x0_0) ∧ w'.cell? ⟨w6.heap.size, 2, none⟩ = some (.int .i64 f0.seq) ∧ w'.cell? ⟨w6.heap.size, 3, none⟩ = some (.int .i64 f0.win.top) ∧ w'.cell? ⟨w6.heap.size, 4, none⟩ = some (.slice a_x0_1 n_x0_1 c_x0_1) ∧ w11.grownBy w' none)) :=
    fun w' hg => ⟨(bb_aE.keep0 hg).cell 0, (bb_aE.keep0 hg).cell 1, (bb_aE.keep0 hg).cell 2, (bb_aE.keep0 hg).cell 3, (bb_aE.keep0 hg).cell 4, (bb_x0.keep0 hg).cell 0, (bb_x0.keep0 hg).cell 1, (bb_x0.keep0 hg).cell 2, (bb_x0.keep0 hg).cell 3, (bb_x0.keep0 hg).cell 4, hg⟩
  clear cc_aE cc_w0 cc_w1 cc_x0 cc_g0 cc_g1
  go_region_held3 (fun w' => w'.cell? ⟨w.heap.size, 0, none⟩ = some (.int .i64 f0.n) ∧ w'.cell? ⟨w.heap.size, 1, none⟩ = some (.slice a0_0 n0_0 c0_0) ∧ w'.cell? ⟨w.heap.size, 2, none⟩ = some (.int .i64 f0.seq) ∧ w'.cell? ⟨w.heap.size, 3, none⟩ = some (.int .i64 f0.win.top) ∧ w'.cell? ⟨w.heap.size, 4, none⟩ = some (.slice a0_1 n0_1 c0_1) ∧ w'.cell? ⟨w6.heap.size, 0, none⟩ = some (.int .i64 f0.n) ∧ w'.cell? ⟨w6.heap.size, 1, none⟩ = some (.slice a_x0_0 n_x0_0 c_x0_0) ∧ w'.cell? ⟨w6.heap.size, 2, none⟩ = some (.int .i64 f0.seq) ∧ w'.cell? ⟨w6.heap.size, 3, none⟩ = some (.int .i64 f0.win.top) ∧ w'.cell? ⟨w6.heap.size, 4, none⟩ = some (.slice a_x0_1 n_x0_1 c_x0_1) ∧ w11.grownBy w' none)
    ((refine KX.out _ ?_; first | exact gb_drew (gb_refl _) | exact gb_trans (gb_trans (gb_drew (gb_refl _)) g12a) g12b | exact gb_trans (gb_drew (gb_refl _)) g12a))
    (first
      | (go_at_call 34; refine (laws_toEp _ f0 _ ((hR0.below T11).keep0 (gb_drew (gb_refl _))) (by have := P0.out; simp only [EpM.tot] at this; omega) (by have := P0.out; simp only [EpM.tot] at this; omega)).mono ?_; rintro e wy12 ⟨vy, rfl, oy, g12a⟩; obtain ⟨a_yx0_0, n_yx0_0, c_yx0_0, a_yx0_1, n_yx0_1, c_yx0_1, rfl⟩ := oy.r.shape)
      | (go_at_call 36; refine (laws_eqEp _ _ f0 _ (o_x0.r.keep0 (gb_trans (gb_drew (gb_refl _)) g12a)) oy.r (by have h9 := (by have := P0.out; omega); simp only [EpM.tot] at h9; omega) (by have h9 := (by have := P0.out; omega); simp only [EpM.tot] at h9; omega)).mono ?_; rintro e w12 ⟨rfl, g12b⟩))
  have g12 := gb_trans g12a g12b
  have cc_aE : True := trivial
  have cc_w0 : True := trivial
  have cc_w1 : True := trivial
  have cc_x0 : True := trivial
  have cc_g0 : True := trivial
  have cc_g1 : True := trivial
  have R12 : w11.grownBy w12 none := gb_trans (gb_drew (gb_refl _)) (gb_trans g12a g12b)
  have T12 : Below w.heap.size w w12 := below_next T11 R12
  have z12 := R12.size
  replace o_w0 := o_w0.keep0 R12
  replace o_w1 := o_w1.keep0 R12
  replace o_x0 := o_x0.keep0 R12
  replace o_x2 := o_x2.keep0 R12
  replace o_x4 := o_x4.keep0 R12
  replace o_g0 := o_g0.keep0 R12
  replace o_g1 := o_g1.keep0 R12
  clear cc_aE cc_w0 cc_w1 cc_x0 cc_g0 cc_g1
  replace bb_aE := bb_aE.keep0 R12
  replace bb_w0 := bb_w0.keep0 R12
  replace bb_w1 := bb_w1.keep0 R12
  replace bb_x0 := bb_x0.keep0 R12
  replace bb_g0 := bb_g0.keep0 R12
  replace bb_g1 := bb_g1.keep0 R12
  have cc_aE := fun o => bb_aE.cell o
  have ll_aE_12 := bb_aE.lt
  have cc_w0 := fun o => bb_w0.cell o
  have ll_w0_12 := bb_w0.lt
  have cc_w1 := fun o => bb_w1.cell o
  have ll_w1_12 := bb_w1.lt
  have cc_x0 := fun o => bb_x0.cell o
  have ll_x0_12 := bb_x0.lt
  have cc_g0 := fun o => bb_g0.cell o
  have ll_g0_12 := bb_g0.lt
  have cc_g1 := fun o => bb_g1.cell o
  have ll_g1_12 := bb_g1.lt
  clear KX oy
  go_wp2_with fail
  refine (laws_toByteS _ _ _ l2 _ ((hR2.below T12).keep0 (by repeat (first | with_reducible exact gb_refl _ | refine gb_alloc ?_ _ | refine gb_drewN ?_ _ | refine gb_drew ?_))) (by have := P2.out; omega)).mono ?_
  rintro e w13 ⟨a_tz_x2, c_tz_x2, rfl, o_tz_x2, g13⟩
  have u_tz_x2 := fun p hp => (o_tz_x2.lt p hp).2
  have R13 : w12.grownBy w13 none := gb_trans (by repeat (first | with_reducible exact gb_refl _ | refine gb_alloc ?_ _ | refine gb_drewN ?_ _ | refine gb_drew ?_)) g13
  have T13 : Below w.heap.size w w13 := below_next T12 R13
  have z13 := R13.size
  replace o_w0 := o_w0.keep0 R13
  replace o_w1 := o_w1.keep0 R13
  replace o_x0 := o_x0.keep0 R13
  replace o_x2 := o_x2.keep0 R13
  replace o_x4 := o_x4.keep0 R13
  replace o_g0 := o_g0.keep0 R13
  replace o_g1 := o_g1.keep0 R13
  clear cc_aE cc_w0 cc_w1 cc_x0 cc_g0 cc_g1
  replace bb_aE := bb_aE.keep0 R13
  replace bb_w0 := bb_w0.keep0 R13
  replace bb_w1 := bb_w1.keep0 R13
  replace bb_x0 := bb_x0.keep0 R13
  replace bb_g0 := bb_g0.keep0 R13
  replace bb_g1 := bb_g1.keep0 R13
  have cc_aE := fun o => bb_aE.cell o
  have ll_aE_13 := bb_aE.lt
  have cc_w0 := fun o => bb_w0.cell o
  have ll_w0_13 := bb_w0.lt
  have cc_w1 := fun o => bb_w1.cell o
  have ll_w1_13 := bb_w1.lt
  have cc_x0 := fun o => bb_x0.cell o
  have ll_x0_13 := bb_x0.lt
  have cc_g0 := fun o => bb_g0.cell o
  have ll_g0_13 := bb_g0.lt
  have cc_g1 := fun o => bb_g1.cell o
  have ll_g1_13 := bb_g1.lt
  replace o_tz_x2 := o_tz_x2.mono (B' := w12.heap.size) (by first | exact Nat.le_refl _ | (simp; done) | (simp; omega))
  go_wp2_with fail
  refine (laws_eqByteS_same _ _ _ _ _ _ _ _ (o_x2.rd.keep0 (by repeat (first | with_reducible exact gb_refl _ | refine gb_alloc ?_ _ | refine gb_drewN ?_ _ | refine gb_drew ?_))) (o_tz_x2.rd.keep0 (by repeat (first | with_reducible exact gb_refl _ | refine gb_alloc ?_ _ | refine gb_drewN ?_ _ | refine gb_drew ?_))) (by have h9 := (show l2.length ≤ 1048576 by have := hN2.out; have := P2.out; omega); omega)).mono ?_
  rintro e w14 ⟨rfl, q14⟩
  have g14 := q14.gb
  have R14 : w13.grownBy w14 none := gb_trans (by repeat (first | with_reducible exact gb_refl _ | refine gb_alloc ?_ _ | refine gb_drewN ?_ _ | refine gb_drew ?_)) g14
  have T14 : Below w.heap.size w w14 := below_next T13 R14
  have z14 := R14.size
  replace o_w0 := o_w0.keep0 R14
  replace o_w1 := o_w1.keep0 R14
  replace o_x0 := o_x0.keep0 R14
  replace o_x2 := o_x2.keep0 R14
  replace o_x4 := o_x4.keep0 R14
  replace o_g0 := o_g0.keep0 R14
  replace o_g1 := o_g1.keep0 R14
  replace o_tz_x2 := o_tz_x2.keep0 R14
  clear cc_aE cc_w0 cc_w1 cc_x0 cc_g0 cc_g1
  replace bb_aE := bb_aE.keep0 R14
  replace bb_w0 := bb_w0.keep0 R14
  replace bb_w1 := bb_w1.keep0 R14
  replace bb_x0 := bb_x0.keep0 R14
  replace bb_g0 := bb_g0.keep0 R14
  replace bb_g1 := bb_g1.keep0 R14
  have cc_aE := fun o => bb_aE.cell o
  have ll_aE_14 := bb_aE.lt
  have cc_w0 := fun o => bb_w0.cell o
  have ll_w0_14 := bb_w0.lt
  have cc_w1 := fun o => bb_w1.cell o
  have ll_w1_14 := bb_w1.lt
  have cc_x0 := fun o => bb_x0.cell o
  have ll_x0_14 := bb_x0.lt
  have cc_g0 := fun o => bb_g0.cell o
  have ll_g0_14 := bb_g0.lt
  have cc_g1 := fun o => bb_g1.cell o
  have ll_g1_14 := bb_g1.lt
  clear o_tz_x2 u_tz_x2
  go_wp2_with fail
  refine (laws_toByteS _ _ _ l4 _ ((hR4.below T14).keep0 (by repeat (first | with_reducible exact gb_refl _ | refine gb_alloc ?_ _ | refine gb_drewN ?_ _ | refine gb_drew ?_))) (by have := P4.out; omega)).mono ?_
  rintro e w15 ⟨a_tz_x4, c_tz_x4, rfl, o_tz_x4, g15⟩
  have u_tz_x4 := fun p hp => (o_tz_x4.lt p hp).2
  have R15 : w14.grownBy w15 none := gb_trans (by repeat (first | with_reducible exact gb_refl _ | refine gb_alloc ?_ _ | refine gb_drewN ?_ _ | refine gb_drew ?_)) g15
  have T15 : Below w.heap.size w w15 := below_next T14 R15
  have z15 := R15.size
  replace o_w0 := o_w0.keep0 R15
  replace o_w1 := o_w1.keep0 R15
  replace o_x0 := o_x0.keep0 R15
  replace o_x2 := o_x2.keep0 R15
  replace o_x4 := o_x4.keep0 R15
  replace o_g0 := o_g0.keep0 R15
  replace o_g1 := o_g1.keep0 R15
  clear cc_aE cc_w0 cc_w1 cc_x0 cc_g0 cc_g1
  replace bb_aE := bb_aE.keep0 R15
  replace bb_w0 := bb_w0.keep0 R15
  replace bb_w1 := bb_w1.keep0 R15
  replace bb_x0 := bb_x0.keep0 R15
  replace bb_g0 := bb_g0.keep0 R15
  replace bb_g1 := bb_g1.keep0 R15
  have cc_aE := fun o => bb_aE.cell o
  have ll_aE_15 := bb_aE.lt
  have cc_w0 := fun o => bb_w0.cell o
  have ll_w0_15 := bb_w0.lt
  have cc_w1 := fun o => bb_w1.cell o
  have ll_w1_15 := bb_w1.lt
  have cc_x0 := fun o => bb_x0.cell o
  have ll_x0_15 := bb_x0.lt
  have cc_g0 := fun o => bb_g0.cell o
  have ll_g0_15 := bb_g0.lt
  have cc_g1 := fun o => bb_g1.cell o
  have ll_g1_15 := bb_g1.lt
  replace o_tz_x4 := o_tz_x4.mono (B' := w14.heap.size) (by first | exact Nat.le_refl _ | (simp; done) | (simp; omega))
  go_wp2_with fail
  refine (laws_eqByteS_same _ _ _ _ _ _ _ _ (o_x4.rd.keep0 (by repeat (first | with_reducible exact gb_refl _ | refine gb_alloc ?_ _ | refine gb_drewN ?_ _ | refine gb_drew ?_))) (o_tz_x4.rd.keep0 (by repeat (first | with_reducible exact gb_refl _ | refine gb_alloc ?_ _ | refine gb_drewN ?_ _ | refine gb_drew ?_))) (by have h9 := (show l4.length ≤ 1048576 by have := hN4.out; have := P4.out; omega); omega)).mono ?_
  rintro e w16 ⟨rfl, q16⟩
  have g16 := q16.gb
  have R16 : w15.grownBy w16 none := gb_trans (by repeat (first | with_reducible exact gb_refl _ | refine gb_alloc ?_ _ | refine gb_drewN ?_ _ | refine gb_drew ?_)) g16
  have T16 : Below w.heap.size w w16 := below_next T15 R16
  have z16 := R16.size
  replace o_w0 := o_w0.keep0 R16
  replace o_w1 := o_w1.keep0 R16
  replace o_x0 := o_x0.keep0 R16
  replace o_x2 := o_x2.keep0 R16
  replace o_x4 := o_x4.keep0 R16
  replace o_g0 := o_g0.keep0 R16
  replace o_g1 := o_g1.keep0 R16
  replace o_tz_x4 := o_tz_x4.keep0 R16
  clear cc_aE cc_w0 cc_w1 cc_x0 cc_g0 cc_g1
  replace bb_aE := bb_aE.keep0 R16
  replace bb_w0 := bb_w0.keep0 R16
  replace bb_w1 := bb_w1.keep0 R16
  replace bb_x0 := bb_x0.keep0 R16
  replace bb_g0 := bb_g0.keep0 R16
  replace bb_g1 := bb_g1.keep0 R16
  have cc_aE := fun o => bb_aE.cell o
  have ll_aE_16 := bb_aE.lt
  have cc_w0 := fun o => bb_w0.cell o
  have ll_w0_16 := bb_w0.lt
  have cc_w1 := fun o => bb_w1.cell o
  have ll_w1_16 := bb_w1.lt
  have cc_x0 := fun o => bb_x0.cell o
  have ll_x0_16 := bb_x0.lt
  have cc_g0 := fun o => bb_g0.cell o
  have ll_g0_16 := bb_g0.lt
  have cc_g1 := fun o => bb_g1.cell o
  have ll_g1_16 := bb_g1.lt
  clear o_tz_x4 u_tz_x4
  go_wp2_with fail
  refine (laws_markEp (w5.heap.size + 2) (w6.heap.size) _ f0 (1) _ (o_x0.keep0 (by repeat (first | with_reducible exact gb_refl _ | refine gb_alloc ?_ _ | refine gb_drewN ?_ _ | refine gb_drew ?_))) (by have h9 := (by have := P0.out; omega); omega)).mono ?_
  rintro e w17 ⟨rfl, z_x0, g17⟩
  replace o_x0 := z_x0
  clear z_x0
  have R17 : gbI (w5.heap.size + 2) (w6.heap.size) w16 w17 := (gbI.of0 (by repeat (first | with_reducible exact gb_refl _ | refine gb_alloc ?_ _ | refine gb_drewN ?_ _ | refine gb_drew ?_))).trans g17
  have T17 : Below w.heap.size w w17 := below_nextI T16 R17 (by omega)
  have z17 := R17.size
  replace o_w0 := o_w0.keepI R17 (by omega)
  replace o_w1 := o_w1.keepI R17 (by omega)
  replace o_x2 := o_x2.keepI R17 (fun p hp => by have := u_x2 p hp; have := (o_x2.lt p hp).1; omega)
  replace o_x4 := o_x4.keepI R17 (fun p hp => by have := u_x4 p hp; have := (o_x4.lt p hp).1; omega)
  replace o_g0 := o_g0.keepI R17 (by omega)
  replace o_g1 := o_g1.keepI R17 (by omega)
  clear cc_aE cc_w0 cc_w1 cc_x0 cc_g0 cc_g1
  replace bb_aE := bb_aE.keepI R17 (by have := bb_aE.lt; omega)
  replace bb_w0 := bb_w0.keepI R17 (by have := bb_w0.lt; omega)
  replace bb_w1 := bb_w1.keepI R17 (by have := bb_w1.lt; omega)
  replace bb_x0 := bb_x0.keepI R17 (by have := bb_x0.lt; omega)
  replace bb_g0 := bb_g0.keepI R17 (by have := bb_g0.lt; omega)
  replace bb_g1 := bb_g1.keepI R17 (by have := bb_g1.lt; omega)
  have cc_aE := fun o => bb_aE.cell o
  have ll_aE_17 := bb_aE.lt
  have cc_w0 := fun o => bb_w0.cell o
  have ll_w0_17 := bb_w0.lt
  have cc_w1 := fun o => bb_w1.cell o
  have ll_w1_17 := bb_w1.lt
  have cc_x0 := fun o => bb_x0.cell o
  have ll_x0_17 := bb_x0.lt
  have cc_g0 := fun o => bb_g0.cell o
  have ll_g0_17 := bb_g0.lt
  have cc_g1 := fun o => bb_g1.cell o
  have ll_g1_17 := bb_g1.lt
  go_wp2_with fail
  refine (laws_markByteS (w6.heap.size + 1) _ _ _ (1 + (f0).tot) _ _ (o_x2.keep0 (by repeat (first | with_reducible exact gb_refl _ | refine gb_alloc ?_ _ | refine gb_drewN ?_ _ | refine gb_drew ?_))) (by have h9 := (show l2.length ≤ 1048576 by have := hN2.out; have := P2.out; omega); have h8 := o_x2.blen; have := (by have := P0.out; omega); omega)).mono ?_
  rintro e w18 ⟨rfl, z_x2, r18⟩
  have g18 := gbI.ofRow (B := w6.heap.size + 1) (S := w7.heap.size) r18 (fun g hg => by obtain ⟨p, hp, rfl⟩ := row_of hg; exact ⟨(o_x2.lt p hp).1, u_x2 p hp⟩)
  have e_x2_18 := Lib.hid o_x2.blen
  replace o_x2 := z_x2
  clear z_x2
  have R18 : gbI (w6.heap.size + 1) (w7.heap.size) w17 w18 := (gbI.of0 (by repeat (first | with_reducible exact gb_refl _ | refine gb_alloc ?_ _ | refine gb_drewN ?_ _ | refine gb_drew ?_))).trans g18
  have T18 : Below w.heap.size w w18 := below_nextI T17 R18 (by omega)
  have z18 := R18.size
  replace o_w0 := o_w0.keepI R18 (by omega)
  replace o_w1 := o_w1.keepI R18 (by omega)
  replace o_x0 := o_x0.keepI R18 (by omega)
  replace o_x4 := o_x4.keepI R18 (fun p hp => by have := u_x4 p hp; have := (o_x4.lt p hp).1; omega)
  replace o_g0 := o_g0.keepI R18 (by omega)
  replace o_g1 := o_g1.keepI R18 (by omega)
  clear cc_aE cc_w0 cc_w1 cc_x0 cc_g0 cc_g1
  replace bb_aE := bb_aE.keepI R18 (by have := bb_aE.lt; omega)
  replace bb_w0 := bb_w0.keepI R18 (by have := bb_w0.lt; omega)
  replace bb_w1 := bb_w1.keepI R18 (by have := bb_w1.lt; omega)
  replace bb_x0 := bb_x0.keepI R18 (by have := bb_x0.lt; omega)
  replace bb_g0 := bb_g0.keepI R18 (by have := bb_g0.lt; omega)
  replace bb_g1 := bb_g1.keepI R18 (by have := bb_g1.lt; omega)
  have cc_aE := fun o => bb_aE.cell o
  have ll_aE_18 := bb_aE.lt
  have cc_w0 := fun o => bb_w0.cell o
  have ll_w0_18 := bb_w0.lt
  have cc_w1 := fun o => bb_w1.cell o
  have ll_w1_18 := bb_w1.lt
  have cc_x0 := fun o => bb_x0.cell o
  have ll_x0_18 := bb_x0.lt
  have cc_g0 := fun o => bb_g0.cell o
  have ll_g0_18 := bb_g0.lt
  have cc_g1 := fun o => bb_g1.cell o
  have ll_g1_18 := bb_g1.lt
  go_wp2_with fail
  refine (laws_markByteS (w7.heap.size) _ _ _ (1 + (f0).tot + n2) _ _ (o_x4.keep0 (by repeat (first | with_reducible exact gb_refl _ | refine gb_alloc ?_ _ | refine gb_drewN ?_ _ | refine gb_drew ?_))) (by have h9 := (show l4.length ≤ 1048576 by have := hN4.out; have := P4.out; omega); have h8 := o_x4.blen; have := (by have := P0.out; omega); have := (show l2.length ≤ 1048576 by have := hN2.out; have := P2.out; omega); have := e_x2_18.out; omega)).mono ?_
  rintro e w19 ⟨rfl, z_x4, r19⟩
  have g19 := gbI.ofRow (B := w7.heap.size) (S := w8.heap.size) r19 (fun g hg => by obtain ⟨p, hp, rfl⟩ := row_of hg; exact ⟨(o_x4.lt p hp).1, u_x4 p hp⟩)
  have e_x4_19 := Lib.hid o_x4.blen
  replace o_x4 := z_x4
  clear z_x4
  have R19 : gbI (w7.heap.size) (w8.heap.size) w18 w19 := (gbI.of0 (by repeat (first | with_reducible exact gb_refl _ | refine gb_alloc ?_ _ | refine gb_drewN ?_ _ | refine gb_drew ?_))).trans g19
  have T19 : Below w.heap.size w w19 := below_nextI T18 R19 (by omega)
  have z19 := R19.size
  replace o_w0 := o_w0.keepI R19 (by omega)
  replace o_w1 := o_w1.keepI R19 (by omega)
  replace o_x0 := o_x0.keepI R19 (by omega)
  replace o_x2 := o_x2.keepI R19 (fun p hp => by have := u_x2 p hp; have := (o_x2.lt p hp).1; omega)
  replace o_g0 := o_g0.keepI R19 (by omega)
  replace o_g1 := o_g1.keepI R19 (by omega)
  clear cc_aE cc_w0 cc_w1 cc_x0 cc_g0 cc_g1
  replace bb_aE := bb_aE.keepI R19 (by have := bb_aE.lt; omega)
  replace bb_w0 := bb_w0.keepI R19 (by have := bb_w0.lt; omega)
  replace bb_w1 := bb_w1.keepI R19 (by have := bb_w1.lt; omega)
  replace bb_x0 := bb_x0.keepI R19 (by have := bb_x0.lt; omega)
  replace bb_g0 := bb_g0.keepI R19 (by have := bb_g0.lt; omega)
  replace bb_g1 := bb_g1.keepI R19 (by have := bb_g1.lt; omega)
  have cc_aE := fun o => bb_aE.cell o
  have ll_aE_19 := bb_aE.lt
  have cc_w0 := fun o => bb_w0.cell o
  have ll_w0_19 := bb_w0.lt
  have cc_w1 := fun o => bb_w1.cell o
  have ll_w1_19 := bb_w1.lt
  have cc_x0 := fun o => bb_x0.cell o
  have ll_x0_19 := bb_x0.lt
  have cc_g0 := fun o => bb_g0.cell o
  have ll_g0_19 := bb_g0.lt
  have cc_g1 := fun o => bb_g1.cell o
  have ll_g1_19 := bb_g1.lt
  go_wp2_with fail
  refine (laws_eqEp _ _ (epSealE f0 x1 l2 x3 l4) _ (o_g0.r.keep0 (by repeat (first | with_reducible exact gb_refl _ | refine gb_alloc ?_ _ | refine gb_drewN ?_ _ | refine gb_drew ?_))) (o_w0.r.keep0 (by repeat (first | with_reducible exact gb_refl _ | refine gb_alloc ?_ _ | refine gb_drewN ?_ _ | refine gb_drew ?_))) (by have h9 := (show (epSealE f0 x1 l2 x3 l4).tot ≤ 1048576 by rw [epSealE_tot]; have := P0.out; omega); simp only [EpM.tot] at h9; omega) (by have h9 := (show (epSealE f0 x1 l2 x3 l4).tot ≤ 1048576 by rw [epSealE_tot]; have := P0.out; omega); simp only [EpM.tot] at h9; omega)).mono ?_
  rintro e w20 ⟨rfl, g20⟩
  have R20 : w19.grownBy w20 none := gb_trans (by repeat (first | with_reducible exact gb_refl _ | refine gb_alloc ?_ _ | refine gb_drewN ?_ _ | refine gb_drew ?_)) g20
  have T20 : Below w.heap.size w w20 := below_next T19 R20
  have z20 := R20.size
  replace o_w0 := o_w0.keep0 R20
  replace o_w1 := o_w1.keep0 R20
  replace o_x0 := o_x0.keep0 R20
  replace o_x2 := o_x2.keep0 R20
  replace o_x4 := o_x4.keep0 R20
  replace o_g0 := o_g0.keep0 R20
  replace o_g1 := o_g1.keep0 R20
  clear cc_aE cc_w0 cc_w1 cc_x0 cc_g0 cc_g1
  replace bb_aE := bb_aE.keep0 R20
  replace bb_w0 := bb_w0.keep0 R20
  replace bb_w1 := bb_w1.keep0 R20
  replace bb_x0 := bb_x0.keep0 R20
  replace bb_g0 := bb_g0.keep0 R20
  replace bb_g1 := bb_g1.keep0 R20
  have cc_aE := fun o => bb_aE.cell o
  have ll_aE_20 := bb_aE.lt
  have cc_w0 := fun o => bb_w0.cell o
  have ll_w0_20 := bb_w0.lt
  have cc_w1 := fun o => bb_w1.cell o
  have ll_w1_20 := bb_w1.lt
  have cc_x0 := fun o => bb_x0.cell o
  have ll_x0_20 := bb_x0.lt
  have cc_g0 := fun o => bb_g0.cell o
  have ll_g0_20 := bb_g0.lt
  have cc_g1 := fun o => bb_g1.cell o
  have ll_g1_20 := bb_g1.lt
  go_wp2_with fail
  refine (laws_eqFrame _ _ (epSealF f0 x1 l2 x3 l4) _ (o_g1.r.keep0 (by repeat (first | with_reducible exact gb_refl _ | refine gb_alloc ?_ _ | refine gb_drewN ?_ _ | refine gb_drew ?_))) (o_w1.r.keep0 (by repeat (first | with_reducible exact gb_refl _ | refine gb_alloc ?_ _ | refine gb_drewN ?_ _ | refine gb_drew ?_))) (by have h9 := (show (epSealF f0 x1 l2 x3 l4).tot ≤ 1048576 from Nat.le_trans (epSealF_tot _ _ _ _ _) (by decide)); simp only [FrameM.tot] at h9; omega) (by have h9 := (show (epSealF f0 x1 l2 x3 l4).tot ≤ 1048576 from Nat.le_trans (epSealF_tot _ _ _ _ _) (by decide)); simp only [FrameM.tot] at h9; omega) (by have h9 := (show (epSealF f0 x1 l2 x3 l4).tot ≤ 1048576 from Nat.le_trans (epSealF_tot _ _ _ _ _) (by decide)); simp only [FrameM.tot] at h9; omega) (by have h9 := (show (epSealF f0 x1 l2 x3 l4).tot ≤ 1048576 from Nat.le_trans (epSealF_tot _ _ _ _ _) (by decide)); simp only [FrameM.tot] at h9; omega) (by have h9 := (show (epSealF f0 x1 l2 x3 l4).tot ≤ 1048576 from Nat.le_trans (epSealF_tot _ _ _ _ _) (by decide)); simp only [FrameM.tot] at h9; omega) (by have h9 := (show (epSealF f0 x1 l2 x3 l4).tot ≤ 1048576 from Nat.le_trans (epSealF_tot _ _ _ _ _) (by decide)); simp only [FrameM.tot] at h9; omega)).mono ?_
  rintro e w21 ⟨rfl, g21⟩
  have R21 : w20.grownBy w21 none := gb_trans (by repeat (first | with_reducible exact gb_refl _ | refine gb_alloc ?_ _ | refine gb_drewN ?_ _ | refine gb_drew ?_)) g21
  have T21 : Below w.heap.size w w21 := below_next T20 R21
  have z21 := R21.size
  replace o_w0 := o_w0.keep0 R21
  replace o_w1 := o_w1.keep0 R21
  replace o_x0 := o_x0.keep0 R21
  replace o_x2 := o_x2.keep0 R21
  replace o_x4 := o_x4.keep0 R21
  replace o_g0 := o_g0.keep0 R21
  replace o_g1 := o_g1.keep0 R21
  clear cc_aE cc_w0 cc_w1 cc_x0 cc_g0 cc_g1
  replace bb_aE := bb_aE.keep0 R21
  replace bb_w0 := bb_w0.keep0 R21
  replace bb_w1 := bb_w1.keep0 R21
  replace bb_x0 := bb_x0.keep0 R21
  replace bb_g0 := bb_g0.keep0 R21
  replace bb_g1 := bb_g1.keep0 R21
  have cc_aE := fun o => bb_aE.cell o
  have ll_aE_21 := bb_aE.lt
  have cc_w0 := fun o => bb_w0.cell o
  have ll_w0_21 := bb_w0.lt
  have cc_w1 := fun o => bb_w1.cell o
  have ll_w1_21 := bb_w1.lt
  have cc_x0 := fun o => bb_x0.cell o
  have ll_x0_21 := bb_x0.lt
  have cc_g0 := fun o => bb_g0.cell o
  have ll_g0_21 := bb_g0.lt
  have cc_g1 := fun o => bb_g1.cell o
  have ll_g1_21 := bb_g1.lt
  go_wp2_with fail
  refine (laws_markEp (w8.heap.size) (M_g0) _ ((epSealE f0 x1 l2 x3 l4)) (1) _ (o_g0.keep0 (by repeat (first | with_reducible exact gb_refl _ | refine gb_alloc ?_ _ | refine gb_drewN ?_ _ | refine gb_drew ?_))) (by have h9 := (show (epSealE f0 x1 l2 x3 l4).tot ≤ 1048576 by rw [epSealE_tot]; have := P0.out; omega); omega)).mono ?_
  rintro e w22 ⟨rfl, z_g0, g22⟩
  replace o_g0 := z_g0
  clear z_g0
  have R22 : gbI (w8.heap.size) (M_g0) w21 w22 := (gbI.of0 (by repeat (first | with_reducible exact gb_refl _ | refine gb_alloc ?_ _ | refine gb_drewN ?_ _ | refine gb_drew ?_))).trans g22
  have T22 : Below w.heap.size w w22 := below_nextI T21 R22 (by omega)
  have z22 := R22.size
  replace o_w0 := o_w0.keepI R22 (by omega)
  replace o_w1 := o_w1.keepI R22 (by omega)
  replace o_x0 := o_x0.keepI R22 (by omega)
  replace o_x2 := o_x2.keepI R22 (fun p hp => by have := u_x2 p hp; have := (o_x2.lt p hp).1; omega)
  replace o_x4 := o_x4.keepI R22 (fun p hp => by have := u_x4 p hp; have := (o_x4.lt p hp).1; omega)
  replace o_g1 := o_g1.keepI R22 (by omega)
  clear cc_aE cc_w0 cc_w1 cc_x0 cc_g0 cc_g1
  replace bb_aE := bb_aE.keepI R22 (by have := bb_aE.lt; omega)
  replace bb_w0 := bb_w0.keepI R22 (by have := bb_w0.lt; omega)
  replace bb_w1 := bb_w1.keepI R22 (by have := bb_w1.lt; omega)
  replace bb_x0 := bb_x0.keepI R22 (by have := bb_x0.lt; omega)
  replace bb_g0 := bb_g0.keepI R22 (by have := bb_g0.lt; omega)
  replace bb_g1 := bb_g1.keepI R22 (by have := bb_g1.lt; omega)
  have cc_aE := fun o => bb_aE.cell o
  have ll_aE_22 := bb_aE.lt
  have cc_w0 := fun o => bb_w0.cell o
  have ll_w0_22 := bb_w0.lt
  have cc_w1 := fun o => bb_w1.cell o
  have ll_w1_22 := bb_w1.lt
  have cc_x0 := fun o => bb_x0.cell o
  have ll_x0_22 := bb_x0.lt
  have cc_g0 := fun o => bb_g0.cell o
  have ll_g0_22 := bb_g0.lt
  have cc_g1 := fun o => bb_g1.cell o
  have ll_g1_22 := bb_g1.lt
  go_wp2_with fail
  refine (laws_markFrame (M_g0) (w9.heap.size) _ ((epSealF f0 x1 l2 x3 l4)) (1 + ((epSealE f0 x1 l2 x3 l4)).tot) _ (o_g1.keep0 (by repeat (first | with_reducible exact gb_refl _ | refine gb_alloc ?_ _ | refine gb_drewN ?_ _ | refine gb_drew ?_))) (by have h9 := (show (epSealF f0 x1 l2 x3 l4).tot ≤ 1048576 from Nat.le_trans (epSealF_tot _ _ _ _ _) (by decide)); have := (show (epSealE f0 x1 l2 x3 l4).tot ≤ 1048576 by rw [epSealE_tot]; have := P0.out; omega); omega)).mono ?_
  rintro e w23 ⟨rfl, z_g1, g23⟩
  replace o_g1 := z_g1
  clear z_g1
  have R23 : gbI (M_g0) (w9.heap.size) w22 w23 := (gbI.of0 (by repeat (first | with_reducible exact gb_refl _ | refine gb_alloc ?_ _ | refine gb_drewN ?_ _ | refine gb_drew ?_))).trans g23
  have T23 : Below w.heap.size w w23 := below_nextI T22 R23 (by omega)
  have z23 := R23.size
  replace o_w0 := o_w0.keepI R23 (by omega)
  replace o_w1 := o_w1.keepI R23 (by omega)
  replace o_x0 := o_x0.keepI R23 (by omega)
  replace o_x2 := o_x2.keepI R23 (fun p hp => by have := u_x2 p hp; have := (o_x2.lt p hp).1; omega)
  replace o_x4 := o_x4.keepI R23 (fun p hp => by have := u_x4 p hp; have := (o_x4.lt p hp).1; omega)
  replace o_g0 := o_g0.keepI R23 (by omega)
  clear cc_aE cc_w0 cc_w1 cc_x0 cc_g0 cc_g1
  replace bb_aE := bb_aE.keepI R23 (by have := bb_aE.lt; omega)
  replace bb_w0 := bb_w0.keepI R23 (by have := bb_w0.lt; omega)
  replace bb_w1 := bb_w1.keepI R23 (by have := bb_w1.lt; omega)
  replace bb_x0 := bb_x0.keepI R23 (by have := bb_x0.lt; omega)
  replace bb_g0 := bb_g0.keepI R23 (by have := bb_g0.lt; omega)
  replace bb_g1 := bb_g1.keepI R23 (by have := bb_g1.lt; omega)
  have cc_aE := fun o => bb_aE.cell o
  have ll_aE_23 := bb_aE.lt
  have cc_w0 := fun o => bb_w0.cell o
  have ll_w0_23 := bb_w0.lt
  have cc_w1 := fun o => bb_w1.cell o
  have ll_w1_23 := bb_w1.lt
  have cc_x0 := fun o => bb_x0.cell o
  have ll_x0_23 := bb_x0.lt
  have cc_g0 := fun o => bb_g0.cell o
  have ll_g0_23 := bb_g0.lt
  have cc_g1 := fun o => bb_g1.cell o
  have ll_g1_23 := bb_g1.lt
  go_wp2_with fail
  refine (laws_heldEp _ ((epSealE f0 x1 l2 x3 l4)) (1) _ (o_g0.r.keep0 (by repeat (first | with_reducible exact gb_refl _ | refine gb_alloc ?_ _ | refine gb_drewN ?_ _ | refine gb_drew ?_))) (by have h9 := (show (epSealE f0 x1 l2 x3 l4).tot ≤ 1048576 by rw [epSealE_tot]; have := P0.out; omega); have := (show (epSealE f0 x1 l2 x3 l4).tot ≤ 1048576 by rw [epSealE_tot]; have := P0.out; omega); have := (show (epSealF f0 x1 l2 x3 l4).tot ≤ 1048576 from Nat.le_trans (epSealF_tot _ _ _ _ _) (by decide)); omega)).mono ?_
  rintro e w24 ⟨rfl, g24⟩
  have R24 : w23.grownBy w24 none := gb_trans (by repeat (first | with_reducible exact gb_refl _ | refine gb_alloc ?_ _ | refine gb_drewN ?_ _ | refine gb_drew ?_)) g24
  have T24 : Below w.heap.size w w24 := below_next T23 R24
  have z24 := R24.size
  replace o_w0 := o_w0.keep0 R24
  replace o_w1 := o_w1.keep0 R24
  replace o_x0 := o_x0.keep0 R24
  replace o_x2 := o_x2.keep0 R24
  replace o_x4 := o_x4.keep0 R24
  replace o_g0 := o_g0.keep0 R24
  replace o_g1 := o_g1.keep0 R24
  clear cc_aE cc_w0 cc_w1 cc_x0 cc_g0 cc_g1
  replace bb_aE := bb_aE.keep0 R24
  replace bb_w0 := bb_w0.keep0 R24
  replace bb_w1 := bb_w1.keep0 R24
  replace bb_x0 := bb_x0.keep0 R24
  replace bb_g0 := bb_g0.keep0 R24
  replace bb_g1 := bb_g1.keep0 R24
  have cc_aE := fun o => bb_aE.cell o
  have ll_aE_24 := bb_aE.lt
  have cc_w0 := fun o => bb_w0.cell o
  have ll_w0_24 := bb_w0.lt
  have cc_w1 := fun o => bb_w1.cell o
  have ll_w1_24 := bb_w1.lt
  have cc_x0 := fun o => bb_x0.cell o
  have ll_x0_24 := bb_x0.lt
  have cc_g0 := fun o => bb_g0.cell o
  have ll_g0_24 := bb_g0.lt
  have cc_g1 := fun o => bb_g1.cell o
  have ll_g1_24 := bb_g1.lt
  go_wp2_with fail
  refine (laws_heldFrame _ ((epSealF f0 x1 l2 x3 l4)) (1 + ((epSealE f0 x1 l2 x3 l4)).tot) _ (o_g1.r.keep0 (by repeat (first | with_reducible exact gb_refl _ | refine gb_alloc ?_ _ | refine gb_drewN ?_ _ | refine gb_drew ?_))) (by have h9 := (show (epSealF f0 x1 l2 x3 l4).tot ≤ 1048576 from Nat.le_trans (epSealF_tot _ _ _ _ _) (by decide)); have := (show (epSealE f0 x1 l2 x3 l4).tot ≤ 1048576 by rw [epSealE_tot]; have := P0.out; omega); have := (show (epSealF f0 x1 l2 x3 l4).tot ≤ 1048576 from Nat.le_trans (epSealF_tot _ _ _ _ _) (by decide)); omega)).mono ?_
  rintro e w25 ⟨rfl, g25⟩
  have R25 : w24.grownBy w25 none := gb_trans (by repeat (first | with_reducible exact gb_refl _ | refine gb_alloc ?_ _ | refine gb_drewN ?_ _ | refine gb_drew ?_)) g25
  have T25 : Below w.heap.size w w25 := below_next T24 R25
  have z25 := R25.size
  replace o_w0 := o_w0.keep0 R25
  replace o_w1 := o_w1.keep0 R25
  replace o_x0 := o_x0.keep0 R25
  replace o_x2 := o_x2.keep0 R25
  replace o_x4 := o_x4.keep0 R25
  replace o_g0 := o_g0.keep0 R25
  replace o_g1 := o_g1.keep0 R25
  clear cc_aE cc_w0 cc_w1 cc_x0 cc_g0 cc_g1
  replace bb_aE := bb_aE.keep0 R25
  replace bb_w0 := bb_w0.keep0 R25
  replace bb_w1 := bb_w1.keep0 R25
  replace bb_x0 := bb_x0.keep0 R25
  replace bb_g0 := bb_g0.keep0 R25
  replace bb_g1 := bb_g1.keep0 R25
  have cc_aE := fun o => bb_aE.cell o
  have ll_aE_25 := bb_aE.lt
  have cc_w0 := fun o => bb_w0.cell o
  have ll_w0_25 := bb_w0.lt
  have cc_w1 := fun o => bb_w1.cell o
  have ll_w1_25 := bb_w1.lt
  have cc_x0 := fun o => bb_x0.cell o
  have ll_x0_25 := bb_x0.lt
  have cc_g0 := fun o => bb_g0.cell o
  have ll_g0_25 := bb_g0.lt
  have cc_g1 := fun o => bb_g1.cell o
  have ll_g1_25 := bb_g1.lt
  go_wp2_with fail
  refine (laws_toEp _ f0 _ ((hR0.below T25).keep0 (by repeat (first | with_reducible exact gb_refl _ | refine gb_alloc ?_ _ | refine gb_drewN ?_ _ | refine gb_drew ?_))) (by have := P0.out; simp only [EpM.tot] at this; omega) (by have := P0.out; simp only [EpM.tot] at this; omega)).mono ?_
  rintro e w26 ⟨v_th00, rfl, o_th00, g26⟩
  obtain ⟨a_th00_0, n_th00_0, c_th00_0, a_th00_1, n_th00_1, c_th00_1, rfl⟩ := o_th00.r.shape
  have R26 : w25.grownBy w26 none := gb_trans (by repeat (first | with_reducible exact gb_refl _ | refine gb_alloc ?_ _ | refine gb_drewN ?_ _ | refine gb_drew ?_)) g26
  have T26 : Below w.heap.size w w26 := below_next T25 R26
  have z26 := R26.size
  replace o_w0 := o_w0.keep0 R26
  replace o_w1 := o_w1.keep0 R26
  replace o_x0 := o_x0.keep0 R26
  replace o_x2 := o_x2.keep0 R26
  replace o_x4 := o_x4.keep0 R26
  replace o_g0 := o_g0.keep0 R26
  replace o_g1 := o_g1.keep0 R26
  clear cc_aE cc_w0 cc_w1 cc_x0 cc_g0 cc_g1
  replace bb_aE := bb_aE.keep0 R26
  replace bb_w0 := bb_w0.keep0 R26
  replace bb_w1 := bb_w1.keep0 R26
  replace bb_x0 := bb_x0.keep0 R26
  replace bb_g0 := bb_g0.keep0 R26
  replace bb_g1 := bb_g1.keep0 R26
  have cc_aE := fun o => bb_aE.cell o
  have ll_aE_26 := bb_aE.lt
  have cc_w0 := fun o => bb_w0.cell o
  have ll_w0_26 := bb_w0.lt
  have cc_w1 := fun o => bb_w1.cell o
  have ll_w1_26 := bb_w1.lt
  have cc_x0 := fun o => bb_x0.cell o
  have ll_x0_26 := bb_x0.lt
  have cc_g0 := fun o => bb_g0.cell o
  have ll_g0_26 := bb_g0.lt
  have cc_g1 := fun o => bb_g1.cell o
  have ll_g1_26 := bb_g1.lt
  replace o_th00 := o_th00.low (B' := w25.heap.size) (by first | exact Nat.le_refl _ | (simp; done) | (simp; omega))
  go_wp2_with fail
  refine (laws_toByteS _ _ _ l2 _ ((hR2.below T26).keep0 (by repeat (first | with_reducible exact gb_refl _ | refine gb_alloc ?_ _ | refine gb_drewN ?_ _ | refine gb_drew ?_))) (by have := P2.out; omega)).mono ?_
  rintro e w27 ⟨a_th01, c_th01, rfl, o_th01, g27⟩
  have u_th01 := fun p hp => (o_th01.lt p hp).2
  have R27 : w26.grownBy w27 none := gb_trans (by repeat (first | with_reducible exact gb_refl _ | refine gb_alloc ?_ _ | refine gb_drewN ?_ _ | refine gb_drew ?_)) g27
  have T27 : Below w.heap.size w w27 := below_next T26 R27
  have z27 := R27.size
  replace o_w0 := o_w0.keep0 R27
  replace o_w1 := o_w1.keep0 R27
  replace o_x0 := o_x0.keep0 R27
  replace o_x2 := o_x2.keep0 R27
  replace o_x4 := o_x4.keep0 R27
  replace o_g0 := o_g0.keep0 R27
  replace o_g1 := o_g1.keep0 R27
  replace o_th00 := o_th00.keep0 R27
  clear cc_aE cc_w0 cc_w1 cc_x0 cc_g0 cc_g1
  replace bb_aE := bb_aE.keep0 R27
  replace bb_w0 := bb_w0.keep0 R27
  replace bb_w1 := bb_w1.keep0 R27
  replace bb_x0 := bb_x0.keep0 R27
  replace bb_g0 := bb_g0.keep0 R27
  replace bb_g1 := bb_g1.keep0 R27
  have cc_aE := fun o => bb_aE.cell o
  have ll_aE_27 := bb_aE.lt
  have cc_w0 := fun o => bb_w0.cell o
  have ll_w0_27 := bb_w0.lt
  have cc_w1 := fun o => bb_w1.cell o
  have ll_w1_27 := bb_w1.lt
  have cc_x0 := fun o => bb_x0.cell o
  have ll_x0_27 := bb_x0.lt
  have cc_g0 := fun o => bb_g0.cell o
  have ll_g0_27 := bb_g0.lt
  have cc_g1 := fun o => bb_g1.cell o
  have ll_g1_27 := bb_g1.lt
  replace o_th01 := o_th01.mono (B' := w26.heap.size) (by first | exact Nat.le_refl _ | (simp; done) | (simp; omega))
  go_wp2_with fail
  refine (laws_toByteS _ _ _ l4 _ ((hR4.below T27).keep0 (by repeat (first | with_reducible exact gb_refl _ | refine gb_alloc ?_ _ | refine gb_drewN ?_ _ | refine gb_drew ?_))) (by have := P4.out; omega)).mono ?_
  rintro e w28 ⟨a_th02, c_th02, rfl, o_th02, g28⟩
  have u_th02 := fun p hp => (o_th02.lt p hp).2
  have R28 : w27.grownBy w28 none := gb_trans (by repeat (first | with_reducible exact gb_refl _ | refine gb_alloc ?_ _ | refine gb_drewN ?_ _ | refine gb_drew ?_)) g28
  have T28 : Below w.heap.size w w28 := below_next T27 R28
  have z28 := R28.size
  replace o_w0 := o_w0.keep0 R28
  replace o_w1 := o_w1.keep0 R28
  replace o_x0 := o_x0.keep0 R28
  replace o_x2 := o_x2.keep0 R28
  replace o_x4 := o_x4.keep0 R28
  replace o_g0 := o_g0.keep0 R28
  replace o_g1 := o_g1.keep0 R28
  replace o_th00 := o_th00.keep0 R28
  replace o_th01 := o_th01.keep0 R28
  clear cc_aE cc_w0 cc_w1 cc_x0 cc_g0 cc_g1
  replace bb_aE := bb_aE.keep0 R28
  replace bb_w0 := bb_w0.keep0 R28
  replace bb_w1 := bb_w1.keep0 R28
  replace bb_x0 := bb_x0.keep0 R28
  replace bb_g0 := bb_g0.keep0 R28
  replace bb_g1 := bb_g1.keep0 R28
  have cc_aE := fun o => bb_aE.cell o
  have ll_aE_28 := bb_aE.lt
  have cc_w0 := fun o => bb_w0.cell o
  have ll_w0_28 := bb_w0.lt
  have cc_w1 := fun o => bb_w1.cell o
  have ll_w1_28 := bb_w1.lt
  have cc_x0 := fun o => bb_x0.cell o
  have ll_x0_28 := bb_x0.lt
  have cc_g0 := fun o => bb_g0.cell o
  have ll_g0_28 := bb_g0.lt
  have cc_g1 := fun o => bb_g1.cell o
  have ll_g1_28 := bb_g1.lt
  replace o_th02 := o_th02.mono (B' := w27.heap.size) (by first | exact Nat.le_refl _ | (simp; done) | (simp; omega))
  go_wp2_with fail
  refine (LI_EpSeal _ f0 x1 _ _ _ l2 x3 _ _ _ l4 _ (o_th00.r.keep0 (by repeat (first | with_reducible exact gb_refl _ | refine gb_alloc ?_ _ | refine gb_drewN ?_ _ | refine gb_drew ?_))) (o_th01.rd.keep0 (by repeat (first | with_reducible exact gb_refl _ | refine gb_alloc ?_ _ | refine gb_drewN ?_ _ | refine gb_drew ?_))) (o_th02.rd.keep0 (by repeat (first | with_reducible exact gb_refl _ | refine gb_alloc ?_ _ | refine gb_drewN ?_ _ | refine gb_drew ?_))) (by have := P0.out; omega) (show l2.length ≤ 1048576 by have := hN2.out; have := P2.out; omega) (show l4.length ≤ 1048576 by have := hN4.out; have := P4.out; omega)).mono ?_
  rintro e w29 ⟨M_h0, v_h0, v_h1, rfl, ml_h0, mh_h0, o_h0, o_h1, g29⟩
  obtain ⟨a_h0_0, n_h0_0, c_h0_0, a_h0_1, n_h0_1, c_h0_1, rfl⟩ := o_h0.r.shape
  obtain ⟨a_h1_0, n_h1_0, c_h1_0, a_h1_1, n_h1_1, c_h1_1, a_h1_2, n_h1_2, c_h1_2, a_h1_3, n_h1_3, c_h1_3, a_h1_4, n_h1_4, c_h1_4, a_h1_5, n_h1_5, c_h1_5, rfl⟩ := o_h1.r.shape
  have R29 : w28.grownBy w29 none := gb_trans (by repeat (first | with_reducible exact gb_refl _ | refine gb_alloc ?_ _ | refine gb_drewN ?_ _ | refine gb_drew ?_)) g29
  have T29 : Below w.heap.size w w29 := below_next T28 R29
  have z29 := R29.size
  replace o_w0 := o_w0.keep0 R29
  replace o_w1 := o_w1.keep0 R29
  replace o_x0 := o_x0.keep0 R29
  replace o_x2 := o_x2.keep0 R29
  replace o_x4 := o_x4.keep0 R29
  replace o_g0 := o_g0.keep0 R29
  replace o_g1 := o_g1.keep0 R29
  replace o_th00 := o_th00.keep0 R29
  replace o_th01 := o_th01.keep0 R29
  replace o_th02 := o_th02.keep0 R29
  clear cc_aE cc_w0 cc_w1 cc_x0 cc_g0 cc_g1
  replace bb_aE := bb_aE.keep0 R29
  replace bb_w0 := bb_w0.keep0 R29
  replace bb_w1 := bb_w1.keep0 R29
  replace bb_x0 := bb_x0.keep0 R29
  replace bb_g0 := bb_g0.keep0 R29
  replace bb_g1 := bb_g1.keep0 R29
  have cc_aE := fun o => bb_aE.cell o
  have ll_aE_29 := bb_aE.lt
  have cc_w0 := fun o => bb_w0.cell o
  have ll_w0_29 := bb_w0.lt
  have cc_w1 := fun o => bb_w1.cell o
  have ll_w1_29 := bb_w1.lt
  have cc_x0 := fun o => bb_x0.cell o
  have ll_x0_29 := bb_x0.lt
  have cc_g0 := fun o => bb_g0.cell o
  have ll_g0_29 := bb_g0.lt
  have cc_g1 := fun o => bb_g1.cell o
  have ll_g1_29 := bb_g1.lt
  replace ml_h0 : w28.heap.size ≤ M_h0 := Nat.le_trans (by first | exact Nat.le_refl _ | (simp; done) | (simp; omega)) ml_h0
  replace o_h0 := o_h0.low (B' := w28.heap.size) (by first | exact Nat.le_refl _ | (simp; done) | (simp; omega))
  clear o_th00
  clear o_th01 u_th01
  clear o_th02 u_th02
  go_wp2_with fail
  refine (laws_eqEp _ _ (epSealE f0 x1 l2 x3 l4) _ (o_h0.r.keep0 (by repeat (first | with_reducible exact gb_refl _ | refine gb_alloc ?_ _ | refine gb_drewN ?_ _ | refine gb_drew ?_))) (o_w0.r.keep0 (by repeat (first | with_reducible exact gb_refl _ | refine gb_alloc ?_ _ | refine gb_drewN ?_ _ | refine gb_drew ?_))) (by have h9 := (show (epSealE f0 x1 l2 x3 l4).tot ≤ 1048576 by rw [epSealE_tot]; have := P0.out; omega); simp only [EpM.tot] at h9; omega) (by have h9 := (show (epSealE f0 x1 l2 x3 l4).tot ≤ 1048576 by rw [epSealE_tot]; have := P0.out; omega); simp only [EpM.tot] at h9; omega)).mono ?_
  rintro e w30 ⟨rfl, g30⟩
  have R30 : w29.grownBy w30 none := gb_trans (by repeat (first | with_reducible exact gb_refl _ | refine gb_alloc ?_ _ | refine gb_drewN ?_ _ | refine gb_drew ?_)) g30
  have T30 : Below w.heap.size w w30 := below_next T29 R30
  have z30 := R30.size
  replace o_w0 := o_w0.keep0 R30
  replace o_w1 := o_w1.keep0 R30
  replace o_x0 := o_x0.keep0 R30
  replace o_x2 := o_x2.keep0 R30
  replace o_x4 := o_x4.keep0 R30
  replace o_g0 := o_g0.keep0 R30
  replace o_g1 := o_g1.keep0 R30
  replace o_h0 := o_h0.keep0 R30
  replace o_h1 := o_h1.keep0 R30
  clear cc_aE cc_w0 cc_w1 cc_x0 cc_g0 cc_g1
  replace bb_aE := bb_aE.keep0 R30
  replace bb_w0 := bb_w0.keep0 R30
  replace bb_w1 := bb_w1.keep0 R30
  replace bb_x0 := bb_x0.keep0 R30
  replace bb_g0 := bb_g0.keep0 R30
  replace bb_g1 := bb_g1.keep0 R30
  have bb_h0 : Bx w30 (w29.heap.size) 62 #[.int .i64 ((epSealE f0 x1 l2 x3 l4)).n, .slice a_h0_0 n_h0_0 c_h0_0, .int .i64 ((epSealE f0 x1 l2 x3 l4)).seq, .int .i64 ((epSealE f0 x1 l2 x3 l4)).win.top, .slice a_h0_1 n_h0_1 c_h0_1] := by first | exact (bx2 w29 _ _ _ _).1.keep0 g30 | exact (bx2 w29 _ _ _ _).1.drew.keep0 g30
  have bb_h1 : Bx w30 (w29.heap.size + 1) 24 #[.int .i64 ((epSealF f0 x1 l2 x3 l4)).kind, .int .i64 ((epSealF f0 x1 l2 x3 l4)).id, .slice a_h1_0 n_h1_0 c_h1_0, .slice a_h1_1 n_h1_1 c_h1_1, .int .i64 ((epSealF f0 x1 l2 x3 l4)).tick, .slice a_h1_2 n_h1_2 c_h1_2, .slice a_h1_3 n_h1_3 c_h1_3, .int .i64 ((epSealF f0 x1 l2 x3 l4)).epoch, .int .i64 ((epSealF f0 x1 l2 x3 l4)).seq, .slice a_h1_4 n_h1_4 c_h1_4, .slice a_h1_5 n_h1_5 c_h1_5] := by first | exact (bx2 w29 _ _ _ _).2.keep0 g30 | exact (bx2 w29 _ _ _ _).2.drew.keep0 g30
  have cc_aE := fun o => bb_aE.cell o
  have ll_aE_30 := bb_aE.lt
  have cc_w0 := fun o => bb_w0.cell o
  have ll_w0_30 := bb_w0.lt
  have cc_w1 := fun o => bb_w1.cell o
  have ll_w1_30 := bb_w1.lt
  have cc_x0 := fun o => bb_x0.cell o
  have ll_x0_30 := bb_x0.lt
  have cc_g0 := fun o => bb_g0.cell o
  have ll_g0_30 := bb_g0.lt
  have cc_g1 := fun o => bb_g1.cell o
  have ll_g1_30 := bb_g1.lt
  have cc_h0 := fun o => bb_h0.cell o
  have ll_h0_30 := bb_h0.lt
  have cc_h1 := fun o => bb_h1.cell o
  have ll_h1_30 := bb_h1.lt
  go_wp2_with fail
  refine (laws_eqFrame _ _ (epSealF f0 x1 l2 x3 l4) _ (o_h1.r.keep0 (by repeat (first | with_reducible exact gb_refl _ | refine gb_alloc ?_ _ | refine gb_drewN ?_ _ | refine gb_drew ?_))) (o_w1.r.keep0 (by repeat (first | with_reducible exact gb_refl _ | refine gb_alloc ?_ _ | refine gb_drewN ?_ _ | refine gb_drew ?_))) (by have h9 := (show (epSealF f0 x1 l2 x3 l4).tot ≤ 1048576 from Nat.le_trans (epSealF_tot _ _ _ _ _) (by decide)); simp only [FrameM.tot] at h9; omega) (by have h9 := (show (epSealF f0 x1 l2 x3 l4).tot ≤ 1048576 from Nat.le_trans (epSealF_tot _ _ _ _ _) (by decide)); simp only [FrameM.tot] at h9; omega) (by have h9 := (show (epSealF f0 x1 l2 x3 l4).tot ≤ 1048576 from Nat.le_trans (epSealF_tot _ _ _ _ _) (by decide)); simp only [FrameM.tot] at h9; omega) (by have h9 := (show (epSealF f0 x1 l2 x3 l4).tot ≤ 1048576 from Nat.le_trans (epSealF_tot _ _ _ _ _) (by decide)); simp only [FrameM.tot] at h9; omega) (by have h9 := (show (epSealF f0 x1 l2 x3 l4).tot ≤ 1048576 from Nat.le_trans (epSealF_tot _ _ _ _ _) (by decide)); simp only [FrameM.tot] at h9; omega) (by have h9 := (show (epSealF f0 x1 l2 x3 l4).tot ≤ 1048576 from Nat.le_trans (epSealF_tot _ _ _ _ _) (by decide)); simp only [FrameM.tot] at h9; omega)).mono ?_
  rintro e w31 ⟨rfl, g31⟩
  have R31 : w30.grownBy w31 none := gb_trans (by repeat (first | with_reducible exact gb_refl _ | refine gb_alloc ?_ _ | refine gb_drewN ?_ _ | refine gb_drew ?_)) g31
  have T31 : Below w.heap.size w w31 := below_next T30 R31
  have z31 := R31.size
  replace o_w0 := o_w0.keep0 R31
  replace o_w1 := o_w1.keep0 R31
  replace o_x0 := o_x0.keep0 R31
  replace o_x2 := o_x2.keep0 R31
  replace o_x4 := o_x4.keep0 R31
  replace o_g0 := o_g0.keep0 R31
  replace o_g1 := o_g1.keep0 R31
  replace o_h0 := o_h0.keep0 R31
  replace o_h1 := o_h1.keep0 R31
  clear cc_aE cc_w0 cc_w1 cc_x0 cc_g0 cc_g1 cc_h0 cc_h1
  replace bb_aE := bb_aE.keep0 R31
  replace bb_w0 := bb_w0.keep0 R31
  replace bb_w1 := bb_w1.keep0 R31
  replace bb_x0 := bb_x0.keep0 R31
  replace bb_g0 := bb_g0.keep0 R31
  replace bb_g1 := bb_g1.keep0 R31
  replace bb_h0 := bb_h0.keep0 R31
  replace bb_h1 := bb_h1.keep0 R31
  have cc_aE := fun o => bb_aE.cell o
  have ll_aE_31 := bb_aE.lt
  have cc_w0 := fun o => bb_w0.cell o
  have ll_w0_31 := bb_w0.lt
  have cc_w1 := fun o => bb_w1.cell o
  have ll_w1_31 := bb_w1.lt
  have cc_x0 := fun o => bb_x0.cell o
  have ll_x0_31 := bb_x0.lt
  have cc_g0 := fun o => bb_g0.cell o
  have ll_g0_31 := bb_g0.lt
  have cc_g1 := fun o => bb_g1.cell o
  have ll_g1_31 := bb_g1.lt
  have cc_h0 := fun o => bb_h0.cell o
  have ll_h0_31 := bb_h0.lt
  have cc_h1 := fun o => bb_h1.cell o
  have ll_h1_31 := bb_h1.lt
  go_wp2_with fail
  refine (laws_heldEp _ ((epSealE f0 x1 l2 x3 l4)) (1) _ (o_g0.r.keep0 (by repeat (first | with_reducible exact gb_refl _ | refine gb_alloc ?_ _ | refine gb_drewN ?_ _ | refine gb_drew ?_))) (by have h9 := (show (epSealE f0 x1 l2 x3 l4).tot ≤ 1048576 by rw [epSealE_tot]; have := P0.out; omega); have := (show (epSealE f0 x1 l2 x3 l4).tot ≤ 1048576 by rw [epSealE_tot]; have := P0.out; omega); have := (show (epSealF f0 x1 l2 x3 l4).tot ≤ 1048576 from Nat.le_trans (epSealF_tot _ _ _ _ _) (by decide)); omega)).mono ?_
  rintro e w32 ⟨rfl, g32⟩
  have R32 : w31.grownBy w32 none := gb_trans (by repeat (first | with_reducible exact gb_refl _ | refine gb_alloc ?_ _ | refine gb_drewN ?_ _ | refine gb_drew ?_)) g32
  have T32 : Below w.heap.size w w32 := below_next T31 R32
  have z32 := R32.size
  replace o_w0 := o_w0.keep0 R32
  replace o_w1 := o_w1.keep0 R32
  replace o_x0 := o_x0.keep0 R32
  replace o_x2 := o_x2.keep0 R32
  replace o_x4 := o_x4.keep0 R32
  replace o_g0 := o_g0.keep0 R32
  replace o_g1 := o_g1.keep0 R32
  replace o_h0 := o_h0.keep0 R32
  replace o_h1 := o_h1.keep0 R32
  clear cc_aE cc_w0 cc_w1 cc_x0 cc_g0 cc_g1 cc_h0 cc_h1
  replace bb_aE := bb_aE.keep0 R32
  replace bb_w0 := bb_w0.keep0 R32
  replace bb_w1 := bb_w1.keep0 R32
  replace bb_x0 := bb_x0.keep0 R32
  replace bb_g0 := bb_g0.keep0 R32
  replace bb_g1 := bb_g1.keep0 R32
  replace bb_h0 := bb_h0.keep0 R32
  replace bb_h1 := bb_h1.keep0 R32
  have cc_aE := fun o => bb_aE.cell o
  have ll_aE_32 := bb_aE.lt
  have cc_w0 := fun o => bb_w0.cell o
  have ll_w0_32 := bb_w0.lt
  have cc_w1 := fun o => bb_w1.cell o
  have ll_w1_32 := bb_w1.lt
  have cc_x0 := fun o => bb_x0.cell o
  have ll_x0_32 := bb_x0.lt
  have cc_g0 := fun o => bb_g0.cell o
  have ll_g0_32 := bb_g0.lt
  have cc_g1 := fun o => bb_g1.cell o
  have ll_g1_32 := bb_g1.lt
  have cc_h0 := fun o => bb_h0.cell o
  have ll_h0_32 := bb_h0.lt
  have cc_h1 := fun o => bb_h1.cell o
  have ll_h1_32 := bb_h1.lt
  go_wp2_with fail
  refine (laws_heldFrame _ ((epSealF f0 x1 l2 x3 l4)) (1 + ((epSealE f0 x1 l2 x3 l4)).tot) _ (o_g1.r.keep0 (by repeat (first | with_reducible exact gb_refl _ | refine gb_alloc ?_ _ | refine gb_drewN ?_ _ | refine gb_drew ?_))) (by have h9 := (show (epSealF f0 x1 l2 x3 l4).tot ≤ 1048576 from Nat.le_trans (epSealF_tot _ _ _ _ _) (by decide)); have := (show (epSealE f0 x1 l2 x3 l4).tot ≤ 1048576 by rw [epSealE_tot]; have := P0.out; omega); have := (show (epSealF f0 x1 l2 x3 l4).tot ≤ 1048576 from Nat.le_trans (epSealF_tot _ _ _ _ _) (by decide)); omega)).mono ?_
  rintro e w33 ⟨rfl, g33⟩
  have R33 : w32.grownBy w33 none := gb_trans (by repeat (first | with_reducible exact gb_refl _ | refine gb_alloc ?_ _ | refine gb_drewN ?_ _ | refine gb_drew ?_)) g33
  have T33 : Below w.heap.size w w33 := below_next T32 R33
  have z33 := R33.size
  replace o_w0 := o_w0.keep0 R33
  replace o_w1 := o_w1.keep0 R33
  replace o_x0 := o_x0.keep0 R33
  replace o_x2 := o_x2.keep0 R33
  replace o_x4 := o_x4.keep0 R33
  replace o_g0 := o_g0.keep0 R33
  replace o_g1 := o_g1.keep0 R33
  replace o_h0 := o_h0.keep0 R33
  replace o_h1 := o_h1.keep0 R33
  clear cc_aE cc_w0 cc_w1 cc_x0 cc_g0 cc_g1 cc_h0 cc_h1
  replace bb_aE := bb_aE.keep0 R33
  replace bb_w0 := bb_w0.keep0 R33
  replace bb_w1 := bb_w1.keep0 R33
  replace bb_x0 := bb_x0.keep0 R33
  replace bb_g0 := bb_g0.keep0 R33
  replace bb_g1 := bb_g1.keep0 R33
  replace bb_h0 := bb_h0.keep0 R33
  replace bb_h1 := bb_h1.keep0 R33
  have cc_aE := fun o => bb_aE.cell o
  have ll_aE_33 := bb_aE.lt
  have cc_w0 := fun o => bb_w0.cell o
  have ll_w0_33 := bb_w0.lt
  have cc_w1 := fun o => bb_w1.cell o
  have ll_w1_33 := bb_w1.lt
  have cc_x0 := fun o => bb_x0.cell o
  have ll_x0_33 := bb_x0.lt
  have cc_g0 := fun o => bb_g0.cell o
  have ll_g0_33 := bb_g0.lt
  have cc_g1 := fun o => bb_g1.cell o
  have ll_g1_33 := bb_g1.lt
  have cc_h0 := fun o => bb_h0.cell o
  have ll_h0_33 := bb_h0.lt
  have cc_h1 := fun o => bb_h1.cell o
  have ll_h1_33 := bb_h1.lt
  go_wp2
  go_ret
  exact ⟨rfl, T33⟩
set_option maxRecDepth 100000 in
theorem lifted (os : Os) (started : os.Started) (H : Type) (enc : TypeId × Value → H) :
    ReturnsInHanded {} Try.checked os 8 .any (Rows.fnExactEpSealSpec.pre6 enc Try.prog Try.f8 Rows.fnExactEpSealRow.domain false) (Rows.fnExactEpSealSpec.post enc Try.prog Try.f8 false true false false) := by
  refine returnsInHanded_of_change (C := Try.checked) own started (by kernel_rfl) Try.func8
    (ChangeSpec.witness6 (enc := enc) (C := Try.checked) false ⟨#[], #[.agg #[.int .i64 0, .slice none 0 0, .int .i64 0, .int .i64 0, .slice none 0 0], .int .i64 0, .slice none 0 0, .int .i64 0, .slice none 0 0], []⟩ 8 (by kernel_rfl) (by kernel_rfl) (by kernel_rfl) (by kernel_rfl)) ?_
  intro W base args ds gs before hval0 hW _ _
  have hval : ∀ (j : Nat) t v, Try.f8.params[j]? = some t → args[j]? = some v → Value.okWide Try.prog W .any base t v := hval0
  have hW2 := hW
  obtain ⟨p, q, hA0, hV, hps, _, _⟩ := hW
  have hA : DataW.TrodAll enc Try.prog W 0 (fun _ => true) true Try.f8.params.toList args.toList ds p := hA0
  rw [Try.params8] at hA hval
  obtain ⟨rfl, rfl⟩ := trodVars_none hV
  obtain ⟨v0, vs0, d0, ds0, p0, q0, hargs, rfl, rfl, h0, r0⟩ := trodAll_cons hA
  obtain ⟨v1, vs1, d1, ds1, p1, q1, rfl, rfl, rfl, h1, r1⟩ := trodAll_cons r0
  obtain ⟨v2, vs2, d2, ds2, p2, q2, rfl, rfl, rfl, h2, r2⟩ := trodAll_cons r1
  obtain ⟨v3, vs3, d3, ds3, p3, q3, rfl, rfl, rfl, h3, r3⟩ := trodAll_cons r2
  obtain ⟨v4, vs4, d4, ds4, p4, q4, rfl, rfl, rfl, h4, r4⟩ := trodAll_cons r3
  obtain ⟨rfl, rfl, rfl⟩ := trodAll_nil r4
  obtain rfl : args = #[v0, v1, v2, v3, v4] := by cases args; simp_all
  have i0 := open_Ep (hval 0 58 v0 rfl rfl) h0
  have i1 := open_I (hval 1 3 v1 rfl rfl) h1
  have i2 := open_B (hval 2 22 v2 rfl rfl) h2
  have i3 := open_I (hval 3 3 v3 rfl rfl) h3
  have i4 := open_B (hval 4 22 v4 rfl rfl) h4
  clear hA0 hval0
  refine (walk W v0 v1 v2 v3 v4 i0 i1 i2 i3 i4).mono fun e W2 ⟨he, hb⟩ => ?_
  subst he
  exact ⟨_, rfl, law_post (tb := 4) laidOut (by kernel_rfl) (by kernel_rfl) Try.underlying4 rfl ⟨rfl, rfl, rfl⟩ hW2 hb⟩
theorem over : Rows.fnExactEpSealRow.holds Try.pinned (OpenSpec.ofChange Rows.fnExactEpSealSpec) :=
  OpenClaim.holds_of_wide 8 Try.f8 rfl rfl rfl rfl rfl rfl rfl ⟨rfl, rfl, rfl, rfl, rfl⟩ rfl rfl rfl rfl rfl (by kernel_rfl) Try.func8 (by kernel_rfl)
    (of_decide_eq_true (by kernel_rfl)) (by unfold Func.isWrapper; first | (rw [if_pos (by decide +kernel)]; kernel_rfl) | (rw [if_neg (by decide +kernel)]; exact ⟨rfl, rfl⟩))
    (fun os started H enc _ => lifted os started H enc)
theorem proved : Rows.FnExactEpSealSaid :=
  over
#print axioms proved
end Go.Proofs.Ytfjbfgonkimboaa.lEpSeal
