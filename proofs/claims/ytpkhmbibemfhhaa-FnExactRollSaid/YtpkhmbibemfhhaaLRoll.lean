/-
  FnExactRoll returns true for every generator. Conditions: none.
-/
import Derived.Test.YtpkhmbibemfhhaaLaw
import Derived.Test.YtpkhmbibemfhhaaRollC
import Derived.Deep.RegionHeld3
namespace Go.Proofs.Ytpkhmbibemfhhaa.lRoll
open Go.ChangeShapes Go.WideShapes Go.ChangeAt Go.RowKit
theorem LI_Roll (v : Value) (f : DiceM) (w : World) (h : DiceR w v f) (_hs : f.tot ≤ 1048576) :
    Calls Try.prog 41 #[v] w fun e w' => ∃ M v1 a n c, e = .returned (.tuple #[v1, .slice a n c]) ∧ w.heap.size ≤ M ∧ M ≤ w'.heap.size ∧
      DiceO w.heap.size M w' v1 (rollD f) ∧ Ow M w' 5 a n c (bys (rollB f)) ∧ w.grownBy w' none :=
  impl_Roll v f w h (by simp only [DiceM.tot] at _hs; omega)
theorem LS_Roll (v : Value) (f : DiceM) (w : World) (h : DiceR w v f) (_hs : f.tot ≤ 1048576) :
    Calls Try.prog 47 #[v] w fun e w' => ∃ v1 a n c, e = .returned (.tuple #[v1, .slice a n c]) ∧
      DiceO w.heap.size w'.heap.size w' v1 (rollD f) ∧ Ow w.heap.size w' 5 a n c (bys (rollB f)) ∧ w.grownBy w' none :=
  (spec_Roll v f w h (by simp only [DiceM.tot] at _hs; omega)).mono fun e w' ⟨M, v1, a, n, c, he, h1, h2, h3, h4, g⟩ => by
    obtain ⟨a1, n1, c1, hv, ⟨o1, u1⟩⟩ := h3
    exact ⟨v1, a, n, c, he, ⟨a1, n1, c1, hv, ⟨o1, fun p hp => Nat.lt_of_lt_of_le (u1 p hp) h2⟩⟩, h4.mono h1, g⟩
set_option maxRecDepth 100000 in
set_option maxHeartbeats 4000000 in
theorem walk (w : World) (v0 : Value) (h0 : InDice w v0) : Calls Try.prog 8 #[v0] w fun e w' => e = .returned (.bool true) ∧ Below w.heap.size w w' := by
  obtain ⟨f0, hR0, hL0⟩ := h0
  have hS0 := hR0.shape
  obtain ⟨a0_0, n0_0, c0_0, rfl⟩ := hS0
  have T0 : Below w.heap.size w w := Below.refl _ _
  go_enter Try.func8, Try.ntmps8
  rcases Nat.lt_or_ge (1048576) f0.tot with p0 | p0
  · go_wp2_with fail
    refine (laws_szDice _ f0 (1048576) _ ((hR0.below T0).keep0 (by repeat (first | with_reducible exact gb_refl _ | refine gb_alloc ?_ _ | refine gb_drewN ?_ _ | refine gb_drew ?_))) (by omega) (hL0.len1)).mono ?_
    rintro e w9 ⟨_, hn9, g9⟩
    obtain rfl := hn9 p0
    clear hn9
    go_wp2
    go_ret
    exact ⟨rfl, below_next T0 (gb_trans (by repeat (first | with_reducible exact gb_refl _ | refine gb_alloc ?_ _ | refine gb_drewN ?_ _ | refine gb_drew ?_)) g9)⟩
  have P0 := Lib.hid p0
  clear p0
  go_wp2_with fail
  refine (laws_szDice _ f0 (1048576) _ ((hR0.below T0).keep0 (by repeat (first | with_reducible exact gb_refl _ | refine gb_alloc ?_ _ | refine gb_drewN ?_ _ | refine gb_drew ?_))) (by omega) (hL0.len1)).mono ?_
  rintro e w1 ⟨hy9, hn9, g1⟩
  obtain rfl := hy9 P0.out
  clear hy9 hn9
  have R1 : w.grownBy w1 none := gb_trans (by repeat (first | with_reducible exact gb_refl _ | refine gb_alloc ?_ _ | refine gb_drewN ?_ _ | refine gb_drew ?_)) g1
  have T1 : Below w.heap.size w w1 := below_next T0 R1
  have z1 := R1.size
  have bb_aD : Bx w1 (w.heap.size) 65 #[.slice a0_0 n0_0 c0_0, .int .i64 f0.n] := by first | exact (bx1 w _ _).keep0 g1 | exact (bx1 w _ _).drew.keep0 g1
  have cc_aD := fun o => bb_aD.cell o
  have ll_aD_1 := bb_aD.lt
  go_wp2_with fail
  refine (laws_toDice _ f0 _ ((hR0.below T1).keep0 (by repeat (first | with_reducible exact gb_refl _ | refine gb_alloc ?_ _ | refine gb_drewN ?_ _ | refine gb_drew ?_))) (by have := P0.out; simp only [DiceM.tot] at this; omega)).mono ?_
  rintro e w2 ⟨v_tw00, rfl, o_tw00, g2⟩
  obtain ⟨a_tw00_0, n_tw00_0, c_tw00_0, rfl⟩ := o_tw00.r.shape
  have R2 : w1.grownBy w2 none := gb_trans (by repeat (first | with_reducible exact gb_refl _ | refine gb_alloc ?_ _ | refine gb_drewN ?_ _ | refine gb_drew ?_)) g2
  have T2 : Below w.heap.size w w2 := below_next T1 R2
  have z2 := R2.size
  clear cc_aD
  replace bb_aD := bb_aD.keep0 R2
  have cc_aD := fun o => bb_aD.cell o
  have ll_aD_2 := bb_aD.lt
  replace o_tw00 := o_tw00.low (B' := w1.heap.size) (by first | exact Nat.le_refl _ | (simp; done) | (simp; omega))
  go_wp2_with fail
  refine (LS_Roll _ f0 _ (o_tw00.r.keep0 (by repeat (first | with_reducible exact gb_refl _ | refine gb_alloc ?_ _ | refine gb_drewN ?_ _ | refine gb_drew ?_))) (by have := P0.out; omega)).mono ?_
  rintro e w3 ⟨v_w0, a_w1, n_w1, c_w1, rfl, o_w0, o_w1, g3⟩
  obtain ⟨a_w0_0, n_w0_0, c_w0_0, rfl⟩ := o_w0.r.shape
  have u_w1 := fun p hp => (o_w1.lt p hp).2
  have R3 : w2.grownBy w3 none := gb_trans (by repeat (first | with_reducible exact gb_refl _ | refine gb_alloc ?_ _ | refine gb_drewN ?_ _ | refine gb_drew ?_)) g3
  have T3 : Below w.heap.size w w3 := below_next T2 R3
  have z3 := R3.size
  replace o_tw00 := o_tw00.keep0 R3
  clear cc_aD
  replace bb_aD := bb_aD.keep0 R3
  have cc_aD := fun o => bb_aD.cell o
  have ll_aD_3 := bb_aD.lt
  replace o_w0 := o_w0.low (B' := w2.heap.size) (by first | exact Nat.le_refl _ | (simp; done) | (simp; omega))
  replace o_w1 := o_w1.mono (B' := w2.heap.size) (by first | exact Nat.le_refl _ | (simp; done) | (simp; omega))
  clear o_tw00
  go_wp2_with fail
  refine (laws_toDice _ f0 _ ((hR0.below T3).keep0 (by repeat (first | with_reducible exact gb_refl _ | refine gb_alloc ?_ _ | refine gb_drewN ?_ _ | refine gb_drew ?_))) (by have := P0.out; simp only [DiceM.tot] at this; omega)).mono ?_
  rintro e w4 ⟨v_x0, rfl, o_x0, g4⟩
  obtain ⟨a_x0_0, n_x0_0, c_x0_0, rfl⟩ := o_x0.r.shape
  have R4 : w3.grownBy w4 none := gb_trans (by repeat (first | with_reducible exact gb_refl _ | refine gb_alloc ?_ _ | refine gb_drewN ?_ _ | refine gb_drew ?_)) g4
  have T4 : Below w.heap.size w w4 := below_next T3 R4
  have z4 := R4.size
  replace o_w0 := o_w0.keep0 R4
  replace o_w1 := o_w1.keep0 R4
  clear cc_aD
  replace bb_aD := bb_aD.keep0 R4
  have bb_w0 : Bx w4 (w3.heap.size) 58 #[.slice a_w0_0 n_w0_0 c_w0_0, .int .i64 ((rollD f0)).n] := by first | exact (bx1 w3 _ _).keep0 g4 | exact (bx1 w3 _ _).drew.keep0 g4
  have cc_aD := fun o => bb_aD.cell o
  have ll_aD_4 := bb_aD.lt
  have cc_w0 := fun o => bb_w0.cell o
  have ll_w0_4 := bb_w0.lt
  replace o_x0 := o_x0.low (B' := w3.heap.size + 1) (by first | exact Nat.le_refl _ | (simp; done) | (simp; omega))
  go_wp2_with fail
  refine (LI_Roll _ f0 _ (o_x0.r.keep0 (by repeat (first | with_reducible exact gb_refl _ | refine gb_alloc ?_ _ | refine gb_drewN ?_ _ | refine gb_drew ?_))) (by have := P0.out; omega)).mono ?_
  rintro e w5 ⟨M_g0, v_g0, a_g1, n_g1, c_g1, rfl, ml_g0, mh_g0, o_g0, o_g1, g5⟩
  obtain ⟨a_g0_0, n_g0_0, c_g0_0, rfl⟩ := o_g0.r.shape
  have u_g1 := fun p hp => (o_g1.lt p hp).2
  have R5 : w4.grownBy w5 none := gb_trans (by repeat (first | with_reducible exact gb_refl _ | refine gb_alloc ?_ _ | refine gb_drewN ?_ _ | refine gb_drew ?_)) g5
  have T5 : Below w.heap.size w w5 := below_next T4 R5
  have z5 := R5.size
  replace o_w0 := o_w0.keep0 R5
  replace o_w1 := o_w1.keep0 R5
  replace o_x0 := o_x0.keep0 R5
  clear cc_aD cc_w0
  replace bb_aD := bb_aD.keep0 R5
  replace bb_w0 := bb_w0.keep0 R5
  have bb_x0 : Bx w5 (w4.heap.size) 58 #[.slice a_x0_0 n_x0_0 c_x0_0, .int .i64 f0.n] := by first | exact (bx1 w4 _ _).keep0 g5 | exact (bx1 w4 _ _).drew.keep0 g5
  have cc_aD := fun o => bb_aD.cell o
  have ll_aD_5 := bb_aD.lt
  have cc_w0 := fun o => bb_w0.cell o
  have ll_w0_5 := bb_w0.lt
  have cc_x0 := fun o => bb_x0.cell o
  have ll_x0_5 := bb_x0.lt
  replace ml_g0 : w4.heap.size + 1 ≤ M_g0 := Nat.le_trans (by first | exact Nat.le_refl _ | (simp; done) | (simp; omega)) ml_g0
  replace o_g0 := o_g0.low (B' := w4.heap.size + 1) (by first | exact Nat.le_refl _ | (simp; done) | (simp; omega))
  go_wp2_with fail
  refine (laws_eqDice _ _ (rollD f0) _ (o_g0.r.keep0 (by repeat (first | with_reducible exact gb_refl _ | refine gb_alloc ?_ _ | refine gb_drewN ?_ _ | refine gb_drew ?_))) (o_w0.r.keep0 (by repeat (first | with_reducible exact gb_refl _ | refine gb_alloc ?_ _ | refine gb_drewN ?_ _ | refine gb_drew ?_))) (by have h9 := (show (rollD f0).tot ≤ 1048576 by rw [rollD_tot]; have := P0.out; omega); simp only [DiceM.tot] at h9; omega)).mono ?_
  rintro e w6 ⟨rfl, g6⟩
  have R6 : w5.grownBy w6 none := gb_trans (by repeat (first | with_reducible exact gb_refl _ | refine gb_alloc ?_ _ | refine gb_drewN ?_ _ | refine gb_drew ?_)) g6
  have T6 : Below w.heap.size w w6 := below_next T5 R6
  have z6 := R6.size
  replace o_w0 := o_w0.keep0 R6
  replace o_w1 := o_w1.keep0 R6
  replace o_x0 := o_x0.keep0 R6
  replace o_g0 := o_g0.keep0 R6
  replace o_g1 := o_g1.keep0 R6
  clear cc_aD cc_w0 cc_x0
  replace bb_aD := bb_aD.keep0 R6
  replace bb_w0 := bb_w0.keep0 R6
  replace bb_x0 := bb_x0.keep0 R6
  have bb_g0 : Bx w6 (w5.heap.size) 58 #[.slice a_g0_0 n_g0_0 c_g0_0, .int .i64 ((rollD f0)).n] := by first | exact (bx1 w5 _ _).keep0 g6 | exact (bx1 w5 _ _).drew.keep0 g6
  have cc_aD := fun o => bb_aD.cell o
  have ll_aD_6 := bb_aD.lt
  have cc_w0 := fun o => bb_w0.cell o
  have ll_w0_6 := bb_w0.lt
  have cc_x0 := fun o => bb_x0.cell o
  have ll_x0_6 := bb_x0.lt
  have cc_g0 := fun o => bb_g0.cell o
  have ll_g0_6 := bb_g0.lt
  go_wp2_with fail
  refine (laws_eqByteS_same _ _ _ _ _ _ _ _ (o_g1.rd.keep0 (by repeat (first | with_reducible exact gb_refl _ | refine gb_alloc ?_ _ | refine gb_drewN ?_ _ | refine gb_drew ?_))) (o_w1.rd.keep0 (by repeat (first | with_reducible exact gb_refl _ | refine gb_alloc ?_ _ | refine gb_drewN ?_ _ | refine gb_drew ?_))) (by have h9 := (show (rollB f0).length ≤ 1048576 from Nat.le_trans (rollB_le _) (by decide)); omega)).mono ?_
  rintro e w7 ⟨rfl, q7⟩
  have g7 := q7.gb
  have R7 : w6.grownBy w7 none := gb_trans (by repeat (first | with_reducible exact gb_refl _ | refine gb_alloc ?_ _ | refine gb_drewN ?_ _ | refine gb_drew ?_)) g7
  have T7 : Below w.heap.size w w7 := below_next T6 R7
  have z7 := R7.size
  replace o_w0 := o_w0.keep0 R7
  replace o_w1 := o_w1.keep0 R7
  replace o_x0 := o_x0.keep0 R7
  replace o_g0 := o_g0.keep0 R7
  replace o_g1 := o_g1.keep0 R7
  clear cc_aD cc_w0 cc_x0 cc_g0
  replace bb_aD := bb_aD.keep0 R7
  replace bb_w0 := bb_w0.keep0 R7
  replace bb_x0 := bb_x0.keep0 R7
  replace bb_g0 := bb_g0.keep0 R7
  have cc_aD := fun o => bb_aD.cell o
  have ll_aD_7 := bb_aD.lt
  have cc_w0 := fun o => bb_w0.cell o
  have ll_w0_7 := bb_w0.lt
  have cc_x0 := fun o => bb_x0.cell o
  have ll_x0_7 := bb_x0.lt
  have cc_g0 := fun o => bb_g0.cell o
  have ll_g0_7 := bb_g0.lt
  go_wp2_with fail
  have KX : Hid (∀ w', w7.grownBy w' none → (w'.cell? ⟨w.heap.size, 0, none⟩ = some (.slice a0_0 n0_0 c0_0) ∧ w'.cell? ⟨w.heap.size, 1, none⟩ = some (.int .i64 f0.n) ∧ w'.cell? ⟨w4.heap.size, 0, none⟩ = some (.slice a_x0_0 n_x0_0 c_x0_0) ∧ w'.cell? ⟨w4.heap.size, 1, none⟩ = some (.int .i64 f0.n) ∧ w7.grownBy w' none)) :=
    fun w' hg => ⟨(bb_aD.keep0 hg).cell 0, (bb_aD.keep0 hg).cell 1, (bb_x0.keep0 hg).cell 0, (bb_x0.keep0 hg).cell 1, hg⟩
  clear cc_aD cc_w0 cc_x0 cc_g0
  go_region_held3 (fun w' => w'.cell? ⟨w.heap.size, 0, none⟩ = some (.slice a0_0 n0_0 c0_0) ∧ w'.cell? ⟨w.heap.size, 1, none⟩ = some (.int .i64 f0.n) ∧ w'.cell? ⟨w4.heap.size, 0, none⟩ = some (.slice a_x0_0 n_x0_0 c_x0_0) ∧ w'.cell? ⟨w4.heap.size, 1, none⟩ = some (.int .i64 f0.n) ∧ w7.grownBy w' none)
    ((refine KX.out _ ?_; first | exact gb_drew (gb_refl _) | exact gb_trans (gb_trans (gb_drew (gb_refl _)) g8a) g8b | exact gb_trans (gb_drew (gb_refl _)) g8a))
    (first
      | (go_at_call 48; refine (laws_toDice _ f0 _ ((hR0.below T7).keep0 (gb_drew (gb_refl _))) (by have := P0.out; simp only [DiceM.tot] at this; omega)).mono ?_; rintro e wy8 ⟨vy, rfl, oy, g8a⟩; obtain ⟨a_yx0_0, n_yx0_0, c_yx0_0, rfl⟩ := oy.r.shape)
      | (go_at_call 49; refine (laws_eqDice _ _ f0 _ (o_x0.r.keep0 (gb_trans (gb_drew (gb_refl _)) g8a)) oy.r (by have h9 := (by have := P0.out; omega); simp only [DiceM.tot] at h9; omega)).mono ?_; rintro e w8 ⟨rfl, g8b⟩))
  have g8 := gb_trans g8a g8b
  have cc_aD : True := trivial
  have cc_w0 : True := trivial
  have cc_x0 : True := trivial
  have cc_g0 : True := trivial
  have R8 : w7.grownBy w8 none := gb_trans (gb_drew (gb_refl _)) (gb_trans g8a g8b)
  have T8 : Below w.heap.size w w8 := below_next T7 R8
  have z8 := R8.size
  replace o_w0 := o_w0.keep0 R8
  replace o_w1 := o_w1.keep0 R8
  replace o_x0 := o_x0.keep0 R8
  replace o_g0 := o_g0.keep0 R8
  replace o_g1 := o_g1.keep0 R8
  clear cc_aD cc_w0 cc_x0 cc_g0
  replace bb_aD := bb_aD.keep0 R8
  replace bb_w0 := bb_w0.keep0 R8
  replace bb_x0 := bb_x0.keep0 R8
  replace bb_g0 := bb_g0.keep0 R8
  have cc_aD := fun o => bb_aD.cell o
  have ll_aD_8 := bb_aD.lt
  have cc_w0 := fun o => bb_w0.cell o
  have ll_w0_8 := bb_w0.lt
  have cc_x0 := fun o => bb_x0.cell o
  have ll_x0_8 := bb_x0.lt
  have cc_g0 := fun o => bb_g0.cell o
  have ll_g0_8 := bb_g0.lt
  clear KX oy
  go_wp2_with fail
  refine (laws_markDice (w3.heap.size + 1) (w4.heap.size) _ f0 (1) _ (o_x0.keep0 (by repeat (first | with_reducible exact gb_refl _ | refine gb_alloc ?_ _ | refine gb_drewN ?_ _ | refine gb_drew ?_))) (by have h9 := (by have := P0.out; omega); omega)).mono ?_
  rintro e w9 ⟨rfl, z_x0, g9⟩
  replace o_x0 := z_x0
  clear z_x0
  have R9 : gbI (w3.heap.size + 1) (w4.heap.size) w8 w9 := (gbI.of0 (by repeat (first | with_reducible exact gb_refl _ | refine gb_alloc ?_ _ | refine gb_drewN ?_ _ | refine gb_drew ?_))).trans g9
  have T9 : Below w.heap.size w w9 := below_nextI T8 R9 (by omega)
  have z9 := R9.size
  replace o_w0 := o_w0.keepI R9 (by omega)
  replace o_w1 := o_w1.keepI R9 (fun p hp => by have := u_w1 p hp; have := (o_w1.lt p hp).1; omega)
  replace o_g0 := o_g0.keepI R9 (by omega)
  replace o_g1 := o_g1.keepI R9 (fun p hp => by have := u_g1 p hp; have := (o_g1.lt p hp).1; omega)
  clear cc_aD cc_w0 cc_x0 cc_g0
  replace bb_aD := bb_aD.keepI R9 (by have := bb_aD.lt; omega)
  replace bb_w0 := bb_w0.keepI R9 (by have := bb_w0.lt; omega)
  replace bb_x0 := bb_x0.keepI R9 (by have := bb_x0.lt; omega)
  replace bb_g0 := bb_g0.keepI R9 (by have := bb_g0.lt; omega)
  have cc_aD := fun o => bb_aD.cell o
  have ll_aD_9 := bb_aD.lt
  have cc_w0 := fun o => bb_w0.cell o
  have ll_w0_9 := bb_w0.lt
  have cc_x0 := fun o => bb_x0.cell o
  have ll_x0_9 := bb_x0.lt
  have cc_g0 := fun o => bb_g0.cell o
  have ll_g0_9 := bb_g0.lt
  go_wp2_with fail
  refine (laws_eqDice _ _ (rollD f0) _ (o_g0.r.keep0 (by repeat (first | with_reducible exact gb_refl _ | refine gb_alloc ?_ _ | refine gb_drewN ?_ _ | refine gb_drew ?_))) (o_w0.r.keep0 (by repeat (first | with_reducible exact gb_refl _ | refine gb_alloc ?_ _ | refine gb_drewN ?_ _ | refine gb_drew ?_))) (by have h9 := (show (rollD f0).tot ≤ 1048576 by rw [rollD_tot]; have := P0.out; omega); simp only [DiceM.tot] at h9; omega)).mono ?_
  rintro e w10 ⟨rfl, g10⟩
  have R10 : w9.grownBy w10 none := gb_trans (by repeat (first | with_reducible exact gb_refl _ | refine gb_alloc ?_ _ | refine gb_drewN ?_ _ | refine gb_drew ?_)) g10
  have T10 : Below w.heap.size w w10 := below_next T9 R10
  have z10 := R10.size
  replace o_w0 := o_w0.keep0 R10
  replace o_w1 := o_w1.keep0 R10
  replace o_x0 := o_x0.keep0 R10
  replace o_g0 := o_g0.keep0 R10
  replace o_g1 := o_g1.keep0 R10
  clear cc_aD cc_w0 cc_x0 cc_g0
  replace bb_aD := bb_aD.keep0 R10
  replace bb_w0 := bb_w0.keep0 R10
  replace bb_x0 := bb_x0.keep0 R10
  replace bb_g0 := bb_g0.keep0 R10
  have cc_aD := fun o => bb_aD.cell o
  have ll_aD_10 := bb_aD.lt
  have cc_w0 := fun o => bb_w0.cell o
  have ll_w0_10 := bb_w0.lt
  have cc_x0 := fun o => bb_x0.cell o
  have ll_x0_10 := bb_x0.lt
  have cc_g0 := fun o => bb_g0.cell o
  have ll_g0_10 := bb_g0.lt
  go_wp2_with fail
  refine (laws_eqByteS_same _ _ _ _ _ _ _ _ (o_g1.rd.keep0 (by repeat (first | with_reducible exact gb_refl _ | refine gb_alloc ?_ _ | refine gb_drewN ?_ _ | refine gb_drew ?_))) (o_w1.rd.keep0 (by repeat (first | with_reducible exact gb_refl _ | refine gb_alloc ?_ _ | refine gb_drewN ?_ _ | refine gb_drew ?_))) (by have h9 := (show (rollB f0).length ≤ 1048576 from Nat.le_trans (rollB_le _) (by decide)); omega)).mono ?_
  rintro e w11 ⟨rfl, q11⟩
  have g11 := q11.gb
  have R11 : w10.grownBy w11 none := gb_trans (by repeat (first | with_reducible exact gb_refl _ | refine gb_alloc ?_ _ | refine gb_drewN ?_ _ | refine gb_drew ?_)) g11
  have T11 : Below w.heap.size w w11 := below_next T10 R11
  have z11 := R11.size
  replace o_w0 := o_w0.keep0 R11
  replace o_w1 := o_w1.keep0 R11
  replace o_x0 := o_x0.keep0 R11
  replace o_g0 := o_g0.keep0 R11
  replace o_g1 := o_g1.keep0 R11
  clear cc_aD cc_w0 cc_x0 cc_g0
  replace bb_aD := bb_aD.keep0 R11
  replace bb_w0 := bb_w0.keep0 R11
  replace bb_x0 := bb_x0.keep0 R11
  replace bb_g0 := bb_g0.keep0 R11
  have cc_aD := fun o => bb_aD.cell o
  have ll_aD_11 := bb_aD.lt
  have cc_w0 := fun o => bb_w0.cell o
  have ll_w0_11 := bb_w0.lt
  have cc_x0 := fun o => bb_x0.cell o
  have ll_x0_11 := bb_x0.lt
  have cc_g0 := fun o => bb_g0.cell o
  have ll_g0_11 := bb_g0.lt
  go_wp2_with fail
  refine (laws_markDice (w4.heap.size + 1) (M_g0) _ ((rollD f0)) (1) _ (o_g0.keep0 (by repeat (first | with_reducible exact gb_refl _ | refine gb_alloc ?_ _ | refine gb_drewN ?_ _ | refine gb_drew ?_))) (by have h9 := (show (rollD f0).tot ≤ 1048576 by rw [rollD_tot]; have := P0.out; omega); omega)).mono ?_
  rintro e w12 ⟨rfl, z_g0, g12⟩
  replace o_g0 := z_g0
  clear z_g0
  have R12 : gbI (w4.heap.size + 1) (M_g0) w11 w12 := (gbI.of0 (by repeat (first | with_reducible exact gb_refl _ | refine gb_alloc ?_ _ | refine gb_drewN ?_ _ | refine gb_drew ?_))).trans g12
  have T12 : Below w.heap.size w w12 := below_nextI T11 R12 (by omega)
  have z12 := R12.size
  replace o_w0 := o_w0.keepI R12 (by omega)
  replace o_w1 := o_w1.keepI R12 (fun p hp => by have := u_w1 p hp; have := (o_w1.lt p hp).1; omega)
  replace o_x0 := o_x0.keepI R12 (by omega)
  replace o_g1 := o_g1.keepI R12 (fun p hp => by have := u_g1 p hp; have := (o_g1.lt p hp).1; omega)
  clear cc_aD cc_w0 cc_x0 cc_g0
  replace bb_aD := bb_aD.keepI R12 (by have := bb_aD.lt; omega)
  replace bb_w0 := bb_w0.keepI R12 (by have := bb_w0.lt; omega)
  replace bb_x0 := bb_x0.keepI R12 (by have := bb_x0.lt; omega)
  replace bb_g0 := bb_g0.keepI R12 (by have := bb_g0.lt; omega)
  have cc_aD := fun o => bb_aD.cell o
  have ll_aD_12 := bb_aD.lt
  have cc_w0 := fun o => bb_w0.cell o
  have ll_w0_12 := bb_w0.lt
  have cc_x0 := fun o => bb_x0.cell o
  have ll_x0_12 := bb_x0.lt
  have cc_g0 := fun o => bb_g0.cell o
  have ll_g0_12 := bb_g0.lt
  go_wp2_with fail
  refine (laws_markByteS (M_g0) _ _ _ (1 + ((rollD f0)).tot) _ _ (o_g1.keep0 (by repeat (first | with_reducible exact gb_refl _ | refine gb_alloc ?_ _ | refine gb_drewN ?_ _ | refine gb_drew ?_))) (by have h9 := (show (rollB f0).length ≤ 1048576 from Nat.le_trans (rollB_le _) (by decide)); have h8 := o_g1.blen; have := (show (rollD f0).tot ≤ 1048576 by rw [rollD_tot]; have := P0.out; omega); omega)).mono ?_
  rintro e w13 ⟨rfl, z_g1, r13⟩
  have g13 := gbI.ofRow (B := M_g0) (S := w5.heap.size) r13 (fun g hg => by obtain ⟨p, hp, rfl⟩ := row_of hg; exact ⟨(o_g1.lt p hp).1, u_g1 p hp⟩)
  have e_g1_13 := Lib.hid o_g1.blen
  replace o_g1 := z_g1
  clear z_g1
  have R13 : gbI (M_g0) (w5.heap.size) w12 w13 := (gbI.of0 (by repeat (first | with_reducible exact gb_refl _ | refine gb_alloc ?_ _ | refine gb_drewN ?_ _ | refine gb_drew ?_))).trans g13
  have T13 : Below w.heap.size w w13 := below_nextI T12 R13 (by omega)
  have z13 := R13.size
  replace o_w0 := o_w0.keepI R13 (by omega)
  replace o_w1 := o_w1.keepI R13 (fun p hp => by have := u_w1 p hp; have := (o_w1.lt p hp).1; omega)
  replace o_x0 := o_x0.keepI R13 (by omega)
  replace o_g0 := o_g0.keepI R13 (by omega)
  clear cc_aD cc_w0 cc_x0 cc_g0
  replace bb_aD := bb_aD.keepI R13 (by have := bb_aD.lt; omega)
  replace bb_w0 := bb_w0.keepI R13 (by have := bb_w0.lt; omega)
  replace bb_x0 := bb_x0.keepI R13 (by have := bb_x0.lt; omega)
  replace bb_g0 := bb_g0.keepI R13 (by have := bb_g0.lt; omega)
  have cc_aD := fun o => bb_aD.cell o
  have ll_aD_13 := bb_aD.lt
  have cc_w0 := fun o => bb_w0.cell o
  have ll_w0_13 := bb_w0.lt
  have cc_x0 := fun o => bb_x0.cell o
  have ll_x0_13 := bb_x0.lt
  have cc_g0 := fun o => bb_g0.cell o
  have ll_g0_13 := bb_g0.lt
  go_wp2_with fail
  refine (laws_heldDice _ ((rollD f0)) (1) _ (o_g0.r.keep0 (by repeat (first | with_reducible exact gb_refl _ | refine gb_alloc ?_ _ | refine gb_drewN ?_ _ | refine gb_drew ?_))) (by have h9 := (show (rollD f0).tot ≤ 1048576 by rw [rollD_tot]; have := P0.out; omega); have := (show (rollD f0).tot ≤ 1048576 by rw [rollD_tot]; have := P0.out; omega); have := (show (rollB f0).length ≤ 1048576 from Nat.le_trans (rollB_le _) (by decide)); have := e_g1_13.out; omega)).mono ?_
  rintro e w14 ⟨rfl, g14⟩
  have R14 : w13.grownBy w14 none := gb_trans (by repeat (first | with_reducible exact gb_refl _ | refine gb_alloc ?_ _ | refine gb_drewN ?_ _ | refine gb_drew ?_)) g14
  have T14 : Below w.heap.size w w14 := below_next T13 R14
  have z14 := R14.size
  replace o_w0 := o_w0.keep0 R14
  replace o_w1 := o_w1.keep0 R14
  replace o_x0 := o_x0.keep0 R14
  replace o_g0 := o_g0.keep0 R14
  replace o_g1 := o_g1.keep0 R14
  clear cc_aD cc_w0 cc_x0 cc_g0
  replace bb_aD := bb_aD.keep0 R14
  replace bb_w0 := bb_w0.keep0 R14
  replace bb_x0 := bb_x0.keep0 R14
  replace bb_g0 := bb_g0.keep0 R14
  have cc_aD := fun o => bb_aD.cell o
  have ll_aD_14 := bb_aD.lt
  have cc_w0 := fun o => bb_w0.cell o
  have ll_w0_14 := bb_w0.lt
  have cc_x0 := fun o => bb_x0.cell o
  have ll_x0_14 := bb_x0.lt
  have cc_g0 := fun o => bb_g0.cell o
  have ll_g0_14 := bb_g0.lt
  go_wp2_with fail
  refine (laws_heldByteS _ n_g1 _ (1 + ((rollD f0)).tot) _ (o_g1.rd.keep0 (by repeat (first | with_reducible exact gb_refl _ | refine gb_alloc ?_ _ | refine gb_drewN ?_ _ | refine gb_drew ?_))) (by have h9 := (show (rollB f0).length ≤ 1048576 from Nat.le_trans (rollB_le _) (by decide)); have := (show (rollD f0).tot ≤ 1048576 by rw [rollD_tot]; have := P0.out; omega); have := (show (rollB f0).length ≤ 1048576 from Nat.le_trans (rollB_le _) (by decide)); have := e_g1_13.out; omega)).mono ?_
  rintro e w15 ⟨rfl, q15⟩
  have g15 := q15.gb
  have R15 : w14.grownBy w15 none := gb_trans (by repeat (first | with_reducible exact gb_refl _ | refine gb_alloc ?_ _ | refine gb_drewN ?_ _ | refine gb_drew ?_)) g15
  have T15 : Below w.heap.size w w15 := below_next T14 R15
  have z15 := R15.size
  replace o_w0 := o_w0.keep0 R15
  replace o_w1 := o_w1.keep0 R15
  replace o_x0 := o_x0.keep0 R15
  replace o_g0 := o_g0.keep0 R15
  replace o_g1 := o_g1.keep0 R15
  clear cc_aD cc_w0 cc_x0 cc_g0
  replace bb_aD := bb_aD.keep0 R15
  replace bb_w0 := bb_w0.keep0 R15
  replace bb_x0 := bb_x0.keep0 R15
  replace bb_g0 := bb_g0.keep0 R15
  have cc_aD := fun o => bb_aD.cell o
  have ll_aD_15 := bb_aD.lt
  have cc_w0 := fun o => bb_w0.cell o
  have ll_w0_15 := bb_w0.lt
  have cc_x0 := fun o => bb_x0.cell o
  have ll_x0_15 := bb_x0.lt
  have cc_g0 := fun o => bb_g0.cell o
  have ll_g0_15 := bb_g0.lt
  go_wp2_with fail
  refine (laws_toDice _ f0 _ ((hR0.below T15).keep0 (by repeat (first | with_reducible exact gb_refl _ | refine gb_alloc ?_ _ | refine gb_drewN ?_ _ | refine gb_drew ?_))) (by have := P0.out; simp only [DiceM.tot] at this; omega)).mono ?_
  rintro e w16 ⟨v_th00, rfl, o_th00, g16⟩
  obtain ⟨a_th00_0, n_th00_0, c_th00_0, rfl⟩ := o_th00.r.shape
  have R16 : w15.grownBy w16 none := gb_trans (by repeat (first | with_reducible exact gb_refl _ | refine gb_alloc ?_ _ | refine gb_drewN ?_ _ | refine gb_drew ?_)) g16
  have T16 : Below w.heap.size w w16 := below_next T15 R16
  have z16 := R16.size
  replace o_w0 := o_w0.keep0 R16
  replace o_w1 := o_w1.keep0 R16
  replace o_x0 := o_x0.keep0 R16
  replace o_g0 := o_g0.keep0 R16
  replace o_g1 := o_g1.keep0 R16
  clear cc_aD cc_w0 cc_x0 cc_g0
  replace bb_aD := bb_aD.keep0 R16
  replace bb_w0 := bb_w0.keep0 R16
  replace bb_x0 := bb_x0.keep0 R16
  replace bb_g0 := bb_g0.keep0 R16
  have cc_aD := fun o => bb_aD.cell o
  have ll_aD_16 := bb_aD.lt
  have cc_w0 := fun o => bb_w0.cell o
  have ll_w0_16 := bb_w0.lt
  have cc_x0 := fun o => bb_x0.cell o
  have ll_x0_16 := bb_x0.lt
  have cc_g0 := fun o => bb_g0.cell o
  have ll_g0_16 := bb_g0.lt
  replace o_th00 := o_th00.low (B' := w15.heap.size) (by first | exact Nat.le_refl _ | (simp; done) | (simp; omega))
  go_wp2_with fail
  refine (LI_Roll _ f0 _ (o_th00.r.keep0 (by repeat (first | with_reducible exact gb_refl _ | refine gb_alloc ?_ _ | refine gb_drewN ?_ _ | refine gb_drew ?_))) (by have := P0.out; omega)).mono ?_
  rintro e w17 ⟨M_h0, v_h0, a_h1, n_h1, c_h1, rfl, ml_h0, mh_h0, o_h0, o_h1, g17⟩
  obtain ⟨a_h0_0, n_h0_0, c_h0_0, rfl⟩ := o_h0.r.shape
  have u_h1 := fun p hp => (o_h1.lt p hp).2
  have R17 : w16.grownBy w17 none := gb_trans (by repeat (first | with_reducible exact gb_refl _ | refine gb_alloc ?_ _ | refine gb_drewN ?_ _ | refine gb_drew ?_)) g17
  have T17 : Below w.heap.size w w17 := below_next T16 R17
  have z17 := R17.size
  replace o_w0 := o_w0.keep0 R17
  replace o_w1 := o_w1.keep0 R17
  replace o_x0 := o_x0.keep0 R17
  replace o_g0 := o_g0.keep0 R17
  replace o_g1 := o_g1.keep0 R17
  replace o_th00 := o_th00.keep0 R17
  clear cc_aD cc_w0 cc_x0 cc_g0
  replace bb_aD := bb_aD.keep0 R17
  replace bb_w0 := bb_w0.keep0 R17
  replace bb_x0 := bb_x0.keep0 R17
  replace bb_g0 := bb_g0.keep0 R17
  have cc_aD := fun o => bb_aD.cell o
  have ll_aD_17 := bb_aD.lt
  have cc_w0 := fun o => bb_w0.cell o
  have ll_w0_17 := bb_w0.lt
  have cc_x0 := fun o => bb_x0.cell o
  have ll_x0_17 := bb_x0.lt
  have cc_g0 := fun o => bb_g0.cell o
  have ll_g0_17 := bb_g0.lt
  replace ml_h0 : w16.heap.size ≤ M_h0 := Nat.le_trans (by first | exact Nat.le_refl _ | (simp; done) | (simp; omega)) ml_h0
  replace o_h0 := o_h0.low (B' := w16.heap.size) (by first | exact Nat.le_refl _ | (simp; done) | (simp; omega))
  clear o_th00
  go_wp2_with fail
  refine (laws_eqDice _ _ (rollD f0) _ (o_h0.r.keep0 (by repeat (first | with_reducible exact gb_refl _ | refine gb_alloc ?_ _ | refine gb_drewN ?_ _ | refine gb_drew ?_))) (o_w0.r.keep0 (by repeat (first | with_reducible exact gb_refl _ | refine gb_alloc ?_ _ | refine gb_drewN ?_ _ | refine gb_drew ?_))) (by have h9 := (show (rollD f0).tot ≤ 1048576 by rw [rollD_tot]; have := P0.out; omega); simp only [DiceM.tot] at h9; omega)).mono ?_
  rintro e w18 ⟨rfl, g18⟩
  have R18 : w17.grownBy w18 none := gb_trans (by repeat (first | with_reducible exact gb_refl _ | refine gb_alloc ?_ _ | refine gb_drewN ?_ _ | refine gb_drew ?_)) g18
  have T18 : Below w.heap.size w w18 := below_next T17 R18
  have z18 := R18.size
  replace o_w0 := o_w0.keep0 R18
  replace o_w1 := o_w1.keep0 R18
  replace o_x0 := o_x0.keep0 R18
  replace o_g0 := o_g0.keep0 R18
  replace o_g1 := o_g1.keep0 R18
  replace o_h0 := o_h0.keep0 R18
  replace o_h1 := o_h1.keep0 R18
  clear cc_aD cc_w0 cc_x0 cc_g0
  replace bb_aD := bb_aD.keep0 R18
  replace bb_w0 := bb_w0.keep0 R18
  replace bb_x0 := bb_x0.keep0 R18
  replace bb_g0 := bb_g0.keep0 R18
  have bb_h0 : Bx w18 (w17.heap.size) 58 #[.slice a_h0_0 n_h0_0 c_h0_0, .int .i64 ((rollD f0)).n] := by first | exact (bx1 w17 _ _).keep0 g18 | exact (bx1 w17 _ _).drew.keep0 g18
  have cc_aD := fun o => bb_aD.cell o
  have ll_aD_18 := bb_aD.lt
  have cc_w0 := fun o => bb_w0.cell o
  have ll_w0_18 := bb_w0.lt
  have cc_x0 := fun o => bb_x0.cell o
  have ll_x0_18 := bb_x0.lt
  have cc_g0 := fun o => bb_g0.cell o
  have ll_g0_18 := bb_g0.lt
  have cc_h0 := fun o => bb_h0.cell o
  have ll_h0_18 := bb_h0.lt
  go_wp2_with fail
  refine (laws_eqByteS_same _ _ _ _ _ _ _ _ (o_h1.rd.keep0 (by repeat (first | with_reducible exact gb_refl _ | refine gb_alloc ?_ _ | refine gb_drewN ?_ _ | refine gb_drew ?_))) (o_w1.rd.keep0 (by repeat (first | with_reducible exact gb_refl _ | refine gb_alloc ?_ _ | refine gb_drewN ?_ _ | refine gb_drew ?_))) (by have h9 := (show (rollB f0).length ≤ 1048576 from Nat.le_trans (rollB_le _) (by decide)); omega)).mono ?_
  rintro e w19 ⟨rfl, q19⟩
  have g19 := q19.gb
  have R19 : w18.grownBy w19 none := gb_trans (by repeat (first | with_reducible exact gb_refl _ | refine gb_alloc ?_ _ | refine gb_drewN ?_ _ | refine gb_drew ?_)) g19
  have T19 : Below w.heap.size w w19 := below_next T18 R19
  have z19 := R19.size
  replace o_w0 := o_w0.keep0 R19
  replace o_w1 := o_w1.keep0 R19
  replace o_x0 := o_x0.keep0 R19
  replace o_g0 := o_g0.keep0 R19
  replace o_g1 := o_g1.keep0 R19
  replace o_h0 := o_h0.keep0 R19
  replace o_h1 := o_h1.keep0 R19
  clear cc_aD cc_w0 cc_x0 cc_g0 cc_h0
  replace bb_aD := bb_aD.keep0 R19
  replace bb_w0 := bb_w0.keep0 R19
  replace bb_x0 := bb_x0.keep0 R19
  replace bb_g0 := bb_g0.keep0 R19
  replace bb_h0 := bb_h0.keep0 R19
  have cc_aD := fun o => bb_aD.cell o
  have ll_aD_19 := bb_aD.lt
  have cc_w0 := fun o => bb_w0.cell o
  have ll_w0_19 := bb_w0.lt
  have cc_x0 := fun o => bb_x0.cell o
  have ll_x0_19 := bb_x0.lt
  have cc_g0 := fun o => bb_g0.cell o
  have ll_g0_19 := bb_g0.lt
  have cc_h0 := fun o => bb_h0.cell o
  have ll_h0_19 := bb_h0.lt
  go_wp2_with fail
  refine (laws_heldDice _ ((rollD f0)) (1) _ (o_g0.r.keep0 (by repeat (first | with_reducible exact gb_refl _ | refine gb_alloc ?_ _ | refine gb_drewN ?_ _ | refine gb_drew ?_))) (by have h9 := (show (rollD f0).tot ≤ 1048576 by rw [rollD_tot]; have := P0.out; omega); have := (show (rollD f0).tot ≤ 1048576 by rw [rollD_tot]; have := P0.out; omega); have := (show (rollB f0).length ≤ 1048576 from Nat.le_trans (rollB_le _) (by decide)); have := e_g1_13.out; omega)).mono ?_
  rintro e w20 ⟨rfl, g20⟩
  have R20 : w19.grownBy w20 none := gb_trans (by repeat (first | with_reducible exact gb_refl _ | refine gb_alloc ?_ _ | refine gb_drewN ?_ _ | refine gb_drew ?_)) g20
  have T20 : Below w.heap.size w w20 := below_next T19 R20
  have z20 := R20.size
  replace o_w0 := o_w0.keep0 R20
  replace o_w1 := o_w1.keep0 R20
  replace o_x0 := o_x0.keep0 R20
  replace o_g0 := o_g0.keep0 R20
  replace o_g1 := o_g1.keep0 R20
  replace o_h0 := o_h0.keep0 R20
  replace o_h1 := o_h1.keep0 R20
  clear cc_aD cc_w0 cc_x0 cc_g0 cc_h0
  replace bb_aD := bb_aD.keep0 R20
  replace bb_w0 := bb_w0.keep0 R20
  replace bb_x0 := bb_x0.keep0 R20
  replace bb_g0 := bb_g0.keep0 R20
  replace bb_h0 := bb_h0.keep0 R20
  have cc_aD := fun o => bb_aD.cell o
  have ll_aD_20 := bb_aD.lt
  have cc_w0 := fun o => bb_w0.cell o
  have ll_w0_20 := bb_w0.lt
  have cc_x0 := fun o => bb_x0.cell o
  have ll_x0_20 := bb_x0.lt
  have cc_g0 := fun o => bb_g0.cell o
  have ll_g0_20 := bb_g0.lt
  have cc_h0 := fun o => bb_h0.cell o
  have ll_h0_20 := bb_h0.lt
  go_wp2_with fail
  refine (laws_heldByteS _ n_g1 _ (1 + ((rollD f0)).tot) _ (o_g1.rd.keep0 (by repeat (first | with_reducible exact gb_refl _ | refine gb_alloc ?_ _ | refine gb_drewN ?_ _ | refine gb_drew ?_))) (by have h9 := (show (rollB f0).length ≤ 1048576 from Nat.le_trans (rollB_le _) (by decide)); have := (show (rollD f0).tot ≤ 1048576 by rw [rollD_tot]; have := P0.out; omega); have := (show (rollB f0).length ≤ 1048576 from Nat.le_trans (rollB_le _) (by decide)); have := e_g1_13.out; omega)).mono ?_
  rintro e w21 ⟨rfl, q21⟩
  have g21 := q21.gb
  have R21 : w20.grownBy w21 none := gb_trans (by repeat (first | with_reducible exact gb_refl _ | refine gb_alloc ?_ _ | refine gb_drewN ?_ _ | refine gb_drew ?_)) g21
  have T21 : Below w.heap.size w w21 := below_next T20 R21
  have z21 := R21.size
  replace o_w0 := o_w0.keep0 R21
  replace o_w1 := o_w1.keep0 R21
  replace o_x0 := o_x0.keep0 R21
  replace o_g0 := o_g0.keep0 R21
  replace o_g1 := o_g1.keep0 R21
  replace o_h0 := o_h0.keep0 R21
  replace o_h1 := o_h1.keep0 R21
  clear cc_aD cc_w0 cc_x0 cc_g0 cc_h0
  replace bb_aD := bb_aD.keep0 R21
  replace bb_w0 := bb_w0.keep0 R21
  replace bb_x0 := bb_x0.keep0 R21
  replace bb_g0 := bb_g0.keep0 R21
  replace bb_h0 := bb_h0.keep0 R21
  have cc_aD := fun o => bb_aD.cell o
  have ll_aD_21 := bb_aD.lt
  have cc_w0 := fun o => bb_w0.cell o
  have ll_w0_21 := bb_w0.lt
  have cc_x0 := fun o => bb_x0.cell o
  have ll_x0_21 := bb_x0.lt
  have cc_g0 := fun o => bb_g0.cell o
  have ll_g0_21 := bb_g0.lt
  have cc_h0 := fun o => bb_h0.cell o
  have ll_h0_21 := bb_h0.lt
  go_wp2
  go_ret
  exact ⟨rfl, T21⟩
set_option maxRecDepth 100000 in
theorem lifted (os : Os) (started : os.Started) (H : Type) (enc : TypeId × Value → H) :
    ReturnsInHanded {} Try.checked os 8 .any (Rows.fnExactRollSpec.pre6 enc Try.prog Try.f8 Rows.fnExactRollRow.domain false) (Rows.fnExactRollSpec.post enc Try.prog Try.f8 false true false false) := by
  refine returnsInHanded_of_change (C := Try.checked) own started (by kernel_rfl) Try.func8
    (ChangeSpec.witness6 (enc := enc) (C := Try.checked) false ⟨#[], #[.agg #[.slice none 0 0, .int .i64 0]], []⟩ 8 (by kernel_rfl) (by kernel_rfl) (by kernel_rfl) (by kernel_rfl)) ?_
  intro W base args ds gs before hval0 hW _ _
  have hval : ∀ (j : Nat) t v, Try.f8.params[j]? = some t → args[j]? = some v → Value.okWide Try.prog W .any base t v := hval0
  have hW2 := hW
  obtain ⟨p, q, hA0, hV, hps, _, _⟩ := hW
  have hA : DataW.TrodAll enc Try.prog W 0 (fun _ => true) true Try.f8.params.toList args.toList ds p := hA0
  rw [Try.params8] at hA hval
  obtain ⟨rfl, rfl⟩ := trodVars_none hV
  obtain ⟨v0, vs0, d0, ds0, p0, q0, hargs, rfl, rfl, h0, r0⟩ := trodAll_cons hA
  obtain ⟨rfl, rfl, rfl⟩ := trodAll_nil r0
  obtain rfl : args = #[v0] := by cases args; simp_all
  have i0 := open_Dice (hval 0 65 v0 rfl rfl) h0
  clear hA0 hval0
  refine (walk W v0 i0).mono fun e W2 ⟨he, hb⟩ => ?_
  subst he
  exact ⟨_, rfl, law_post (tb := 4) laidOut (by kernel_rfl) (by kernel_rfl) Try.underlying4 rfl ⟨rfl, rfl, rfl⟩ hW2 hb⟩
theorem over : Rows.fnExactRollRow.holds Try.pinned (OpenSpec.ofChange Rows.fnExactRollSpec) :=
  OpenClaim.holds_of_wide 8 Try.f8 rfl rfl rfl rfl rfl rfl rfl ⟨rfl, rfl, rfl, rfl, rfl⟩ rfl rfl rfl rfl rfl (by kernel_rfl) Try.func8 (by kernel_rfl)
    (of_decide_eq_true (by kernel_rfl)) (by unfold Func.isWrapper; first | (rw [if_pos (by decide +kernel)]; kernel_rfl) | (rw [if_neg (by decide +kernel)]; exact ⟨rfl, rfl⟩))
    (fun os started H enc _ => lifted os started H enc)
theorem proved : Rows.FnExactRollSaid :=
  over
#print axioms proved
end Go.Proofs.Ytpkhmbibemfhhaa.lRoll
