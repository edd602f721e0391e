/-
  FnExactWind returns true for every generator and number. Conditions: none.
-/
import Derived.Test.YtpkjlhooiaedmaaLaw
import Derived.Test.YtpkjlhooiaedmaaWind
import Derived.Deep.RegionHeld3
namespace Go.Proofs.Ytpkjlhooiaedmaa.lWind
open Go.ChangeShapes Go.WideShapes Go.ChangeAt Go.RowKit
theorem windM_tot (f : DiceM) (n : Int) : (windM f n).tot = f.tot := by
  unfold windM
  split <;> rfl
theorem LS_Wind (v : Value) (f : DiceM) (n : Int) (w : World) (h : DiceR w v f) (hs : f.tot ≤ 1048576) : Calls Try.prog 26 #[v, .int .i64 n] w fun e w' => ∃ v', e = .returned v' ∧ DiceO w.heap.size w'.heap.size w' v' (windM f n) ∧ w.grownBy w' none :=
  spec_Wind v f n w h (by simp only [DiceM.tot] at hs; omega)
theorem LI_Wind (v : Value) (f : DiceM) (n : Int) (w : World) (h : DiceR w v f) (hs : f.tot ≤ 1048576) : Calls Try.prog 28 #[v, .int .i64 n] w fun e w' => ∃ v', e = .returned v' ∧ DiceO w.heap.size w'.heap.size w' v' (windM f n) ∧ w.grownBy w' none :=
  impl_Wind v f n w h (by simp only [DiceM.tot] at hs; omega)
set_option maxRecDepth 100000 in
set_option maxHeartbeats 4000000 in
theorem walk (w : World) (v0 v1 : Value) (h0 : InDice w v0) (h1 : InInt v1) : Calls Try.prog 6 #[v0, v1] w fun e w' => e = .returned (.bool true) ∧ Below w.heap.size w w' := by
  obtain ⟨f0, hR0, hL0⟩ := h0
  have hS0 := hR0.shape
  obtain ⟨a0_0, n0_0, c0_0, rfl⟩ := hS0
  obtain ⟨x1, rfl, hx1⟩ := h1
  have T0 : Below w.heap.size w w := Below.refl _ _
  go_enter Try.func6, Try.ntmps6
  rcases Nat.lt_or_ge (1048576) f0.tot with p0 | p0
  · go_wp2_with fail
    refine (laws_szDice _ f0 (1048576) _ ((hR0.below T0).keep0 (by repeat (first | with_reducible exact gb_refl _ | refine gb_alloc ?_ _ | refine gb_drewN ?_ _ | refine gb_drew ?_))) (by omega) (hL0.len1)).mono ?_
    rintro e w9 ⟨_, hn9, g9⟩
    obtain rfl := hn9 p0
    clear hn9
    go_wp2
    go_ret
    exact ⟨rfl, below_next T0 (gb_trans (by repeat (first | with_reducible exact gb_refl _ | refine gb_alloc ?_ _ | refine gb_drewN ?_ _ | refine gb_drew ?_)) g9)⟩
  have P0 := Lib.hid p0
  clear p0
  go_wp2_with fail
  refine (laws_szDice _ f0 (1048576) _ ((hR0.below T0).keep0 (by repeat (first | with_reducible exact gb_refl _ | refine gb_alloc ?_ _ | refine gb_drewN ?_ _ | refine gb_drew ?_))) (by omega) (hL0.len1)).mono ?_
  rintro e w1 ⟨hy9, hn9, g1⟩
  obtain rfl := hy9 P0.out
  clear hy9 hn9
  have R1 : w.grownBy w1 none := gb_trans (by repeat (first | with_reducible exact gb_refl _ | refine gb_alloc ?_ _ | refine gb_drewN ?_ _ | refine gb_drew ?_)) g1
  have T1 : Below w.heap.size w w1 := below_next T0 R1
  have z1 := R1.size
  have bb_aD : Bx w1 (w.heap.size) 37 #[.slice a0_0 n0_0 c0_0, .int .i64 f0.n] := (bx1 w _ _).keep0 g1
  have cc_aD := fun o => bb_aD.cell o
  have ll_aD_1 := bb_aD.lt
  go_wp2_with fail
  refine (laws_toDice _ f0 _ ((hR0.below T1).keep0 (by repeat (first | with_reducible exact gb_refl _ | refine gb_alloc ?_ _ | refine gb_drewN ?_ _ | refine gb_drew ?_))) (by have := P0.out; simp only [DiceM.tot] at this; omega)).mono ?_
  rintro e w2 ⟨v_tw00, rfl, o_tw00, g2⟩
  obtain ⟨a_tw00_0, n_tw00_0, c_tw00_0, rfl⟩ := o_tw00.r.shape
  have R2 : w1.grownBy w2 none := gb_trans (by repeat (first | with_reducible exact gb_refl _ | refine gb_alloc ?_ _ | refine gb_drewN ?_ _ | refine gb_drew ?_)) g2
  have T2 : Below w.heap.size w w2 := below_next T1 R2
  have z2 := R2.size
  clear cc_aD
  replace bb_aD := bb_aD.keep0 R2
  have cc_aD := fun o => bb_aD.cell o
  have ll_aD_2 := bb_aD.lt
  replace o_tw00 := o_tw00.low (B' := w1.heap.size) (by first | exact Nat.le_refl _ | (simp; done) | (simp; omega))
  go_wp2_with fail
  refine (LS_Wind _ f0 x1 _ (o_tw00.r.keep0 (by repeat (first | with_reducible exact gb_refl _ | refine gb_alloc ?_ _ | refine gb_drewN ?_ _ | refine gb_drew ?_))) (by have := P0.out; omega)).mono ?_
  rintro e w3 ⟨v_w0, rfl, o_w0, g3⟩
  obtain ⟨a_w0_0, n_w0_0, c_w0_0, rfl⟩ := o_w0.r.shape
  have R3 : w2.grownBy w3 none := gb_trans (by repeat (first | with_reducible exact gb_refl _ | refine gb_alloc ?_ _ | refine gb_drewN ?_ _ | refine gb_drew ?_)) g3
  have T3 : Below w.heap.size w w3 := below_next T2 R3
  have z3 := R3.size
  replace o_tw00 := o_tw00.keep0 R3
  clear cc_aD
  replace bb_aD := bb_aD.keep0 R3
  have cc_aD := fun o => bb_aD.cell o
  have ll_aD_3 := bb_aD.lt
  replace o_w0 := o_w0.low (B' := w2.heap.size) (by first | exact Nat.le_refl _ | (simp; done) | (simp; omega))
  clear o_tw00
  go_wp2_with fail
  refine (laws_toDice _ f0 _ ((hR0.below T3).keep0 (by repeat (first | with_reducible exact gb_refl _ | refine gb_alloc ?_ _ | refine gb_drewN ?_ _ | refine gb_drew ?_))) (by have := P0.out; simp only [DiceM.tot] at this; omega)).mono ?_
  rintro e w4 ⟨v_x0, rfl, o_x0, g4⟩
  obtain ⟨a_x0_0, n_x0_0, c_x0_0, rfl⟩ := o_x0.r.shape
  have R4 : w3.grownBy w4 none := gb_trans (by repeat (first | with_reducible exact gb_refl _ | refine gb_alloc ?_ _ | refine gb_drewN ?_ _ | refine gb_drew ?_)) g4
  have T4 : Below w.heap.size w w4 := below_next T3 R4
  have z4 := R4.size
  replace o_w0 := o_w0.keep0 R4
  clear cc_aD
  replace bb_aD := bb_aD.keep0 R4
  have bb_w0 : Bx w4 (w3.heap.size) 39 #[.slice a_w0_0 n_w0_0 c_w0_0, .int .i64 ((windM f0 x1)).n] := (bx1 w3 _ _).keep0 g4
  have cc_aD := fun o => bb_aD.cell o
  have ll_aD_4 := bb_aD.lt
  have cc_w0 := fun o => bb_w0.cell o
  have ll_w0_4 := bb_w0.lt
  replace o_x0 := o_x0.low (B' := w3.heap.size + 1) (by first | exact Nat.le_refl _ | (simp; done) | (simp; omega))
  go_wp2_with fail
  refine (LI_Wind _ f0 x1 _ (o_x0.r.keep0 (by repeat (first | with_reducible exact gb_refl _ | refine gb_alloc ?_ _ | refine gb_drewN ?_ _ | refine gb_drew ?_))) (by have := P0.out; omega)).mono ?_
  rintro e w5 ⟨v_g0, rfl, o_g0, g5⟩
  obtain ⟨a_g0_0, n_g0_0, c_g0_0, rfl⟩ := o_g0.r.shape
  have R5 : w4.grownBy w5 none := gb_trans (by repeat (first | with_reducible exact gb_refl _ | refine gb_alloc ?_ _ | refine gb_drewN ?_ _ | refine gb_drew ?_)) g5
  have T5 : Below w.heap.size w w5 := below_next T4 R5
  have z5 := R5.size
  replace o_w0 := o_w0.keep0 R5
  replace o_x0 := o_x0.keep0 R5
  clear cc_aD cc_w0
  replace bb_aD := bb_aD.keep0 R5
  replace bb_w0 := bb_w0.keep0 R5
  have bb_x0 : Bx w5 (w4.heap.size) 39 #[.slice a_x0_0 n_x0_0 c_x0_0, .int .i64 f0.n] := (bx1 w4 _ _).keep0 g5
  have cc_aD := fun o => bb_aD.cell o
  have ll_aD_5 := bb_aD.lt
  have cc_w0 := fun o => bb_w0.cell o
  have ll_w0_5 := bb_w0.lt
  have cc_x0 := fun o => bb_x0.cell o
  have ll_x0_5 := bb_x0.lt
  replace o_g0 := o_g0.low (B' := w4.heap.size + 1) (by first | exact Nat.le_refl _ | (simp; done) | (simp; omega))
  go_wp2_with fail
  refine (laws_eqDice _ _ (windM f0 x1) _ (o_g0.r.keep0 (by repeat (first | with_reducible exact gb_refl _ | refine gb_alloc ?_ _ | refine gb_drewN ?_ _ | refine gb_drew ?_))) (o_w0.r.keep0 (by repeat (first | with_reducible exact gb_refl _ | refine gb_alloc ?_ _ | refine gb_drewN ?_ _ | refine gb_drew ?_))) (by have h9 := (show (windM f0 x1).tot ≤ 1048576 by rw [windM_tot]; exact P0.out); simp only [DiceM.tot] at h9; omega)).mono ?_
  rintro e w6 ⟨rfl, g6⟩
  have R6 : w5.grownBy w6 none := gb_trans (by repeat (first | with_reducible exact gb_refl _ | refine gb_alloc ?_ _ | refine gb_drewN ?_ _ | refine gb_drew ?_)) g6
  have T6 : Below w.heap.size w w6 := below_next T5 R6
  have z6 := R6.size
  replace o_w0 := o_w0.keep0 R6
  replace o_x0 := o_x0.keep0 R6
  replace o_g0 := o_g0.keep0 R6
  clear cc_aD cc_w0 cc_x0
  replace bb_aD := bb_aD.keep0 R6
  replace bb_w0 := bb_w0.keep0 R6
  replace bb_x0 := bb_x0.keep0 R6
  have bb_g0 : Bx w6 (w5.heap.size) 39 #[.slice a_g0_0 n_g0_0 c_g0_0, .int .i64 ((windM f0 x1)).n] := (bx1 w5 _ _).keep0 g6
  have cc_aD := fun o => bb_aD.cell o
  have ll_aD_6 := bb_aD.lt
  have cc_w0 := fun o => bb_w0.cell o
  have ll_w0_6 := bb_w0.lt
  have cc_x0 := fun o => bb_x0.cell o
  have ll_x0_6 := bb_x0.lt
  have cc_g0 := fun o => bb_g0.cell o
  have ll_g0_6 := bb_g0.lt
  go_wp2_with fail
  have KX : Hid (∀ w', w6.grownBy w' none → (w'.cell? ⟨w.heap.size, 0, none⟩ = some (.slice a0_0 n0_0 c0_0) ∧ w'.cell? ⟨w.heap.size, 1, none⟩ = some (.int .i64 f0.n) ∧ w'.cell? ⟨w4.heap.size, 0, none⟩ = some (.slice a_x0_0 n_x0_0 c_x0_0) ∧ w'.cell? ⟨w4.heap.size, 1, none⟩ = some (.int .i64 f0.n) ∧ w6.grownBy w' none)) :=
    fun w' hg => ⟨(bb_aD.keep0 hg).cell 0, (bb_aD.keep0 hg).cell 1, (bb_x0.keep0 hg).cell 0, (bb_x0.keep0 hg).cell 1, hg⟩
  clear cc_aD cc_w0 cc_x0 cc_g0
  go_region_held3 (fun w' => w'.cell? ⟨w.heap.size, 0, none⟩ = some (.slice a0_0 n0_0 c0_0) ∧ w'.cell? ⟨w.heap.size, 1, none⟩ = some (.int .i64 f0.n) ∧ w'.cell? ⟨w4.heap.size, 0, none⟩ = some (.slice a_x0_0 n_x0_0 c_x0_0) ∧ w'.cell? ⟨w4.heap.size, 1, none⟩ = some (.int .i64 f0.n) ∧ w6.grownBy w' none)
    ((refine KX.out _ ?_; first | exact gb_drew (gb_refl _) | exact gb_trans (gb_trans (gb_drew (gb_refl _)) g7a) g7b | exact gb_trans (gb_drew (gb_refl _)) g7a))
    (first
      | (go_at_call 27; refine (laws_toDice _ f0 _ ((hR0.below T6).keep0 (gb_drew (gb_refl _))) (by have := P0.out; simp only [DiceM.tot] at this; omega)).mono ?_; rintro e wy7 ⟨vy, rfl, oy, g7a⟩; obtain ⟨a_yx0_0, n_yx0_0, c_yx0_0, rfl⟩ := oy.r.shape)
      | (go_at_call 29; refine (laws_eqDice _ _ f0 _ (o_x0.r.keep0 (gb_trans (gb_drew (gb_refl _)) g7a)) oy.r (by have h9 := (by have := P0.out; omega); simp only [DiceM.tot] at h9; omega)).mono ?_; rintro e w7 ⟨rfl, g7b⟩))
  have g7 := gb_trans g7a g7b
  have cc_aD : True := trivial
  have cc_w0 : True := trivial
  have cc_x0 : True := trivial
  have cc_g0 : True := trivial
  have R7 : w6.grownBy w7 none := gb_trans (gb_drew (gb_refl _)) (gb_trans g7a g7b)
  have T7 : Below w.heap.size w w7 := below_next T6 R7
  have z7 := R7.size
  replace o_w0 := o_w0.keep0 R7
  replace o_x0 := o_x0.keep0 R7
  replace o_g0 := o_g0.keep0 R7
  clear cc_aD cc_w0 cc_x0 cc_g0
  replace bb_aD := bb_aD.keep0 R7
  replace bb_w0 := bb_w0.keep0 R7
  replace bb_x0 := bb_x0.keep0 R7
  replace bb_g0 := bb_g0.keep0 R7
  have cc_aD := fun o => bb_aD.cell o
  have ll_aD_7 := bb_aD.lt
  have cc_w0 := fun o => bb_w0.cell o
  have ll_w0_7 := bb_w0.lt
  have cc_x0 := fun o => bb_x0.cell o
  have ll_x0_7 := bb_x0.lt
  have cc_g0 := fun o => bb_g0.cell o
  have ll_g0_7 := bb_g0.lt
  clear KX oy
  go_wp2_with fail
  refine (laws_markDice (w3.heap.size + 1) (w4.heap.size) _ f0 (1) _ (o_x0.keep0 (by repeat (first | with_reducible exact gb_refl _ | refine gb_alloc ?_ _ | refine gb_drewN ?_ _ | refine gb_drew ?_))) (by have h9 := (by have := P0.out; omega); omega)).mono ?_
  rintro e w8 ⟨rfl, z_x0, g8⟩
  replace o_x0 := z_x0
  clear z_x0
  have R8 : gbI (w3.heap.size + 1) (w4.heap.size) w7 w8 := (gbI.of0 (by repeat (first | with_reducible exact gb_refl _ | refine gb_alloc ?_ _ | refine gb_drewN ?_ _ | refine gb_drew ?_))).trans g8
  have T8 : Below w.heap.size w w8 := below_nextI T7 R8 (by omega)
  have z8 := R8.size
  replace o_w0 := o_w0.keepI R8 (by omega)
  replace o_g0 := o_g0.keepI R8 (by omega)
  clear cc_aD cc_w0 cc_x0 cc_g0
  replace bb_aD := bb_aD.keepI R8 (by have := bb_aD.lt; omega)
  replace bb_w0 := bb_w0.keepI R8 (by have := bb_w0.lt; omega)
  replace bb_x0 := bb_x0.keepI R8 (by have := bb_x0.lt; omega)
  replace bb_g0 := bb_g0.keepI R8 (by have := bb_g0.lt; omega)
  have cc_aD := fun o => bb_aD.cell o
  have ll_aD_8 := bb_aD.lt
  have cc_w0 := fun o => bb_w0.cell o
  have ll_w0_8 := bb_w0.lt
  have cc_x0 := fun o => bb_x0.cell o
  have ll_x0_8 := bb_x0.lt
  have cc_g0 := fun o => bb_g0.cell o
  have ll_g0_8 := bb_g0.lt
  go_wp2_with fail
  refine (laws_eqDice _ _ (windM f0 x1) _ (o_g0.r.keep0 (by repeat (first | with_reducible exact gb_refl _ | refine gb_alloc ?_ _ | refine gb_drewN ?_ _ | refine gb_drew ?_))) (o_w0.r.keep0 (by repeat (first | with_reducible exact gb_refl _ | refine gb_alloc ?_ _ | refine gb_drewN ?_ _ | refine gb_drew ?_))) (by have h9 := (show (windM f0 x1).tot ≤ 1048576 by rw [windM_tot]; exact P0.out); simp only [DiceM.tot] at h9; omega)).mono ?_
  rintro e w9 ⟨rfl, g9⟩
  have R9 : w8.grownBy w9 none := gb_trans (by repeat (first | with_reducible exact gb_refl _ | refine gb_alloc ?_ _ | refine gb_drewN ?_ _ | refine gb_drew ?_)) g9
  have T9 : Below w.heap.size w w9 := below_next T8 R9
  have z9 := R9.size
  replace o_w0 := o_w0.keep0 R9
  replace o_x0 := o_x0.keep0 R9
  replace o_g0 := o_g0.keep0 R9
  clear cc_aD cc_w0 cc_x0 cc_g0
  replace bb_aD := bb_aD.keep0 R9
  replace bb_w0 := bb_w0.keep0 R9
  replace bb_x0 := bb_x0.keep0 R9
  replace bb_g0 := bb_g0.keep0 R9
  have cc_aD := fun o => bb_aD.cell o
  have ll_aD_9 := bb_aD.lt
  have cc_w0 := fun o => bb_w0.cell o
  have ll_w0_9 := bb_w0.lt
  have cc_x0 := fun o => bb_x0.cell o
  have ll_x0_9 := bb_x0.lt
  have cc_g0 := fun o => bb_g0.cell o
  have ll_g0_9 := bb_g0.lt
  go_wp2_with fail
  refine (laws_markDice (w4.heap.size + 1) (w5.heap.size) _ ((windM f0 x1)) (1) _ (o_g0.keep0 (by repeat (first | with_reducible exact gb_refl _ | refine gb_alloc ?_ _ | refine gb_drewN ?_ _ | refine gb_drew ?_))) (by have h9 := (show (windM f0 x1).tot ≤ 1048576 by rw [windM_tot]; exact P0.out); omega)).mono ?_
  rintro e w10 ⟨rfl, z_g0, g10⟩
  replace o_g0 := z_g0
  clear z_g0
  have R10 : gbI (w4.heap.size + 1) (w5.heap.size) w9 w10 := (gbI.of0 (by repeat (first | with_reducible exact gb_refl _ | refine gb_alloc ?_ _ | refine gb_drewN ?_ _ | refine gb_drew ?_))).trans g10
  have T10 : Below w.heap.size w w10 := below_nextI T9 R10 (by omega)
  have z10 := R10.size
  replace o_w0 := o_w0.keepI R10 (by omega)
  replace o_x0 := o_x0.keepI R10 (by omega)
  clear cc_aD cc_w0 cc_x0 cc_g0
  replace bb_aD := bb_aD.keepI R10 (by have := bb_aD.lt; omega)
  replace bb_w0 := bb_w0.keepI R10 (by have := bb_w0.lt; omega)
  replace bb_x0 := bb_x0.keepI R10 (by have := bb_x0.lt; omega)
  replace bb_g0 := bb_g0.keepI R10 (by have := bb_g0.lt; omega)
  have cc_aD := fun o => bb_aD.cell o
  have ll_aD_10 := bb_aD.lt
  have cc_w0 := fun o => bb_w0.cell o
  have ll_w0_10 := bb_w0.lt
  have cc_x0 := fun o => bb_x0.cell o
  have ll_x0_10 := bb_x0.lt
  have cc_g0 := fun o => bb_g0.cell o
  have ll_g0_10 := bb_g0.lt
  go_wp2_with fail
  refine (laws_heldDice _ ((windM f0 x1)) (1) _ (o_g0.r.keep0 (by repeat (first | with_reducible exact gb_refl _ | refine gb_alloc ?_ _ | refine gb_drewN ?_ _ | refine gb_drew ?_))) (by have h9 := (show (windM f0 x1).tot ≤ 1048576 by rw [windM_tot]; exact P0.out); have := (show (windM f0 x1).tot ≤ 1048576 by rw [windM_tot]; exact P0.out); omega)).mono ?_
  rintro e w11 ⟨rfl, g11⟩
  have R11 : w10.grownBy w11 none := gb_trans (by repeat (first | with_reducible exact gb_refl _ | refine gb_alloc ?_ _ | refine gb_drewN ?_ _ | refine gb_drew ?_)) g11
  have T11 : Below w.heap.size w w11 := below_next T10 R11
  have z11 := R11.size
  replace o_w0 := o_w0.keep0 R11
  replace o_x0 := o_x0.keep0 R11
  replace o_g0 := o_g0.keep0 R11
  clear cc_aD cc_w0 cc_x0 cc_g0
  replace bb_aD := bb_aD.keep0 R11
  replace bb_w0 := bb_w0.keep0 R11
  replace bb_x0 := bb_x0.keep0 R11
  replace bb_g0 := bb_g0.keep0 R11
  have cc_aD := fun o => bb_aD.cell o
  have ll_aD_11 := bb_aD.lt
  have cc_w0 := fun o => bb_w0.cell o
  have ll_w0_11 := bb_w0.lt
  have cc_x0 := fun o => bb_x0.cell o
  have ll_x0_11 := bb_x0.lt
  have cc_g0 := fun o => bb_g0.cell o
  have ll_g0_11 := bb_g0.lt
  go_wp2_with fail
  refine (laws_toDice _ f0 _ ((hR0.below T11).keep0 (by repeat (first | with_reducible exact gb_refl _ | refine gb_alloc ?_ _ | refine gb_drewN ?_ _ | refine gb_drew ?_))) (by have := P0.out; simp only [DiceM.tot] at this; omega)).mono ?_
  rintro e w12 ⟨v_th00, rfl, o_th00, g12⟩
  obtain ⟨a_th00_0, n_th00_0, c_th00_0, rfl⟩ := o_th00.r.shape
  have R12 : w11.grownBy w12 none := gb_trans (by repeat (first | with_reducible exact gb_refl _ | refine gb_alloc ?_ _ | refine gb_drewN ?_ _ | refine gb_drew ?_)) g12
  have T12 : Below w.heap.size w w12 := below_next T11 R12
  have z12 := R12.size
  replace o_w0 := o_w0.keep0 R12
  replace o_x0 := o_x0.keep0 R12
  replace o_g0 := o_g0.keep0 R12
  clear cc_aD cc_w0 cc_x0 cc_g0
  replace bb_aD := bb_aD.keep0 R12
  replace bb_w0 := bb_w0.keep0 R12
  replace bb_x0 := bb_x0.keep0 R12
  replace bb_g0 := bb_g0.keep0 R12
  have cc_aD := fun o => bb_aD.cell o
  have ll_aD_12 := bb_aD.lt
  have cc_w0 := fun o => bb_w0.cell o
  have ll_w0_12 := bb_w0.lt
  have cc_x0 := fun o => bb_x0.cell o
  have ll_x0_12 := bb_x0.lt
  have cc_g0 := fun o => bb_g0.cell o
  have ll_g0_12 := bb_g0.lt
  replace o_th00 := o_th00.low (B' := w11.heap.size) (by first | exact Nat.le_refl _ | (simp; done) | (simp; omega))
  go_wp2_with fail
  refine (LI_Wind _ f0 x1 _ (o_th00.r.keep0 (by repeat (first | with_reducible exact gb_refl _ | refine gb_alloc ?_ _ | refine gb_drewN ?_ _ | refine gb_drew ?_))) (by have := P0.out; omega)).mono ?_
  rintro e w13 ⟨v_h0, rfl, o_h0, g13⟩
  obtain ⟨a_h0_0, n_h0_0, c_h0_0, rfl⟩ := o_h0.r.shape
  have R13 : w12.grownBy w13 none := gb_trans (by repeat (first | with_reducible exact gb_refl _ | refine gb_alloc ?_ _ | refine gb_drewN ?_ _ | refine gb_drew ?_)) g13
  have T13 : Below w.heap.size w w13 := below_next T12 R13
  have z13 := R13.size
  replace o_w0 := o_w0.keep0 R13
  replace o_x0 := o_x0.keep0 R13
  replace o_g0 := o_g0.keep0 R13
  replace o_th00 := o_th00.keep0 R13
  clear cc_aD cc_w0 cc_x0 cc_g0
  replace bb_aD := bb_aD.keep0 R13
  replace bb_w0 := bb_w0.keep0 R13
  replace bb_x0 := bb_x0.keep0 R13
  replace bb_g0 := bb_g0.keep0 R13
  have cc_aD := fun o => bb_aD.cell o
  have ll_aD_13 := bb_aD.lt
  have cc_w0 := fun o => bb_w0.cell o
  have ll_w0_13 := bb_w0.lt
  have cc_x0 := fun o => bb_x0.cell o
  have ll_x0_13 := bb_x0.lt
  have cc_g0 := fun o => bb_g0.cell o
  have ll_g0_13 := bb_g0.lt
  replace o_h0 := o_h0.low (B' := w12.heap.size) (by first | exact Nat.le_refl _ | (simp; done) | (simp; omega))
  clear o_th00
  go_wp2_with fail
  refine (laws_eqDice _ _ (windM f0 x1) _ (o_h0.r.keep0 (by repeat (first | with_reducible exact gb_refl _ | refine gb_alloc ?_ _ | refine gb_drewN ?_ _ | refine gb_drew ?_))) (o_w0.r.keep0 (by repeat (first | with_reducible exact gb_refl _ | refine gb_alloc ?_ _ | refine gb_drewN ?_ _ | refine gb_drew ?_))) (by have h9 := (show (windM f0 x1).tot ≤ 1048576 by rw [windM_tot]; exact P0.out); simp only [DiceM.tot] at h9; omega)).mono ?_
  rintro e w14 ⟨rfl, g14⟩
  have R14 : w13.grownBy w14 none := gb_trans (by repeat (first | with_reducible exact gb_refl _ | refine gb_alloc ?_ _ | refine gb_drewN ?_ _ | refine gb_drew ?_)) g14
  have T14 : Below w.heap.size w w14 := below_next T13 R14
  have z14 := R14.size
  replace o_w0 := o_w0.keep0 R14
  replace o_x0 := o_x0.keep0 R14
  replace o_g0 := o_g0.keep0 R14
  replace o_h0 := o_h0.keep0 R14
  clear cc_aD cc_w0 cc_x0 cc_g0
  replace bb_aD := bb_aD.keep0 R14
  replace bb_w0 := bb_w0.keep0 R14
  replace bb_x0 := bb_x0.keep0 R14
  replace bb_g0 := bb_g0.keep0 R14
  have bb_h0 : Bx w14 (w13.heap.size) 39 #[.slice a_h0_0 n_h0_0 c_h0_0, .int .i64 ((windM f0 x1)).n] := (bx1 w13 _ _).keep0 g14
  have cc_aD := fun o => bb_aD.cell o
  have ll_aD_14 := bb_aD.lt
  have cc_w0 := fun o => bb_w0.cell o
  have ll_w0_14 := bb_w0.lt
  have cc_x0 := fun o => bb_x0.cell o
  have ll_x0_14 := bb_x0.lt
  have cc_g0 := fun o => bb_g0.cell o
  have ll_g0_14 := bb_g0.lt
  have cc_h0 := fun o => bb_h0.cell o
  have ll_h0_14 := bb_h0.lt
  go_wp2_with fail
  refine (laws_heldDice _ ((windM f0 x1)) (1) _ (o_g0.r.keep0 (by repeat (first | with_reducible exact gb_refl _ | refine gb_alloc ?_ _ | refine gb_drewN ?_ _ | refine gb_drew ?_))) (by have h9 := (show (windM f0 x1).tot ≤ 1048576 by rw [windM_tot]; exact P0.out); have := (show (windM f0 x1).tot ≤ 1048576 by rw [windM_tot]; exact P0.out); omega)).mono ?_
  rintro e w15 ⟨rfl, g15⟩
  have R15 : w14.grownBy w15 none := gb_trans (by repeat (first | with_reducible exact gb_refl _ | refine gb_alloc ?_ _ | refine gb_drewN ?_ _ | refine gb_drew ?_)) g15
  have T15 : Below w.heap.size w w15 := below_next T14 R15
  have z15 := R15.size
  replace o_w0 := o_w0.keep0 R15
  replace o_x0 := o_x0.keep0 R15
  replace o_g0 := o_g0.keep0 R15
  replace o_h0 := o_h0.keep0 R15
  clear cc_aD cc_w0 cc_x0 cc_g0 cc_h0
  replace bb_aD := bb_aD.keep0 R15
  replace bb_w0 := bb_w0.keep0 R15
  replace bb_x0 := bb_x0.keep0 R15
  replace bb_g0 := bb_g0.keep0 R15
  replace bb_h0 := bb_h0.keep0 R15
  have cc_aD := fun o => bb_aD.cell o
  have ll_aD_15 := bb_aD.lt
  have cc_w0 := fun o => bb_w0.cell o
  have ll_w0_15 := bb_w0.lt
  have cc_x0 := fun o => bb_x0.cell o
  have ll_x0_15 := bb_x0.lt
  have cc_g0 := fun o => bb_g0.cell o
  have ll_g0_15 := bb_g0.lt
  have cc_h0 := fun o => bb_h0.cell o
  have ll_h0_15 := bb_h0.lt
  go_wp2
  go_ret
  exact ⟨rfl, T15⟩
set_option maxRecDepth 100000 in
theorem lifted (os : Os) (started : os.Started) (H : Type) (enc : TypeId × Value → H) :
    ReturnsInHanded {} Try.checked os 6 .any (Rows.fnExactWindSpec.pre6 enc Try.prog Try.f6 Rows.fnExactWindRow.domain false) (Rows.fnExactWindSpec.post enc Try.prog Try.f6 false true false false) := by
  refine returnsInHanded_of_change (C := Try.checked) own started (by kernel_rfl) Try.func6
    (ChangeSpec.witness6 (enc := enc) (C := Try.checked) false ⟨#[], #[.agg #[.slice none 0 0, .int .i64 0], .int .i64 0], []⟩ 8 (by kernel_rfl) (by kernel_rfl) (by kernel_rfl) (by kernel_rfl)) ?_
  intro W base args ds gs before hval0 hW _ _
  have hval : ∀ (j : Nat) t v, Try.f6.params[j]? = some t → args[j]? = some v → Value.okWide Try.prog W .any base t v := hval0
  have hW2 := hW
  obtain ⟨p, q, hA0, hV, hps, _, _⟩ := hW
  have hA : DataW.TrodAll enc Try.prog W 0 (fun _ => true) true Try.f6.params.toList args.toList ds p := hA0
  rw [Try.params6] at hA hval
  obtain ⟨rfl, rfl⟩ := trodVars_none hV
  obtain ⟨v0, vs0, d0, ds0, p0, q0, hargs, rfl, rfl, h0, r0⟩ := trodAll_cons hA
  obtain ⟨v1, vs1, d1, ds1, p1, q1, rfl, rfl, rfl, h1, r1⟩ := trodAll_cons r0
  obtain ⟨rfl, rfl, rfl⟩ := trodAll_nil r1
  obtain rfl : args = #[v0, v1] := by cases args; simp_all
  have i0 := open_Dice (hval 0 37 v0 rfl rfl) h0
  have i1 := open_I (hval 1 3 v1 rfl rfl) h1
  clear hA0 hval0
  refine (walk W v0 v1 i0 i1).mono fun e W2 ⟨he, hb⟩ => ?_
  subst he
  exact ⟨_, rfl, law_post (tb := 4) laidOut (by kernel_rfl) (by kernel_rfl) Try.underlying4 rfl ⟨rfl, rfl, rfl⟩ hW2 hb⟩
theorem over : Rows.fnExactWindRow.holds Try.pinned (OpenSpec.ofChange Rows.fnExactWindSpec) :=
  OpenClaim.holds_of_wide 6 Try.f6 rfl rfl rfl rfl rfl rfl rfl ⟨rfl, rfl, rfl, rfl, rfl⟩ rfl rfl rfl rfl rfl (by kernel_rfl) Try.func6 (by kernel_rfl)
    (of_decide_eq_true (by kernel_rfl)) (by unfold Func.isWrapper; first | (rw [if_pos (by decide +kernel)]; kernel_rfl) | (rw [if_neg (by decide +kernel)]; exact ⟨rfl, rfl⟩))
    (fun os started H enc _ => lifted os started H enc)
theorem proved : Rows.FnExactWindSaid :=
  over
#print axioms proved
end Go.Proofs.Ytpkjlhooiaedmaa.lWind
