/-
  FnExactProofOk returns true for every secret and frame. Conditions: none.
-/
import Derived.Test.YtfjbfgonkimboaaLaw
import Derived.Test.YtfjbfgonkimboaaAuth
import Derived.Deep.RegionHeld3
namespace Go.Proofs.Ytfjbfgonkimboaa.lProofOk
open Go.ChangeShapes Go.WideShapes Go.ChangeAt Go.RowKit
theorem LS_ProofOk (a0 : Option Addr) (n0 c0 : Nat) (l0 : List UInt8) (v : Value) (f : FrameM) (w : World) (r0 : Rd w a0 n0 c0 (bys l0)) (h : FrameR w v f) (_s0 : l0.length ≤ 1048576) (_hs : f.tot ≤ 1048576) : Calls Try.prog 18 #[.slice a0 n0 c0, v] w fun e w' => e = .returned (.bool (proofOkM l0 f)) ∧ w.grownBy w' none :=
  spec_ProofOk a0 n0 c0 l0 v f w r0 h
theorem LI_ProofOk (a0 : Option Addr) (n0 c0 : Nat) (l0 : List UInt8) (v : Value) (f : FrameM) (w : World) (r0 : Rd w a0 n0 c0 (bys l0)) (h : FrameR w v f) (_s0 : l0.length ≤ 1048576) (_hs : f.tot ≤ 1048576) : Calls Try.prog 20 #[.slice a0 n0 c0, v] w fun e w' => e = .returned (.bool (proofOkM l0 f)) ∧ w.grownBy w' none :=
  impl_ProofOk a0 n0 c0 l0 v f w r0 h
set_option maxRecDepth 100000 in
set_option maxHeartbeats 4000000 in
theorem walk (w : World) (v0 v1 : Value) (h0 : InBytes w v0) (h1 : InFrame w v1) : Calls Try.prog 4 #[v0, v1] w fun e w' => e = .returned (.bool true) ∧ Below w.heap.size w w' := by
  obtain ⟨a0, n0, c0, l0, rfl, hR0, hC0⟩ := h0
  have hN0 := Lib.hid hR0.blen
  obtain ⟨f1, hR1, hL1⟩ := h1
  have hS1 := hR1.shape
  obtain ⟨a1_0, n1_0, c1_0, a1_1, n1_1, c1_1, a1_2, n1_2, c1_2, a1_3, n1_3, c1_3, a1_4, n1_4, c1_4, a1_5, n1_5, c1_5, rfl⟩ := hS1
  have T0 : Below w.heap.size w w := Below.refl _ _
  go_enter Try.func4, Try.ntmps4
  rcases Nat.lt_or_ge 1048576 n0 with p0 | p0
  · go_wp2
    go_ret
    exact ⟨rfl, below_next T0 (by repeat (first | with_reducible exact gb_refl _ | refine gb_alloc ?_ _ | refine gb_drewN ?_ _ | refine gb_drew ?_))⟩
  have P0 := Lib.hid p0
  have p0z : ((n0 : Int) ≤ 1048576) := by have := P0.out; omega
  clear p0
  rcases Nat.lt_or_ge (1048576) f1.tot with p1 | p1
  · go_wp2_with fail
    refine (laws_szFrame _ f1 (1048576) _ ((hR1.below T0).keep0 (by repeat (first | with_reducible exact gb_refl _ | refine gb_alloc ?_ _ | refine gb_drewN ?_ _ | refine gb_drew ?_))) (by omega) (hL1.len1) (hL1.len2) (hL1.len3) (hL1.len4) (hL1.len5) (hL1.len6)).mono ?_
    rintro e w9 ⟨_, hn9, g9⟩
    obtain rfl := hn9 p1
    clear hn9
    go_wp2
    go_ret
    exact ⟨rfl, below_next T0 (gb_trans (by repeat (first | with_reducible exact gb_refl _ | refine gb_alloc ?_ _ | refine gb_drewN ?_ _ | refine gb_drew ?_)) g9)⟩
  have P1 := Lib.hid p1
  clear p1
  go_wp2_with fail
  refine (laws_szFrame _ f1 (1048576) _ ((hR1.below T0).keep0 (by repeat (first | with_reducible exact gb_refl _ | refine gb_alloc ?_ _ | refine gb_drewN ?_ _ | refine gb_drew ?_))) (by omega) (hL1.len1) (hL1.len2) (hL1.len3) (hL1.len4) (hL1.len5) (hL1.len6)).mono ?_
  rintro e w1 ⟨hy9, hn9, g1⟩
  obtain rfl := hy9 P1.out
  clear hy9 hn9
  have R1 : w.grownBy w1 none := gb_trans (by repeat (first | with_reducible exact gb_refl _ | refine gb_alloc ?_ _ | refine gb_drewN ?_ _ | refine gb_drew ?_)) g1
  have T1 : Below w.heap.size w w1 := below_next T0 R1
  have z1 := R1.size
  have bb_aF : Bx w1 (w.heap.size) 33 #[.int .i64 f1.kind, .int .i64 f1.id, .slice a1_0 n1_0 c1_0, .slice a1_1 n1_1 c1_1, .int .i64 f1.tick, .slice a1_2 n1_2 c1_2, .slice a1_3 n1_3 c1_3, .int .i64 f1.epoch, .int .i64 f1.seq, .slice a1_4 n1_4 c1_4, .slice a1_5 n1_5 c1_5] := (bx1 w _ _).keep0 g1
  have cc_aF := fun o => bb_aF.cell o
  have ll_aF_1 := bb_aF.lt
  go_wp2_with fail
  have KX : Hid (∀ w', w1.grownBy w' none → (w'.cell? ⟨w.heap.size, 0, none⟩ = some (.int .i64 f1.kind) ∧ w'.cell? ⟨w.heap.size, 1, none⟩ = some (.int .i64 f1.id) ∧ w'.cell? ⟨w.heap.size, 2, none⟩ = some (.slice a1_0 n1_0 c1_0) ∧ w'.cell? ⟨w.heap.size, 3, none⟩ = some (.slice a1_1 n1_1 c1_1) ∧ w'.cell? ⟨w.heap.size, 4, none⟩ = some (.int .i64 f1.tick) ∧ w'.cell? ⟨w.heap.size, 5, none⟩ = some (.slice a1_2 n1_2 c1_2) ∧ w'.cell? ⟨w.heap.size, 6, none⟩ = some (.slice a1_3 n1_3 c1_3) ∧ w'.cell? ⟨w.heap.size, 7, none⟩ = some (.int .i64 f1.epoch) ∧ w'.cell? ⟨w.heap.size, 8, none⟩ = some (.int .i64 f1.seq) ∧ w'.cell? ⟨w.heap.size, 9, none⟩ = some (.slice a1_4 n1_4 c1_4) ∧ w'.cell? ⟨w.heap.size, 10, none⟩ = some (.slice a1_5 n1_5 c1_5) ∧ w1.grownBy w' none)) :=
    fun w' hg => ⟨(bb_aF.keep0 hg).cell 0, (bb_aF.keep0 hg).cell 1, (bb_aF.keep0 hg).cell 2, (bb_aF.keep0 hg).cell 3, (bb_aF.keep0 hg).cell 4, (bb_aF.keep0 hg).cell 5, (bb_aF.keep0 hg).cell 6, (bb_aF.keep0 hg).cell 7, (bb_aF.keep0 hg).cell 8, (bb_aF.keep0 hg).cell 9, (bb_aF.keep0 hg).cell 10, hg⟩
  clear cc_aF
  have cc_aF : True := trivial
  go_region_held3 (fun w' => w'.cell? ⟨w.heap.size, 0, none⟩ = some (.int .i64 f1.kind) ∧ w'.cell? ⟨w.heap.size, 1, none⟩ = some (.int .i64 f1.id) ∧ w'.cell? ⟨w.heap.size, 2, none⟩ = some (.slice a1_0 n1_0 c1_0) ∧ w'.cell? ⟨w.heap.size, 3, none⟩ = some (.slice a1_1 n1_1 c1_1) ∧ w'.cell? ⟨w.heap.size, 4, none⟩ = some (.int .i64 f1.tick) ∧ w'.cell? ⟨w.heap.size, 5, none⟩ = some (.slice a1_2 n1_2 c1_2) ∧ w'.cell? ⟨w.heap.size, 6, none⟩ = some (.slice a1_3 n1_3 c1_3) ∧ w'.cell? ⟨w.heap.size, 7, none⟩ = some (.int .i64 f1.epoch) ∧ w'.cell? ⟨w.heap.size, 8, none⟩ = some (.int .i64 f1.seq) ∧ w'.cell? ⟨w.heap.size, 9, none⟩ = some (.slice a1_4 n1_4 c1_4) ∧ w'.cell? ⟨w.heap.size, 10, none⟩ = some (.slice a1_5 n1_5 c1_5) ∧ w1.grownBy w' none)
    ((refine KX.out _ ?_; (repeat (first | with_reducible exact gb_refl _ | with_reducible refine gb_alloc ?_ _ | with_reducible refine gb_drewN ?_ _ | with_reducible refine gb_drew ?_ | with_reducible refine gb_trans ?_ g2 | with_reducible refine gb_trans ?_ g3 | with_reducible refine gb_trans ?_ g4))))
    (first
      | (go_at_call 10
         refine (laws_toByteS _ _ _ l0 _ ((hR0.below T1).keep0 (by repeat (first | with_reducible exact gb_refl _ | refine gb_alloc ?_ _ | refine gb_drewN ?_ _ | refine gb_drew ?_))) (by have := P0.out; omega)).mono ?_
         rintro e w2 ⟨a_tw00, c_tw00, rfl, o_tw00, g2⟩
         have u_tw00 := fun p hp => (o_tw00.lt p hp).2
         have R2 : w1.grownBy w2 none := gb_trans (by repeat (first | with_reducible exact gb_refl _ | refine gb_alloc ?_ _ | refine gb_drewN ?_ _ | refine gb_drew ?_)) g2
         have T2 : Below w.heap.size w w2 := below_next T1 R2
         have z2 := R2.size
         clear cc_aF
         replace bb_aF := bb_aF.keep0 R2
         have cc_aF := fun o => bb_aF.cell o
         have ll_aF_2 := bb_aF.lt
         replace o_tw00 := o_tw00.mono (B' := w1.heap.size) (by first | exact Nat.le_refl _ | (simp; done) | (simp; omega)))
      | (go_at_call 19
         refine (laws_toFrame _ f1 _ ((hR1.below T2).keep0 (by repeat (first | with_reducible exact gb_refl _ | refine gb_alloc ?_ _ | refine gb_drewN ?_ _ | refine gb_drew ?_))) (by have := P1.out; simp only [FrameM.tot] at this; omega) (by have := P1.out; simp only [FrameM.tot] at this; omega) (by have := P1.out; simp only [FrameM.tot] at this; omega) (by have := P1.out; simp only [FrameM.tot] at this; omega) (by have := P1.out; simp only [FrameM.tot] at this; omega) (by have := P1.out; simp only [FrameM.tot] at this; omega)).mono ?_
         rintro e w3 ⟨v_tw01, rfl, o_tw01, g3⟩
         obtain ⟨a_tw01_0, n_tw01_0, c_tw01_0, a_tw01_1, n_tw01_1, c_tw01_1, a_tw01_2, n_tw01_2, c_tw01_2, a_tw01_3, n_tw01_3, c_tw01_3, a_tw01_4, n_tw01_4, c_tw01_4, a_tw01_5, n_tw01_5, c_tw01_5, rfl⟩ := o_tw01.r.shape
         have R3 : w2.grownBy w3 none := gb_trans (by repeat (first | with_reducible exact gb_refl _ | refine gb_alloc ?_ _ | refine gb_drewN ?_ _ | refine gb_drew ?_)) g3
         have T3 : Below w.heap.size w w3 := below_next T2 R3
         have z3 := R3.size
         replace o_tw00 := o_tw00.keep0 R3
         clear cc_aF
         replace bb_aF := bb_aF.keep0 R3
         have cc_aF := fun o => bb_aF.cell o
         have ll_aF_3 := bb_aF.lt
         replace o_tw01 := o_tw01.low (B' := w2.heap.size) (by first | exact Nat.le_refl _ | (simp; done) | (simp; omega)))
      | (go_at_call 18
         refine (LS_ProofOk _ _ _ l0 _ f1 _ (o_tw00.rd.keep0 (by repeat (first | with_reducible exact gb_refl _ | refine gb_alloc ?_ _ | refine gb_drewN ?_ _ | refine gb_drew ?_))) (o_tw01.r.keep0 (by repeat (first | with_reducible exact gb_refl _ | refine gb_alloc ?_ _ | refine gb_drewN ?_ _ | refine gb_drew ?_))) (show l0.length ≤ 1048576 by have := hN0.out; have := P0.out; omega) (by have := P1.out; omega)).mono ?_
         rintro e w4 ⟨rfl, g4⟩
         have R4 : w3.grownBy w4 none := gb_trans (by repeat (first | with_reducible exact gb_refl _ | refine gb_alloc ?_ _ | refine gb_drewN ?_ _ | refine gb_drew ?_)) g4
         have T4 : Below w.heap.size w w4 := below_next T3 R4
         have z4 := R4.size
         replace o_tw00 := o_tw00.keep0 R4
         replace o_tw01 := o_tw01.keep0 R4
         clear cc_aF
         replace bb_aF := bb_aF.keep0 R4
         have cc_aF := fun o => bb_aF.cell o
         have ll_aF_4 := bb_aF.lt)
      | fail)
  clear KX
  clear o_tw00 u_tw00
  clear o_tw01
  go_wp2_with fail
  refine (laws_toByteS _ _ _ l0 _ ((hR0.below T4).keep0 (by repeat (first | with_reducible exact gb_refl _ | refine gb_alloc ?_ _ | refine gb_drewN ?_ _ | refine gb_drew ?_))) (by have := P0.out; omega)).mono ?_
  rintro e w5 ⟨a_x0, c_x0, rfl, o_x0, g5⟩
  have u_x0 := fun p hp => (o_x0.lt p hp).2
  have R5 : w4.grownBy w5 none := gb_trans (by repeat (first | with_reducible exact gb_refl _ | refine gb_alloc ?_ _ | refine gb_drewN ?_ _ | refine gb_drew ?_)) g5
  have T5 : Below w.heap.size w w5 := below_next T4 R5
  have z5 := R5.size
  clear cc_aF
  replace bb_aF := bb_aF.keep0 R5
  have cc_aF := fun o => bb_aF.cell o
  have ll_aF_5 := bb_aF.lt
  replace o_x0 := o_x0.mono (B' := w4.heap.size) (by first | exact Nat.le_refl _ | (simp; done) | (simp; omega))
  go_wp2_with fail
  refine (laws_toFrame _ f1 _ ((hR1.below T5).keep0 (by repeat (first | with_reducible exact gb_refl _ | refine gb_alloc ?_ _ | refine gb_drewN ?_ _ | refine gb_drew ?_))) (by have := P1.out; simp only [FrameM.tot] at this; omega) (by have := P1.out; simp only [FrameM.tot] at this; omega) (by have := P1.out; simp only [FrameM.tot] at this; omega) (by have := P1.out; simp only [FrameM.tot] at this; omega) (by have := P1.out; simp only [FrameM.tot] at this; omega) (by have := P1.out; simp only [FrameM.tot] at this; omega)).mono ?_
  rintro e w6 ⟨v_x1, rfl, o_x1, g6⟩
  obtain ⟨a_x1_0, n_x1_0, c_x1_0, a_x1_1, n_x1_1, c_x1_1, a_x1_2, n_x1_2, c_x1_2, a_x1_3, n_x1_3, c_x1_3, a_x1_4, n_x1_4, c_x1_4, a_x1_5, n_x1_5, c_x1_5, rfl⟩ := o_x1.r.shape
  have R6 : w5.grownBy w6 none := gb_trans (by repeat (first | with_reducible exact gb_refl _ | refine gb_alloc ?_ _ | refine gb_drewN ?_ _ | refine gb_drew ?_)) g6
  have T6 : Below w.heap.size w w6 := below_next T5 R6
  have z6 := R6.size
  replace o_x0 := o_x0.keep0 R6
  clear cc_aF
  replace bb_aF := bb_aF.keep0 R6
  have cc_aF := fun o => bb_aF.cell o
  have ll_aF_6 := bb_aF.lt
  replace o_x1 := o_x1.low (B' := w5.heap.size) (by first | exact Nat.le_refl _ | (simp; done) | (simp; omega))
  go_wp2_with fail
  refine (LI_ProofOk _ _ _ l0 _ f1 _ (o_x0.rd.keep0 (by repeat (first | with_reducible exact gb_refl _ | refine gb_alloc ?_ _ | refine gb_drewN ?_ _ | refine gb_drew ?_))) (o_x1.r.keep0 (by repeat (first | with_reducible exact gb_refl _ | refine gb_alloc ?_ _ | refine gb_drewN ?_ _ | refine gb_drew ?_))) (show l0.length ≤ 1048576 by have := hN0.out; have := P0.out; omega) (by have := P1.out; omega)).mono ?_
  rintro e w7 ⟨rfl, g7⟩
  have R7 : w6.grownBy w7 none := gb_trans (by repeat (first | with_reducible exact gb_refl _ | refine gb_alloc ?_ _ | refine gb_drewN ?_ _ | refine gb_drew ?_)) g7
  have T7 : Below w.heap.size w w7 := below_next T6 R7
  have z7 := R7.size
  replace o_x0 := o_x0.keep0 R7
  replace o_x1 := o_x1.keep0 R7
  clear cc_aF
  replace bb_aF := bb_aF.keep0 R7
  have bb_x1 : Bx w7 (w6.heap.size) 24 #[.int .i64 f1.kind, .int .i64 f1.id, .slice a_x1_0 n_x1_0 c_x1_0, .slice a_x1_1 n_x1_1 c_x1_1, .int .i64 f1.tick, .slice a_x1_2 n_x1_2 c_x1_2, .slice a_x1_3 n_x1_3 c_x1_3, .int .i64 f1.epoch, .int .i64 f1.seq, .slice a_x1_4 n_x1_4 c_x1_4, .slice a_x1_5 n_x1_5 c_x1_5] := (bx1 w6 _ _).keep0 g7
  have cc_aF := fun o => bb_aF.cell o
  have ll_aF_7 := bb_aF.lt
  have cc_x1 := fun o => bb_x1.cell o
  have ll_x1_7 := bb_x1.lt
  go_wp2_with fail
  refine (laws_toByteS _ _ _ l0 _ ((hR0.below T7).keep0 (by repeat (first | with_reducible exact gb_refl _ | refine gb_alloc ?_ _ | refine gb_drewN ?_ _ | refine gb_drew ?_))) (by have := P0.out; omega)).mono ?_
  rintro e w8 ⟨a_tz_x0, c_tz_x0, rfl, o_tz_x0, g8⟩
  have u_tz_x0 := fun p hp => (o_tz_x0.lt p hp).2
  have R8 : w7.grownBy w8 none := gb_trans (by repeat (first | with_reducible exact gb_refl _ | refine gb_alloc ?_ _ | refine gb_drewN ?_ _ | refine gb_drew ?_)) g8
  have T8 : Below w.heap.size w w8 := below_next T7 R8
  have z8 := R8.size
  replace o_x0 := o_x0.keep0 R8
  replace o_x1 := o_x1.keep0 R8
  clear cc_aF cc_x1
  replace bb_aF := bb_aF.keep0 R8
  replace bb_x1 := bb_x1.keep0 R8
  have cc_aF := fun o => bb_aF.cell o
  have ll_aF_8 := bb_aF.lt
  have cc_x1 := fun o => bb_x1.cell o
  have ll_x1_8 := bb_x1.lt
  replace o_tz_x0 := o_tz_x0.mono (B' := w7.heap.size) (by first | exact Nat.le_refl _ | (simp; done) | (simp; omega))
  go_wp2_with fail
  refine (laws_eqByteS_same _ _ _ _ _ _ _ _ (o_x0.rd.keep0 (by repeat (first | with_reducible exact gb_refl _ | refine gb_alloc ?_ _ | refine gb_drewN ?_ _ | refine gb_drew ?_))) (o_tz_x0.rd.keep0 (by repeat (first | with_reducible exact gb_refl _ | refine gb_alloc ?_ _ | refine gb_drewN ?_ _ | refine gb_drew ?_))) (by have h9 := (show l0.length ≤ 1048576 by have := hN0.out; have := P0.out; omega); omega)).mono ?_
  rintro e w9 ⟨rfl, q9⟩
  have g9 := q9.gb
  have R9 : w8.grownBy w9 none := gb_trans (by repeat (first | with_reducible exact gb_refl _ | refine gb_alloc ?_ _ | refine gb_drewN ?_ _ | refine gb_drew ?_)) g9
  have T9 : Below w.heap.size w w9 := below_next T8 R9
  have z9 := R9.size
  replace o_x0 := o_x0.keep0 R9
  replace o_x1 := o_x1.keep0 R9
  replace o_tz_x0 := o_tz_x0.keep0 R9
  clear cc_aF cc_x1
  replace bb_aF := bb_aF.keep0 R9
  replace bb_x1 := bb_x1.keep0 R9
  have cc_aF := fun o => bb_aF.cell o
  have ll_aF_9 := bb_aF.lt
  have cc_x1 := fun o => bb_x1.cell o
  have ll_x1_9 := bb_x1.lt
  clear o_tz_x0 u_tz_x0
  go_wp2_with fail
  have KX : Hid (∀ w', w9.grownBy w' none → (w'.cell? ⟨w.heap.size, 0, none⟩ = some (.int .i64 f1.kind) ∧ w'.cell? ⟨w.heap.size, 1, none⟩ = some (.int .i64 f1.id) ∧ w'.cell? ⟨w.heap.size, 2, none⟩ = some (.slice a1_0 n1_0 c1_0) ∧ w'.cell? ⟨w.heap.size, 3, none⟩ = some (.slice a1_1 n1_1 c1_1) ∧ w'.cell? ⟨w.heap.size, 4, none⟩ = some (.int .i64 f1.tick) ∧ w'.cell? ⟨w.heap.size, 5, none⟩ = some (.slice a1_2 n1_2 c1_2) ∧ w'.cell? ⟨w.heap.size, 6, none⟩ = some (.slice a1_3 n1_3 c1_3) ∧ w'.cell? ⟨w.heap.size, 7, none⟩ = some (.int .i64 f1.epoch) ∧ w'.cell? ⟨w.heap.size, 8, none⟩ = some (.int .i64 f1.seq) ∧ w'.cell? ⟨w.heap.size, 9, none⟩ = some (.slice a1_4 n1_4 c1_4) ∧ w'.cell? ⟨w.heap.size, 10, none⟩ = some (.slice a1_5 n1_5 c1_5) ∧ w'.cell? ⟨w6.heap.size, 0, none⟩ = some (.int .i64 f1.kind) ∧ w'.cell? ⟨w6.heap.size, 1, none⟩ = some (.int .i64 f1.id) ∧ w'.cell? ⟨w6.heap.size, 2, none⟩ = some (.slice a_x1_0 n_x1_0 c_x1_0) ∧ w'.cell? ⟨w6.heap.size, 3, none⟩ = some (.slice a_x1_1 n_x1_1 c_x1_1) ∧ w'.cell? ⟨w6.heap.size, 4, none⟩ = some (.int .i64 f1.tick) ∧ w'.cell? ⟨w6.heap.size, 5, none⟩ = some (.slice a_x1_2 n_x1_2 c_x1_2) ∧ w'.cell? ⟨w6.heap.size, 6, none⟩ = some (.slice a_x1_3 n_x1_3 c_x1_3) ∧ w'.cell? ⟨w6.heap.size, 7, none⟩ = some (.int .i64 f1.epoch) ∧ w'.cell? ⟨w6.heap.size, 8, none⟩ = some (.int .i64 f1.seq) ∧ w'.cell? ⟨w6.heap.size, 9, none⟩ = some (.slice a_x1_4 n_x1_4 c_x1_4) ∧ w'.cell? ⟨w6.heap.size, 10, none⟩ = some (.slice a_x1_5 n_x1_5 c_x1_5) ∧ w9.grownBy w' none)) :=
    fun w' hg => ⟨(bb_aF.keep0 hg).cell 0, (bb_aF.keep0 hg).cell 1, (bb_aF.keep0 hg).cell 2, (bb_aF.keep0 hg).cell 3, (bb_aF.keep0 hg).cell 4, (bb_aF.keep0 hg).cell 5, (bb_aF.keep0 hg).cell 6, (bb_aF.keep0 hg).cell 7, (bb_aF.keep0 hg).cell 8, (bb_aF.keep0 hg).cell 9, (bb_aF.keep0 hg).cell 10, (bb_x1.keep0 hg).cell 0, (bb_x1.keep0 hg).cell 1, (bb_x1.keep0 hg).cell 2, (bb_x1.keep0 hg).cell 3, (bb_x1.keep0 hg).cell 4, (bb_x1.keep0 hg).cell 5, (bb_x1.keep0 hg).cell 6, (bb_x1.keep0 hg).cell 7, (bb_x1.keep0 hg).cell 8, (bb_x1.keep0 hg).cell 9, (bb_x1.keep0 hg).cell 10, hg⟩
  clear cc_aF cc_x1
  go_region_held3 (fun w' => w'.cell? ⟨w.heap.size, 0, none⟩ = some (.int .i64 f1.kind) ∧ w'.cell? ⟨w.heap.size, 1, none⟩ = some (.int .i64 f1.id) ∧ w'.cell? ⟨w.heap.size, 2, none⟩ = some (.slice a1_0 n1_0 c1_0) ∧ w'.cell? ⟨w.heap.size, 3, none⟩ = some (.slice a1_1 n1_1 c1_1) ∧ w'.cell? ⟨w.heap.size, 4, none⟩ = some (.int .i64 f1.tick) ∧ w'.cell? ⟨w.heap.size, 5, none⟩ = some (.slice a1_2 n1_2 c1_2) ∧ w'.cell? ⟨w.heap.size, 6, none⟩ = some (.slice a1_3 n1_3 c1_3) ∧ w'.cell? ⟨w.heap.size, 7, none⟩ = some (.int .i64 f1.epoch) ∧ w'.cell? ⟨w.heap.size, 8, none⟩ = some (.int .i64 f1.seq) ∧ w'.cell? ⟨w.heap.size, 9, none⟩ = some (.slice a1_4 n1_4 c1_4) ∧ w'.cell? ⟨w.heap.size, 10, none⟩ = some (.slice a1_5 n1_5 c1_5) ∧ w'.cell? ⟨w6.heap.size, 0, none⟩ = some (.int .i64 f1.kind) ∧ w'.cell? ⟨w6.heap.size, 1, none⟩ = some (.int .i64 f1.id) ∧ w'.cell? ⟨w6.heap.size, 2, none⟩ = some (.slice a_x1_0 n_x1_0 c_x1_0) ∧ w'.cell? ⟨w6.heap.size, 3, none⟩ = some (.slice a_x1_1 n_x1_1 c_x1_1) ∧ w'.cell? ⟨w6.heap.size, 4, none⟩ = some (.int .i64 f1.tick) ∧ w'.cell? ⟨w6.heap.size, 5, none⟩ = some (.slice a_x1_2 n_x1_2 c_x1_2) ∧ w'.cell? ⟨w6.heap.size, 6, none⟩ = some (.slice a_x1_3 n_x1_3 c_x1_3) ∧ w'.cell? ⟨w6.heap.size, 7, none⟩ = some (.int .i64 f1.epoch) ∧ w'.cell? ⟨w6.heap.size, 8, none⟩ = some (.int .i64 f1.seq) ∧ w'.cell? ⟨w6.heap.size, 9, none⟩ = some (.slice a_x1_4 n_x1_4 c_x1_4) ∧ w'.cell? ⟨w6.heap.size, 10, none⟩ = some (.slice a_x1_5 n_x1_5 c_x1_5) ∧ w9.grownBy w' none)
    ((refine KX.out _ ?_; first | exact gb_drew (gb_refl _) | exact gb_trans (gb_trans (gb_drew (gb_refl _)) g10a) g10b | exact gb_trans (gb_drew (gb_refl _)) g10a))
    (first
      | (go_at_call 19; refine (laws_toFrame _ f1 _ ((hR1.below T9).keep0 (gb_drew (gb_refl _))) (by have := P1.out; simp only [FrameM.tot] at this; omega) (by have := P1.out; simp only [FrameM.tot] at this; omega) (by have := P1.out; simp only [FrameM.tot] at this; omega) (by have := P1.out; simp only [FrameM.tot] at this; omega) (by have := P1.out; simp only [FrameM.tot] at this; omega) (by have := P1.out; simp only [FrameM.tot] at this; omega)).mono ?_; rintro e wy10 ⟨vy, rfl, oy, g10a⟩; obtain ⟨a_yx1_0, n_yx1_0, c_yx1_0, a_yx1_1, n_yx1_1, c_yx1_1, a_yx1_2, n_yx1_2, c_yx1_2, a_yx1_3, n_yx1_3, c_yx1_3, a_yx1_4, n_yx1_4, c_yx1_4, a_yx1_5, n_yx1_5, c_yx1_5, rfl⟩ := oy.r.shape)
      | (go_at_call 12; refine (laws_eqFrame _ _ f1 _ (o_x1.r.keep0 (gb_trans (gb_drew (gb_refl _)) g10a)) oy.r (by have h9 := (by have := P1.out; omega); simp only [FrameM.tot] at h9; omega) (by have h9 := (by have := P1.out; omega); simp only [FrameM.tot] at h9; omega) (by have h9 := (by have := P1.out; omega); simp only [FrameM.tot] at h9; omega) (by have h9 := (by have := P1.out; omega); simp only [FrameM.tot] at h9; omega) (by have h9 := (by have := P1.out; omega); simp only [FrameM.tot] at h9; omega) (by have h9 := (by have := P1.out; omega); simp only [FrameM.tot] at h9; omega)).mono ?_; rintro e w10 ⟨rfl, g10b⟩))
  have g10 := gb_trans g10a g10b
  have cc_aF : True := trivial
  have cc_x1 : True := trivial
  have R10 : w9.grownBy w10 none := gb_trans (gb_drew (gb_refl _)) (gb_trans g10a g10b)
  have T10 : Below w.heap.size w w10 := below_next T9 R10
  have z10 := R10.size
  replace o_x0 := o_x0.keep0 R10
  replace o_x1 := o_x1.keep0 R10
  clear cc_aF cc_x1
  replace bb_aF := bb_aF.keep0 R10
  replace bb_x1 := bb_x1.keep0 R10
  have cc_aF := fun o => bb_aF.cell o
  have ll_aF_10 := bb_aF.lt
  have cc_x1 := fun o => bb_x1.cell o
  have ll_x1_10 := bb_x1.lt
  clear KX oy
  go_wp2
  go_ret
  exact ⟨rfl, T10⟩
set_option maxRecDepth 100000 in
theorem lifted (os : Os) (started : os.Started) (H : Type) (enc : TypeId × Value → H) :
    ReturnsInHanded {} Try.checked os 4 .any (Rows.fnExactProofOkSpec.pre6 enc Try.prog Try.f4 Rows.fnExactProofOkRow.domain false) (Rows.fnExactProofOkSpec.post enc Try.prog Try.f4 false true false false) := by
  refine returnsInHanded_of_change (C := Try.checked) own started (by kernel_rfl) Try.func4
    (ChangeSpec.witness6 (enc := enc) (C := Try.checked) false ⟨#[], #[.slice none 0 0, .agg #[.int .i64 0, .int .i64 0, .slice none 0 0, .slice none 0 0, .int .i64 0, .slice none 0 0, .slice none 0 0, .int .i64 0, .int .i64 0, .slice none 0 0, .slice none 0 0]], []⟩ 8 (by kernel_rfl) (by kernel_rfl) (by kernel_rfl) (by kernel_rfl)) ?_
  intro W base args ds gs before hval0 hW _ _
  have hval : ∀ (j : Nat) t v, Try.f4.params[j]? = some t → args[j]? = some v → Value.okWide Try.prog W .any base t v := hval0
  have hW2 := hW
  obtain ⟨p, q, hA0, hV, hps, _, _⟩ := hW
  have hA : DataW.TrodAll enc Try.prog W 0 (fun _ => true) true Try.f4.params.toList args.toList ds p := hA0
  rw [Try.params4] at hA hval
  obtain ⟨rfl, rfl⟩ := trodVars_none hV
  obtain ⟨v0, vs0, d0, ds0, p0, q0, hargs, rfl, rfl, h0, r0⟩ := trodAll_cons hA
  obtain ⟨v1, vs1, d1, ds1, p1, q1, rfl, rfl, rfl, h1, r1⟩ := trodAll_cons r0
  obtain ⟨rfl, rfl, rfl⟩ := trodAll_nil r1
  obtain rfl : args = #[v0, v1] := by cases args; simp_all
  have i0 := open_B (hval 0 22 v0 rfl rfl) h0
  have i1 := open_Frame (hval 1 33 v1 rfl rfl) h1
  clear hA0 hval0
  refine (walk W v0 v1 i0 i1).mono fun e W2 ⟨he, hb⟩ => ?_
  subst he
  exact ⟨_, rfl, law_post (tb := 4) laidOut (by kernel_rfl) (by kernel_rfl) Try.underlying4 rfl ⟨rfl, rfl, rfl⟩ hW2 hb⟩
theorem over : Rows.fnExactProofOkRow.holds Try.pinned (OpenSpec.ofChange Rows.fnExactProofOkSpec) :=
  OpenClaim.holds_of_wide 4 Try.f4 rfl rfl rfl rfl rfl rfl rfl ⟨rfl, rfl, rfl, rfl, rfl⟩ rfl rfl rfl rfl rfl (by kernel_rfl) Try.func4 (by kernel_rfl)
    (of_decide_eq_true (by kernel_rfl)) (by unfold Func.isWrapper; first | (rw [if_pos (by decide +kernel)]; kernel_rfl) | (rw [if_neg (by decide +kernel)]; exact ⟨rfl, rfl⟩))
    (fun os started H enc _ => lifted os started H enc)
theorem proved : Rows.FnExactProofOkSaid :=
  over
#print axioms proved
end Go.Proofs.Ytfjbfgonkimboaa.lProofOk
