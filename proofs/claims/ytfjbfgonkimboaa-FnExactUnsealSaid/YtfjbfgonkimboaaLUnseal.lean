/-
  FnExactUnseal returns true for every key, role and frame. Conditions: none.
-/
import Derived.Test.YtfjbfgonkimboaaLaw
import Derived.Test.YtfjbfgonkimboaaRec
import Derived.Deep.RegionHeld3
namespace Go.Proofs.Ytfjbfgonkimboaa.lUnseal
open Go.ChangeShapes Go.WideShapes Go.ChangeAt Go.RowKit
theorem LS_Unseal (a0 : Option Addr) (n0 c0 : Nat) (l0 : List UInt8) (x : Int) (v : Value) (f : FrameM) (w : World) (r0 : Rd w a0 n0 c0 (bys l0)) (h : FrameR w v f) (_s0 : l0.length ≤ 1048576) (_hs : f.tot ≤ 1048576) : Calls Try.prog 27 #[.slice a0 n0 c0, .int .i64 x, v] w fun e w' => ∃ a n c, e = .returned (.tuple #[.slice a n c, .bool (unsealB l0 x f)]) ∧ Ow w.heap.size w' 5 a n c (bys (unsealM l0 x f)) ∧ w.grownBy w' none :=
  spec_Unseal a0 n0 c0 l0 x v f w r0 h
theorem LI_Unseal (a0 : Option Addr) (n0 c0 : Nat) (l0 : List UInt8) (x : Int) (v : Value) (f : FrameM) (w : World) (r0 : Rd w a0 n0 c0 (bys l0)) (h : FrameR w v f) (_s0 : l0.length ≤ 1048576) (_hs : f.tot ≤ 1048576) : Calls Try.prog 28 #[.slice a0 n0 c0, .int .i64 x, v] w fun e w' => ∃ a n c, e = .returned (.tuple #[.slice a n c, .bool (unsealB l0 x f)]) ∧ Ow w.heap.size w' 5 a n c (bys (unsealM l0 x f)) ∧ w.grownBy w' none :=
  impl_Unseal a0 n0 c0 l0 x v f w r0 h
set_option maxRecDepth 100000 in
set_option maxHeartbeats 4000000 in
theorem walk (w : World) (v0 v1 v2 : Value) (h0 : InBytes w v0) (h1 : InInt v1) (h2 : InFrame w v2) : Calls Try.prog 6 #[v0, v1, v2] w fun e w' => e = .returned (.bool true) ∧ Below w.heap.size w w' := by
  obtain ⟨a0, n0, c0, l0, rfl, hR0, hC0⟩ := h0
  have hN0 := Lib.hid hR0.blen
  obtain ⟨x1, rfl, hx1⟩ := h1
  obtain ⟨f2, hR2, hL2⟩ := h2
  have hS2 := hR2.shape
  obtain ⟨a2_0, n2_0, c2_0, a2_1, n2_1, c2_1, a2_2, n2_2, c2_2, a2_3, n2_3, c2_3, a2_4, n2_4, c2_4, a2_5, n2_5, c2_5, rfl⟩ := hS2
  have T0 : Below w.heap.size w w := Below.refl _ _
  go_enter Try.func6, Try.ntmps6
  rcases Nat.lt_or_ge 1048576 n0 with p0 | p0
  · go_wp2
    go_ret
    exact ⟨rfl, below_next T0 (by repeat (first | with_reducible exact gb_refl _ | refine gb_alloc ?_ _ | refine gb_drewN ?_ _ | refine gb_drew ?_))⟩
  have P0 := Lib.hid p0
  have p0z : ((n0 : Int) ≤ 1048576) := by have := P0.out; omega
  clear p0
  rcases Nat.lt_or_ge (1048576) f2.tot with p2 | p2
  · go_wp2_with fail
    refine (laws_szFrame _ f2 (1048576) _ ((hR2.below T0).keep0 (by repeat (first | with_reducible exact gb_refl _ | refine gb_alloc ?_ _ | refine gb_drewN ?_ _ | refine gb_drew ?_))) (by omega) (hL2.len1) (hL2.len2) (hL2.len3) (hL2.len4) (hL2.len5) (hL2.len6)).mono ?_
    rintro e w9 ⟨_, hn9, g9⟩
    obtain rfl := hn9 p2
    clear hn9
    go_wp2
    go_ret
    exact ⟨rfl, below_next T0 (gb_trans (by repeat (first | with_reducible exact gb_refl _ | refine gb_alloc ?_ _ | refine gb_drewN ?_ _ | refine gb_drew ?_)) g9)⟩
  have P2 := Lib.hid p2
  clear p2
  go_wp2_with fail
  refine (laws_szFrame _ f2 (1048576) _ ((hR2.below T0).keep0 (by repeat (first | with_reducible exact gb_refl _ | refine gb_alloc ?_ _ | refine gb_drewN ?_ _ | refine gb_drew ?_))) (by omega) (hL2.len1) (hL2.len2) (hL2.len3) (hL2.len4) (hL2.len5) (hL2.len6)).mono ?_
  rintro e w1 ⟨hy9, hn9, g1⟩
  obtain rfl := hy9 P2.out
  clear hy9 hn9
  have R1 : w.grownBy w1 none := gb_trans (by repeat (first | with_reducible exact gb_refl _ | refine gb_alloc ?_ _ | refine gb_drewN ?_ _ | refine gb_drew ?_)) g1
  have T1 : Below w.heap.size w w1 := below_next T0 R1
  have z1 := R1.size
  have bb_aF : Bx w1 (w.heap.size) 33 #[.int .i64 f2.kind, .int .i64 f2.id, .slice a2_0 n2_0 c2_0, .slice a2_1 n2_1 c2_1, .int .i64 f2.tick, .slice a2_2 n2_2 c2_2, .slice a2_3 n2_3 c2_3, .int .i64 f2.epoch, .int .i64 f2.seq, .slice a2_4 n2_4 c2_4, .slice a2_5 n2_5 c2_5] := (bx1 w _ _).keep0 g1
  have cc_aF := fun o => bb_aF.cell o
  have ll_aF_1 := bb_aF.lt
  go_wp2_with fail
  have KX : Hid (∀ w', w1.grownBy w' none → (w'.cell? ⟨w.heap.size, 0, none⟩ = some (.int .i64 f2.kind) ∧ w'.cell? ⟨w.heap.size, 1, none⟩ = some (.int .i64 f2.id) ∧ w'.cell? ⟨w.heap.size, 2, none⟩ = some (.slice a2_0 n2_0 c2_0) ∧ w'.cell? ⟨w.heap.size, 3, none⟩ = some (.slice a2_1 n2_1 c2_1) ∧ w'.cell? ⟨w.heap.size, 4, none⟩ = some (.int .i64 f2.tick) ∧ w'.cell? ⟨w.heap.size, 5, none⟩ = some (.slice a2_2 n2_2 c2_2) ∧ w'.cell? ⟨w.heap.size, 6, none⟩ = some (.slice a2_3 n2_3 c2_3) ∧ w'.cell? ⟨w.heap.size, 7, none⟩ = some (.int .i64 f2.epoch) ∧ w'.cell? ⟨w.heap.size, 8, none⟩ = some (.int .i64 f2.seq) ∧ w'.cell? ⟨w.heap.size, 9, none⟩ = some (.slice a2_4 n2_4 c2_4) ∧ w'.cell? ⟨w.heap.size, 10, none⟩ = some (.slice a2_5 n2_5 c2_5) ∧ w1.grownBy w' none)) :=
    fun w' hg => ⟨(bb_aF.keep0 hg).cell 0, (bb_aF.keep0 hg).cell 1, (bb_aF.keep0 hg).cell 2, (bb_aF.keep0 hg).cell 3, (bb_aF.keep0 hg).cell 4, (bb_aF.keep0 hg).cell 5, (bb_aF.keep0 hg).cell 6, (bb_aF.keep0 hg).cell 7, (bb_aF.keep0 hg).cell 8, (bb_aF.keep0 hg).cell 9, (bb_aF.keep0 hg).cell 10, hg⟩
  clear cc_aF
  have cc_aF : True := trivial
  go_region_held3 (fun w' => w'.cell? ⟨w.heap.size, 0, none⟩ = some (.int .i64 f2.kind) ∧ w'.cell? ⟨w.heap.size, 1, none⟩ = some (.int .i64 f2.id) ∧ w'.cell? ⟨w.heap.size, 2, none⟩ = some (.slice a2_0 n2_0 c2_0) ∧ w'.cell? ⟨w.heap.size, 3, none⟩ = some (.slice a2_1 n2_1 c2_1) ∧ w'.cell? ⟨w.heap.size, 4, none⟩ = some (.int .i64 f2.tick) ∧ w'.cell? ⟨w.heap.size, 5, none⟩ = some (.slice a2_2 n2_2 c2_2) ∧ w'.cell? ⟨w.heap.size, 6, none⟩ = some (.slice a2_3 n2_3 c2_3) ∧ w'.cell? ⟨w.heap.size, 7, none⟩ = some (.int .i64 f2.epoch) ∧ w'.cell? ⟨w.heap.size, 8, none⟩ = some (.int .i64 f2.seq) ∧ w'.cell? ⟨w.heap.size, 9, none⟩ = some (.slice a2_4 n2_4 c2_4) ∧ w'.cell? ⟨w.heap.size, 10, none⟩ = some (.slice a2_5 n2_5 c2_5) ∧ w1.grownBy w' none)
    ((refine KX.out _ ?_; (repeat (first | with_reducible exact gb_refl _ | with_reducible refine gb_alloc ?_ _ | with_reducible refine gb_drewN ?_ _ | with_reducible refine gb_drew ?_ | with_reducible refine gb_trans ?_ g2 | with_reducible refine gb_trans ?_ g3 | with_reducible refine gb_trans ?_ g4))))
    (first
      | (go_at_call 10
         refine (laws_toByteS _ _ _ l0 _ ((hR0.below T1).keep0 (by repeat (first | with_reducible exact gb_refl _ | refine gb_alloc ?_ _ | refine gb_drewN ?_ _ | refine gb_drew ?_))) (by have := P0.out; omega)).mono ?_
         rintro e w2 ⟨a_tw00, c_tw00, rfl, o_tw00, g2⟩
         have u_tw00 := fun p hp => (o_tw00.lt p hp).2
         have R2 : w1.grownBy w2 none := gb_trans (by repeat (first | with_reducible exact gb_refl _ | refine gb_alloc ?_ _ | refine gb_drewN ?_ _ | refine gb_drew ?_)) g2
         have T2 : Below w.heap.size w w2 := below_next T1 R2
         have z2 := R2.size
         clear cc_aF
         replace bb_aF := bb_aF.keep0 R2
         have cc_aF := fun o => bb_aF.cell o
         have ll_aF_2 := bb_aF.lt
         replace o_tw00 := o_tw00.mono (B' := w1.heap.size) (by first | exact Nat.le_refl _ | (simp; done) | (simp; omega)))
      | (go_at_call 19
         refine (laws_toFrame _ f2 _ ((hR2.below T2).keep0 (by repeat (first | with_reducible exact gb_refl _ | refine gb_alloc ?_ _ | refine gb_drewN ?_ _ | refine gb_drew ?_))) (by have := P2.out; simp only [FrameM.tot] at this; omega) (by have := P2.out; simp only [FrameM.tot] at this; omega) (by have := P2.out; simp only [FrameM.tot] at this; omega) (by have := P2.out; simp only [FrameM.tot] at this; omega) (by have := P2.out; simp only [FrameM.tot] at this; omega) (by have := P2.out; simp only [FrameM.tot] at this; omega)).mono ?_
         rintro e w3 ⟨v_tw01, rfl, o_tw01, g3⟩
         obtain ⟨a_tw01_0, n_tw01_0, c_tw01_0, a_tw01_1, n_tw01_1, c_tw01_1, a_tw01_2, n_tw01_2, c_tw01_2, a_tw01_3, n_tw01_3, c_tw01_3, a_tw01_4, n_tw01_4, c_tw01_4, a_tw01_5, n_tw01_5, c_tw01_5, rfl⟩ := o_tw01.r.shape
         have R3 : w2.grownBy w3 none := gb_trans (by repeat (first | with_reducible exact gb_refl _ | refine gb_alloc ?_ _ | refine gb_drewN ?_ _ | refine gb_drew ?_)) g3
         have T3 : Below w.heap.size w w3 := below_next T2 R3
         have z3 := R3.size
         replace o_tw00 := o_tw00.keep0 R3
         clear cc_aF
         replace bb_aF := bb_aF.keep0 R3
         have cc_aF := fun o => bb_aF.cell o
         have ll_aF_3 := bb_aF.lt
         replace o_tw01 := o_tw01.low (B' := w2.heap.size) (by first | exact Nat.le_refl _ | (simp; done) | (simp; omega)))
      | (go_at_call 27
         refine (LS_Unseal _ _ _ l0 x1 _ f2 _ (o_tw00.rd.keep0 (by repeat (first | with_reducible exact gb_refl _ | refine gb_alloc ?_ _ | refine gb_drewN ?_ _ | refine gb_drew ?_))) (o_tw01.r.keep0 (by repeat (first | with_reducible exact gb_refl _ | refine gb_alloc ?_ _ | refine gb_drewN ?_ _ | refine gb_drew ?_))) (show l0.length ≤ 1048576 by have := hN0.out; have := P0.out; omega) (by have := P2.out; omega)).mono ?_
         rintro e w4 ⟨a_w0, n_w0, c_w0, rfl, o_w0, g4⟩
         have u_w0 := fun p hp => (o_w0.lt p hp).2
         have R4 : w3.grownBy w4 none := gb_trans (by repeat (first | with_reducible exact gb_refl _ | refine gb_alloc ?_ _ | refine gb_drewN ?_ _ | refine gb_drew ?_)) g4
         have T4 : Below w.heap.size w w4 := below_next T3 R4
         have z4 := R4.size
         replace o_tw00 := o_tw00.keep0 R4
         replace o_tw01 := o_tw01.keep0 R4
         clear cc_aF
         replace bb_aF := bb_aF.keep0 R4
         have cc_aF := fun o => bb_aF.cell o
         have ll_aF_4 := bb_aF.lt)
      | fail)
  clear KX
  replace o_w0 := o_w0.mono (B' := w3.heap.size) (by first | exact Nat.le_refl _ | (simp; done) | (simp; omega))
  clear o_tw00 u_tw00
  clear o_tw01
  go_wp2_with fail
  refine (laws_toByteS _ _ _ l0 _ ((hR0.below T4).keep0 (by repeat (first | with_reducible exact gb_refl _ | refine gb_alloc ?_ _ | refine gb_drewN ?_ _ | refine gb_drew ?_))) (by have := P0.out; omega)).mono ?_
  rintro e w5 ⟨a_x0, c_x0, rfl, o_x0, g5⟩
  have u_x0 := fun p hp => (o_x0.lt p hp).2
  have R5 : w4.grownBy w5 none := gb_trans (by repeat (first | with_reducible exact gb_refl _ | refine gb_alloc ?_ _ | refine gb_drewN ?_ _ | refine gb_drew ?_)) g5
  have T5 : Below w.heap.size w w5 := below_next T4 R5
  have z5 := R5.size
  replace o_w0 := o_w0.keep0 R5
  clear cc_aF
  replace bb_aF := bb_aF.keep0 R5
  have cc_aF := fun o => bb_aF.cell o
  have ll_aF_5 := bb_aF.lt
  replace o_x0 := o_x0.mono (B' := w4.heap.size) (by first | exact Nat.le_refl _ | (simp; done) | (simp; omega))
  go_wp2_with fail
  refine (laws_toFrame _ f2 _ ((hR2.below T5).keep0 (by repeat (first | with_reducible exact gb_refl _ | refine gb_alloc ?_ _ | refine gb_drewN ?_ _ | refine gb_drew ?_))) (by have := P2.out; simp only [FrameM.tot] at this; omega) (by have := P2.out; simp only [FrameM.tot] at this; omega) (by have := P2.out; simp only [FrameM.tot] at this; omega) (by have := P2.out; simp only [FrameM.tot] at this; omega) (by have := P2.out; simp only [FrameM.tot] at this; omega) (by have := P2.out; simp only [FrameM.tot] at this; omega)).mono ?_
  rintro e w6 ⟨v_x2, rfl, o_x2, g6⟩
  obtain ⟨a_x2_0, n_x2_0, c_x2_0, a_x2_1, n_x2_1, c_x2_1, a_x2_2, n_x2_2, c_x2_2, a_x2_3, n_x2_3, c_x2_3, a_x2_4, n_x2_4, c_x2_4, a_x2_5, n_x2_5, c_x2_5, rfl⟩ := o_x2.r.shape
  have R6 : w5.grownBy w6 none := gb_trans (by repeat (first | with_reducible exact gb_refl _ | refine gb_alloc ?_ _ | refine gb_drewN ?_ _ | refine gb_drew ?_)) g6
  have T6 : Below w.heap.size w w6 := below_next T5 R6
  have z6 := R6.size
  replace o_w0 := o_w0.keep0 R6
  replace o_x0 := o_x0.keep0 R6
  clear cc_aF
  replace bb_aF := bb_aF.keep0 R6
  have cc_aF := fun o => bb_aF.cell o
  have ll_aF_6 := bb_aF.lt
  replace o_x2 := o_x2.low (B' := w5.heap.size) (by first | exact Nat.le_refl _ | (simp; done) | (simp; omega))
  go_wp2_with fail
  refine (LI_Unseal _ _ _ l0 x1 _ f2 _ (o_x0.rd.keep0 (by repeat (first | with_reducible exact gb_refl _ | refine gb_alloc ?_ _ | refine gb_drewN ?_ _ | refine gb_drew ?_))) (o_x2.r.keep0 (by repeat (first | with_reducible exact gb_refl _ | refine gb_alloc ?_ _ | refine gb_drewN ?_ _ | refine gb_drew ?_))) (show l0.length ≤ 1048576 by have := hN0.out; have := P0.out; omega) (by have := P2.out; omega)).mono ?_
  rintro e w7 ⟨a_g0, n_g0, c_g0, rfl, o_g0, g7⟩
  have u_g0 := fun p hp => (o_g0.lt p hp).2
  have R7 : w6.grownBy w7 none := gb_trans (by repeat (first | with_reducible exact gb_refl _ | refine gb_alloc ?_ _ | refine gb_drewN ?_ _ | refine gb_drew ?_)) g7
  have T7 : Below w.heap.size w w7 := below_next T6 R7
  have z7 := R7.size
  replace o_w0 := o_w0.keep0 R7
  replace o_x0 := o_x0.keep0 R7
  replace o_x2 := o_x2.keep0 R7
  clear cc_aF
  replace bb_aF := bb_aF.keep0 R7
  have bb_x2 : Bx w7 (w6.heap.size) 24 #[.int .i64 f2.kind, .int .i64 f2.id, .slice a_x2_0 n_x2_0 c_x2_0, .slice a_x2_1 n_x2_1 c_x2_1, .int .i64 f2.tick, .slice a_x2_2 n_x2_2 c_x2_2, .slice a_x2_3 n_x2_3 c_x2_3, .int .i64 f2.epoch, .int .i64 f2.seq, .slice a_x2_4 n_x2_4 c_x2_4, .slice a_x2_5 n_x2_5 c_x2_5] := (bx1 w6 _ _).keep0 g7
  have cc_aF := fun o => bb_aF.cell o
  have ll_aF_7 := bb_aF.lt
  have cc_x2 := fun o => bb_x2.cell o
  have ll_x2_7 := bb_x2.lt
  replace o_g0 := o_g0.mono (B' := w6.heap.size + 1) (by first | exact Nat.le_refl _ | (simp; done) | (simp; omega))
  go_wp2_with fail
  refine (laws_eqByteS_same _ _ _ _ _ _ _ _ (o_g0.rd.keep0 (by repeat (first | with_reducible exact gb_refl _ | refine gb_alloc ?_ _ | refine gb_drewN ?_ _ | refine gb_drew ?_))) (o_w0.rd.keep0 (by repeat (first | with_reducible exact gb_refl _ | refine gb_alloc ?_ _ | refine gb_drewN ?_ _ | refine gb_drew ?_))) (by have h9 := (show (unsealM l0 x1 f2).length ≤ 1048576 from Nat.le_trans (unsealM_le _ _ _) (by decide)); omega)).mono ?_
  rintro e w8 ⟨rfl, q8⟩
  have g8 := q8.gb
  have R8 : w7.grownBy w8 none := gb_trans (by repeat (first | with_reducible exact gb_refl _ | refine gb_alloc ?_ _ | refine gb_drewN ?_ _ | refine gb_drew ?_)) g8
  have T8 : Below w.heap.size w w8 := below_next T7 R8
  have z8 := R8.size
  replace o_w0 := o_w0.keep0 R8
  replace o_x0 := o_x0.keep0 R8
  replace o_x2 := o_x2.keep0 R8
  replace o_g0 := o_g0.keep0 R8
  clear cc_aF cc_x2
  replace bb_aF := bb_aF.keep0 R8
  replace bb_x2 := bb_x2.keep0 R8
  have cc_aF := fun o => bb_aF.cell o
  have ll_aF_8 := bb_aF.lt
  have cc_x2 := fun o => bb_x2.cell o
  have ll_x2_8 := bb_x2.lt
  go_wp2_with fail
  refine (laws_toByteS _ _ _ l0 _ ((hR0.below T8).keep0 (by repeat (first | with_reducible exact gb_refl _ | refine gb_alloc ?_ _ | refine gb_drewN ?_ _ | refine gb_drew ?_))) (by have := P0.out; omega)).mono ?_
  rintro e w9 ⟨a_tz_x0, c_tz_x0, rfl, o_tz_x0, g9⟩
  have u_tz_x0 := fun p hp => (o_tz_x0.lt p hp).2
  have R9 : w8.grownBy w9 none := gb_trans (by repeat (first | with_reducible exact gb_refl _ | refine gb_alloc ?_ _ | refine gb_drewN ?_ _ | refine gb_drew ?_)) g9
  have T9 : Below w.heap.size w w9 := below_next T8 R9
  have z9 := R9.size
  replace o_w0 := o_w0.keep0 R9
  replace o_x0 := o_x0.keep0 R9
  replace o_x2 := o_x2.keep0 R9
  replace o_g0 := o_g0.keep0 R9
  clear cc_aF cc_x2
  replace bb_aF := bb_aF.keep0 R9
  replace bb_x2 := bb_x2.keep0 R9
  have cc_aF := fun o => bb_aF.cell o
  have ll_aF_9 := bb_aF.lt
  have cc_x2 := fun o => bb_x2.cell o
  have ll_x2_9 := bb_x2.lt
  replace o_tz_x0 := o_tz_x0.mono (B' := w8.heap.size) (by first | exact Nat.le_refl _ | (simp; done) | (simp; omega))
  go_wp2_with fail
  refine (laws_eqByteS_same _ _ _ _ _ _ _ _ (o_x0.rd.keep0 (by repeat (first | with_reducible exact gb_refl _ | refine gb_alloc ?_ _ | refine gb_drewN ?_ _ | refine gb_drew ?_))) (o_tz_x0.rd.keep0 (by repeat (first | with_reducible exact gb_refl _ | refine gb_alloc ?_ _ | refine gb_drewN ?_ _ | refine gb_drew ?_))) (by have h9 := (show l0.length ≤ 1048576 by have := hN0.out; have := P0.out; omega); omega)).mono ?_
  rintro e w10 ⟨rfl, q10⟩
  have g10 := q10.gb
  have R10 : w9.grownBy w10 none := gb_trans (by repeat (first | with_reducible exact gb_refl _ | refine gb_alloc ?_ _ | refine gb_drewN ?_ _ | refine gb_drew ?_)) g10
  have T10 : Below w.heap.size w w10 := below_next T9 R10
  have z10 := R10.size
  replace o_w0 := o_w0.keep0 R10
  replace o_x0 := o_x0.keep0 R10
  replace o_x2 := o_x2.keep0 R10
  replace o_g0 := o_g0.keep0 R10
  replace o_tz_x0 := o_tz_x0.keep0 R10
  clear cc_aF cc_x2
  replace bb_aF := bb_aF.keep0 R10
  replace bb_x2 := bb_x2.keep0 R10
  have cc_aF := fun o => bb_aF.cell o
  have ll_aF_10 := bb_aF.lt
  have cc_x2 := fun o => bb_x2.cell o
  have ll_x2_10 := bb_x2.lt
  clear o_tz_x0 u_tz_x0
  go_wp2_with fail
  have KX : Hid (∀ w', w10.grownBy w' none → (w'.cell? ⟨w.heap.size, 0, none⟩ = some (.int .i64 f2.kind) ∧ w'.cell? ⟨w.heap.size, 1, none⟩ = some (.int .i64 f2.id) ∧ w'.cell? ⟨w.heap.size, 2, none⟩ = some (.slice a2_0 n2_0 c2_0) ∧ w'.cell? ⟨w.heap.size, 3, none⟩ = some (.slice a2_1 n2_1 c2_1) ∧ w'.cell? ⟨w.heap.size, 4, none⟩ = some (.int .i64 f2.tick) ∧ w'.cell? ⟨w.heap.size, 5, none⟩ = some (.slice a2_2 n2_2 c2_2) ∧ w'.cell? ⟨w.heap.size, 6, none⟩ = some (.slice a2_3 n2_3 c2_3) ∧ w'.cell? ⟨w.heap.size, 7, none⟩ = some (.int .i64 f2.epoch) ∧ w'.cell? ⟨w.heap.size, 8, none⟩ = some (.int .i64 f2.seq) ∧ w'.cell? ⟨w.heap.size, 9, none⟩ = some (.slice a2_4 n2_4 c2_4) ∧ w'.cell? ⟨w.heap.size, 10, none⟩ = some (.slice a2_5 n2_5 c2_5) ∧ w'.cell? ⟨w6.heap.size, 0, none⟩ = some (.int .i64 f2.kind) ∧ w'.cell? ⟨w6.heap.size, 1, none⟩ = some (.int .i64 f2.id) ∧ w'.cell? ⟨w6.heap.size, 2, none⟩ = some (.slice a_x2_0 n_x2_0 c_x2_0) ∧ w'.cell? ⟨w6.heap.size, 3, none⟩ = some (.slice a_x2_1 n_x2_1 c_x2_1) ∧ w'.cell? ⟨w6.heap.size, 4, none⟩ = some (.int .i64 f2.tick) ∧ w'.cell? ⟨w6.heap.size, 5, none⟩ = some (.slice a_x2_2 n_x2_2 c_x2_2) ∧ w'.cell? ⟨w6.heap.size, 6, none⟩ = some (.slice a_x2_3 n_x2_3 c_x2_3) ∧ w'.cell? ⟨w6.heap.size, 7, none⟩ = some (.int .i64 f2.epoch) ∧ w'.cell? ⟨w6.heap.size, 8, none⟩ = some (.int .i64 f2.seq) ∧ w'.cell? ⟨w6.heap.size, 9, none⟩ = some (.slice a_x2_4 n_x2_4 c_x2_4) ∧ w'.cell? ⟨w6.heap.size, 10, none⟩ = some (.slice a_x2_5 n_x2_5 c_x2_5) ∧ w10.grownBy w' none)) :=
    fun w' hg => ⟨(bb_aF.keep0 hg).cell 0, (bb_aF.keep0 hg).cell 1, (bb_aF.keep0 hg).cell 2, (bb_aF.keep0 hg).cell 3, (bb_aF.keep0 hg).cell 4, (bb_aF.keep0 hg).cell 5, (bb_aF.keep0 hg).cell 6, (bb_aF.keep0 hg).cell 7, (bb_aF.keep0 hg).cell 8, (bb_aF.keep0 hg).cell 9, (bb_aF.keep0 hg).cell 10, (bb_x2.keep0 hg).cell 0, (bb_x2.keep0 hg).cell 1, (bb_x2.keep0 hg).cell 2, (bb_x2.keep0 hg).cell 3, (bb_x2.keep0 hg).cell 4, (bb_x2.keep0 hg).cell 5, (bb_x2.keep0 hg).cell 6, (bb_x2.keep0 hg).cell 7, (bb_x2.keep0 hg).cell 8, (bb_x2.keep0 hg).cell 9, (bb_x2.keep0 hg).cell 10, hg⟩
  clear cc_aF cc_x2
  go_region_held3 (fun w' => w'.cell? ⟨w.heap.size, 0, none⟩ = some (.int .i64 f2.kind) ∧ w'.cell? ⟨w.heap.size, 1, none⟩ = some (.int .i64 f2.id) ∧ w'.cell? ⟨w.heap.size, 2, none⟩ = some (.slice a2_0 n2_0 c2_0) ∧ w'.cell? ⟨w.heap.size, 3, none⟩ = some (.slice a2_1 n2_1 c2_1) ∧ w'.cell? ⟨w.heap.size, 4, none⟩ = some (.int .i64 f2.tick) ∧ w'.cell? ⟨w.heap.size, 5, none⟩ = some (.slice a2_2 n2_2 c2_2) ∧ w'.cell? ⟨w.heap.size, 6, none⟩ = some (.slice a2_3 n2_3 c2_3) ∧ w'.cell? ⟨w.heap.size, 7, none⟩ = some (.int .i64 f2.epoch) ∧ w'.cell? ⟨w.heap.size, 8, none⟩ = some (.int .i64 f2.seq) ∧ w'.cell? ⟨w.heap.size, 9, none⟩ = some (.slice a2_4 n2_4 c2_4) ∧ w'.cell? ⟨w.heap.size, 10, none⟩ = some (.slice a2_5 n2_5 c2_5) ∧ w'.cell? ⟨w6.heap.size, 0, none⟩ = some (.int .i64 f2.kind) ∧ w'.cell? ⟨w6.heap.size, 1, none⟩ = some (.int .i64 f2.id) ∧ w'.cell? ⟨w6.heap.size, 2, none⟩ = some (.slice a_x2_0 n_x2_0 c_x2_0) ∧ w'.cell? ⟨w6.heap.size, 3, none⟩ = some (.slice a_x2_1 n_x2_1 c_x2_1) ∧ w'.cell? ⟨w6.heap.size, 4, none⟩ = some (.int .i64 f2.tick) ∧ w'.cell? ⟨w6.heap.size, 5, none⟩ = some (.slice a_x2_2 n_x2_2 c_x2_2) ∧ w'.cell? ⟨w6.heap.size, 6, none⟩ = some (.slice a_x2_3 n_x2_3 c_x2_3) ∧ w'.cell? ⟨w6.heap.size, 7, none⟩ = some (.int .i64 f2.epoch) ∧ w'.cell? ⟨w6.heap.size, 8, none⟩ = some (.int .i64 f2.seq) ∧ w'.cell? ⟨w6.heap.size, 9, none⟩ = some (.slice a_x2_4 n_x2_4 c_x2_4) ∧ w'.cell? ⟨w6.heap.size, 10, none⟩ = some (.slice a_x2_5 n_x2_5 c_x2_5) ∧ w10.grownBy w' none)
    ((refine KX.out _ ?_; first | exact gb_drew (gb_refl _) | exact gb_trans (gb_trans (gb_drew (gb_refl _)) g11a) g11b | exact gb_trans (gb_drew (gb_refl _)) g11a))
    (first
      | (go_at_call 19; refine (laws_toFrame _ f2 _ ((hR2.below T10).keep0 (gb_drew (gb_refl _))) (by have := P2.out; simp only [FrameM.tot] at this; omega) (by have := P2.out; simp only [FrameM.tot] at this; omega) (by have := P2.out; simp only [FrameM.tot] at this; omega) (by have := P2.out; simp only [FrameM.tot] at this; omega) (by have := P2.out; simp only [FrameM.tot] at this; omega) (by have := P2.out; simp only [FrameM.tot] at this; omega)).mono ?_; rintro e wy11 ⟨vy, rfl, oy, g11a⟩; obtain ⟨a_yx2_0, n_yx2_0, c_yx2_0, a_yx2_1, n_yx2_1, c_yx2_1, a_yx2_2, n_yx2_2, c_yx2_2, a_yx2_3, n_yx2_3, c_yx2_3, a_yx2_4, n_yx2_4, c_yx2_4, a_yx2_5, n_yx2_5, c_yx2_5, rfl⟩ := oy.r.shape)
      | (go_at_call 12; refine (laws_eqFrame _ _ f2 _ (o_x2.r.keep0 (gb_trans (gb_drew (gb_refl _)) g11a)) oy.r (by have h9 := (by have := P2.out; omega); simp only [FrameM.tot] at h9; omega) (by have h9 := (by have := P2.out; omega); simp only [FrameM.tot] at h9; omega) (by have h9 := (by have := P2.out; omega); simp only [FrameM.tot] at h9; omega) (by have h9 := (by have := P2.out; omega); simp only [FrameM.tot] at h9; omega) (by have h9 := (by have := P2.out; omega); simp only [FrameM.tot] at h9; omega) (by have h9 := (by have := P2.out; omega); simp only [FrameM.tot] at h9; omega)).mono ?_; rintro e w11 ⟨rfl, g11b⟩))
  have g11 := gb_trans g11a g11b
  have cc_aF : True := trivial
  have cc_x2 : True := trivial
  have R11 : w10.grownBy w11 none := gb_trans (gb_drew (gb_refl _)) (gb_trans g11a g11b)
  have T11 : Below w.heap.size w w11 := below_next T10 R11
  have z11 := R11.size
  replace o_w0 := o_w0.keep0 R11
  replace o_x0 := o_x0.keep0 R11
  replace o_x2 := o_x2.keep0 R11
  replace o_g0 := o_g0.keep0 R11
  clear cc_aF cc_x2
  replace bb_aF := bb_aF.keep0 R11
  replace bb_x2 := bb_x2.keep0 R11
  have cc_aF := fun o => bb_aF.cell o
  have ll_aF_11 := bb_aF.lt
  have cc_x2 := fun o => bb_x2.cell o
  have ll_x2_11 := bb_x2.lt
  clear KX oy
  go_wp2_with fail
  refine (laws_markByteS (w4.heap.size) _ _ _ (1) _ _ (o_x0.keep0 (by repeat (first | with_reducible exact gb_refl _ | refine gb_alloc ?_ _ | refine gb_drewN ?_ _ | refine gb_drew ?_))) (by have h9 := (show l0.length ≤ 1048576 by have := hN0.out; have := P0.out; omega); have h8 := o_x0.blen; omega)).mono ?_
  rintro e w12 ⟨rfl, z_x0, r12⟩
  have g12 := gbI.ofRow (B := w4.heap.size) (S := w5.heap.size) r12 (fun g hg => by obtain ⟨p, hp, rfl⟩ := row_of hg; exact ⟨(o_x0.lt p hp).1, u_x0 p hp⟩)
  have e_x0_12 := Lib.hid o_x0.blen
  replace o_x0 := z_x0
  clear z_x0
  have R12 : gbI (w4.heap.size) (w5.heap.size) w11 w12 := (gbI.of0 (by repeat (first | with_reducible exact gb_refl _ | refine gb_alloc ?_ _ | refine gb_drewN ?_ _ | refine gb_drew ?_))).trans g12
  have T12 : Below w.heap.size w w12 := below_nextI T11 R12 (by omega)
  have z12 := R12.size
  replace o_w0 := o_w0.keepI R12 (fun p hp => by have := u_w0 p hp; have := (o_w0.lt p hp).1; omega)
  replace o_x2 := o_x2.keepI R12 (by omega)
  replace o_g0 := o_g0.keepI R12 (fun p hp => by have := u_g0 p hp; have := (o_g0.lt p hp).1; omega)
  clear cc_aF cc_x2
  replace bb_aF := bb_aF.keepI R12 (by have := bb_aF.lt; omega)
  replace bb_x2 := bb_x2.keepI R12 (by have := bb_x2.lt; omega)
  have cc_aF := fun o => bb_aF.cell o
  have ll_aF_12 := bb_aF.lt
  have cc_x2 := fun o => bb_x2.cell o
  have ll_x2_12 := bb_x2.lt
  go_wp2_with fail
  refine (laws_markFrame (w5.heap.size) (w6.heap.size) _ f2 (1 + n0) _ (o_x2.keep0 (by repeat (first | with_reducible exact gb_refl _ | refine gb_alloc ?_ _ | refine gb_drewN ?_ _ | refine gb_drew ?_))) (by have h9 := (by have := P2.out; omega); have := (show l0.length ≤ 1048576 by have := hN0.out; have := P0.out; omega); have := e_x0_12.out; omega)).mono ?_
  rintro e w13 ⟨rfl, z_x2, g13⟩
  replace o_x2 := z_x2
  clear z_x2
  have R13 : gbI (w5.heap.size) (w6.heap.size) w12 w13 := (gbI.of0 (by repeat (first | with_reducible exact gb_refl _ | refine gb_alloc ?_ _ | refine gb_drewN ?_ _ | refine gb_drew ?_))).trans g13
  have T13 : Below w.heap.size w w13 := below_nextI T12 R13 (by omega)
  have z13 := R13.size
  replace o_w0 := o_w0.keepI R13 (fun p hp => by have := u_w0 p hp; have := (o_w0.lt p hp).1; omega)
  replace o_x0 := o_x0.keepI R13 (fun p hp => by have := u_x0 p hp; have := (o_x0.lt p hp).1; omega)
  replace o_g0 := o_g0.keepI R13 (fun p hp => by have := u_g0 p hp; have := (o_g0.lt p hp).1; omega)
  clear cc_aF cc_x2
  replace bb_aF := bb_aF.keepI R13 (by have := bb_aF.lt; omega)
  replace bb_x2 := bb_x2.keepI R13 (by have := bb_x2.lt; omega)
  have cc_aF := fun o => bb_aF.cell o
  have ll_aF_13 := bb_aF.lt
  have cc_x2 := fun o => bb_x2.cell o
  have ll_x2_13 := bb_x2.lt
  go_wp2_with fail
  refine (laws_eqByteS_same _ _ _ _ _ _ _ _ (o_g0.rd.keep0 (by repeat (first | with_reducible exact gb_refl _ | refine gb_alloc ?_ _ | refine gb_drewN ?_ _ | refine gb_drew ?_))) (o_w0.rd.keep0 (by repeat (first | with_reducible exact gb_refl _ | refine gb_alloc ?_ _ | refine gb_drewN ?_ _ | refine gb_drew ?_))) (by have h9 := (show (unsealM l0 x1 f2).length ≤ 1048576 from Nat.le_trans (unsealM_le _ _ _) (by decide)); omega)).mono ?_
  rintro e w14 ⟨rfl, q14⟩
  have g14 := q14.gb
  have R14 : w13.grownBy w14 none := gb_trans (by repeat (first | with_reducible exact gb_refl _ | refine gb_alloc ?_ _ | refine gb_drewN ?_ _ | refine gb_drew ?_)) g14
  have T14 : Below w.heap.size w w14 := below_next T13 R14
  have z14 := R14.size
  replace o_w0 := o_w0.keep0 R14
  replace o_x0 := o_x0.keep0 R14
  replace o_x2 := o_x2.keep0 R14
  replace o_g0 := o_g0.keep0 R14
  clear cc_aF cc_x2
  replace bb_aF := bb_aF.keep0 R14
  replace bb_x2 := bb_x2.keep0 R14
  have cc_aF := fun o => bb_aF.cell o
  have ll_aF_14 := bb_aF.lt
  have cc_x2 := fun o => bb_x2.cell o
  have ll_x2_14 := bb_x2.lt
  go_wp2_with fail
  refine (laws_markByteS (w6.heap.size + 1) _ _ _ (1) _ _ (o_g0.keep0 (by repeat (first | with_reducible exact gb_refl _ | refine gb_alloc ?_ _ | refine gb_drewN ?_ _ | refine gb_drew ?_))) (by have h9 := (show (unsealM l0 x1 f2).length ≤ 1048576 from Nat.le_trans (unsealM_le _ _ _) (by decide)); have h8 := o_g0.blen; omega)).mono ?_
  rintro e w15 ⟨rfl, z_g0, r15⟩
  have g15 := gbI.ofRow (B := w6.heap.size + 1) (S := w7.heap.size) r15 (fun g hg => by obtain ⟨p, hp, rfl⟩ := row_of hg; exact ⟨(o_g0.lt p hp).1, u_g0 p hp⟩)
  have e_g0_15 := Lib.hid o_g0.blen
  replace o_g0 := z_g0
  clear z_g0
  have R15 : gbI (w6.heap.size + 1) (w7.heap.size) w14 w15 := (gbI.of0 (by repeat (first | with_reducible exact gb_refl _ | refine gb_alloc ?_ _ | refine gb_drewN ?_ _ | refine gb_drew ?_))).trans g15
  have T15 : Below w.heap.size w w15 := below_nextI T14 R15 (by omega)
  have z15 := R15.size
  replace o_w0 := o_w0.keepI R15 (fun p hp => by have := u_w0 p hp; have := (o_w0.lt p hp).1; omega)
  replace o_x0 := o_x0.keepI R15 (fun p hp => by have := u_x0 p hp; have := (o_x0.lt p hp).1; omega)
  replace o_x2 := o_x2.keepI R15 (by omega)
  clear cc_aF cc_x2
  replace bb_aF := bb_aF.keepI R15 (by have := bb_aF.lt; omega)
  replace bb_x2 := bb_x2.keepI R15 (by have := bb_x2.lt; omega)
  have cc_aF := fun o => bb_aF.cell o
  have ll_aF_15 := bb_aF.lt
  have cc_x2 := fun o => bb_x2.cell o
  have ll_x2_15 := bb_x2.lt
  go_wp2_with fail
  refine (laws_heldByteS _ n_g0 _ (1) _ (o_g0.rd.keep0 (by repeat (first | with_reducible exact gb_refl _ | refine gb_alloc ?_ _ | refine gb_drewN ?_ _ | refine gb_drew ?_))) (by have h9 := (show (unsealM l0 x1 f2).length ≤ 1048576 from Nat.le_trans (unsealM_le _ _ _) (by decide)); have := (show (unsealM l0 x1 f2).length ≤ 1048576 from Nat.le_trans (unsealM_le _ _ _) (by decide)); have := e_g0_15.out; omega)).mono ?_
  rintro e w16 ⟨rfl, q16⟩
  have g16 := q16.gb
  have R16 : w15.grownBy w16 none := gb_trans (by repeat (first | with_reducible exact gb_refl _ | refine gb_alloc ?_ _ | refine gb_drewN ?_ _ | refine gb_drew ?_)) g16
  have T16 : Below w.heap.size w w16 := below_next T15 R16
  have z16 := R16.size
  replace o_w0 := o_w0.keep0 R16
  replace o_x0 := o_x0.keep0 R16
  replace o_x2 := o_x2.keep0 R16
  replace o_g0 := o_g0.keep0 R16
  clear cc_aF cc_x2
  replace bb_aF := bb_aF.keep0 R16
  replace bb_x2 := bb_x2.keep0 R16
  have cc_aF := fun o => bb_aF.cell o
  have ll_aF_16 := bb_aF.lt
  have cc_x2 := fun o => bb_x2.cell o
  have ll_x2_16 := bb_x2.lt
  go_wp2_with fail
  have KX : Hid (∀ w', w16.grownBy w' none → (w'.cell? ⟨w.heap.size, 0, none⟩ = some (.int .i64 f2.kind) ∧ w'.cell? ⟨w.heap.size, 1, none⟩ = some (.int .i64 f2.id) ∧ w'.cell? ⟨w.heap.size, 2, none⟩ = some (.slice a2_0 n2_0 c2_0) ∧ w'.cell? ⟨w.heap.size, 3, none⟩ = some (.slice a2_1 n2_1 c2_1) ∧ w'.cell? ⟨w.heap.size, 4, none⟩ = some (.int .i64 f2.tick) ∧ w'.cell? ⟨w.heap.size, 5, none⟩ = some (.slice a2_2 n2_2 c2_2) ∧ w'.cell? ⟨w.heap.size, 6, none⟩ = some (.slice a2_3 n2_3 c2_3) ∧ w'.cell? ⟨w.heap.size, 7, none⟩ = some (.int .i64 f2.epoch) ∧ w'.cell? ⟨w.heap.size, 8, none⟩ = some (.int .i64 f2.seq) ∧ w'.cell? ⟨w.heap.size, 9, none⟩ = some (.slice a2_4 n2_4 c2_4) ∧ w'.cell? ⟨w.heap.size, 10, none⟩ = some (.slice a2_5 n2_5 c2_5) ∧ w16.grownBy w' none)) :=
    fun w' hg => ⟨(bb_aF.keep0 hg).cell 0, (bb_aF.keep0 hg).cell 1, (bb_aF.keep0 hg).cell 2, (bb_aF.keep0 hg).cell 3, (bb_aF.keep0 hg).cell 4, (bb_aF.keep0 hg).cell 5, (bb_aF.keep0 hg).cell 6, (bb_aF.keep0 hg).cell 7, (bb_aF.keep0 hg).cell 8, (bb_aF.keep0 hg).cell 9, (bb_aF.keep0 hg).cell 10, hg⟩
  clear cc_aF cc_x2
  have cc_aF : True := trivial
  have cc_x2 : True := trivial
  go_region_held3 (fun w' => w'.cell? ⟨w.heap.size, 0, none⟩ = some (.int .i64 f2.kind) ∧ w'.cell? ⟨w.heap.size, 1, none⟩ = some (.int .i64 f2.id) ∧ w'.cell? ⟨w.heap.size, 2, none⟩ = some (.slice a2_0 n2_0 c2_0) ∧ w'.cell? ⟨w.heap.size, 3, none⟩ = some (.slice a2_1 n2_1 c2_1) ∧ w'.cell? ⟨w.heap.size, 4, none⟩ = some (.int .i64 f2.tick) ∧ w'.cell? ⟨w.heap.size, 5, none⟩ = some (.slice a2_2 n2_2 c2_2) ∧ w'.cell? ⟨w.heap.size, 6, none⟩ = some (.slice a2_3 n2_3 c2_3) ∧ w'.cell? ⟨w.heap.size, 7, none⟩ = some (.int .i64 f2.epoch) ∧ w'.cell? ⟨w.heap.size, 8, none⟩ = some (.int .i64 f2.seq) ∧ w'.cell? ⟨w.heap.size, 9, none⟩ = some (.slice a2_4 n2_4 c2_4) ∧ w'.cell? ⟨w.heap.size, 10, none⟩ = some (.slice a2_5 n2_5 c2_5) ∧ w16.grownBy w' none)
    ((refine KX.out _ ?_; (repeat (first | with_reducible exact gb_refl _ | with_reducible refine gb_alloc ?_ _ | with_reducible refine gb_drewN ?_ _ | with_reducible refine gb_drew ?_ | with_reducible refine gb_trans ?_ g17 | with_reducible refine gb_trans ?_ g18 | with_reducible refine gb_trans ?_ g19))))
    (first
      | (go_at_call 10
         refine (laws_toByteS _ _ _ l0 _ ((hR0.below T16).keep0 (by repeat (first | with_reducible exact gb_refl _ | refine gb_alloc ?_ _ | refine gb_drewN ?_ _ | refine gb_drew ?_))) (by have := P0.out; omega)).mono ?_
         rintro e w17 ⟨a_th00, c_th00, rfl, o_th00, g17⟩
         have u_th00 := fun p hp => (o_th00.lt p hp).2
         have R17 : w16.grownBy w17 none := gb_trans (by repeat (first | with_reducible exact gb_refl _ | refine gb_alloc ?_ _ | refine gb_drewN ?_ _ | refine gb_drew ?_)) g17
         have T17 : Below w.heap.size w w17 := below_next T16 R17
         have z17 := R17.size
         replace o_w0 := o_w0.keep0 R17
         replace o_x0 := o_x0.keep0 R17
         replace o_x2 := o_x2.keep0 R17
         replace o_g0 := o_g0.keep0 R17
         clear cc_aF cc_x2
         replace bb_aF := bb_aF.keep0 R17
         replace bb_x2 := bb_x2.keep0 R17
         have cc_aF := fun o => bb_aF.cell o
         have ll_aF_17 := bb_aF.lt
         have cc_x2 := fun o => bb_x2.cell o
         have ll_x2_17 := bb_x2.lt
         replace o_th00 := o_th00.mono (B' := w16.heap.size) (by first | exact Nat.le_refl _ | (simp; done) | (simp; omega)))
      | (go_at_call 19
         refine (laws_toFrame _ f2 _ ((hR2.below T17).keep0 (by repeat (first | with_reducible exact gb_refl _ | refine gb_alloc ?_ _ | refine gb_drewN ?_ _ | refine gb_drew ?_))) (by have := P2.out; simp only [FrameM.tot] at this; omega) (by have := P2.out; simp only [FrameM.tot] at this; omega) (by have := P2.out; simp only [FrameM.tot] at this; omega) (by have := P2.out; simp only [FrameM.tot] at this; omega) (by have := P2.out; simp only [FrameM.tot] at this; omega) (by have := P2.out; simp only [FrameM.tot] at this; omega)).mono ?_
         rintro e w18 ⟨v_th01, rfl, o_th01, g18⟩
         obtain ⟨a_th01_0, n_th01_0, c_th01_0, a_th01_1, n_th01_1, c_th01_1, a_th01_2, n_th01_2, c_th01_2, a_th01_3, n_th01_3, c_th01_3, a_th01_4, n_th01_4, c_th01_4, a_th01_5, n_th01_5, c_th01_5, rfl⟩ := o_th01.r.shape
         have R18 : w17.grownBy w18 none := gb_trans (by repeat (first | with_reducible exact gb_refl _ | refine gb_alloc ?_ _ | refine gb_drewN ?_ _ | refine gb_drew ?_)) g18
         have T18 : Below w.heap.size w w18 := below_next T17 R18
         have z18 := R18.size
         replace o_w0 := o_w0.keep0 R18
         replace o_x0 := o_x0.keep0 R18
         replace o_x2 := o_x2.keep0 R18
         replace o_g0 := o_g0.keep0 R18
         replace o_th00 := o_th00.keep0 R18
         clear cc_aF cc_x2
         replace bb_aF := bb_aF.keep0 R18
         replace bb_x2 := bb_x2.keep0 R18
         have cc_aF := fun o => bb_aF.cell o
         have ll_aF_18 := bb_aF.lt
         have cc_x2 := fun o => bb_x2.cell o
         have ll_x2_18 := bb_x2.lt
         replace o_th01 := o_th01.low (B' := w17.heap.size) (by first | exact Nat.le_refl _ | (simp; done) | (simp; omega)))
      | (go_at_call 28
         refine (LI_Unseal _ _ _ l0 x1 _ f2 _ (o_th00.rd.keep0 (by repeat (first | with_reducible exact gb_refl _ | refine gb_alloc ?_ _ | refine gb_drewN ?_ _ | refine gb_drew ?_))) (o_th01.r.keep0 (by repeat (first | with_reducible exact gb_refl _ | refine gb_alloc ?_ _ | refine gb_drewN ?_ _ | refine gb_drew ?_))) (show l0.length ≤ 1048576 by have := hN0.out; have := P0.out; omega) (by have := P2.out; omega)).mono ?_
         rintro e w19 ⟨a_h0, n_h0, c_h0, rfl, o_h0, g19⟩
         have u_h0 := fun p hp => (o_h0.lt p hp).2
         have R19 : w18.grownBy w19 none := gb_trans (by repeat (first | with_reducible exact gb_refl _ | refine gb_alloc ?_ _ | refine gb_drewN ?_ _ | refine gb_drew ?_)) g19
         have T19 : Below w.heap.size w w19 := below_next T18 R19
         have z19 := R19.size
         replace o_w0 := o_w0.keep0 R19
         replace o_x0 := o_x0.keep0 R19
         replace o_x2 := o_x2.keep0 R19
         replace o_g0 := o_g0.keep0 R19
         replace o_th00 := o_th00.keep0 R19
         replace o_th01 := o_th01.keep0 R19
         clear cc_aF cc_x2
         replace bb_aF := bb_aF.keep0 R19
         replace bb_x2 := bb_x2.keep0 R19
         have cc_aF := fun o => bb_aF.cell o
         have ll_aF_19 := bb_aF.lt
         have cc_x2 := fun o => bb_x2.cell o
         have ll_x2_19 := bb_x2.lt)
      | fail)
  clear KX
  replace o_h0 := o_h0.mono (B' := w18.heap.size) (by first | exact Nat.le_refl _ | (simp; done) | (simp; omega))
  clear o_th00 u_th00
  clear o_th01
  go_wp2_with fail
  refine (laws_eqByteS_same _ _ _ _ _ _ _ _ (o_h0.rd.keep0 (by repeat (first | with_reducible exact gb_refl _ | refine gb_alloc ?_ _ | refine gb_drewN ?_ _ | refine gb_drew ?_))) (o_w0.rd.keep0 (by repeat (first | with_reducible exact gb_refl _ | refine gb_alloc ?_ _ | refine gb_drewN ?_ _ | refine gb_drew ?_))) (by have h9 := (show (unsealM l0 x1 f2).length ≤ 1048576 from Nat.le_trans (unsealM_le _ _ _) (by decide)); omega)).mono ?_
  rintro e w20 ⟨rfl, q20⟩
  have g20 := q20.gb
  have R20 : w19.grownBy w20 none := gb_trans (by repeat (first | with_reducible exact gb_refl _ | refine gb_alloc ?_ _ | refine gb_drewN ?_ _ | refine gb_drew ?_)) g20
  have T20 : Below w.heap.size w w20 := below_next T19 R20
  have z20 := R20.size
  replace o_w0 := o_w0.keep0 R20
  replace o_x0 := o_x0.keep0 R20
  replace o_x2 := o_x2.keep0 R20
  replace o_g0 := o_g0.keep0 R20
  replace o_h0 := o_h0.keep0 R20
  clear cc_aF cc_x2
  replace bb_aF := bb_aF.keep0 R20
  replace bb_x2 := bb_x2.keep0 R20
  have cc_aF := fun o => bb_aF.cell o
  have ll_aF_20 := bb_aF.lt
  have cc_x2 := fun o => bb_x2.cell o
  have ll_x2_20 := bb_x2.lt
  go_wp2_with fail
  refine (laws_heldByteS _ n_g0 _ (1) _ (o_g0.rd.keep0 (by repeat (first | with_reducible exact gb_refl _ | refine gb_alloc ?_ _ | refine gb_drewN ?_ _ | refine gb_drew ?_))) (by have h9 := (show (unsealM l0 x1 f2).length ≤ 1048576 from Nat.le_trans (unsealM_le _ _ _) (by decide)); have := (show (unsealM l0 x1 f2).length ≤ 1048576 from Nat.le_trans (unsealM_le _ _ _) (by decide)); have := e_g0_15.out; omega)).mono ?_
  rintro e w21 ⟨rfl, q21⟩
  have g21 := q21.gb
  have R21 : w20.grownBy w21 none := gb_trans (by repeat (first | with_reducible exact gb_refl _ | refine gb_alloc ?_ _ | refine gb_drewN ?_ _ | refine gb_drew ?_)) g21
  have T21 : Below w.heap.size w w21 := below_next T20 R21
  have z21 := R21.size
  replace o_w0 := o_w0.keep0 R21
  replace o_x0 := o_x0.keep0 R21
  replace o_x2 := o_x2.keep0 R21
  replace o_g0 := o_g0.keep0 R21
  replace o_h0 := o_h0.keep0 R21
  clear cc_aF cc_x2
  replace bb_aF := bb_aF.keep0 R21
  replace bb_x2 := bb_x2.keep0 R21
  have cc_aF := fun o => bb_aF.cell o
  have ll_aF_21 := bb_aF.lt
  have cc_x2 := fun o => bb_x2.cell o
  have ll_x2_21 := bb_x2.lt
  go_wp2
  go_ret
  exact ⟨rfl, T21⟩
set_option maxRecDepth 100000 in
theorem lifted (os : Os) (started : os.Started) (H : Type) (enc : TypeId × Value → H) :
    ReturnsInHanded {} Try.checked os 6 .any (Rows.fnExactUnsealSpec.pre6 enc Try.prog Try.f6 Rows.fnExactUnsealRow.domain false) (Rows.fnExactUnsealSpec.post enc Try.prog Try.f6 false true false false) := by
  refine returnsInHanded_of_change (C := Try.checked) own started (by kernel_rfl) Try.func6
    (ChangeSpec.witness6 (enc := enc) (C := Try.checked) false ⟨#[], #[.slice none 0 0, .int .i64 0, .agg #[.int .i64 0, .int .i64 0, .slice none 0 0, .slice none 0 0, .int .i64 0, .slice none 0 0, .slice none 0 0, .int .i64 0, .int .i64 0, .slice none 0 0, .slice none 0 0]], []⟩ 8 (by kernel_rfl) (by kernel_rfl) (by kernel_rfl) (by kernel_rfl)) ?_
  intro W base args ds gs before hval0 hW _ _
  have hval : ∀ (j : Nat) t v, Try.f6.params[j]? = some t → args[j]? = some v → Value.okWide Try.prog W .any base t v := hval0
  have hW2 := hW
  obtain ⟨p, q, hA0, hV, hps, _, _⟩ := hW
  have hA : DataW.TrodAll enc Try.prog W 0 (fun _ => true) true Try.f6.params.toList args.toList ds p := hA0
  rw [Try.params6] at hA hval
  obtain ⟨rfl, rfl⟩ := trodVars_none hV
  obtain ⟨v0, vs0, d0, ds0, p0, q0, hargs, rfl, rfl, h0, r0⟩ := trodAll_cons hA
  obtain ⟨v1, vs1, d1, ds1, p1, q1, rfl, rfl, rfl, h1, r1⟩ := trodAll_cons r0
  obtain ⟨v2, vs2, d2, ds2, p2, q2, rfl, rfl, rfl, h2, r2⟩ := trodAll_cons r1
  obtain ⟨rfl, rfl, rfl⟩ := trodAll_nil r2
  obtain rfl : args = #[v0, v1, v2] := by cases args; simp_all
  have i0 := open_B (hval 0 22 v0 rfl rfl) h0
  have i1 := open_I (hval 1 3 v1 rfl rfl) h1
  have i2 := open_Frame (hval 2 33 v2 rfl rfl) h2
  clear hA0 hval0
  refine (walk W v0 v1 v2 i0 i1 i2).mono fun e W2 ⟨he, hb⟩ => ?_
  subst he
  exact ⟨_, rfl, law_post (tb := 4) laidOut (by kernel_rfl) (by kernel_rfl) Try.underlying4 rfl ⟨rfl, rfl, rfl⟩ hW2 hb⟩
theorem over : Rows.fnExactUnsealRow.holds Try.pinned (OpenSpec.ofChange Rows.fnExactUnsealSpec) :=
  OpenClaim.holds_of_wide 6 Try.f6 rfl rfl rfl rfl rfl rfl rfl ⟨rfl, rfl, rfl, rfl, rfl⟩ rfl rfl rfl rfl rfl (by kernel_rfl) Try.func6 (by kernel_rfl)
    (of_decide_eq_true (by kernel_rfl)) (by unfold Func.isWrapper; first | (rw [if_pos (by decide +kernel)]; kernel_rfl) | (rw [if_neg (by decide +kernel)]; exact ⟨rfl, rfl⟩))
    (fun os started H enc _ => lifted os started H enc)
theorem proved : Rows.FnExactUnsealSaid :=
  over
#print axioms proved
end Go.Proofs.Ytfjbfgonkimboaa.lUnseal
