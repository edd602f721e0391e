/-
  FnExactJudge returns true for every jar, time, address and frame. Conditions: none.
-/
import Derived.Test.YtfjbfgonkimboaaLaw
import Derived.Test.YtfjbfgonkimboaaAuth
import Derived.Deep.RegionHeld3
namespace Go.Proofs.Ytfjbfgonkimboaa.lJudge
open Go.ChangeShapes Go.WideShapes Go.ChangeAt Go.RowKit
theorem LS_Judge (v0 : Value) (f0 : JarM) (x1 : Int) (v2 : Value) (f2 : AddrM) (v3 : Value) (f3 : FrameM) (w : World) (h0 : JarR w v0 f0) (h2 : AddrR w v2 f2) (h3 : FrameR w v3 f3) (_s0 : f0.tot ≤ 1048576) (_s3 : f3.tot ≤ 1048576) : Calls Try.prog 22 #[v0, .int .i64 x1, v2, v3] w fun e w' => e = .returned (.int .i64 (judgeM f0.secret x1 f2.host f2.port f3)) ∧ w.grownBy w' none := by
  obtain rfl := h2
  obtain ⟨a0, n0, c0, rfl, r0⟩ := h0
  exact spec_Judge a0 n0 c0 f0.secret x1 f2.host f2.port v3 f3 w r0 h3
theorem LI_Judge (v0 : Value) (f0 : JarM) (x1 : Int) (v2 : Value) (f2 : AddrM) (v3 : Value) (f3 : FrameM) (w : World) (h0 : JarR w v0 f0) (h2 : AddrR w v2 f2) (h3 : FrameR w v3 f3) (_s0 : f0.tot ≤ 1048576) (_s3 : f3.tot ≤ 1048576) : Calls Try.prog 25 #[v0, .int .i64 x1, v2, v3] w fun e w' => e = .returned (.int .i64 (judgeM f0.secret x1 f2.host f2.port f3)) ∧ w.grownBy w' none := by
  obtain rfl := h2
  obtain ⟨a0, n0, c0, rfl, r0⟩ := h0
  exact impl_Judge a0 n0 c0 f0.secret x1 f2.host f2.port v3 f3 w r0 h3
set_option maxRecDepth 100000 in
set_option maxHeartbeats 4000000 in
theorem walk (w : World) (v0 v1 v2 v3 : Value) (h0 : InJar w v0) (h1 : InInt v1) (h2 : InAddr w v2) (h3 : InFrame w v3) : Calls Try.prog 5 #[v0, v1, v2, v3] w fun e w' => e = .returned (.bool true) ∧ Below w.heap.size w w' := by
  obtain ⟨f0, hR0, hL0⟩ := h0
  have hS0 := hR0.shape
  obtain ⟨a0_0, n0_0, c0_0, rfl⟩ := hS0
  obtain ⟨x1, rfl, hx1⟩ := h1
  obtain ⟨f2, hR2, hL2⟩ := h2
  obtain rfl := hR2
  obtain ⟨f3, hR3, hL3⟩ := h3
  have hS3 := hR3.shape
  obtain ⟨a3_0, n3_0, c3_0, a3_1, n3_1, c3_1, a3_2, n3_2, c3_2, a3_3, n3_3, c3_3, a3_4, n3_4, c3_4, a3_5, n3_5, c3_5, rfl⟩ := hS3
  have T0 : Below w.heap.size w w := Below.refl _ _
  go_enter Try.func5, Try.ntmps5
  rcases Nat.lt_or_ge (1048576) f0.tot with p0 | p0
  · go_wp2_with fail
    refine (laws_szJar _ f0 (1048576) _ ((hR0.below T0).keep0 (by repeat (first | with_reducible exact gb_refl _ | refine gb_alloc ?_ _ | refine gb_drewN ?_ _ | refine gb_drew ?_))) (by omega) (hL0.len1)).mono ?_
    rintro e w9 ⟨_, hn9, g9⟩
    obtain rfl := hn9 p0
    clear hn9
    go_wp2
    go_ret
    exact ⟨rfl, below_next T0 (gb_trans (by repeat (first | with_reducible exact gb_refl _ | refine gb_alloc ?_ _ | refine gb_drewN ?_ _ | refine gb_drew ?_)) g9)⟩
  have P0 := Lib.hid p0
  clear p0
  go_wp2_with fail
  refine (laws_szJar _ f0 (1048576) _ ((hR0.below T0).keep0 (by repeat (first | with_reducible exact gb_refl _ | refine gb_alloc ?_ _ | refine gb_drewN ?_ _ | refine gb_drew ?_))) (by omega) (hL0.len1)).mono ?_
  rintro e w1 ⟨hy9, hn9, g1⟩
  obtain rfl := hy9 P0.out
  clear hy9 hn9
  have R1 : w.grownBy w1 none := gb_trans (by repeat (first | with_reducible exact gb_refl _ | refine gb_alloc ?_ _ | refine gb_drewN ?_ _ | refine gb_drew ?_)) g1
  have T1 : Below w.heap.size w w1 := below_next T0 R1
  have z1 := R1.size
  have bb_aJ : Bx w1 (w.heap.size) 39 #[.slice a0_0 n0_0 c0_0] := by first | exact (bx3 w _ _ _ _ _ _).1.keep0 g1 | exact (bx3 w _ _ _ _ _ _).1.drew.keep0 g1
  have bb_aA : Bx w1 (w.heap.size + 1) 41 #[.int .i64 f2.host, .int .i64 f2.port] := by first | exact (bx3 w _ _ _ _ _ _).2.1.keep0 g1 | exact (bx3 w _ _ _ _ _ _).2.1.drew.keep0 g1
  have bb_aF : Bx w1 (w.heap.size + 1 + 1) 33 #[.int .i64 f3.kind, .int .i64 f3.id, .slice a3_0 n3_0 c3_0, .slice a3_1 n3_1 c3_1, .int .i64 f3.tick, .slice a3_2 n3_2 c3_2, .slice a3_3 n3_3 c3_3, .int .i64 f3.epoch, .int .i64 f3.seq, .slice a3_4 n3_4 c3_4, .slice a3_5 n3_5 c3_5] := by first | exact (bx3 w _ _ _ _ _ _).2.2.keep0 g1 | exact (bx3 w _ _ _ _ _ _).2.2.drew.keep0 g1
  have cc_aJ := fun o => bb_aJ.cell o
  have ll_aJ_1 := bb_aJ.lt
  have cc_aA := fun o => bb_aA.cell o
  have ll_aA_1 := bb_aA.lt
  have cc_aF := fun o => bb_aF.cell o
  have ll_aF_1 := bb_aF.lt
  rcases Nat.lt_or_ge (1048576 - f0.tot) f3.tot with p3 | p3
  · go_wp2_with fail
    refine (laws_szFrame _ f3 (1048576 - f0.tot) _ ((hR3.below T1).keep0 (by repeat (first | with_reducible exact gb_refl _ | refine gb_alloc ?_ _ | refine gb_drewN ?_ _ | refine gb_drew ?_))) (by omega) (hL3.len1) (hL3.len2) (hL3.len3) (hL3.len4) (hL3.len5) (hL3.len6)).mono ?_
    rintro e w9 ⟨_, hn9, g9⟩
    obtain rfl := hn9 p3
    clear hn9
    go_wp2
    go_ret
    exact ⟨rfl, below_next T1 (gb_trans (by repeat (first | with_reducible exact gb_refl _ | refine gb_alloc ?_ _ | refine gb_drewN ?_ _ | refine gb_drew ?_)) g9)⟩
  have P3 := Lib.hid p3
  clear p3
  go_wp2_with fail
  refine (laws_szFrame _ f3 (1048576 - f0.tot) _ ((hR3.below T1).keep0 (by repeat (first | with_reducible exact gb_refl _ | refine gb_alloc ?_ _ | refine gb_drewN ?_ _ | refine gb_drew ?_))) (by omega) (hL3.len1) (hL3.len2) (hL3.len3) (hL3.len4) (hL3.len5) (hL3.len6)).mono ?_
  rintro e w2 ⟨hy9, hn9, g2⟩
  obtain rfl := hy9 P3.out
  clear hy9 hn9
  have R2 : w1.grownBy w2 none := gb_trans (by repeat (first | with_reducible exact gb_refl _ | refine gb_alloc ?_ _ | refine gb_drewN ?_ _ | refine gb_drew ?_)) g2
  have T2 : Below w.heap.size w w2 := below_next T1 R2
  have z2 := R2.size
  clear cc_aJ cc_aA cc_aF
  replace bb_aJ := bb_aJ.keep0 R2
  replace bb_aA := bb_aA.keep0 R2
  replace bb_aF := bb_aF.keep0 R2
  have cc_aJ := fun o => bb_aJ.cell o
  have ll_aJ_2 := bb_aJ.lt
  have cc_aA := fun o => bb_aA.cell o
  have ll_aA_2 := bb_aA.lt
  have cc_aF := fun o => bb_aF.cell o
  have ll_aF_2 := bb_aF.lt
  go_wp2_with fail
  have KX : Hid (∀ w', w2.grownBy w' none → (w'.cell? ⟨w.heap.size, 0, none⟩ = some (.slice a0_0 n0_0 c0_0) ∧ w'.cell? ⟨w.heap.size + 1, 0, none⟩ = some (.int .i64 f2.host) ∧ w'.cell? ⟨w.heap.size + 1, 1, none⟩ = some (.int .i64 f2.port) ∧ w'.cell? ⟨w.heap.size + 1 + 1, 0, none⟩ = some (.int .i64 f3.kind) ∧ w'.cell? ⟨w.heap.size + 1 + 1, 1, none⟩ = some (.int .i64 f3.id) ∧ w'.cell? ⟨w.heap.size + 1 + 1, 2, none⟩ = some (.slice a3_0 n3_0 c3_0) ∧ w'.cell? ⟨w.heap.size + 1 + 1, 3, none⟩ = some (.slice a3_1 n3_1 c3_1) ∧ w'.cell? ⟨w.heap.size + 1 + 1, 4, none⟩ = some (.int .i64 f3.tick) ∧ w'.cell? ⟨w.heap.size + 1 + 1, 5, none⟩ = some (.slice a3_2 n3_2 c3_2) ∧ w'.cell? ⟨w.heap.size + 1 + 1, 6, none⟩ = some (.slice a3_3 n3_3 c3_3) ∧ w'.cell? ⟨w.heap.size + 1 + 1, 7, none⟩ = some (.int .i64 f3.epoch) ∧ w'.cell? ⟨w.heap.size + 1 + 1, 8, none⟩ = some (.int .i64 f3.seq) ∧ w'.cell? ⟨w.heap.size + 1 + 1, 9, none⟩ = some (.slice a3_4 n3_4 c3_4) ∧ w'.cell? ⟨w.heap.size + 1 + 1, 10, none⟩ = some (.slice a3_5 n3_5 c3_5) ∧ w2.grownBy w' none)) :=
    fun w' hg => ⟨(bb_aJ.keep0 hg).cell 0, (bb_aA.keep0 hg).cell 0, (bb_aA.keep0 hg).cell 1, (bb_aF.keep0 hg).cell 0, (bb_aF.keep0 hg).cell 1, (bb_aF.keep0 hg).cell 2, (bb_aF.keep0 hg).cell 3, (bb_aF.keep0 hg).cell 4, (bb_aF.keep0 hg).cell 5, (bb_aF.keep0 hg).cell 6, (bb_aF.keep0 hg).cell 7, (bb_aF.keep0 hg).cell 8, (bb_aF.keep0 hg).cell 9, (bb_aF.keep0 hg).cell 10, hg⟩
  clear cc_aJ cc_aA cc_aF
  have cc_aJ : True := trivial
  have cc_aA : True := trivial
  have cc_aF : True := trivial
  go_region_held3 (fun w' => w'.cell? ⟨w.heap.size, 0, none⟩ = some (.slice a0_0 n0_0 c0_0) ∧ w'.cell? ⟨w.heap.size + 1, 0, none⟩ = some (.int .i64 f2.host) ∧ w'.cell? ⟨w.heap.size + 1, 1, none⟩ = some (.int .i64 f2.port) ∧ w'.cell? ⟨w.heap.size + 1 + 1, 0, none⟩ = some (.int .i64 f3.kind) ∧ w'.cell? ⟨w.heap.size + 1 + 1, 1, none⟩ = some (.int .i64 f3.id) ∧ w'.cell? ⟨w.heap.size + 1 + 1, 2, none⟩ = some (.slice a3_0 n3_0 c3_0) ∧ w'.cell? ⟨w.heap.size + 1 + 1, 3, none⟩ = some (.slice a3_1 n3_1 c3_1) ∧ w'.cell? ⟨w.heap.size + 1 + 1, 4, none⟩ = some (.int .i64 f3.tick) ∧ w'.cell? ⟨w.heap.size + 1 + 1, 5, none⟩ = some (.slice a3_2 n3_2 c3_2) ∧ w'.cell? ⟨w.heap.size + 1 + 1, 6, none⟩ = some (.slice a3_3 n3_3 c3_3) ∧ w'.cell? ⟨w.heap.size + 1 + 1, 7, none⟩ = some (.int .i64 f3.epoch) ∧ w'.cell? ⟨w.heap.size + 1 + 1, 8, none⟩ = some (.int .i64 f3.seq) ∧ w'.cell? ⟨w.heap.size + 1 + 1, 9, none⟩ = some (.slice a3_4 n3_4 c3_4) ∧ w'.cell? ⟨w.heap.size + 1 + 1, 10, none⟩ = some (.slice a3_5 n3_5 c3_5) ∧ w2.grownBy w' none)
    ((refine KX.out _ ?_; (repeat (first | with_reducible exact gb_refl _ | with_reducible refine gb_alloc ?_ _ | with_reducible refine gb_drewN ?_ _ | with_reducible refine gb_drew ?_ | with_reducible refine gb_trans ?_ g3 | with_reducible refine gb_trans ?_ g4 | with_reducible refine gb_trans ?_ g5 | with_reducible refine gb_trans ?_ g6))))
    (first
      | (go_at_call 23
         refine (laws_toJar _ f0 _ ((hR0.below T2).keep0 (by repeat (first | with_reducible exact gb_refl _ | refine gb_alloc ?_ _ | refine gb_drewN ?_ _ | refine gb_drew ?_))) (by have := P0.out; simp only [JarM.tot] at this; omega)).mono ?_
         rintro e w3 ⟨v_tw00, rfl, o_tw00, g3⟩
         obtain ⟨a_tw00_0, n_tw00_0, c_tw00_0, rfl⟩ := o_tw00.r.shape
         have R3 : w2.grownBy w3 none := gb_trans (by repeat (first | with_reducible exact gb_refl _ | refine gb_alloc ?_ _ | refine gb_drewN ?_ _ | refine gb_drew ?_)) g3
         have T3 : Below w.heap.size w w3 := below_next T2 R3
         have z3 := R3.size
         clear cc_aJ cc_aA cc_aF
         replace bb_aJ := bb_aJ.keep0 R3
         replace bb_aA := bb_aA.keep0 R3
         replace bb_aF := bb_aF.keep0 R3
         have cc_aJ := fun o => bb_aJ.cell o
         have ll_aJ_3 := bb_aJ.lt
         have cc_aA := fun o => bb_aA.cell o
         have ll_aA_3 := bb_aA.lt
         have cc_aF := fun o => bb_aF.cell o
         have ll_aF_3 := bb_aF.lt
         replace o_tw00 := o_tw00.low (B' := w2.heap.size) (by first | exact Nat.le_refl _ | (simp; done) | (simp; omega)))
      | (go_at_call 24
         refine (laws_toAddr _ f2 _ rfl).mono ?_
         rintro e w4 ⟨v_tw01, rfl, o_tw01, g4⟩
         obtain rfl := o_tw01
         have R4 : w3.grownBy w4 none := gb_trans (by repeat (first | with_reducible exact gb_refl _ | refine gb_alloc ?_ _ | refine gb_drewN ?_ _ | refine gb_drew ?_)) g4
         have T4 : Below w.heap.size w w4 := below_next T3 R4
         have z4 := R4.size
         replace o_tw00 := o_tw00.keep0 R4
         clear cc_aJ cc_aA cc_aF
         replace bb_aJ := bb_aJ.keep0 R4
         replace bb_aA := bb_aA.keep0 R4
         replace bb_aF := bb_aF.keep0 R4
         have cc_aJ := fun o => bb_aJ.cell o
         have ll_aJ_4 := bb_aJ.lt
         have cc_aA := fun o => bb_aA.cell o
         have ll_aA_4 := bb_aA.lt
         have cc_aF := fun o => bb_aF.cell o
         have ll_aF_4 := bb_aF.lt)
      | (go_at_call 19
         refine (laws_toFrame _ f3 _ ((hR3.below T4).keep0 (by repeat (first | with_reducible exact gb_refl _ | refine gb_alloc ?_ _ | refine gb_drewN ?_ _ | refine gb_drew ?_))) (by have := P3.out; simp only [FrameM.tot] at this; omega) (by have := P3.out; simp only [FrameM.tot] at this; omega) (by have := P3.out; simp only [FrameM.tot] at this; omega) (by have := P3.out; simp only [FrameM.tot] at this; omega) (by have := P3.out; simp only [FrameM.tot] at this; omega) (by have := P3.out; simp only [FrameM.tot] at this; omega)).mono ?_
         rintro e w5 ⟨v_tw02, rfl, o_tw02, g5⟩
         obtain ⟨a_tw02_0, n_tw02_0, c_tw02_0, a_tw02_1, n_tw02_1, c_tw02_1, a_tw02_2, n_tw02_2, c_tw02_2, a_tw02_3, n_tw02_3, c_tw02_3, a_tw02_4, n_tw02_4, c_tw02_4, a_tw02_5, n_tw02_5, c_tw02_5, rfl⟩ := o_tw02.r.shape
         have R5 : w4.grownBy w5 none := gb_trans (by repeat (first | with_reducible exact gb_refl _ | refine gb_alloc ?_ _ | refine gb_drewN ?_ _ | refine gb_drew ?_)) g5
         have T5 : Below w.heap.size w w5 := below_next T4 R5
         have z5 := R5.size
         replace o_tw00 := o_tw00.keep0 R5
         clear cc_aJ cc_aA cc_aF
         replace bb_aJ := bb_aJ.keep0 R5
         replace bb_aA := bb_aA.keep0 R5
         replace bb_aF := bb_aF.keep0 R5
         have cc_aJ := fun o => bb_aJ.cell o
         have ll_aJ_5 := bb_aJ.lt
         have cc_aA := fun o => bb_aA.cell o
         have ll_aA_5 := bb_aA.lt
         have cc_aF := fun o => bb_aF.cell o
         have ll_aF_5 := bb_aF.lt
         replace o_tw02 := o_tw02.low (B' := w4.heap.size) (by first | exact Nat.le_refl _ | (simp; done) | (simp; omega)))
      | (go_at_call 22
         refine (LS_Judge _ f0 x1 _ f2 _ f3 _ (o_tw00.r.keep0 (by repeat (first | with_reducible exact gb_refl _ | refine gb_alloc ?_ _ | refine gb_drewN ?_ _ | refine gb_drew ?_))) rfl (o_tw02.r.keep0 (by repeat (first | with_reducible exact gb_refl _ | refine gb_alloc ?_ _ | refine gb_drewN ?_ _ | refine gb_drew ?_))) (by have := P0.out; omega) (by have := P3.out; omega)).mono ?_
         rintro e w6 ⟨rfl, g6⟩
         have R6 : w5.grownBy w6 none := gb_trans (by repeat (first | with_reducible exact gb_refl _ | refine gb_alloc ?_ _ | refine gb_drewN ?_ _ | refine gb_drew ?_)) g6
         have T6 : Below w.heap.size w w6 := below_next T5 R6
         have z6 := R6.size
         replace o_tw00 := o_tw00.keep0 R6
         replace o_tw02 := o_tw02.keep0 R6
         clear cc_aJ cc_aA cc_aF
         replace bb_aJ := bb_aJ.keep0 R6
         replace bb_aA := bb_aA.keep0 R6
         replace bb_aF := bb_aF.keep0 R6
         have cc_aJ := fun o => bb_aJ.cell o
         have ll_aJ_6 := bb_aJ.lt
         have cc_aA := fun o => bb_aA.cell o
         have ll_aA_6 := bb_aA.lt
         have cc_aF := fun o => bb_aF.cell o
         have ll_aF_6 := bb_aF.lt)
      | fail)
  clear KX
  clear o_tw00
  clear o_tw02
  go_wp2_with fail
  refine (laws_toJar _ f0 _ ((hR0.below T6).keep0 (by repeat (first | with_reducible exact gb_refl _ | refine gb_alloc ?_ _ | refine gb_drewN ?_ _ | refine gb_drew ?_))) (by have := P0.out; simp only [JarM.tot] at this; omega)).mono ?_
  rintro e w7 ⟨v_x0, rfl, o_x0, g7⟩
  obtain ⟨a_x0_0, n_x0_0, c_x0_0, rfl⟩ := o_x0.r.shape
  have R7 : w6.grownBy w7 none := gb_trans (by repeat (first | with_reducible exact gb_refl _ | refine gb_alloc ?_ _ | refine gb_drewN ?_ _ | refine gb_drew ?_)) g7
  have T7 : Below w.heap.size w w7 := below_next T6 R7
  have z7 := R7.size
  clear cc_aJ cc_aA cc_aF
  replace bb_aJ := bb_aJ.keep0 R7
  replace bb_aA := bb_aA.keep0 R7
  replace bb_aF := bb_aF.keep0 R7
  have cc_aJ := fun o => bb_aJ.cell o
  have ll_aJ_7 := bb_aJ.lt
  have cc_aA := fun o => bb_aA.cell o
  have ll_aA_7 := bb_aA.lt
  have cc_aF := fun o => bb_aF.cell o
  have ll_aF_7 := bb_aF.lt
  replace o_x0 := o_x0.low (B' := w6.heap.size) (by first | exact Nat.le_refl _ | (simp; done) | (simp; omega))
  go_wp2_with fail
  refine (laws_toFrame _ f3 _ ((hR3.below T7).keep0 (by repeat (first | with_reducible exact gb_refl _ | refine gb_alloc ?_ _ | refine gb_drewN ?_ _ | refine gb_drew ?_))) (by have := P3.out; simp only [FrameM.tot] at this; omega) (by have := P3.out; simp only [FrameM.tot] at this; omega) (by have := P3.out; simp only [FrameM.tot] at this; omega) (by have := P3.out; simp only [FrameM.tot] at this; omega) (by have := P3.out; simp only [FrameM.tot] at this; omega) (by have := P3.out; simp only [FrameM.tot] at this; omega)).mono ?_
  rintro e w8 ⟨v_x3, rfl, o_x3, g8⟩
  obtain ⟨a_x3_0, n_x3_0, c_x3_0, a_x3_1, n_x3_1, c_x3_1, a_x3_2, n_x3_2, c_x3_2, a_x3_3, n_x3_3, c_x3_3, a_x3_4, n_x3_4, c_x3_4, a_x3_5, n_x3_5, c_x3_5, rfl⟩ := o_x3.r.shape
  have R8 : w7.grownBy w8 none := gb_trans (by repeat (first | with_reducible exact gb_refl _ | refine gb_alloc ?_ _ | refine gb_drewN ?_ _ | refine gb_drew ?_)) g8
  have T8 : Below w.heap.size w w8 := below_next T7 R8
  have z8 := R8.size
  replace o_x0 := o_x0.keep0 R8
  clear cc_aJ cc_aA cc_aF
  replace bb_aJ := bb_aJ.keep0 R8
  replace bb_aA := bb_aA.keep0 R8
  replace bb_aF := bb_aF.keep0 R8
  have bb_x0 : Bx w8 (w7.heap.size) 44 #[.slice a_x0_0 n_x0_0 c_x0_0] := by first | exact (bx1 w7 _ _).keep0 g8 | exact (bx1 w7 _ _).drew.keep0 g8
  have cc_aJ := fun o => bb_aJ.cell o
  have ll_aJ_8 := bb_aJ.lt
  have cc_aA := fun o => bb_aA.cell o
  have ll_aA_8 := bb_aA.lt
  have cc_aF := fun o => bb_aF.cell o
  have ll_aF_8 := bb_aF.lt
  have cc_x0 := fun o => bb_x0.cell o
  have ll_x0_8 := bb_x0.lt
  replace o_x3 := o_x3.low (B' := w7.heap.size + 1) (by first | exact Nat.le_refl _ | (simp; done) | (simp; omega))
  go_wp2_with fail
  have KX : Hid (∀ w', (w8.alloc (.cells #[.int .i64 f3.kind, .int .i64 f3.id, .slice a_x3_0 n_x3_0 c_x3_0, .slice a_x3_1 n_x3_1 c_x3_1, .int .i64 f3.tick, .slice a_x3_2 n_x3_2 c_x3_2, .slice a_x3_3 n_x3_3 c_x3_3, .int .i64 f3.epoch, .int .i64 f3.seq, .slice a_x3_4 n_x3_4 c_x3_4, .slice a_x3_5 n_x3_5 c_x3_5] 24)).grownBy w' none → (w'.cell? ⟨w7.heap.size, 0, none⟩ = some (.slice a_x0_0 n_x0_0 c_x0_0) ∧ w'.cell? ⟨w.heap.size + 1, 0, none⟩ = some (.int .i64 f2.host) ∧ w'.cell? ⟨w.heap.size + 1, 1, none⟩ = some (.int .i64 f2.port) ∧ w'.cell? ⟨w8.heap.size, 0, none⟩ = some (.int .i64 f3.kind) ∧ w'.cell? ⟨w8.heap.size, 1, none⟩ = some (.int .i64 f3.id) ∧ w'.cell? ⟨w8.heap.size, 2, none⟩ = some (.slice a_x3_0 n_x3_0 c_x3_0) ∧ w'.cell? ⟨w8.heap.size, 3, none⟩ = some (.slice a_x3_1 n_x3_1 c_x3_1) ∧ w'.cell? ⟨w8.heap.size, 4, none⟩ = some (.int .i64 f3.tick) ∧ w'.cell? ⟨w8.heap.size, 5, none⟩ = some (.slice a_x3_2 n_x3_2 c_x3_2) ∧ w'.cell? ⟨w8.heap.size, 6, none⟩ = some (.slice a_x3_3 n_x3_3 c_x3_3) ∧ w'.cell? ⟨w8.heap.size, 7, none⟩ = some (.int .i64 f3.epoch) ∧ w'.cell? ⟨w8.heap.size, 8, none⟩ = some (.int .i64 f3.seq) ∧ w'.cell? ⟨w8.heap.size, 9, none⟩ = some (.slice a_x3_4 n_x3_4 c_x3_4) ∧ w'.cell? ⟨w8.heap.size, 10, none⟩ = some (.slice a_x3_5 n_x3_5 c_x3_5) ∧ (w8.alloc (.cells #[.int .i64 f3.kind, .int .i64 f3.id, .slice a_x3_0 n_x3_0 c_x3_0, .slice a_x3_1 n_x3_1 c_x3_1, .int .i64 f3.tick, .slice a_x3_2 n_x3_2 c_x3_2, .slice a_x3_3 n_x3_3 c_x3_3, .int .i64 f3.epoch, .int .i64 f3.seq, .slice a_x3_4 n_x3_4 c_x3_4, .slice a_x3_5 n_x3_5 c_x3_5] 24)).grownBy w' none)) :=
    fun w' hg => ⟨((bb_x0.old _).keep0 hg).cell 0, ((bb_aA.old _).keep0 hg).cell 0, ((bb_aA.old _).keep0 hg).cell 1, ((bx1 w8 _ _).keep0 hg).cell 0, ((bx1 w8 _ _).keep0 hg).cell 1, ((bx1 w8 _ _).keep0 hg).cell 2, ((bx1 w8 _ _).keep0 hg).cell 3, ((bx1 w8 _ _).keep0 hg).cell 4, ((bx1 w8 _ _).keep0 hg).cell 5, ((bx1 w8 _ _).keep0 hg).cell 6, ((bx1 w8 _ _).keep0 hg).cell 7, ((bx1 w8 _ _).keep0 hg).cell 8, ((bx1 w8 _ _).keep0 hg).cell 9, ((bx1 w8 _ _).keep0 hg).cell 10, hg⟩
  clear cc_aJ cc_aA cc_aF cc_x0
  have cc_aJ : True := trivial
  have cc_aA : True := trivial
  have cc_aF : True := trivial
  have cc_x0 : True := trivial
  go_region_held3 (fun w' => w'.cell? ⟨w7.heap.size, 0, none⟩ = some (.slice a_x0_0 n_x0_0 c_x0_0) ∧ w'.cell? ⟨w.heap.size + 1, 0, none⟩ = some (.int .i64 f2.host) ∧ w'.cell? ⟨w.heap.size + 1, 1, none⟩ = some (.int .i64 f2.port) ∧ w'.cell? ⟨w8.heap.size, 0, none⟩ = some (.int .i64 f3.kind) ∧ w'.cell? ⟨w8.heap.size, 1, none⟩ = some (.int .i64 f3.id) ∧ w'.cell? ⟨w8.heap.size, 2, none⟩ = some (.slice a_x3_0 n_x3_0 c_x3_0) ∧ w'.cell? ⟨w8.heap.size, 3, none⟩ = some (.slice a_x3_1 n_x3_1 c_x3_1) ∧ w'.cell? ⟨w8.heap.size, 4, none⟩ = some (.int .i64 f3.tick) ∧ w'.cell? ⟨w8.heap.size, 5, none⟩ = some (.slice a_x3_2 n_x3_2 c_x3_2) ∧ w'.cell? ⟨w8.heap.size, 6, none⟩ = some (.slice a_x3_3 n_x3_3 c_x3_3) ∧ w'.cell? ⟨w8.heap.size, 7, none⟩ = some (.int .i64 f3.epoch) ∧ w'.cell? ⟨w8.heap.size, 8, none⟩ = some (.int .i64 f3.seq) ∧ w'.cell? ⟨w8.heap.size, 9, none⟩ = some (.slice a_x3_4 n_x3_4 c_x3_4) ∧ w'.cell? ⟨w8.heap.size, 10, none⟩ = some (.slice a_x3_5 n_x3_5 c_x3_5) ∧ (w8.alloc (.cells #[.int .i64 f3.kind, .int .i64 f3.id, .slice a_x3_0 n_x3_0 c_x3_0, .slice a_x3_1 n_x3_1 c_x3_1, .int .i64 f3.tick, .slice a_x3_2 n_x3_2 c_x3_2, .slice a_x3_3 n_x3_3 c_x3_3, .int .i64 f3.epoch, .int .i64 f3.seq, .slice a_x3_4 n_x3_4 c_x3_4, .slice a_x3_5 n_x3_5 c_x3_5] 24)).grownBy w' none)
    ((refine KX.out _ ?_; (repeat (first | with_reducible exact gb_refl _ | with_reducible refine gb_alloc ?_ _ | with_reducible refine gb_drewN ?_ _ | with_reducible refine gb_drew ?_ | with_reducible refine gb_trans ?_ g9 | with_reducible refine gb_trans ?_ g10))))
    (first
      | (go_at_call 24
         refine (laws_toAddr _ f2 _ rfl).mono ?_
         rintro e w9 ⟨v_tg00, rfl, o_tg00, g9⟩
         obtain rfl := o_tg00
         have R9 : w8.grownBy w9 none := gb_trans (by repeat (first | with_reducible exact gb_refl _ | refine gb_alloc ?_ _ | refine gb_drewN ?_ _ | refine gb_drew ?_)) g9
         have T9 : Below w.heap.size w w9 := below_next T8 R9
         have z9 := R9.size
         replace o_x0 := o_x0.keep0 R9
         replace o_x3 := o_x3.keep0 R9
         clear cc_aJ cc_aA cc_aF cc_x0
         replace bb_aJ := bb_aJ.keep0 R9
         replace bb_aA := bb_aA.keep0 R9
         replace bb_aF := bb_aF.keep0 R9
         replace bb_x0 := bb_x0.keep0 R9
         have bb_x3 : Bx w9 (w8.heap.size) 24 #[.int .i64 f3.kind, .int .i64 f3.id, .slice a_x3_0 n_x3_0 c_x3_0, .slice a_x3_1 n_x3_1 c_x3_1, .int .i64 f3.tick, .slice a_x3_2 n_x3_2 c_x3_2, .slice a_x3_3 n_x3_3 c_x3_3, .int .i64 f3.epoch, .int .i64 f3.seq, .slice a_x3_4 n_x3_4 c_x3_4, .slice a_x3_5 n_x3_5 c_x3_5] := by first | exact (bx1 w8 _ _).keep0 g9 | exact (bx1 w8 _ _).drew.keep0 g9
         have cc_aJ := fun o => bb_aJ.cell o
         have ll_aJ_9 := bb_aJ.lt
         have cc_aA := fun o => bb_aA.cell o
         have ll_aA_9 := bb_aA.lt
         have cc_aF := fun o => bb_aF.cell o
         have ll_aF_9 := bb_aF.lt
         have cc_x0 := fun o => bb_x0.cell o
         have ll_x0_9 := bb_x0.lt
         have cc_x3 := fun o => bb_x3.cell o
         have ll_x3_9 := bb_x3.lt)
      | (go_at_call 25
         refine (LI_Judge _ f0 x1 _ f2 _ f3 _ (o_x0.r.keep0 (by repeat (first | with_reducible exact gb_refl _ | refine gb_alloc ?_ _ | refine gb_drewN ?_ _ | refine gb_drew ?_))) rfl (o_x3.r.keep0 (by repeat (first | with_reducible exact gb_refl _ | refine gb_alloc ?_ _ | refine gb_drewN ?_ _ | refine gb_drew ?_))) (by have := P0.out; omega) (by have := P3.out; omega)).mono ?_
         rintro e w10 ⟨rfl, g10⟩
         have R10 : w9.grownBy w10 none := gb_trans (by repeat (first | with_reducible exact gb_refl _ | refine gb_alloc ?_ _ | refine gb_drewN ?_ _ | refine gb_drew ?_)) g10
         have T10 : Below w.heap.size w w10 := below_next T9 R10
         have z10 := R10.size
         replace o_x0 := o_x0.keep0 R10
         replace o_x3 := o_x3.keep0 R10
         clear cc_aJ cc_aA cc_aF cc_x0 cc_x3
         replace bb_aJ := bb_aJ.keep0 R10
         replace bb_aA := bb_aA.keep0 R10
         replace bb_aF := bb_aF.keep0 R10
         replace bb_x0 := bb_x0.keep0 R10
         replace bb_x3 := bb_x3.keep0 R10
         have cc_aJ := fun o => bb_aJ.cell o
         have ll_aJ_10 := bb_aJ.lt
         have cc_aA := fun o => bb_aA.cell o
         have ll_aA_10 := bb_aA.lt
         have cc_aF := fun o => bb_aF.cell o
         have ll_aF_10 := bb_aF.lt
         have cc_x0 := fun o => bb_x0.cell o
         have ll_x0_10 := bb_x0.lt
         have cc_x3 := fun o => bb_x3.cell o
         have ll_x3_10 := bb_x3.lt)
      | fail)
  clear KX
  go_wp2_with fail
  have KX : Hid (∀ w', w10.grownBy w' none → (w'.cell? ⟨w.heap.size, 0, none⟩ = some (.slice a0_0 n0_0 c0_0) ∧ w'.cell? ⟨w7.heap.size, 0, none⟩ = some (.slice a_x0_0 n_x0_0 c_x0_0) ∧ w10.grownBy w' none)) :=
    fun w' hg => ⟨(bb_aJ.keep0 hg).cell 0, (bb_x0.keep0 hg).cell 0, hg⟩
  clear cc_aJ cc_aA cc_aF cc_x0 cc_x3
  go_region_held3 (fun w' => w'.cell? ⟨w.heap.size, 0, none⟩ = some (.slice a0_0 n0_0 c0_0) ∧ w'.cell? ⟨w7.heap.size, 0, none⟩ = some (.slice a_x0_0 n_x0_0 c_x0_0) ∧ w10.grownBy w' none)
    ((refine KX.out _ ?_; first | exact gb_drew (gb_refl _) | exact gb_trans (gb_trans (gb_drew (gb_refl _)) g11a) g11b | exact gb_trans (gb_drew (gb_refl _)) g11a))
    (first
      | (go_at_call 23; refine (laws_toJar _ f0 _ ((hR0.below T10).keep0 (gb_drew (gb_refl _))) (by have := P0.out; simp only [JarM.tot] at this; omega)).mono ?_; rintro e wy11 ⟨vy, rfl, oy, g11a⟩; obtain ⟨a_yx0_0, n_yx0_0, c_yx0_0, rfl⟩ := oy.r.shape)
      | (go_at_call 26; refine (laws_eqJar _ _ f0 _ (o_x0.r.keep0 (gb_trans (gb_drew (gb_refl _)) g11a)) oy.r (by have h9 := (by have := P0.out; omega); simp only [JarM.tot] at h9; omega)).mono ?_; rintro e w11 ⟨rfl, g11b⟩))
  have g11 := gb_trans g11a g11b
  have cc_aJ : True := trivial
  have cc_aA : True := trivial
  have cc_aF : True := trivial
  have cc_x0 : True := trivial
  have cc_x3 : True := trivial
  have R11 : w10.grownBy w11 none := gb_trans (gb_drew (gb_refl _)) (gb_trans g11a g11b)
  have T11 : Below w.heap.size w w11 := below_next T10 R11
  have z11 := R11.size
  replace o_x0 := o_x0.keep0 R11
  replace o_x3 := o_x3.keep0 R11
  clear cc_aJ cc_aA cc_aF cc_x0 cc_x3
  replace bb_aJ := bb_aJ.keep0 R11
  replace bb_aA := bb_aA.keep0 R11
  replace bb_aF := bb_aF.keep0 R11
  replace bb_x0 := bb_x0.keep0 R11
  replace bb_x3 := bb_x3.keep0 R11
  have cc_aJ := fun o => bb_aJ.cell o
  have ll_aJ_11 := bb_aJ.lt
  have cc_aA := fun o => bb_aA.cell o
  have ll_aA_11 := bb_aA.lt
  have cc_aF := fun o => bb_aF.cell o
  have ll_aF_11 := bb_aF.lt
  have cc_x0 := fun o => bb_x0.cell o
  have ll_x0_11 := bb_x0.lt
  have cc_x3 := fun o => bb_x3.cell o
  have ll_x3_11 := bb_x3.lt
  clear KX oy
  go_wp2_with fail
  have KX : Hid (∀ w', w11.grownBy w' none → (w'.cell? ⟨w.heap.size + 1 + 1, 0, none⟩ = some (.int .i64 f3.kind) ∧ w'.cell? ⟨w.heap.size + 1 + 1, 1, none⟩ = some (.int .i64 f3.id) ∧ w'.cell? ⟨w.heap.size + 1 + 1, 2, none⟩ = some (.slice a3_0 n3_0 c3_0) ∧ w'.cell? ⟨w.heap.size + 1 + 1, 3, none⟩ = some (.slice a3_1 n3_1 c3_1) ∧ w'.cell? ⟨w.heap.size + 1 + 1, 4, none⟩ = some (.int .i64 f3.tick) ∧ w'.cell? ⟨w.heap.size + 1 + 1, 5, none⟩ = some (.slice a3_2 n3_2 c3_2) ∧ w'.cell? ⟨w.heap.size + 1 + 1, 6, none⟩ = some (.slice a3_3 n3_3 c3_3) ∧ w'.cell? ⟨w.heap.size + 1 + 1, 7, none⟩ = some (.int .i64 f3.epoch) ∧ w'.cell? ⟨w.heap.size + 1 + 1, 8, none⟩ = some (.int .i64 f3.seq) ∧ w'.cell? ⟨w.heap.size + 1 + 1, 9, none⟩ = some (.slice a3_4 n3_4 c3_4) ∧ w'.cell? ⟨w.heap.size + 1 + 1, 10, none⟩ = some (.slice a3_5 n3_5 c3_5) ∧ w'.cell? ⟨w8.heap.size, 0, none⟩ = some (.int .i64 f3.kind) ∧ w'.cell? ⟨w8.heap.size, 1, none⟩ = some (.int .i64 f3.id) ∧ w'.cell? ⟨w8.heap.size, 2, none⟩ = some (.slice a_x3_0 n_x3_0 c_x3_0) ∧ w'.cell? ⟨w8.heap.size, 3, none⟩ = some (.slice a_x3_1 n_x3_1 c_x3_1) ∧ w'.cell? ⟨w8.heap.size, 4, none⟩ = some (.int .i64 f3.tick) ∧ w'.cell? ⟨w8.heap.size, 5, none⟩ = some (.slice a_x3_2 n_x3_2 c_x3_2) ∧ w'.cell? ⟨w8.heap.size, 6, none⟩ = some (.slice a_x3_3 n_x3_3 c_x3_3) ∧ w'.cell? ⟨w8.heap.size, 7, none⟩ = some (.int .i64 f3.epoch) ∧ w'.cell? ⟨w8.heap.size, 8, none⟩ = some (.int .i64 f3.seq) ∧ w'.cell? ⟨w8.heap.size, 9, none⟩ = some (.slice a_x3_4 n_x3_4 c_x3_4) ∧ w'.cell? ⟨w8.heap.size, 10, none⟩ = some (.slice a_x3_5 n_x3_5 c_x3_5) ∧ w11.grownBy w' none)) :=
    fun w' hg => ⟨(bb_aF.keep0 hg).cell 0, (bb_aF.keep0 hg).cell 1, (bb_aF.keep0 hg).cell 2, (bb_aF.keep0 hg).cell 3, (bb_aF.keep0 hg).cell 4, (bb_aF.keep0 hg).cell 5, (bb_aF.keep0 hg).cell 6, (bb_aF.keep0 hg).cell 7, (bb_aF.keep0 hg).cell 8, (bb_aF.keep0 hg).cell 9, (bb_aF.keep0 hg).cell 10, (bb_x3.keep0 hg).cell 0, (bb_x3.keep0 hg).cell 1, (bb_x3.keep0 hg).cell 2, (bb_x3.keep0 hg).cell 3, (bb_x3.keep0 hg).cell 4, (bb_x3.keep0 hg).cell 5, (bb_x3.keep0 hg).cell 6, (bb_x3.keep0 hg).cell 7, (bb_x3.keep0 hg).cell 8, (bb_x3.keep0 hg).cell 9, (bb_x3.keep0 hg).cell 10, hg⟩
  clear cc_aJ cc_aA cc_aF cc_x0 cc_x3
  go_region_held3 (fun w' => w'.cell? ⟨w.heap.size + 1 + 1, 0, none⟩ = some (.int .i64 f3.kind) ∧ w'.cell? ⟨w.heap.size + 1 + 1, 1, none⟩ = some (.int .i64 f3.id) ∧ w'.cell? ⟨w.heap.size + 1 + 1, 2, none⟩ = some (.slice a3_0 n3_0 c3_0) ∧ w'.cell? ⟨w.heap.size + 1 + 1, 3, none⟩ = some (.slice a3_1 n3_1 c3_1) ∧ w'.cell? ⟨w.heap.size + 1 + 1, 4, none⟩ = some (.int .i64 f3.tick) ∧ w'.cell? ⟨w.heap.size + 1 + 1, 5, none⟩ = some (.slice a3_2 n3_2 c3_2) ∧ w'.cell? ⟨w.heap.size + 1 + 1, 6, none⟩ = some (.slice a3_3 n3_3 c3_3) ∧ w'.cell? ⟨w.heap.size + 1 + 1, 7, none⟩ = some (.int .i64 f3.epoch) ∧ w'.cell? ⟨w.heap.size + 1 + 1, 8, none⟩ = some (.int .i64 f3.seq) ∧ w'.cell? ⟨w.heap.size + 1 + 1, 9, none⟩ = some (.slice a3_4 n3_4 c3_4) ∧ w'.cell? ⟨w.heap.size + 1 + 1, 10, none⟩ = some (.slice a3_5 n3_5 c3_5) ∧ w'.cell? ⟨w8.heap.size, 0, none⟩ = some (.int .i64 f3.kind) ∧ w'.cell? ⟨w8.heap.size, 1, none⟩ = some (.int .i64 f3.id) ∧ w'.cell? ⟨w8.heap.size, 2, none⟩ = some (.slice a_x3_0 n_x3_0 c_x3_0) ∧ w'.cell? ⟨w8.heap.size, 3, none⟩ = some (.slice a_x3_1 n_x3_1 c_x3_1) ∧ w'.cell? ⟨w8.heap.size, 4, none⟩ = some (.int .i64 f3.tick) ∧ w'.cell? ⟨w8.heap.size, 5, none⟩ = some (.slice a_x3_2 n_x3_2 c_x3_2) ∧ w'.cell? ⟨w8.heap.size, 6, none⟩ = some (.slice a_x3_3 n_x3_3 c_x3_3) ∧ w'.cell? ⟨w8.heap.size, 7, none⟩ = some (.int .i64 f3.epoch) ∧ w'.cell? ⟨w8.heap.size, 8, none⟩ = some (.int .i64 f3.seq) ∧ w'.cell? ⟨w8.heap.size, 9, none⟩ = some (.slice a_x3_4 n_x3_4 c_x3_4) ∧ w'.cell? ⟨w8.heap.size, 10, none⟩ = some (.slice a_x3_5 n_x3_5 c_x3_5) ∧ w11.grownBy w' none)
    ((refine KX.out _ ?_; first | exact gb_drew (gb_refl _) | exact gb_trans (gb_trans (gb_drew (gb_refl _)) g12a) g12b | exact gb_trans (gb_drew (gb_refl _)) g12a))
    (first
      | (go_at_call 19; refine (laws_toFrame _ f3 _ ((hR3.below T11).keep0 (gb_drew (gb_refl _))) (by have := P3.out; simp only [FrameM.tot] at this; omega) (by have := P3.out; simp only [FrameM.tot] at this; omega) (by have := P3.out; simp only [FrameM.tot] at this; omega) (by have := P3.out; simp only [FrameM.tot] at this; omega) (by have := P3.out; simp only [FrameM.tot] at this; omega) (by have := P3.out; simp only [FrameM.tot] at this; omega)).mono ?_; rintro e wy12 ⟨vy, rfl, oy, g12a⟩; obtain ⟨a_yx3_0, n_yx3_0, c_yx3_0, a_yx3_1, n_yx3_1, c_yx3_1, a_yx3_2, n_yx3_2, c_yx3_2, a_yx3_3, n_yx3_3, c_yx3_3, a_yx3_4, n_yx3_4, c_yx3_4, a_yx3_5, n_yx3_5, c_yx3_5, rfl⟩ := oy.r.shape)
      | (go_at_call 12; refine (laws_eqFrame _ _ f3 _ (o_x3.r.keep0 (gb_trans (gb_drew (gb_refl _)) g12a)) oy.r (by have h9 := (by have := P3.out; omega); simp only [FrameM.tot] at h9; omega) (by have h9 := (by have := P3.out; omega); simp only [FrameM.tot] at h9; omega) (by have h9 := (by have := P3.out; omega); simp only [FrameM.tot] at h9; omega) (by have h9 := (by have := P3.out; omega); simp only [FrameM.tot] at h9; omega) (by have h9 := (by have := P3.out; omega); simp only [FrameM.tot] at h9; omega) (by have h9 := (by have := P3.out; omega); simp only [FrameM.tot] at h9; omega)).mono ?_; rintro e w12 ⟨rfl, g12b⟩))
  have g12 := gb_trans g12a g12b
  have cc_aJ : True := trivial
  have cc_aA : True := trivial
  have cc_aF : True := trivial
  have cc_x0 : True := trivial
  have cc_x3 : True := trivial
  have R12 : w11.grownBy w12 none := gb_trans (gb_drew (gb_refl _)) (gb_trans g12a g12b)
  have T12 : Below w.heap.size w w12 := below_next T11 R12
  have z12 := R12.size
  replace o_x0 := o_x0.keep0 R12
  replace o_x3 := o_x3.keep0 R12
  clear cc_aJ cc_aA cc_aF cc_x0 cc_x3
  replace bb_aJ := bb_aJ.keep0 R12
  replace bb_aA := bb_aA.keep0 R12
  replace bb_aF := bb_aF.keep0 R12
  replace bb_x0 := bb_x0.keep0 R12
  replace bb_x3 := bb_x3.keep0 R12
  have cc_aJ := fun o => bb_aJ.cell o
  have ll_aJ_12 := bb_aJ.lt
  have cc_aA := fun o => bb_aA.cell o
  have ll_aA_12 := bb_aA.lt
  have cc_aF := fun o => bb_aF.cell o
  have ll_aF_12 := bb_aF.lt
  have cc_x0 := fun o => bb_x0.cell o
  have ll_x0_12 := bb_x0.lt
  have cc_x3 := fun o => bb_x3.cell o
  have ll_x3_12 := bb_x3.lt
  clear KX oy
  go_wp2
  go_ret
  exact ⟨rfl, T12⟩
set_option maxRecDepth 100000 in
theorem lifted (os : Os) (started : os.Started) (H : Type) (enc : TypeId × Value → H) :
    ReturnsInHanded {} Try.checked os 5 .any (Rows.fnExactJudgeSpec.pre6 enc Try.prog Try.f5 Rows.fnExactJudgeRow.domain false) (Rows.fnExactJudgeSpec.post enc Try.prog Try.f5 false true false false) := by
  refine returnsInHanded_of_change (C := Try.checked) own started (by kernel_rfl) Try.func5
    (ChangeSpec.witness6 (enc := enc) (C := Try.checked) false ⟨#[], #[.agg #[.slice none 0 0], .int .i64 0, .agg #[.int .i64 0, .int .i64 0], .agg #[.int .i64 0, .int .i64 0, .slice none 0 0, .slice none 0 0, .int .i64 0, .slice none 0 0, .slice none 0 0, .int .i64 0, .int .i64 0, .slice none 0 0, .slice none 0 0]], []⟩ 8 (by kernel_rfl) (by kernel_rfl) (by kernel_rfl) (by kernel_rfl)) ?_
  intro W base args ds gs before hval0 hW _ _
  have hval : ∀ (j : Nat) t v, Try.f5.params[j]? = some t → args[j]? = some v → Value.okWide Try.prog W .any base t v := hval0
  have hW2 := hW
  obtain ⟨p, q, hA0, hV, hps, _, _⟩ := hW
  have hA : DataW.TrodAll enc Try.prog W 0 (fun _ => true) true Try.f5.params.toList args.toList ds p := hA0
  rw [Try.params5] at hA hval
  obtain ⟨rfl, rfl⟩ := trodVars_none hV
  obtain ⟨v0, vs0, d0, ds0, p0, q0, hargs, rfl, rfl, h0, r0⟩ := trodAll_cons hA
  obtain ⟨v1, vs1, d1, ds1, p1, q1, rfl, rfl, rfl, h1, r1⟩ := trodAll_cons r0
  obtain ⟨v2, vs2, d2, ds2, p2, q2, rfl, rfl, rfl, h2, r2⟩ := trodAll_cons r1
  obtain ⟨v3, vs3, d3, ds3, p3, q3, rfl, rfl, rfl, h3, r3⟩ := trodAll_cons r2
  obtain ⟨rfl, rfl, rfl⟩ := trodAll_nil r3
  obtain rfl : args = #[v0, v1, v2, v3] := by cases args; simp_all
  have i0 := open_Jar (hval 0 39 v0 rfl rfl) h0
  have i1 := open_I (hval 1 3 v1 rfl rfl) h1
  have i2 := open_Addr (hval 2 41 v2 rfl rfl) h2
  have i3 := open_Frame (hval 3 33 v3 rfl rfl) h3
  clear hA0 hval0
  refine (walk W v0 v1 v2 v3 i0 i1 i2 i3).mono fun e W2 ⟨he, hb⟩ => ?_
  subst he
  exact ⟨_, rfl, law_post (tb := 4) laidOut (by kernel_rfl) (by kernel_rfl) Try.underlying4 rfl ⟨rfl, rfl, rfl⟩ hW2 hb⟩
theorem over : Rows.fnExactJudgeRow.holds Try.pinned (OpenSpec.ofChange Rows.fnExactJudgeSpec) :=
  OpenClaim.holds_of_wide 5 Try.f5 rfl rfl rfl rfl rfl rfl rfl ⟨rfl, rfl, rfl, rfl, rfl⟩ rfl rfl rfl rfl rfl (by kernel_rfl) Try.func5 (by kernel_rfl)
    (of_decide_eq_true (by kernel_rfl)) (by unfold Func.isWrapper; first | (rw [if_pos (by decide +kernel)]; kernel_rfl) | (rw [if_neg (by decide +kernel)]; exact ⟨rfl, rfl⟩))
    (fun os started H enc _ => lifted os started H enc)
theorem proved : Rows.FnExactJudgeSaid :=
  over
#print axioms proved
end Go.Proofs.Ytfjbfgonkimboaa.lJudge
