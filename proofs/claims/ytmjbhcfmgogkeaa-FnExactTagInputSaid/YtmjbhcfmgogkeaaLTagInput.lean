/-
  FnExactTagInput returns true for every role and frame. Conditions: none.
-/
import Derived.Test.YtmjbhcfmgogkeaaLaw
import Derived.Test.YtmjbhcfmgogkeaaTagI
import Derived.Deep.RegionHeld3
namespace Go.Proofs.Ytmjbhcfmgogkeaa.lTagInput
open Go.ChangeShapes Go.WideShapes Go.ChangeAt Go.RowKit
theorem LS_TagInput (x : Int) (v : Value) (f : FrameM) (w : World) (h : FrameR w v f) (_hs : f.tot ≤ 1048576) : Calls Try.prog 15 #[.int .i64 x, v] w fun e w' => ∃ a n c, e = .returned (.slice a n c) ∧ Ow w.heap.size w' 5 a n c (bys (tagInM x f)) ∧ w.grownBy w' none := spec_TagInput x v f w h
theorem LI_TagInput (x : Int) (v : Value) (f : FrameM) (w : World) (h : FrameR w v f) (_hs : f.tot ≤ 1048576) : Calls Try.prog 16 #[.int .i64 x, v] w fun e w' => ∃ a n c, e = .returned (.slice a n c) ∧ Ow w.heap.size w' 5 a n c (bys (tagInM x f)) ∧ w.grownBy w' none := impl_TagInput x v f w h
set_option maxRecDepth 100000 in
set_option maxHeartbeats 4000000 in
theorem walk (w : World) (v0 v1 : Value) (h0 : InInt v0) (h1 : InFrame w v1) : Calls Try.prog 5 #[v0, v1] w fun e w' => e = .returned (.bool true) ∧ Below w.heap.size w w' := by
  obtain ⟨x0, rfl, hx0⟩ := h0
  obtain ⟨f1, hR1, hL1⟩ := h1
  have hS1 := hR1.shape
  obtain ⟨a1_0, n1_0, c1_0, a1_1, n1_1, c1_1, a1_2, n1_2, c1_2, a1_3, n1_3, c1_3, a1_4, n1_4, c1_4, a1_5, n1_5, c1_5, rfl⟩ := hS1
  have T0 : Below w.heap.size w w := Below.refl _ _
  go_enter Try.func5, Try.ntmps5
  rcases Nat.lt_or_ge (1048576) f1.tot with p1 | p1
  · go_wp2_with fail
    refine (laws_szFrame _ f1 (1048576) _ ((hR1.below T0).keep0 (by repeat (first | with_reducible exact gb_refl _ | refine gb_alloc ?_ _ | refine gb_drewN ?_ _ | refine gb_drew ?_))) (by omega) (hL1.len1) (hL1.len2) (hL1.len3) (hL1.len4) (hL1.len5) (hL1.len6)).mono ?_
    rintro e w9 ⟨_, hn9, g9⟩
    obtain rfl := hn9 p1
    clear hn9
    go_wp2
    go_ret
    exact ⟨rfl, below_next T0 (gb_trans (by repeat (first | with_reducible exact gb_refl _ | refine gb_alloc ?_ _ | refine gb_drewN ?_ _ | refine gb_drew ?_)) g9)⟩
  have P1 := Lib.hid p1
  clear p1
  go_wp2_with fail
  refine (laws_szFrame _ f1 (1048576) _ ((hR1.below T0).keep0 (by repeat (first | with_reducible exact gb_refl _ | refine gb_alloc ?_ _ | refine gb_drewN ?_ _ | refine gb_drew ?_))) (by omega) (hL1.len1) (hL1.len2) (hL1.len3) (hL1.len4) (hL1.len5) (hL1.len6)).mono ?_
  rintro e w1 ⟨hy9, hn9, g1⟩
  obtain rfl := hy9 P1.out
  clear hy9 hn9
  have R1 : w.grownBy w1 none := gb_trans (by repeat (first | with_reducible exact gb_refl _ | refine gb_alloc ?_ _ | refine gb_drewN ?_ _ | refine gb_drew ?_)) g1
  have T1 : Below w.heap.size w w1 := below_next T0 R1
  have z1 := R1.size
  have bb_aF : Bx w1 (w.heap.size) 24 #[.int .i64 f1.kind, .int .i64 f1.id, .slice a1_0 n1_0 c1_0, .slice a1_1 n1_1 c1_1, .int .i64 f1.tick, .slice a1_2 n1_2 c1_2, .slice a1_3 n1_3 c1_3, .int .i64 f1.epoch, .int .i64 f1.seq, .slice a1_4 n1_4 c1_4, .slice a1_5 n1_5 c1_5] := (bx1 w _ _).keep0 g1
  have cc_aF := fun o => bb_aF.cell o
  have ll_aF_1 := bb_aF.lt
  go_wp2_with fail
  refine (laws_toFrame _ f1 _ ((hR1.below T1).keep0 (by repeat (first | with_reducible exact gb_refl _ | refine gb_alloc ?_ _ | refine gb_drewN ?_ _ | refine gb_drew ?_))) (by have := P1.out; simp only [FrameM.tot] at this; omega) (by have := P1.out; simp only [FrameM.tot] at this; omega) (by have := P1.out; simp only [FrameM.tot] at this; omega) (by have := P1.out; simp only [FrameM.tot] at this; omega) (by have := P1.out; simp only [FrameM.tot] at this; omega) (by have := P1.out; simp only [FrameM.tot] at this; omega)).mono ?_
  rintro e w2 ⟨v_tw00, rfl, o_tw00, g2⟩
  obtain ⟨a_tw00_0, n_tw00_0, c_tw00_0, a_tw00_1, n_tw00_1, c_tw00_1, a_tw00_2, n_tw00_2, c_tw00_2, a_tw00_3, n_tw00_3, c_tw00_3, a_tw00_4, n_tw00_4, c_tw00_4, a_tw00_5, n_tw00_5, c_tw00_5, rfl⟩ := o_tw00.r.shape
  have R2 : w1.grownBy w2 none := gb_trans (by repeat (first | with_reducible exact gb_refl _ | refine gb_alloc ?_ _ | refine gb_drewN ?_ _ | refine gb_drew ?_)) g2
  have T2 : Below w.heap.size w w2 := below_next T1 R2
  have z2 := R2.size
  clear cc_aF
  replace bb_aF := bb_aF.keep0 R2
  have cc_aF := fun o => bb_aF.cell o
  have ll_aF_2 := bb_aF.lt
  replace o_tw00 := o_tw00.low (B' := w1.heap.size) (by first | exact Nat.le_refl _ | (simp; done) | (simp; omega))
  go_wp2_with fail
  refine (LS_TagInput x0 _ f1 _ (o_tw00.r.keep0 (by repeat (first | with_reducible exact gb_refl _ | refine gb_alloc ?_ _ | refine gb_drewN ?_ _ | refine gb_drew ?_))) (by have := P1.out; omega)).mono ?_
  rintro e w3 ⟨a_w0, n_w0, c_w0, rfl, o_w0, g3⟩
  have u_w0 := fun p hp => (o_w0.lt p hp).2
  have R3 : w2.grownBy w3 none := gb_trans (by repeat (first | with_reducible exact gb_refl _ | refine gb_alloc ?_ _ | refine gb_drewN ?_ _ | refine gb_drew ?_)) g3
  have T3 : Below w.heap.size w w3 := below_next T2 R3
  have z3 := R3.size
  replace o_tw00 := o_tw00.keep0 R3
  clear cc_aF
  replace bb_aF := bb_aF.keep0 R3
  have cc_aF := fun o => bb_aF.cell o
  have ll_aF_3 := bb_aF.lt
  replace o_w0 := o_w0.mono (B' := w2.heap.size) (by first | exact Nat.le_refl _ | (simp; done) | (simp; omega))
  clear o_tw00
  go_wp2_with fail
  refine (laws_toFrame _ f1 _ ((hR1.below T3).keep0 (by repeat (first | with_reducible exact gb_refl _ | refine gb_alloc ?_ _ | refine gb_drewN ?_ _ | refine gb_drew ?_))) (by have := P1.out; simp only [FrameM.tot] at this; omega) (by have := P1.out; simp only [FrameM.tot] at this; omega) (by have := P1.out; simp only [FrameM.tot] at this; omega) (by have := P1.out; simp only [FrameM.tot] at this; omega) (by have := P1.out; simp only [FrameM.tot] at this; omega) (by have := P1.out; simp only [FrameM.tot] at this; omega)).mono ?_
  rintro e w4 ⟨v_x1, rfl, o_x1, g4⟩
  obtain ⟨a_x1_0, n_x1_0, c_x1_0, a_x1_1, n_x1_1, c_x1_1, a_x1_2, n_x1_2, c_x1_2, a_x1_3, n_x1_3, c_x1_3, a_x1_4, n_x1_4, c_x1_4, a_x1_5, n_x1_5, c_x1_5, rfl⟩ := o_x1.r.shape
  have R4 : w3.grownBy w4 none := gb_trans (by repeat (first | with_reducible exact gb_refl _ | refine gb_alloc ?_ _ | refine gb_drewN ?_ _ | refine gb_drew ?_)) g4
  have T4 : Below w.heap.size w w4 := below_next T3 R4
  have z4 := R4.size
  replace o_w0 := o_w0.keep0 R4
  clear cc_aF
  replace bb_aF := bb_aF.keep0 R4
  have cc_aF := fun o => bb_aF.cell o
  have ll_aF_4 := bb_aF.lt
  replace o_x1 := o_x1.low (B' := w3.heap.size) (by first | exact Nat.le_refl _ | (simp; done) | (simp; omega))
  go_wp2_with fail
  refine (LI_TagInput x0 _ f1 _ (o_x1.r.keep0 (by repeat (first | with_reducible exact gb_refl _ | refine gb_alloc ?_ _ | refine gb_drewN ?_ _ | refine gb_drew ?_))) (by have := P1.out; omega)).mono ?_
  rintro e w5 ⟨a_g0, n_g0, c_g0, rfl, o_g0, g5⟩
  have u_g0 := fun p hp => (o_g0.lt p hp).2
  have R5 : w4.grownBy w5 none := gb_trans (by repeat (first | with_reducible exact gb_refl _ | refine gb_alloc ?_ _ | refine gb_drewN ?_ _ | refine gb_drew ?_)) g5
  have T5 : Below w.heap.size w w5 := below_next T4 R5
  have z5 := R5.size
  replace o_w0 := o_w0.keep0 R5
  replace o_x1 := o_x1.keep0 R5
  clear cc_aF
  replace bb_aF := bb_aF.keep0 R5
  have bb_x1 : Bx w5 (w4.heap.size) 27 #[.int .i64 f1.kind, .int .i64 f1.id, .slice a_x1_0 n_x1_0 c_x1_0, .slice a_x1_1 n_x1_1 c_x1_1, .int .i64 f1.tick, .slice a_x1_2 n_x1_2 c_x1_2, .slice a_x1_3 n_x1_3 c_x1_3, .int .i64 f1.epoch, .int .i64 f1.seq, .slice a_x1_4 n_x1_4 c_x1_4, .slice a_x1_5 n_x1_5 c_x1_5] := (bx1 w4 _ _).keep0 g5
  have cc_aF := fun o => bb_aF.cell o
  have ll_aF_5 := bb_aF.lt
  have cc_x1 := fun o => bb_x1.cell o
  have ll_x1_5 := bb_x1.lt
  replace o_g0 := o_g0.mono (B' := w4.heap.size + 1) (by first | exact Nat.le_refl _ | (simp; done) | (simp; omega))
  go_wp2_with fail
  refine (laws_eqByteS_same _ _ _ _ _ _ _ _ (o_g0.rd.keep0 (by repeat (first | with_reducible exact gb_refl _ | refine gb_alloc ?_ _ | refine gb_drewN ?_ _ | refine gb_drew ?_))) (o_w0.rd.keep0 (by repeat (first | with_reducible exact gb_refl _ | refine gb_alloc ?_ _ | refine gb_drewN ?_ _ | refine gb_drew ?_))) (by have h9 := (show (tagInM x0 f1).length ≤ 1048576 from Nat.le_trans (tagInM_len x0 f1) (by decide)); omega)).mono ?_
  rintro e w6 ⟨rfl, q6⟩
  have g6 := q6.gb
  have R6 : w5.grownBy w6 none := gb_trans (by repeat (first | with_reducible exact gb_refl _ | refine gb_alloc ?_ _ | refine gb_drewN ?_ _ | refine gb_drew ?_)) g6
  have T6 : Below w.heap.size w w6 := below_next T5 R6
  have z6 := R6.size
  replace o_w0 := o_w0.keep0 R6
  replace o_x1 := o_x1.keep0 R6
  replace o_g0 := o_g0.keep0 R6
  clear cc_aF cc_x1
  replace bb_aF := bb_aF.keep0 R6
  replace bb_x1 := bb_x1.keep0 R6
  have cc_aF := fun o => bb_aF.cell o
  have ll_aF_6 := bb_aF.lt
  have cc_x1 := fun o => bb_x1.cell o
  have ll_x1_6 := bb_x1.lt
  go_wp2_with fail
  have KX : Hid (∀ w', w6.grownBy w' none → (w'.cell? ⟨w.heap.size, 0, none⟩ = some (.int .i64 f1.kind) ∧ w'.cell? ⟨w.heap.size, 1, none⟩ = some (.int .i64 f1.id) ∧ w'.cell? ⟨w.heap.size, 2, none⟩ = some (.slice a1_0 n1_0 c1_0) ∧ w'.cell? ⟨w.heap.size, 3, none⟩ = some (.slice a1_1 n1_1 c1_1) ∧ w'.cell? ⟨w.heap.size, 4, none⟩ = some (.int .i64 f1.tick) ∧ w'.cell? ⟨w.heap.size, 5, none⟩ = some (.slice a1_2 n1_2 c1_2) ∧ w'.cell? ⟨w.heap.size, 6, none⟩ = some (.slice a1_3 n1_3 c1_3) ∧ w'.cell? ⟨w.heap.size, 7, none⟩ = some (.int .i64 f1.epoch) ∧ w'.cell? ⟨w.heap.size, 8, none⟩ = some (.int .i64 f1.seq) ∧ w'.cell? ⟨w.heap.size, 9, none⟩ = some (.slice a1_4 n1_4 c1_4) ∧ w'.cell? ⟨w.heap.size, 10, none⟩ = some (.slice a1_5 n1_5 c1_5) ∧ w'.cell? ⟨w4.heap.size, 0, none⟩ = some (.int .i64 f1.kind) ∧ w'.cell? ⟨w4.heap.size, 1, none⟩ = some (.int .i64 f1.id) ∧ w'.cell? ⟨w4.heap.size, 2, none⟩ = some (.slice a_x1_0 n_x1_0 c_x1_0) ∧ w'.cell? ⟨w4.heap.size, 3, none⟩ = some (.slice a_x1_1 n_x1_1 c_x1_1) ∧ w'.cell? ⟨w4.heap.size, 4, none⟩ = some (.int .i64 f1.tick) ∧ w'.cell? ⟨w4.heap.size, 5, none⟩ = some (.slice a_x1_2 n_x1_2 c_x1_2) ∧ w'.cell? ⟨w4.heap.size, 6, none⟩ = some (.slice a_x1_3 n_x1_3 c_x1_3) ∧ w'.cell? ⟨w4.heap.size, 7, none⟩ = some (.int .i64 f1.epoch) ∧ w'.cell? ⟨w4.heap.size, 8, none⟩ = some (.int .i64 f1.seq) ∧ w'.cell? ⟨w4.heap.size, 9, none⟩ = some (.slice a_x1_4 n_x1_4 c_x1_4) ∧ w'.cell? ⟨w4.heap.size, 10, none⟩ = some (.slice a_x1_5 n_x1_5 c_x1_5) ∧ w6.grownBy w' none)) :=
    fun w' hg => ⟨(bb_aF.keep0 hg).cell 0, (bb_aF.keep0 hg).cell 1, (bb_aF.keep0 hg).cell 2, (bb_aF.keep0 hg).cell 3, (bb_aF.keep0 hg).cell 4, (bb_aF.keep0 hg).cell 5, (bb_aF.keep0 hg).cell 6, (bb_aF.keep0 hg).cell 7, (bb_aF.keep0 hg).cell 8, (bb_aF.keep0 hg).cell 9, (bb_aF.keep0 hg).cell 10, (bb_x1.keep0 hg).cell 0, (bb_x1.keep0 hg).cell 1, (bb_x1.keep0 hg).cell 2, (bb_x1.keep0 hg).cell 3, (bb_x1.keep0 hg).cell 4, (bb_x1.keep0 hg).cell 5, (bb_x1.keep0 hg).cell 6, (bb_x1.keep0 hg).cell 7, (bb_x1.keep0 hg).cell 8, (bb_x1.keep0 hg).cell 9, (bb_x1.keep0 hg).cell 10, hg⟩
  clear cc_aF cc_x1
  go_region_held3 (fun w' => w'.cell? ⟨w.heap.size, 0, none⟩ = some (.int .i64 f1.kind) ∧ w'.cell? ⟨w.heap.size, 1, none⟩ = some (.int .i64 f1.id) ∧ w'.cell? ⟨w.heap.size, 2, none⟩ = some (.slice a1_0 n1_0 c1_0) ∧ w'.cell? ⟨w.heap.size, 3, none⟩ = some (.slice a1_1 n1_1 c1_1) ∧ w'.cell? ⟨w.heap.size, 4, none⟩ = some (.int .i64 f1.tick) ∧ w'.cell? ⟨w.heap.size, 5, none⟩ = some (.slice a1_2 n1_2 c1_2) ∧ w'.cell? ⟨w.heap.size, 6, none⟩ = some (.slice a1_3 n1_3 c1_3) ∧ w'.cell? ⟨w.heap.size, 7, none⟩ = some (.int .i64 f1.epoch) ∧ w'.cell? ⟨w.heap.size, 8, none⟩ = some (.int .i64 f1.seq) ∧ w'.cell? ⟨w.heap.size, 9, none⟩ = some (.slice a1_4 n1_4 c1_4) ∧ w'.cell? ⟨w.heap.size, 10, none⟩ = some (.slice a1_5 n1_5 c1_5) ∧ w'.cell? ⟨w4.heap.size, 0, none⟩ = some (.int .i64 f1.kind) ∧ w'.cell? ⟨w4.heap.size, 1, none⟩ = some (.int .i64 f1.id) ∧ w'.cell? ⟨w4.heap.size, 2, none⟩ = some (.slice a_x1_0 n_x1_0 c_x1_0) ∧ w'.cell? ⟨w4.heap.size, 3, none⟩ = some (.slice a_x1_1 n_x1_1 c_x1_1) ∧ w'.cell? ⟨w4.heap.size, 4, none⟩ = some (.int .i64 f1.tick) ∧ w'.cell? ⟨w4.heap.size, 5, none⟩ = some (.slice a_x1_2 n_x1_2 c_x1_2) ∧ w'.cell? ⟨w4.heap.size, 6, none⟩ = some (.slice a_x1_3 n_x1_3 c_x1_3) ∧ w'.cell? ⟨w4.heap.size, 7, none⟩ = some (.int .i64 f1.epoch) ∧ w'.cell? ⟨w4.heap.size, 8, none⟩ = some (.int .i64 f1.seq) ∧ w'.cell? ⟨w4.heap.size, 9, none⟩ = some (.slice a_x1_4 n_x1_4 c_x1_4) ∧ w'.cell? ⟨w4.heap.size, 10, none⟩ = some (.slice a_x1_5 n_x1_5 c_x1_5) ∧ w6.grownBy w' none)
    ((refine KX.out _ ?_; first | exact gb_drew (gb_refl _) | exact gb_trans (gb_trans (gb_drew (gb_refl _)) g7a) g7b | exact gb_trans (gb_drew (gb_refl _)) g7a))
    (first
      | (go_at_call 10; refine (laws_toFrame _ f1 _ ((hR1.below T6).keep0 (gb_drew (gb_refl _))) (by have := P1.out; simp only [FrameM.tot] at this; omega) (by have := P1.out; simp only [FrameM.tot] at this; omega) (by have := P1.out; simp only [FrameM.tot] at this; omega) (by have := P1.out; simp only [FrameM.tot] at this; omega) (by have := P1.out; simp only [FrameM.tot] at this; omega) (by have := P1.out; simp only [FrameM.tot] at this; omega)).mono ?_; rintro e wy7 ⟨vy, rfl, oy, g7a⟩; obtain ⟨a_yx1_0, n_yx1_0, c_yx1_0, a_yx1_1, n_yx1_1, c_yx1_1, a_yx1_2, n_yx1_2, c_yx1_2, a_yx1_3, n_yx1_3, c_yx1_3, a_yx1_4, n_yx1_4, c_yx1_4, a_yx1_5, n_yx1_5, c_yx1_5, rfl⟩ := oy.r.shape)
      | (go_at_call 12; refine (laws_eqFrame _ _ f1 _ (o_x1.r.keep0 (gb_trans (gb_drew (gb_refl _)) g7a)) oy.r (by have h9 := (by have := P1.out; omega); simp only [FrameM.tot] at h9; omega) (by have h9 := (by have := P1.out; omega); simp only [FrameM.tot] at h9; omega) (by have h9 := (by have := P1.out; omega); simp only [FrameM.tot] at h9; omega) (by have h9 := (by have := P1.out; omega); simp only [FrameM.tot] at h9; omega) (by have h9 := (by have := P1.out; omega); simp only [FrameM.tot] at h9; omega) (by have h9 := (by have := P1.out; omega); simp only [FrameM.tot] at h9; omega)).mono ?_; rintro e w7 ⟨rfl, g7b⟩))
  have g7 := gb_trans g7a g7b
  have cc_aF : True := trivial
  have cc_x1 : True := trivial
  have R7 : w6.grownBy w7 none := gb_trans (gb_drew (gb_refl _)) (gb_trans g7a g7b)
  have T7 : Below w.heap.size w w7 := below_next T6 R7
  have z7 := R7.size
  replace o_w0 := o_w0.keep0 R7
  replace o_x1 := o_x1.keep0 R7
  replace o_g0 := o_g0.keep0 R7
  clear cc_aF cc_x1
  replace bb_aF := bb_aF.keep0 R7
  replace bb_x1 := bb_x1.keep0 R7
  have cc_aF := fun o => bb_aF.cell o
  have ll_aF_7 := bb_aF.lt
  have cc_x1 := fun o => bb_x1.cell o
  have ll_x1_7 := bb_x1.lt
  clear KX oy
  go_wp2_with fail
  refine (laws_markFrame (w3.heap.size) (w4.heap.size) _ f1 (1) _ (o_x1.keep0 (by repeat (first | with_reducible exact gb_refl _ | refine gb_alloc ?_ _ | refine gb_drewN ?_ _ | refine gb_drew ?_))) (by have h9 := (by have := P1.out; omega); omega)).mono ?_
  rintro e w8 ⟨rfl, z_x1, g8⟩
  replace o_x1 := z_x1
  clear z_x1
  have R8 : gbI (w3.heap.size) (w4.heap.size) w7 w8 := (gbI.of0 (by repeat (first | with_reducible exact gb_refl _ | refine gb_alloc ?_ _ | refine gb_drewN ?_ _ | refine gb_drew ?_))).trans g8
  have T8 : Below w.heap.size w w8 := below_nextI T7 R8 (by omega)
  have z8 := R8.size
  replace o_w0 := o_w0.keepI R8 (fun p hp => by have := u_w0 p hp; have := (o_w0.lt p hp).1; omega)
  replace o_g0 := o_g0.keepI R8 (fun p hp => by have := u_g0 p hp; have := (o_g0.lt p hp).1; omega)
  clear cc_aF cc_x1
  replace bb_aF := bb_aF.keepI R8 (by have := bb_aF.lt; omega)
  replace bb_x1 := bb_x1.keepI R8 (by have := bb_x1.lt; omega)
  have cc_aF := fun o => bb_aF.cell o
  have ll_aF_8 := bb_aF.lt
  have cc_x1 := fun o => bb_x1.cell o
  have ll_x1_8 := bb_x1.lt
  go_wp2_with fail
  refine (laws_eqByteS_same _ _ _ _ _ _ _ _ (o_g0.rd.keep0 (by repeat (first | with_reducible exact gb_refl _ | refine gb_alloc ?_ _ | refine gb_drewN ?_ _ | refine gb_drew ?_))) (o_w0.rd.keep0 (by repeat (first | with_reducible exact gb_refl _ | refine gb_alloc ?_ _ | refine gb_drewN ?_ _ | refine gb_drew ?_))) (by have h9 := (show (tagInM x0 f1).length ≤ 1048576 from Nat.le_trans (tagInM_len x0 f1) (by decide)); omega)).mono ?_
  rintro e w9 ⟨rfl, q9⟩
  have g9 := q9.gb
  have R9 : w8.grownBy w9 none := gb_trans (by repeat (first | with_reducible exact gb_refl _ | refine gb_alloc ?_ _ | refine gb_drewN ?_ _ | refine gb_drew ?_)) g9
  have T9 : Below w.heap.size w w9 := below_next T8 R9
  have z9 := R9.size
  replace o_w0 := o_w0.keep0 R9
  replace o_x1 := o_x1.keep0 R9
  replace o_g0 := o_g0.keep0 R9
  clear cc_aF cc_x1
  replace bb_aF := bb_aF.keep0 R9
  replace bb_x1 := bb_x1.keep0 R9
  have cc_aF := fun o => bb_aF.cell o
  have ll_aF_9 := bb_aF.lt
  have cc_x1 := fun o => bb_x1.cell o
  have ll_x1_9 := bb_x1.lt
  go_wp2_with fail
  refine (laws_markByteS (w4.heap.size + 1) _ _ _ (1) _ _ (o_g0.keep0 (by repeat (first | with_reducible exact gb_refl _ | refine gb_alloc ?_ _ | refine gb_drewN ?_ _ | refine gb_drew ?_))) (by have h9 := (show (tagInM x0 f1).length ≤ 1048576 from Nat.le_trans (tagInM_len x0 f1) (by decide)); have h8 := o_g0.blen; omega)).mono ?_
  rintro e w10 ⟨rfl, z_g0, r10⟩
  have g10 := gbI.ofRow (B := w4.heap.size + 1) (S := w5.heap.size) r10 (fun g hg => by obtain ⟨p, hp, rfl⟩ := row_of hg; exact ⟨(o_g0.lt p hp).1, u_g0 p hp⟩)
  have e_g0_10 := Lib.hid o_g0.blen
  replace o_g0 := z_g0
  clear z_g0
  have R10 : gbI (w4.heap.size + 1) (w5.heap.size) w9 w10 := (gbI.of0 (by repeat (first | with_reducible exact gb_refl _ | refine gb_alloc ?_ _ | refine gb_drewN ?_ _ | refine gb_drew ?_))).trans g10
  have T10 : Below w.heap.size w w10 := below_nextI T9 R10 (by omega)
  have z10 := R10.size
  replace o_w0 := o_w0.keepI R10 (fun p hp => by have := u_w0 p hp; have := (o_w0.lt p hp).1; omega)
  replace o_x1 := o_x1.keepI R10 (by omega)
  clear cc_aF cc_x1
  replace bb_aF := bb_aF.keepI R10 (by have := bb_aF.lt; omega)
  replace bb_x1 := bb_x1.keepI R10 (by have := bb_x1.lt; omega)
  have cc_aF := fun o => bb_aF.cell o
  have ll_aF_10 := bb_aF.lt
  have cc_x1 := fun o => bb_x1.cell o
  have ll_x1_10 := bb_x1.lt
  go_wp2_with fail
  refine (laws_heldByteS _ n_g0 _ (1) _ (o_g0.rd.keep0 (by repeat (first | with_reducible exact gb_refl _ | refine gb_alloc ?_ _ | refine gb_drewN ?_ _ | refine gb_drew ?_))) (by have h9 := (show (tagInM x0 f1).length ≤ 1048576 from Nat.le_trans (tagInM_len x0 f1) (by decide)); have := (show (tagInM x0 f1).length ≤ 1048576 from Nat.le_trans (tagInM_len x0 f1) (by decide)); have := e_g0_10.out; omega)).mono ?_
  rintro e w11 ⟨rfl, q11⟩
  have g11 := q11.gb
  have R11 : w10.grownBy w11 none := gb_trans (by repeat (first | with_reducible exact gb_refl _ | refine gb_alloc ?_ _ | refine gb_drewN ?_ _ | refine gb_drew ?_)) g11
  have T11 : Below w.heap.size w w11 := below_next T10 R11
  have z11 := R11.size
  replace o_w0 := o_w0.keep0 R11
  replace o_x1 := o_x1.keep0 R11
  replace o_g0 := o_g0.keep0 R11
  clear cc_aF cc_x1
  replace bb_aF := bb_aF.keep0 R11
  replace bb_x1 := bb_x1.keep0 R11
  have cc_aF := fun o => bb_aF.cell o
  have ll_aF_11 := bb_aF.lt
  have cc_x1 := fun o => bb_x1.cell o
  have ll_x1_11 := bb_x1.lt
  go_wp2_with fail
  refine (laws_toFrame _ f1 _ ((hR1.below T11).keep0 (by repeat (first | with_reducible exact gb_refl _ | refine gb_alloc ?_ _ | refine gb_drewN ?_ _ | refine gb_drew ?_))) (by have := P1.out; simp only [FrameM.tot] at this; omega) (by have := P1.out; simp only [FrameM.tot] at this; omega) (by have := P1.out; simp only [FrameM.tot] at this; omega) (by have := P1.out; simp only [FrameM.tot] at this; omega) (by have := P1.out; simp only [FrameM.tot] at this; omega) (by have := P1.out; simp only [FrameM.tot] at this; omega)).mono ?_
  rintro e w12 ⟨v_th00, rfl, o_th00, g12⟩
  obtain ⟨a_th00_0, n_th00_0, c_th00_0, a_th00_1, n_th00_1, c_th00_1, a_th00_2, n_th00_2, c_th00_2, a_th00_3, n_th00_3, c_th00_3, a_th00_4, n_th00_4, c_th00_4, a_th00_5, n_th00_5, c_th00_5, rfl⟩ := o_th00.r.shape
  have R12 : w11.grownBy w12 none := gb_trans (by repeat (first | with_reducible exact gb_refl _ | refine gb_alloc ?_ _ | refine gb_drewN ?_ _ | refine gb_drew ?_)) g12
  have T12 : Below w.heap.size w w12 := below_next T11 R12
  have z12 := R12.size
  replace o_w0 := o_w0.keep0 R12
  replace o_x1 := o_x1.keep0 R12
  replace o_g0 := o_g0.keep0 R12
  clear cc_aF cc_x1
  replace bb_aF := bb_aF.keep0 R12
  replace bb_x1 := bb_x1.keep0 R12
  have cc_aF := fun o => bb_aF.cell o
  have ll_aF_12 := bb_aF.lt
  have cc_x1 := fun o => bb_x1.cell o
  have ll_x1_12 := bb_x1.lt
  replace o_th00 := o_th00.low (B' := w11.heap.size) (by first | exact Nat.le_refl _ | (simp; done) | (simp; omega))
  go_wp2_with fail
  refine (LI_TagInput x0 _ f1 _ (o_th00.r.keep0 (by repeat (first | with_reducible exact gb_refl _ | refine gb_alloc ?_ _ | refine gb_drewN ?_ _ | refine gb_drew ?_))) (by have := P1.out; omega)).mono ?_
  rintro e w13 ⟨a_h0, n_h0, c_h0, rfl, o_h0, g13⟩
  have u_h0 := fun p hp => (o_h0.lt p hp).2
  have R13 : w12.grownBy w13 none := gb_trans (by repeat (first | with_reducible exact gb_refl _ | refine gb_alloc ?_ _ | refine gb_drewN ?_ _ | refine gb_drew ?_)) g13
  have T13 : Below w.heap.size w w13 := below_next T12 R13
  have z13 := R13.size
  replace o_w0 := o_w0.keep0 R13
  replace o_x1 := o_x1.keep0 R13
  replace o_g0 := o_g0.keep0 R13
  replace o_th00 := o_th00.keep0 R13
  clear cc_aF cc_x1
  replace bb_aF := bb_aF.keep0 R13
  replace bb_x1 := bb_x1.keep0 R13
  have cc_aF := fun o => bb_aF.cell o
  have ll_aF_13 := bb_aF.lt
  have cc_x1 := fun o => bb_x1.cell o
  have ll_x1_13 := bb_x1.lt
  replace o_h0 := o_h0.mono (B' := w12.heap.size) (by first | exact Nat.le_refl _ | (simp; done) | (simp; omega))
  clear o_th00
  go_wp2_with fail
  refine (laws_eqByteS_same _ _ _ _ _ _ _ _ (o_h0.rd.keep0 (by repeat (first | with_reducible exact gb_refl _ | refine gb_alloc ?_ _ | refine gb_drewN ?_ _ | refine gb_drew ?_))) (o_w0.rd.keep0 (by repeat (first | with_reducible exact gb_refl _ | refine gb_alloc ?_ _ | refine gb_drewN ?_ _ | refine gb_drew ?_))) (by have h9 := (show (tagInM x0 f1).length ≤ 1048576 from Nat.le_trans (tagInM_len x0 f1) (by decide)); omega)).mono ?_
  rintro e w14 ⟨rfl, q14⟩
  have g14 := q14.gb
  have R14 : w13.grownBy w14 none := gb_trans (by repeat (first | with_reducible exact gb_refl _ | refine gb_alloc ?_ _ | refine gb_drewN ?_ _ | refine gb_drew ?_)) g14
  have T14 : Below w.heap.size w w14 := below_next T13 R14
  have z14 := R14.size
  replace o_w0 := o_w0.keep0 R14
  replace o_x1 := o_x1.keep0 R14
  replace o_g0 := o_g0.keep0 R14
  replace o_h0 := o_h0.keep0 R14
  clear cc_aF cc_x1
  replace bb_aF := bb_aF.keep0 R14
  replace bb_x1 := bb_x1.keep0 R14
  have cc_aF := fun o => bb_aF.cell o
  have ll_aF_14 := bb_aF.lt
  have cc_x1 := fun o => bb_x1.cell o
  have ll_x1_14 := bb_x1.lt
  go_wp2_with fail
  refine (laws_heldByteS _ n_g0 _ (1) _ (o_g0.rd.keep0 (by repeat (first | with_reducible exact gb_refl _ | refine gb_alloc ?_ _ | refine gb_drewN ?_ _ | refine gb_drew ?_))) (by have h9 := (show (tagInM x0 f1).length ≤ 1048576 from Nat.le_trans (tagInM_len x0 f1) (by decide)); have := (show (tagInM x0 f1).length ≤ 1048576 from Nat.le_trans (tagInM_len x0 f1) (by decide)); have := e_g0_10.out; omega)).mono ?_
  rintro e w15 ⟨rfl, q15⟩
  have g15 := q15.gb
  have R15 : w14.grownBy w15 none := gb_trans (by repeat (first | with_reducible exact gb_refl _ | refine gb_alloc ?_ _ | refine gb_drewN ?_ _ | refine gb_drew ?_)) g15
  have T15 : Below w.heap.size w w15 := below_next T14 R15
  have z15 := R15.size
  replace o_w0 := o_w0.keep0 R15
  replace o_x1 := o_x1.keep0 R15
  replace o_g0 := o_g0.keep0 R15
  replace o_h0 := o_h0.keep0 R15
  clear cc_aF cc_x1
  replace bb_aF := bb_aF.keep0 R15
  replace bb_x1 := bb_x1.keep0 R15
  have cc_aF := fun o => bb_aF.cell o
  have ll_aF_15 := bb_aF.lt
  have cc_x1 := fun o => bb_x1.cell o
  have ll_x1_15 := bb_x1.lt
  go_wp2
  go_ret
  exact ⟨rfl, T15⟩
set_option maxRecDepth 100000 in
theorem lifted (os : Os) (started : os.Started) (H : Type) (enc : TypeId × Value → H) :
    ReturnsInHanded {} Try.checked os 5 .any (Rows.fnExactTagInputSpec.pre6 enc Try.prog Try.f5 Rows.fnExactTagInputRow.domain false) (Rows.fnExactTagInputSpec.post enc Try.prog Try.f5 false true false false) := by
  refine returnsInHanded_of_change (C := Try.checked) own started (by kernel_rfl) Try.func5
    (ChangeSpec.witness6 (enc := enc) (C := Try.checked) false ⟨#[], #[.int .i64 0, .agg #[.int .i64 0, .int .i64 0, .slice none 0 0, .slice none 0 0, .int .i64 0, .slice none 0 0, .slice none 0 0, .int .i64 0, .int .i64 0, .slice none 0 0, .slice none 0 0]], []⟩ 8 (by kernel_rfl) (by kernel_rfl) (by kernel_rfl) (by kernel_rfl)) ?_
  intro W base args ds gs before hval0 hW _ _
  have hval : ∀ (j : Nat) t v, Try.f5.params[j]? = some t → args[j]? = some v → Value.okWide Try.prog W .any base t v := hval0
  have hW2 := hW
  obtain ⟨p, q, hA0, hV, hps, _, _⟩ := hW
  have hA : DataW.TrodAll enc Try.prog W 0 (fun _ => true) true Try.f5.params.toList args.toList ds p := hA0
  rw [Try.params5] at hA hval
  obtain ⟨rfl, rfl⟩ := trodVars_none hV
  obtain ⟨v0, vs0, d0, ds0, p0, q0, hargs, rfl, rfl, h0, r0⟩ := trodAll_cons hA
  obtain ⟨v1, vs1, d1, ds1, p1, q1, rfl, rfl, rfl, h1, r1⟩ := trodAll_cons r0
  obtain ⟨rfl, rfl, rfl⟩ := trodAll_nil r1
  obtain rfl : args = #[v0, v1] := by cases args; simp_all
  have i0 := open_I (hval 0 3 v0 rfl rfl) h0
  have i1 := open_Frame (hval 1 24 v1 rfl rfl) h1
  clear hA0 hval0
  refine (walk W v0 v1 i0 i1).mono fun e W2 ⟨he, hb⟩ => ?_
  subst he
  exact ⟨_, rfl, law_post (tb := 4) laidOut (by kernel_rfl) (by kernel_rfl) Try.underlying4 rfl ⟨rfl, rfl, rfl⟩ hW2 hb⟩
theorem over : Rows.fnExactTagInputRow.holds Try.pinned (OpenSpec.ofChange Rows.fnExactTagInputSpec) :=
  OpenClaim.holds_of_wide 5 Try.f5 rfl rfl rfl rfl rfl rfl rfl ⟨rfl, rfl, rfl, rfl, rfl⟩ rfl rfl rfl rfl rfl (by kernel_rfl) Try.func5 (by kernel_rfl)
    (of_decide_eq_true (by kernel_rfl)) (by unfold Func.isWrapper; first | (rw [if_pos (by decide +kernel)]; kernel_rfl) | (rw [if_neg (by decide +kernel)]; exact ⟨rfl, rfl⟩))
    (fun os started H enc _ => lifted os started H enc)
theorem proved : Rows.FnExactTagInputSaid :=
  over
#print axioms proved
end Go.Proofs.Ytmjbhcfmgogkeaa.lTagInput
