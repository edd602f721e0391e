/-
  FnExactEpOpen returns true for every epoch, role and frame. Conditions: none.
-/
import Derived.Test.YteoglfclliclbaaGreatLaw
import Derived.Test.YteoglfclliclbaaGreatEpOp
import Derived.Deep.RegionHeld3
namespace Go.Proofs.YteoglfclliclbaaGreat.lEpOpen
open Go.ChangeShapes Go.WideShapes Go.ChangeAt Go.RowKit
theorem LI_EpOpen (v : Value) (f : EpM) (x1 : Int) (u : Value) (F : FrameM) (w : World) (h : EpR w v f) (hF : FrameR w u F) (_hs : f.tot ≤ 1048576) (_hF : F.tot ≤ 1048576) :
    Calls Tryz.prog 9 #[v, .int .i64 x1, u] w fun e w' => ∃ M v1 a n c, e = .returned (.tuple #[v1, .slice a n c, .int .i64 (epOpenC f x1 F)]) ∧ w.heap.size ≤ M ∧ M ≤ w'.heap.size ∧
      EpO w.heap.size M w' v1 (epOpenE f x1 F) ∧ Ow M w' 5 a n c (bys (epOpenP f x1 F)) ∧ w.grownBy w' none :=
  impl_EpOpen v f x1 u F w h hF (by simp only [EpM.tot] at _hs; omega) (by simp only [EpM.tot] at _hs; omega)
theorem LS_EpOpen (v : Value) (f : EpM) (x1 : Int) (u : Value) (F : FrameM) (w : World) (h : EpR w v f) (hF : FrameR w u F) (_hs : f.tot ≤ 1048576) (_hF : F.tot ≤ 1048576) :
    Calls Tryz.prog 6 #[v, .int .i64 x1, u] w fun e w' => ∃ v1 a n c, e = .returned (.tuple #[v1, .slice a n c, .int .i64 (epOpenC f x1 F)]) ∧
      EpO w.heap.size w'.heap.size w' v1 (epOpenE f x1 F) ∧ Ow w.heap.size w' 5 a n c (bys (epOpenP f x1 F)) ∧ w.grownBy w' none :=
  (spec_EpOpen v f x1 u F w h hF (by simp only [EpM.tot] at _hs; omega) (by simp only [EpM.tot] at _hs; omega)).mono fun e w' ⟨M, v1, a, n, c, he, _, h2, h3, h4, g⟩ => by
    obtain ⟨a1, n1, c1, a7, n7, c7, hv, ⟨o1, u1⟩, ⟨o7, u7⟩, d⟩ := h3
    exact ⟨v1, a, n, c, he, ⟨a1, n1, c1, a7, n7, c7, hv, ⟨o1, fun p hp => Nat.lt_of_lt_of_le (u1 p hp) h2⟩, ⟨o7, fun p hp => Nat.lt_of_lt_of_le (u7 p hp) h2⟩, d⟩, h4, g⟩
theorem P_le (e : EpM) (x : Int) (f : FrameM) : (epOpenP e x f).length ≤ 1048576 := by
  unfold epOpenP
  split
  · exact Nat.le_trans (unsealM_le _ _ _) (by decide)
  · exact Nat.zero_le _
theorem cut19 {P : Program} {c : Code} {Q : Exit → Act → World → Prop} {a : Act} {w : World} (G : Nat → Option Addr → Nat → Nat → Option Addr → Nat → Nat → Option Addr → Nat → Nat → Option Addr → Nat → Nat → Option Addr → Nat → Nat → Option Addr → Nat → Nat → Option Addr → Nat → Nat → Option Addr → Nat → Nat → Option Addr → Nat → Nat → Option Addr → Nat → Nat → Option Addr → Nat → Nat → Act) (F : Nat → Option Addr → Nat → Nat → Option Addr → Nat → Nat → Option Addr → Nat → Nat → Option Addr → Nat → Nat → Option Addr → Nat → Nat → Option Addr → Nat → Nat → Option Addr → Nat → Nat → Option Addr → Nat → Nat → Option Addr → Nat → Nat → Option Addr → Nat → Nat → Option Addr → Nat → Nat → World → Prop)
    (br : c.wp P (fun ex a' w' => match ex with | .normal => (∃ q_h0 a_th00_0 n_th00_0 c_th00_0 a_th00_1 n_th00_1 c_th00_1 a_th01_0 n_th01_0 c_th01_0 a_th01_1 n_th01_1 c_th01_1 a_th01_2 n_th01_2 c_th01_2 a_th01_3 n_th01_3 c_th01_3 a_th01_4 n_th01_4 c_th01_4 a_th01_5 n_th01_5 c_th01_5 a_h0_0 n_h0_0 c_h0_0 a_h0_1 n_h0_1 c_h0_1 a_h1 n_h1 c_h1, a' = G q_h0 a_th00_0 n_th00_0 c_th00_0 a_th00_1 n_th00_1 c_th00_1 a_th01_0 n_th01_0 c_th01_0 a_th01_1 n_th01_1 c_th01_1 a_th01_2 n_th01_2 c_th01_2 a_th01_3 n_th01_3 c_th01_3 a_th01_4 n_th01_4 c_th01_4 a_th01_5 n_th01_5 c_th01_5 a_h0_0 n_h0_0 c_h0_0 a_h0_1 n_h0_1 c_h0_1 a_h1 n_h1 c_h1 ∧ F q_h0 a_th00_0 n_th00_0 c_th00_0 a_th00_1 n_th00_1 c_th00_1 a_th01_0 n_th01_0 c_th01_0 a_th01_1 n_th01_1 c_th01_1 a_th01_2 n_th01_2 c_th01_2 a_th01_3 n_th01_3 c_th01_3 a_th01_4 n_th01_4 c_th01_4 a_th01_5 n_th01_5 c_th01_5 a_h0_0 n_h0_0 c_h0_0 a_h0_1 n_h0_1 c_h0_1 a_h1 n_h1 c_h1 w') | _ => False) a w) (rest : ∀ q_h0 a_th00_0 n_th00_0 c_th00_0 a_th00_1 n_th00_1 c_th00_1 a_th01_0 n_th01_0 c_th01_0 a_th01_1 n_th01_1 c_th01_1 a_th01_2 n_th01_2 c_th01_2 a_th01_3 n_th01_3 c_th01_3 a_th01_4 n_th01_4 c_th01_4 a_th01_5 n_th01_5 c_th01_5 a_h0_0 n_h0_0 c_h0_0 a_h0_1 n_h0_1 c_h0_1 a_h1 n_h1 c_h1 w', F q_h0 a_th00_0 n_th00_0 c_th00_0 a_th00_1 n_th00_1 c_th00_1 a_th01_0 n_th01_0 c_th01_0 a_th01_1 n_th01_1 c_th01_1 a_th01_2 n_th01_2 c_th01_2 a_th01_3 n_th01_3 c_th01_3 a_th01_4 n_th01_4 c_th01_4 a_th01_5 n_th01_5 c_th01_5 a_h0_0 n_h0_0 c_h0_0 a_h0_1 n_h0_1 c_h0_1 a_h1 n_h1 c_h1 w' → Q .normal (G q_h0 a_th00_0 n_th00_0 c_th00_0 a_th00_1 n_th00_1 c_th00_1 a_th01_0 n_th01_0 c_th01_0 a_th01_1 n_th01_1 c_th01_1 a_th01_2 n_th01_2 c_th01_2 a_th01_3 n_th01_3 c_th01_3 a_th01_4 n_th01_4 c_th01_4 a_th01_5 n_th01_5 c_th01_5 a_h0_0 n_h0_0 c_h0_0 a_h0_1 n_h0_1 c_h0_1 a_h1 n_h1 c_h1) w') : c.wp P Q a w := by
  refine Code.wp_mono (fun e a w h => ?_) br
  cases e <;> first | exact h.elim | (obtain ⟨q_h0, a_th00_0, n_th00_0, c_th00_0, a_th00_1, n_th00_1, c_th00_1, a_th01_0, n_th01_0, c_th01_0, a_th01_1, n_th01_1, c_th01_1, a_th01_2, n_th01_2, c_th01_2, a_th01_3, n_th01_3, c_th01_3, a_th01_4, n_th01_4, c_th01_4, a_th01_5, n_th01_5, c_th01_5, a_h0_0, n_h0_0, c_h0_0, a_h0_1, n_h0_1, c_h0_1, a_h1, n_h1, c_h1, rfl, h2⟩ := h; exact rest _ _ _ _ _ _ _ _ _ _ _ _ _ _ _ _ _ _ _ _ _ _ _ _ _ _ _ _ _ _ _ _ _ _ _ h2)
theorem cut3 {P : Program} {c : Code} {Q : Exit → Act → World → Prop} {a : Act} {w : World} (G : Nat → Option Addr → Nat → Nat → Option Addr → Nat → Nat → Option Addr → Nat → Nat → Option Addr → Nat → Nat → Option Addr → Nat → Nat → Option Addr → Nat → Nat → Option Addr → Nat → Nat → Option Addr → Nat → Nat → Option Addr → Nat → Nat → Option Addr → Nat → Nat → Option Addr → Nat → Nat → Act) (F : Nat → Option Addr → Nat → Nat → Option Addr → Nat → Nat → Option Addr → Nat → Nat → Option Addr → Nat → Nat → Option Addr → Nat → Nat → Option Addr → Nat → Nat → Option Addr → Nat → Nat → Option Addr → Nat → Nat → Option Addr → Nat → Nat → Option Addr → Nat → Nat → Option Addr → Nat → Nat → World → Prop)
    (br : c.wp P (fun ex a' w' => match ex with | .normal => (∃ q_w0 a_tw00_0 n_tw00_0 c_tw00_0 a_tw00_1 n_tw00_1 c_tw00_1 a_tw01_0 n_tw01_0 c_tw01_0 a_tw01_1 n_tw01_1 c_tw01_1 a_tw01_2 n_tw01_2 c_tw01_2 a_tw01_3 n_tw01_3 c_tw01_3 a_tw01_4 n_tw01_4 c_tw01_4 a_tw01_5 n_tw01_5 c_tw01_5 a_w0_0 n_w0_0 c_w0_0 a_w0_1 n_w0_1 c_w0_1 a_w1 n_w1 c_w1, a' = G q_w0 a_tw00_0 n_tw00_0 c_tw00_0 a_tw00_1 n_tw00_1 c_tw00_1 a_tw01_0 n_tw01_0 c_tw01_0 a_tw01_1 n_tw01_1 c_tw01_1 a_tw01_2 n_tw01_2 c_tw01_2 a_tw01_3 n_tw01_3 c_tw01_3 a_tw01_4 n_tw01_4 c_tw01_4 a_tw01_5 n_tw01_5 c_tw01_5 a_w0_0 n_w0_0 c_w0_0 a_w0_1 n_w0_1 c_w0_1 a_w1 n_w1 c_w1 ∧ F q_w0 a_tw00_0 n_tw00_0 c_tw00_0 a_tw00_1 n_tw00_1 c_tw00_1 a_tw01_0 n_tw01_0 c_tw01_0 a_tw01_1 n_tw01_1 c_tw01_1 a_tw01_2 n_tw01_2 c_tw01_2 a_tw01_3 n_tw01_3 c_tw01_3 a_tw01_4 n_tw01_4 c_tw01_4 a_tw01_5 n_tw01_5 c_tw01_5 a_w0_0 n_w0_0 c_w0_0 a_w0_1 n_w0_1 c_w0_1 a_w1 n_w1 c_w1 w') | _ => False) a w) (rest : ∀ q_w0 a_tw00_0 n_tw00_0 c_tw00_0 a_tw00_1 n_tw00_1 c_tw00_1 a_tw01_0 n_tw01_0 c_tw01_0 a_tw01_1 n_tw01_1 c_tw01_1 a_tw01_2 n_tw01_2 c_tw01_2 a_tw01_3 n_tw01_3 c_tw01_3 a_tw01_4 n_tw01_4 c_tw01_4 a_tw01_5 n_tw01_5 c_tw01_5 a_w0_0 n_w0_0 c_w0_0 a_w0_1 n_w0_1 c_w0_1 a_w1 n_w1 c_w1 w', F q_w0 a_tw00_0 n_tw00_0 c_tw00_0 a_tw00_1 n_tw00_1 c_tw00_1 a_tw01_0 n_tw01_0 c_tw01_0 a_tw01_1 n_tw01_1 c_tw01_1 a_tw01_2 n_tw01_2 c_tw01_2 a_tw01_3 n_tw01_3 c_tw01_3 a_tw01_4 n_tw01_4 c_tw01_4 a_tw01_5 n_tw01_5 c_tw01_5 a_w0_0 n_w0_0 c_w0_0 a_w0_1 n_w0_1 c_w0_1 a_w1 n_w1 c_w1 w' → Q .normal (G q_w0 a_tw00_0 n_tw00_0 c_tw00_0 a_tw00_1 n_tw00_1 c_tw00_1 a_tw01_0 n_tw01_0 c_tw01_0 a_tw01_1 n_tw01_1 c_tw01_1 a_tw01_2 n_tw01_2 c_tw01_2 a_tw01_3 n_tw01_3 c_tw01_3 a_tw01_4 n_tw01_4 c_tw01_4 a_tw01_5 n_tw01_5 c_tw01_5 a_w0_0 n_w0_0 c_w0_0 a_w0_1 n_w0_1 c_w0_1 a_w1 n_w1 c_w1) w') : c.wp P Q a w := by
  refine Code.wp_mono (fun e a w h => ?_) br
  cases e <;> first | exact h.elim | (obtain ⟨q_w0, a_tw00_0, n_tw00_0, c_tw00_0, a_tw00_1, n_tw00_1, c_tw00_1, a_tw01_0, n_tw01_0, c_tw01_0, a_tw01_1, n_tw01_1, c_tw01_1, a_tw01_2, n_tw01_2, c_tw01_2, a_tw01_3, n_tw01_3, c_tw01_3, a_tw01_4, n_tw01_4, c_tw01_4, a_tw01_5, n_tw01_5, c_tw01_5, a_w0_0, n_w0_0, c_w0_0, a_w0_1, n_w0_1, c_w0_1, a_w1, n_w1, c_w1, rfl, h2⟩ := h; exact rest _ _ _ _ _ _ _ _ _ _ _ _ _ _ _ _ _ _ _ _ _ _ _ _ _ _ _ _ _ _ _ _ _ _ _ h2)
set_option maxRecDepth 100000 in
set_option maxHeartbeats 4000000 in
theorem walk (w : World) (v0 v1 v2 : Value) (h0 : InEp w v0) (h1 : InInt v1) (h2 : InFrame w v2) : Calls Tryz.prog 3 #[v0, v1, v2] w fun e w' => e = .returned (.bool true) ∧ Below w.heap.size w w' := by
  obtain ⟨f0, hR0, hL0⟩ := h0
  have hS0 := hR0.shape
  obtain ⟨a0_0, n0_0, c0_0, a0_1, n0_1, c0_1, rfl⟩ := hS0
  obtain ⟨x1, rfl, hx1⟩ := h1
  obtain ⟨f2, hR2, hL2⟩ := h2
  have hS2 := hR2.shape
  obtain ⟨a2_0, n2_0, c2_0, a2_1, n2_1, c2_1, a2_2, n2_2, c2_2, a2_3, n2_3, c2_3, a2_4, n2_4, c2_4, a2_5, n2_5, c2_5, rfl⟩ := hS2
  have T0 : Below w.heap.size w w := Below.refl _ _
  go_enter Tryz.func3, Tryz.ntmps3
  rcases Nat.lt_or_ge (1048576) f0.tot with p0 | p0
  · go_wp2_with fail
    refine (laws_szEp _ f0 (1048576) _ ((hR0.below T0).keep0 (by repeat (first | with_reducible exact gb_refl _ | refine gb_alloc ?_ _ | refine gb_drewN ?_ _ | refine gb_drew ?_))) (by omega) (hL0.len1) (hL0.len2)).mono ?_
    rintro e w9 ⟨_, hn9, g9⟩
    obtain rfl := hn9 p0
    clear hn9
    go_wp2
    go_ret
    exact ⟨rfl, below_next T0 (gb_trans (by repeat (first | with_reducible exact gb_refl _ | refine gb_alloc ?_ _ | refine gb_drewN ?_ _ | refine gb_drew ?_)) g9)⟩
  have P0 := Lib.hid p0
  clear p0
  go_wp2_with fail
  refine (laws_szEp _ f0 (1048576) _ ((hR0.below T0).keep0 (by repeat (first | with_reducible exact gb_refl _ | refine gb_alloc ?_ _ | refine gb_drewN ?_ _ | refine gb_drew ?_))) (by omega) (hL0.len1) (hL0.len2)).mono ?_
  rintro e w1 ⟨hy9, hn9, g1⟩
  obtain rfl := hy9 P0.out
  clear hy9 hn9
  have R1 : w.grownBy w1 none := gb_trans (by repeat (first | with_reducible exact gb_refl _ | refine gb_alloc ?_ _ | refine gb_drewN ?_ _ | refine gb_drew ?_)) g1
  have T1 : Below w.heap.size w w1 := below_next T0 R1
  have z1 := R1.size
  have bb_aE : Bx w1 (w.heap.size) 27 #[.int .i64 f0.n, .slice a0_0 n0_0 c0_0, .int .i64 f0.seq, .int .i64 f0.win.top, .slice a0_1 n0_1 c0_1] := by first | exact (bx2 w _ _ _ _).1.keep0 g1 | exact (bx2 w _ _ _ _).1.drew.keep0 g1
  have bb_aF : Bx w1 (w.heap.size + 1) 29 #[.int .i64 f2.kind, .int .i64 f2.id, .slice a2_0 n2_0 c2_0, .slice a2_1 n2_1 c2_1, .int .i64 f2.tick, .slice a2_2 n2_2 c2_2, .slice a2_3 n2_3 c2_3, .int .i64 f2.epoch, .int .i64 f2.seq, .slice a2_4 n2_4 c2_4, .slice a2_5 n2_5 c2_5] := by first | exact (bx2 w _ _ _ _).2.keep0 g1 | exact (bx2 w _ _ _ _).2.drew.keep0 g1
  have cc_aE := fun o => bb_aE.cell o
  have ll_aE_1 := bb_aE.lt
  have cc_aF := fun o => bb_aF.cell o
  have ll_aF_1 := bb_aF.lt
  rcases Nat.lt_or_ge (1048576 - f0.tot) f2.tot with p2 | p2
  · go_wp2_with fail
    refine (laws_szFrame _ f2 (1048576 - f0.tot) _ ((hR2.below T1).keep0 (by repeat (first | with_reducible exact gb_refl _ | refine gb_alloc ?_ _ | refine gb_drewN ?_ _ | refine gb_drew ?_))) (by omega) (hL2.len1) (hL2.len2) (hL2.len3) (hL2.len4) (hL2.len5) (hL2.len6)).mono ?_
    rintro e w9 ⟨_, hn9, g9⟩
    obtain rfl := hn9 p2
    clear hn9
    go_wp2
    go_ret
    exact ⟨rfl, below_next T1 (gb_trans (by repeat (first | with_reducible exact gb_refl _ | refine gb_alloc ?_ _ | refine gb_drewN ?_ _ | refine gb_drew ?_)) g9)⟩
  have P2 := Lib.hid p2
  clear p2
  go_wp2_with fail
  refine (laws_szFrame _ f2 (1048576 - f0.tot) _ ((hR2.below T1).keep0 (by repeat (first | with_reducible exact gb_refl _ | refine gb_alloc ?_ _ | refine gb_drewN ?_ _ | refine gb_drew ?_))) (by omega) (hL2.len1) (hL2.len2) (hL2.len3) (hL2.len4) (hL2.len5) (hL2.len6)).mono ?_
  rintro e w2 ⟨hy9, hn9, g2⟩
  obtain rfl := hy9 P2.out
  clear hy9 hn9
  have R2 : w1.grownBy w2 none := gb_trans (by repeat (first | with_reducible exact gb_refl _ | refine gb_alloc ?_ _ | refine gb_drewN ?_ _ | refine gb_drew ?_)) g2
  have T2 : Below w.heap.size w w2 := below_next T1 R2
  have z2 := R2.size
  clear cc_aE cc_aF
  replace bb_aE := bb_aE.keep0 R2
  replace bb_aF := bb_aF.keep0 R2
  have cc_aE := fun o => bb_aE.cell o
  have ll_aE_2 := bb_aE.lt
  have cc_aF := fun o => bb_aF.cell o
  have ll_aF_2 := bb_aF.lt
  go_wp2_with fail
  have KX : Hid (∀ w', w2.grownBy w' none → (w'.cell? ⟨w.heap.size, 0, none⟩ = some (.int .i64 f0.n) ∧ w'.cell? ⟨w.heap.size, 1, none⟩ = some (.slice a0_0 n0_0 c0_0) ∧ w'.cell? ⟨w.heap.size, 2, none⟩ = some (.int .i64 f0.seq) ∧ w'.cell? ⟨w.heap.size, 3, none⟩ = some (.int .i64 f0.win.top) ∧ w'.cell? ⟨w.heap.size, 4, none⟩ = some (.slice a0_1 n0_1 c0_1) ∧ w'.cell? ⟨w.heap.size + 1, 0, none⟩ = some (.int .i64 f2.kind) ∧ w'.cell? ⟨w.heap.size + 1, 1, none⟩ = some (.int .i64 f2.id) ∧ w'.cell? ⟨w.heap.size + 1, 2, none⟩ = some (.slice a2_0 n2_0 c2_0) ∧ w'.cell? ⟨w.heap.size + 1, 3, none⟩ = some (.slice a2_1 n2_1 c2_1) ∧ w'.cell? ⟨w.heap.size + 1, 4, none⟩ = some (.int .i64 f2.tick) ∧ w'.cell? ⟨w.heap.size + 1, 5, none⟩ = some (.slice a2_2 n2_2 c2_2) ∧ w'.cell? ⟨w.heap.size + 1, 6, none⟩ = some (.slice a2_3 n2_3 c2_3) ∧ w'.cell? ⟨w.heap.size + 1, 7, none⟩ = some (.int .i64 f2.epoch) ∧ w'.cell? ⟨w.heap.size + 1, 8, none⟩ = some (.int .i64 f2.seq) ∧ w'.cell? ⟨w.heap.size + 1, 9, none⟩ = some (.slice a2_4 n2_4 c2_4) ∧ w'.cell? ⟨w.heap.size + 1, 10, none⟩ = some (.slice a2_5 n2_5 c2_5) ∧ w2.grownBy w' none)) :=
    fun w' hg => ⟨(bb_aE.keep0 hg).cell 0, (bb_aE.keep0 hg).cell 1, (bb_aE.keep0 hg).cell 2, (bb_aE.keep0 hg).cell 3, (bb_aE.keep0 hg).cell 4, (bb_aF.keep0 hg).cell 0, (bb_aF.keep0 hg).cell 1, (bb_aF.keep0 hg).cell 2, (bb_aF.keep0 hg).cell 3, (bb_aF.keep0 hg).cell 4, (bb_aF.keep0 hg).cell 5, (bb_aF.keep0 hg).cell 6, (bb_aF.keep0 hg).cell 7, (bb_aF.keep0 hg).cell 8, (bb_aF.keep0 hg).cell 9, (bb_aF.keep0 hg).cell 10, hg⟩
  clear cc_aE cc_aF
  have cc_aE : True := trivial
  have cc_aF : True := trivial
  refine' cut3 _ (fun q_w0 a_tw00_0 n_tw00_0 c_tw00_0 a_tw00_1 n_tw00_1 c_tw00_1 a_tw01_0 n_tw01_0 c_tw01_0 a_tw01_1 n_tw01_1 c_tw01_1 a_tw01_2 n_tw01_2 c_tw01_2 a_tw01_3 n_tw01_3 c_tw01_3 a_tw01_4 n_tw01_4 c_tw01_4 a_tw01_5 n_tw01_5 c_tw01_5 a_w0_0 n_w0_0 c_w0_0 a_w0_1 n_w0_1 c_w0_1 a_w1 n_w1 c_w1 w' => ∃ Bc Sc : Nat, w2.grownBy w' none ∧ w2.heap.size ≤ Bc ∧ Sc ≤ w'.heap.size ∧ EpO Bc Sc w' (.agg #[.int .i64 ((epOpenE f0 x1 f2)).n, .slice a_w0_0 n_w0_0 c_w0_0, .int .i64 ((epOpenE f0 x1 f2)).seq, .int .i64 ((epOpenE f0 x1 f2)).win.top, .slice a_w0_1 n_w0_1 c_w0_1]) ((epOpenE f0 x1 f2)) ∧ Ow Bc w' 5 a_w1 n_w1 c_w1 (bys ((epOpenP f0 x1 f2))) ∧ (∀ p, a_w1 = some p → p.block < Sc) ∧ Bx w' q_w0 34 #[.int .i64 ((epOpenE f0 x1 f2)).n, .slice a_w0_0 n_w0_0 c_w0_0, .int .i64 ((epOpenE f0 x1 f2)).seq, .int .i64 ((epOpenE f0 x1 f2)).win.top, .slice a_w0_1 n_w0_1 c_w0_1] ∧ (q_w0 < Bc ∨ Sc ≤ q_w0) ∧ w2.heap.size ≤ q_w0) ?br3 ?rest3
  case br3 =>
    have gc := gb_drew (gb_refl w2)
    have zD : (World.drew w2).heap.size = w2.heap.size := rfl
    have zD2 : w2.heap.size = w2.heap.size := by first | rfl | (simp; done)
    refine wp_region_held_drew (S := fun w' => w'.cell? ⟨w.heap.size, 0, none⟩ = some (.int .i64 f0.n) ∧ w'.cell? ⟨w.heap.size, 1, none⟩ = some (.slice a0_0 n0_0 c0_0) ∧ w'.cell? ⟨w.heap.size, 2, none⟩ = some (.int .i64 f0.seq) ∧ w'.cell? ⟨w.heap.size, 3, none⟩ = some (.int .i64 f0.win.top) ∧ w'.cell? ⟨w.heap.size, 4, none⟩ = some (.slice a0_1 n0_1 c0_1) ∧ w'.cell? ⟨w.heap.size + 1, 0, none⟩ = some (.int .i64 f2.kind) ∧ w'.cell? ⟨w.heap.size + 1, 1, none⟩ = some (.int .i64 f2.id) ∧ w'.cell? ⟨w.heap.size + 1, 2, none⟩ = some (.slice a2_0 n2_0 c2_0) ∧ w'.cell? ⟨w.heap.size + 1, 3, none⟩ = some (.slice a2_1 n2_1 c2_1) ∧ w'.cell? ⟨w.heap.size + 1, 4, none⟩ = some (.int .i64 f2.tick) ∧ w'.cell? ⟨w.heap.size + 1, 5, none⟩ = some (.slice a2_2 n2_2 c2_2) ∧ w'.cell? ⟨w.heap.size + 1, 6, none⟩ = some (.slice a2_3 n2_3 c2_3) ∧ w'.cell? ⟨w.heap.size + 1, 7, none⟩ = some (.int .i64 f2.epoch) ∧ w'.cell? ⟨w.heap.size + 1, 8, none⟩ = some (.int .i64 f2.seq) ∧ w'.cell? ⟨w.heap.size + 1, 9, none⟩ = some (.slice a2_4 n2_4 c2_4) ∧ w'.cell? ⟨w.heap.size + 1, 10, none⟩ = some (.slice a2_5 n2_5 c2_5) ∧ w2.grownBy w' none) (by kernel_rfl) ?_ (fun hHeld => ?_)
    · (try dsimp only)
      refine KX.out _ ?_; exact gc
    refine wpAnyH_takeD (i := 0) (some 33) (v := ?_) rfl rfl (by kernel_rfl) (by kernel_rfl) (by kernel_rfl) (fun _ _ _ h => h) (Or.inl ⟨by rfl, ?_⟩) (by assumption) ?_
    rotate_left
    (focus (intro w hSw; (try dsimp only at hSw); (first | (go_simp; done) | (go_simp; with_reducible rfl) | with_reducible rfl)))
    (try simp only [Act.put]); (try simp only [List.setIfInBounds_toArray]); (try simp only [List.set_cons_succ]); (try simp only [List.set_cons_zero])
    refine wpAnyH_takeD (i := 2) (some 35) (v := ?_) rfl rfl (by kernel_rfl) (by kernel_rfl) (by kernel_rfl) (fun _ _ _ h => h) (Or.inl ⟨by rfl, ?_⟩) (by assumption) ?_
    rotate_left
    (focus (intro w hSw; (try dsimp only at hSw); (first | (go_simp; done) | (go_simp; with_reducible rfl) | with_reducible rfl)))
    (try simp only [Act.put]); (try simp only [List.setIfInBounds_toArray]); (try simp only [List.set_cons_succ]); (try simp only [List.set_cons_zero])
    refine wpAnyH_takeD (i := 3) (some 36) (v := ?_) rfl rfl (by kernel_rfl) (by kernel_rfl) (by kernel_rfl) (fun _ _ _ h => h) (Or.inl ⟨by rfl, ?_⟩) (by assumption) ?_
    rotate_left
    (focus (intro w hSw; (try dsimp only at hSw); (first | (go_simp; done) | (go_simp; with_reducible rfl) | with_reducible rfl)))
    (try simp only [Act.put]); (try simp only [List.setIfInBounds_toArray]); (try simp only [List.set_cons_succ]); (try simp only [List.set_cons_zero])
    refine wpAnyH_ready (rs := [1, 10]) (by kernel_rfl) (by simp) (AllReadyH.cons rfl (fun K hK => ?_) (AllReadyH.cons rfl (fun K hK => ?_) AllReadyH.nil))
    · go_simp
      go_at_call 7
      refine (laws_toEp _ f0 _ ((hR0.below T2).keep0 (gb_trans (by repeat (first | with_reducible exact gb_refl _ | refine gb_alloc ?_ _ | refine gb_drewN ?_ _ | refine gb_drew ?_)) gc)) (by have := P0.out; simp only [EpM.tot] at this; omega) (by have := P0.out; simp only [EpM.tot] at this; omega)).mono ?_
      rintro e wt_tw00 ⟨v_tw00, rfl, o_tw00, gt_tw00⟩
      obtain ⟨a_tw00_0, n_tw00_0, c_tw00_0, a_tw00_1, n_tw00_1, c_tw00_1, rfl⟩ := o_tw00.r.shape
      have z_tw00 := gt_tw00.size
      (try replace o_tw01 := o_tw01.keep0 gt_tw00)
      (try replace o_w0 := o_w0.keep0 gt_tw00)
      (try replace o_w1 := o_w1.keep0 gt_tw00)
      (try replace bq_w0 := bq_w0.keep0 gt_tw00)
      (try replace bs_w0 := bs_w0.keep0 gt_tw00)
      replace gc := gb_trans gc gt_tw00
      skip
      go_wp2_with fail
      refine hK.out _ _ ?_ (fun hHeld2 => ?_)
      · (try dsimp only)
        refine KX.out _ ?_; exact gc
      clear hK K hHeld
      have hHeld := hHeld2
      clear hHeld2
      (try simp only [Act.put]); (try simp only [List.setIfInBounds_toArray]); (try simp only [List.set_cons_succ]); (try simp only [List.set_cons_zero])
      refine wpAnyH_ready (rs := [4, 10]) (by kernel_rfl) (by simp) (AllReadyH.cons rfl (fun K hK => ?_) (AllReadyH.cons rfl (fun K hK => ?_) AllReadyH.nil))
      · go_simp
        go_at_call 8
        refine (laws_toFrame _ f2 _ ((hR2.below T2).keep0 (gb_trans (by repeat (first | with_reducible exact gb_refl _ | refine gb_alloc ?_ _ | refine gb_drewN ?_ _ | refine gb_drew ?_)) gc)) (by have := P2.out; simp only [FrameM.tot] at this; omega) (by have := P2.out; simp only [FrameM.tot] at this; omega) (by have := P2.out; simp only [FrameM.tot] at this; omega) (by have := P2.out; simp only [FrameM.tot] at this; omega) (by have := P2.out; simp only [FrameM.tot] at this; omega) (by have := P2.out; simp only [FrameM.tot] at this; omega)).mono ?_
        rintro e wt_tw01 ⟨v_tw01, rfl, o_tw01, gt_tw01⟩
        obtain ⟨a_tw01_0, n_tw01_0, c_tw01_0, a_tw01_1, n_tw01_1, c_tw01_1, a_tw01_2, n_tw01_2, c_tw01_2, a_tw01_3, n_tw01_3, c_tw01_3, a_tw01_4, n_tw01_4, c_tw01_4, a_tw01_5, n_tw01_5, c_tw01_5, rfl⟩ := o_tw01.r.shape
        have z_tw01 := gt_tw01.size
        (try replace o_tw00 := o_tw00.keep0 gt_tw01)
        (try replace o_w0 := o_w0.keep0 gt_tw01)
        (try replace o_w1 := o_w1.keep0 gt_tw01)
        (try replace bq_w0 := bq_w0.keep0 gt_tw01)
        (try replace bs_w0 := bs_w0.keep0 gt_tw01)
        replace gc := gb_trans gc gt_tw01
        skip
        go_wp2_with fail
        refine hK.out _ _ ?_ (fun hHeld2 => ?_)
        · (try dsimp only)
          refine KX.out _ ?_; exact gc
        clear hK K hHeld
        have hHeld := hHeld2
        clear hHeld2
        (try simp only [Act.put]); (try simp only [List.setIfInBounds_toArray]); (try simp only [List.set_cons_succ]); (try simp only [List.set_cons_zero])
        refine wpAnyH_ready (rs := [5, 10]) (by kernel_rfl) (by simp) (AllReadyH.cons rfl (fun K hK => ?_) (AllReadyH.cons rfl (fun K hK => ?_) AllReadyH.nil))
        · go_simp
          go_at_call 6
          refine (LS_EpOpen _ f0 x1 _ f2 _ o_tw00.r o_tw01.r (by have := P0.out; omega) (by have := P2.out; omega)).mono ?_
          rintro e wF ⟨v_w0, a_w1, n_w1, c_w1, rfl, o_w0, o_w1, gF⟩
          obtain ⟨a_w0_0, n_w0_0, c_w0_0, a_w0_1, n_w0_1, c_w0_1, rfl⟩ := o_w0.r.shape
          have zF := gF.size
          have u_w1 := fun p hp => (o_w1.lt p hp).2
          (try replace o_tw00 := o_tw00.keep0 gF)
          (try replace o_tw01 := o_tw01.keep0 gF)
          (try replace bq_w0 := bq_w0.keep0 gF)
          (try replace bs_w0 := bs_w0.keep0 gF)
          replace gc := gb_trans gc gF
          skip
          go_wp2_with fail
          refine hK.out _ _ ?_ (fun hHeld2 => ?_)
          · (try dsimp only)
            refine KX.out _ ?_; exact gc
          clear hK K hHeld
          have hHeld := hHeld2
          clear hHeld2
          (try simp only [Act.put]); (try simp only [List.setIfInBounds_toArray]); (try simp only [List.set_cons_succ]); (try simp only [List.set_cons_zero])
          refine wpAnyH_takeD (i := 6) (some 32) (v := ?_) rfl rfl (by kernel_rfl) (by kernel_rfl) (by kernel_rfl) (fun _ _ _ h => h) (Or.inl ⟨by rfl, ?_⟩) (by assumption) ?_
          rotate_left
          (focus (intro w hSw; (try dsimp only at hSw); (first | (go_simp; done) | (go_simp; with_reducible rfl) | with_reducible rfl)))
          (try simp only [Act.put]); (try simp only [List.setIfInBounds_toArray]); (try simp only [List.set_cons_succ]); (try simp only [List.set_cons_zero])
          refine wpAnyH_takeD (i := 7) (some 39) (v := ?_) rfl rfl (by kernel_rfl) (by kernel_rfl) (by kernel_rfl) (fun _ _ _ h => h) (Or.inl ⟨by rfl, ?_⟩) (by assumption) ?_
          rotate_left
          (focus (intro w hSw; (try dsimp only at hSw); (first | (go_simp; done) | (go_simp; with_reducible rfl) | with_reducible rfl)))
          (try simp only [Act.put]); (try simp only [List.setIfInBounds_toArray]); (try simp only [List.set_cons_succ]); (try simp only [List.set_cons_zero])
          refine wpAnyH_takeD (i := 8) (some 40) (v := ?_) rfl rfl (by kernel_rfl) (by kernel_rfl) (by kernel_rfl) (fun _ _ _ h => h) (Or.inl ⟨by rfl, ?_⟩) (by assumption) ?_
          rotate_left
          (focus (intro w hSw; (try dsimp only at hSw); (first | (go_simp; done) | (go_simp; with_reducible rfl) | with_reducible rfl)))
          (try simp only [Act.put]); (try simp only [List.setIfInBounds_toArray]); (try simp only [List.set_cons_succ]); (try simp only [List.set_cons_zero])
          refine wpAnyH_takeD (i := 9) (some 41) (v := ?_) rfl rfl (by kernel_rfl) (by kernel_rfl) (by kernel_rfl) (fun _ _ _ h => h) (Or.inl ⟨by rfl, ?_⟩) (by assumption) ?_
          rotate_left
          (focus (intro w hSw; (try dsimp only at hSw); (first | (go_simp; done) | (go_simp; with_reducible rfl) | with_reducible rfl)))
          (try simp only [Act.put]); (try simp only [List.setIfInBounds_toArray]); (try simp only [List.set_cons_succ]); (try simp only [List.set_cons_zero])
          refine wpAnyH_ready (rs := [10]) (by kernel_rfl) (by simp) (AllReadyH.cons rfl (fun K hK => ?_) AllReadyH.nil)
          refine step_alD rfl (some 8) rfl 34 _ rfl al_Ep ?_
          intro q_w0 wq_w0 hq_w0 bq_w0 ga_w0
          have lq_w0 := Nat.le_trans gc.size hq_w0
          have y_w0 := bq_w0.lt
          have zq_w0 := ga_w0.size
          (try replace o_tw00 := o_tw00.keep0 ga_w0)
          (try replace o_tw01 := o_tw01.keep0 ga_w0)
          (try replace o_w0 := o_w0.keep0 ga_w0)
          (try replace o_w1 := o_w1.keep0 ga_w0)
          replace gc := gb_trans gc ga_w0
          skip
          refine hK.out _ _ ?_ (fun hHeld2 => ?_)
          · (try dsimp only)
            refine KX.out _ ?_; exact gc
          clear hK K hHeld
          have hHeld := hHeld2
          clear hHeld2
          (try simp only [Act.put]); (try simp only [List.setIfInBounds_toArray]); (try simp only [List.set_cons_succ]); (try simp only [List.set_cons_zero])
          refine wpAnyH_ready (rs := [11]) (by kernel_rfl) (by simp) (AllReadyH.cons rfl (fun K hK => ?_) AllReadyH.nil)
          refine step_stRD rfl rfl 34 (.tmp 8) (.tmp 39) rfl q_w0 _ _ rfl rfl bq_w0 si_Ep rfl (by first | rfl | (simp [Value.oneCell']; done)) ?_
          intro ws_w0 bs_w0 gs_w0
          have zs_w0 := gs_w0.size
          replace o_w0 := o_w0.keepI (gbI.ofRow (B := q_w0) (S := q_w0 + 1) gs_w0 (fun g e => by cases e; omega)) (by omega)
          replace o_w1 := o_w1.row gs_w0 (fun p hp => by have := o_w1.lt p hp; have := u_w1 p hp; omega)
          replace gc := gb_row gc gs_w0 lq_w0
          clear bq_w0
          skip
          refine hK.out _ _ ?_ (fun hHeld2 => ?_)
          · (try dsimp only)
            refine KX.out _ ?_; exact gc
          clear hK K hHeld
          have hHeld := hHeld2
          clear hHeld2
          (try simp only [Act.put]); (try simp only [List.setIfInBounds_toArray]); (try simp only [List.set_cons_succ]); (try simp only [List.set_cons_zero])
          refine wpAnyH_takeD (i := 12) (some 9) (v := ?_) rfl rfl (by kernel_rfl) (by kernel_rfl) (by kernel_rfl) (fun _ _ _ h => h) (Or.inl ⟨by rfl, ?_⟩) (by assumption) ?_
          rotate_left
          (focus (intro w hSw; (try dsimp only at hSw); (first | (go_simp; done) | (go_simp; with_reducible rfl) | with_reducible rfl)))
          (try simp only [Act.put]); (try simp only [List.setIfInBounds_toArray]); (try simp only [List.set_cons_succ]); (try simp only [List.set_cons_zero])
          refine wpAnyH_takeD (i := 13) (some 10) (v := ?_) rfl rfl (by kernel_rfl) (by kernel_rfl) (by kernel_rfl) (fun _ _ _ h => h) (Or.inl ⟨by rfl, ?_⟩) (by assumption) ?_
          rotate_left
          (focus (intro w hSw; (try dsimp only at hSw); (first | (go_simp; done) | (go_simp; with_reducible rfl) | with_reducible rfl)))
          (try simp only [Act.put]); (try simp only [List.setIfInBounds_toArray]); (try simp only [List.set_cons_succ]); (try simp only [List.set_cons_zero])
          refine wpAnyH_done (by kernel_rfl) ?_ _
          (try dsimp only)
          refine ⟨q_w0, a_tw00_0, n_tw00_0, c_tw00_0, a_tw00_1, n_tw00_1, c_tw00_1, a_tw01_0, n_tw01_0, c_tw01_0, a_tw01_1, n_tw01_1, c_tw01_1, a_tw01_2, n_tw01_2, c_tw01_2, a_tw01_3, n_tw01_3, c_tw01_3, a_tw01_4, n_tw01_4, c_tw01_4, a_tw01_5, n_tw01_5, c_tw01_5, a_w0_0, n_w0_0, c_w0_0, a_w0_1, n_w0_1, c_w0_1, a_w1, n_w1, c_w1, ?_, _, _, gc, (by omega), (by omega), o_w0, o_w1, u_w1, bs_w0, (by omega), (by omega)⟩
          exact rfl
        · refine step_alD rfl (some 8) rfl 34 _ rfl al_Ep ?_
          intro q_w0 wq_w0 hq_w0 bq_w0 ga_w0
          have lq_w0 := Nat.le_trans gc.size hq_w0
          have y_w0 := bq_w0.lt
          have zq_w0 := ga_w0.size
          (try replace o_tw00 := o_tw00.keep0 ga_w0)
          (try replace o_tw01 := o_tw01.keep0 ga_w0)
          (try replace o_w0 := o_w0.keep0 ga_w0)
          (try replace o_w1 := o_w1.keep0 ga_w0)
          replace gc := gb_trans gc ga_w0
          skip
          refine hK.out _ _ ?_ (fun hHeld2 => ?_)
          · (try dsimp only)
            refine KX.out _ ?_; exact gc
          clear hK K hHeld
          have hHeld := hHeld2
          clear hHeld2
          (try simp only [Act.put]); (try simp only [List.setIfInBounds_toArray]); (try simp only [List.set_cons_succ]); (try simp only [List.set_cons_zero])
          refine wpAnyH_ready (rs := [5]) (by kernel_rfl) (by simp) (AllReadyH.cons rfl (fun K hK => ?_) AllReadyH.nil)
          go_simp
          go_at_call 6
          refine (LS_EpOpen _ f0 x1 _ f2 _ o_tw00.r o_tw01.r (by have := P0.out; omega) (by have := P2.out; omega)).mono ?_
          rintro e wF ⟨v_w0, a_w1, n_w1, c_w1, rfl, o_w0, o_w1, gF⟩
          obtain ⟨a_w0_0, n_w0_0, c_w0_0, a_w0_1, n_w0_1, c_w0_1, rfl⟩ := o_w0.r.shape
          have zF := gF.size
          have u_w1 := fun p hp => (o_w1.lt p hp).2
          (try replace o_tw00 := o_tw00.keep0 gF)
          (try replace o_tw01 := o_tw01.keep0 gF)
          (try replace bq_w0 := bq_w0.keep0 gF)
          (try replace bs_w0 := bs_w0.keep0 gF)
          replace gc := gb_trans gc gF
          skip
          go_wp2_with fail
          refine hK.out _ _ ?_ (fun hHeld2 => ?_)
          · (try dsimp only)
            refine KX.out _ ?_; exact gc
          clear hK K hHeld
          have hHeld := hHeld2
          clear hHeld2
          (try simp only [Act.put]); (try simp only [List.setIfInBounds_toArray]); (try simp only [List.set_cons_succ]); (try simp only [List.set_cons_zero])
          refine wpAnyH_takeD (i := 6) (some 32) (v := ?_) rfl rfl (by kernel_rfl) (by kernel_rfl) (by kernel_rfl) (fun _ _ _ h => h) (Or.inl ⟨by rfl, ?_⟩) (by assumption) ?_
          rotate_left
          (focus (intro w hSw; (try dsimp only at hSw); (first | (go_simp; done) | (go_simp; with_reducible rfl) | with_reducible rfl)))
          (try simp only [Act.put]); (try simp only [List.setIfInBounds_toArray]); (try simp only [List.set_cons_succ]); (try simp only [List.set_cons_zero])
          refine wpAnyH_takeD (i := 7) (some 39) (v := ?_) rfl rfl (by kernel_rfl) (by kernel_rfl) (by kernel_rfl) (fun _ _ _ h => h) (Or.inl ⟨by rfl, ?_⟩) (by assumption) ?_
          rotate_left
          (focus (intro w hSw; (try dsimp only at hSw); (first | (go_simp; done) | (go_simp; with_reducible rfl) | with_reducible rfl)))
          (try simp only [Act.put]); (try simp only [List.setIfInBounds_toArray]); (try simp only [List.set_cons_succ]); (try simp only [List.set_cons_zero])
          refine wpAnyH_takeD (i := 8) (some 40) (v := ?_) rfl rfl (by kernel_rfl) (by kernel_rfl) (by kernel_rfl) (fun _ _ _ h => h) (Or.inl ⟨by rfl, ?_⟩) (by assumption) ?_
          rotate_left
          (focus (intro w hSw; (try dsimp only at hSw); (first | (go_simp; done) | (go_simp; with_reducible rfl) | with_reducible rfl)))
          (try simp only [Act.put]); (try simp only [List.setIfInBounds_toArray]); (try simp only [List.set_cons_succ]); (try simp only [List.set_cons_zero])
          refine wpAnyH_takeD (i := 9) (some 41) (v := ?_) rfl rfl (by kernel_rfl) (by kernel_rfl) (by kernel_rfl) (fun _ _ _ h => h) (Or.inl ⟨by rfl, ?_⟩) (by assumption) ?_
          rotate_left
          (focus (intro w hSw; (try dsimp only at hSw); (first | (go_simp; done) | (go_simp; with_reducible rfl) | with_reducible rfl)))
          (try simp only [Act.put]); (try simp only [List.setIfInBounds_toArray]); (try simp only [List.set_cons_succ]); (try simp only [List.set_cons_zero])
          refine wpAnyH_ready (rs := [11]) (by kernel_rfl) (by simp) (AllReadyH.cons rfl (fun K hK => ?_) AllReadyH.nil)
          refine step_stRD rfl rfl 34 (.tmp 8) (.tmp 39) rfl q_w0 _ _ rfl rfl bq_w0 si_Ep rfl (by first | rfl | (simp [Value.oneCell']; done)) ?_
          intro ws_w0 bs_w0 gs_w0
          have zs_w0 := gs_w0.size
          replace o_w0 := o_w0.keepI (gbI.ofRow (B := q_w0) (S := q_w0 + 1) gs_w0 (fun g e => by cases e; omega)) (by omega)
          replace o_w1 := o_w1.row gs_w0 (fun p hp => by have := o_w1.lt p hp; have := u_w1 p hp; omega)
          replace gc := gb_row gc gs_w0 lq_w0
          clear bq_w0
          skip
          refine hK.out _ _ ?_ (fun hHeld2 => ?_)
          · (try dsimp only)
            refine KX.out _ ?_; exact gc
          clear hK K hHeld
          have hHeld := hHeld2
          clear hHeld2
          (try simp only [Act.put]); (try simp only [List.setIfInBounds_toArray]); (try simp only [List.set_cons_succ]); (try simp only [List.set_cons_zero])
          refine wpAnyH_takeD (i := 12) (some 9) (v := ?_) rfl rfl (by kernel_rfl) (by kernel_rfl) (by kernel_rfl) (fun _ _ _ h => h) (Or.inl ⟨by rfl, ?_⟩) (by assumption) ?_
          rotate_left
          (focus (intro w hSw; (try dsimp only at hSw); (first | (go_simp; done) | (go_simp; with_reducible rfl) | with_reducible rfl)))
          (try simp only [Act.put]); (try simp only [List.setIfInBounds_toArray]); (try simp only [List.set_cons_succ]); (try simp only [List.set_cons_zero])
          refine wpAnyH_takeD (i := 13) (some 10) (v := ?_) rfl rfl (by kernel_rfl) (by kernel_rfl) (by kernel_rfl) (fun _ _ _ h => h) (Or.inl ⟨by rfl, ?_⟩) (by assumption) ?_
          rotate_left
          (focus (intro w hSw; (try dsimp only at hSw); (first | (go_simp; done) | (go_simp; with_reducible rfl) | with_reducible rfl)))
          (try simp only [Act.put]); (try simp only [List.setIfInBounds_toArray]); (try simp only [List.set_cons_succ]); (try simp only [List.set_cons_zero])
          refine wpAnyH_done (by kernel_rfl) ?_ _
          (try dsimp only)
          refine ⟨q_w0, a_tw00_0, n_tw00_0, c_tw00_0, a_tw00_1, n_tw00_1, c_tw00_1, a_tw01_0, n_tw01_0, c_tw01_0, a_tw01_1, n_tw01_1, c_tw01_1, a_tw01_2, n_tw01_2, c_tw01_2, a_tw01_3, n_tw01_3, c_tw01_3, a_tw01_4, n_tw01_4, c_tw01_4, a_tw01_5, n_tw01_5, c_tw01_5, a_w0_0, n_w0_0, c_w0_0, a_w0_1, n_w0_1, c_w0_1, a_w1, n_w1, c_w1, ?_, _, _, gc, (by omega), (by omega), o_w0, o_w1, u_w1, bs_w0, (by omega), (by omega)⟩
          exact rfl
      · refine step_alD rfl (some 8) rfl 34 _ rfl al_Ep ?_
        intro q_w0 wq_w0 hq_w0 bq_w0 ga_w0
        have lq_w0 := Nat.le_trans gc.size hq_w0
        have y_w0 := bq_w0.lt
        have zq_w0 := ga_w0.size
        (try replace o_tw00 := o_tw00.keep0 ga_w0)
        (try replace o_tw01 := o_tw01.keep0 ga_w0)
        (try replace o_w0 := o_w0.keep0 ga_w0)
        (try replace o_w1 := o_w1.keep0 ga_w0)
        replace gc := gb_trans gc ga_w0
        skip
        refine hK.out _ _ ?_ (fun hHeld2 => ?_)
        · (try dsimp only)
          refine KX.out _ ?_; exact gc
        clear hK K hHeld
        have hHeld := hHeld2
        clear hHeld2
        (try simp only [Act.put]); (try simp only [List.setIfInBounds_toArray]); (try simp only [List.set_cons_succ]); (try simp only [List.set_cons_zero])
        refine wpAnyH_ready (rs := [4]) (by kernel_rfl) (by simp) (AllReadyH.cons rfl (fun K hK => ?_) AllReadyH.nil)
        go_simp
        go_at_call 8
        refine (laws_toFrame _ f2 _ ((hR2.below T2).keep0 (gb_trans (by repeat (first | with_reducible exact gb_refl _ | refine gb_alloc ?_ _ | refine gb_drewN ?_ _ | refine gb_drew ?_)) gc)) (by have := P2.out; simp only [FrameM.tot] at this; omega) (by have := P2.out; simp only [FrameM.tot] at this; omega) (by have := P2.out; simp only [FrameM.tot] at this; omega) (by have := P2.out; simp only [FrameM.tot] at this; omega) (by have := P2.out; simp only [FrameM.tot] at this; omega) (by have := P2.out; simp only [FrameM.tot] at this; omega)).mono ?_
        rintro e wt_tw01 ⟨v_tw01, rfl, o_tw01, gt_tw01⟩
        obtain ⟨a_tw01_0, n_tw01_0, c_tw01_0, a_tw01_1, n_tw01_1, c_tw01_1, a_tw01_2, n_tw01_2, c_tw01_2, a_tw01_3, n_tw01_3, c_tw01_3, a_tw01_4, n_tw01_4, c_tw01_4, a_tw01_5, n_tw01_5, c_tw01_5, rfl⟩ := o_tw01.r.shape
        have z_tw01 := gt_tw01.size
        (try replace o_tw00 := o_tw00.keep0 gt_tw01)
        (try replace o_w0 := o_w0.keep0 gt_tw01)
        (try replace o_w1 := o_w1.keep0 gt_tw01)
        (try replace bq_w0 := bq_w0.keep0 gt_tw01)
        (try replace bs_w0 := bs_w0.keep0 gt_tw01)
        replace gc := gb_trans gc gt_tw01
        skip
        go_wp2_with fail
        refine hK.out _ _ ?_ (fun hHeld2 => ?_)
        · (try dsimp only)
          refine KX.out _ ?_; exact gc
        clear hK K hHeld
        have hHeld := hHeld2
        clear hHeld2
        (try simp only [Act.put]); (try simp only [List.setIfInBounds_toArray]); (try simp only [List.set_cons_succ]); (try simp only [List.set_cons_zero])
        refine wpAnyH_ready (rs := [5]) (by kernel_rfl) (by simp) (AllReadyH.cons rfl (fun K hK => ?_) AllReadyH.nil)
        go_simp
        go_at_call 6
        refine (LS_EpOpen _ f0 x1 _ f2 _ o_tw00.r o_tw01.r (by have := P0.out; omega) (by have := P2.out; omega)).mono ?_
        rintro e wF ⟨v_w0, a_w1, n_w1, c_w1, rfl, o_w0, o_w1, gF⟩
        obtain ⟨a_w0_0, n_w0_0, c_w0_0, a_w0_1, n_w0_1, c_w0_1, rfl⟩ := o_w0.r.shape
        have zF := gF.size
        have u_w1 := fun p hp => (o_w1.lt p hp).2
        (try replace o_tw00 := o_tw00.keep0 gF)
        (try replace o_tw01 := o_tw01.keep0 gF)
        (try replace bq_w0 := bq_w0.keep0 gF)
        (try replace bs_w0 := bs_w0.keep0 gF)
        replace gc := gb_trans gc gF
        skip
        go_wp2_with fail
        refine hK.out _ _ ?_ (fun hHeld2 => ?_)
        · (try dsimp only)
          refine KX.out _ ?_; exact gc
        clear hK K hHeld
        have hHeld := hHeld2
        clear hHeld2
        (try simp only [Act.put]); (try simp only [List.setIfInBounds_toArray]); (try simp only [List.set_cons_succ]); (try simp only [List.set_cons_zero])
        refine wpAnyH_takeD (i := 6) (some 32) (v := ?_) rfl rfl (by kernel_rfl) (by kernel_rfl) (by kernel_rfl) (fun _ _ _ h => h) (Or.inl ⟨by rfl, ?_⟩) (by assumption) ?_
        rotate_left
        (focus (intro w hSw; (try dsimp only at hSw); (first | (go_simp; done) | (go_simp; with_reducible rfl) | with_reducible rfl)))
        (try simp only [Act.put]); (try simp only [List.setIfInBounds_toArray]); (try simp only [List.set_cons_succ]); (try simp only [List.set_cons_zero])
        refine wpAnyH_takeD (i := 7) (some 39) (v := ?_) rfl rfl (by kernel_rfl) (by kernel_rfl) (by kernel_rfl) (fun _ _ _ h => h) (Or.inl ⟨by rfl, ?_⟩) (by assumption) ?_
        rotate_left
        (focus (intro w hSw; (try dsimp only at hSw); (first | (go_simp; done) | (go_simp; with_reducible rfl) | with_reducible rfl)))
        (try simp only [Act.put]); (try simp only [List.setIfInBounds_toArray]); (try simp only [List.set_cons_succ]); (try simp only [List.set_cons_zero])
        refine wpAnyH_takeD (i := 8) (some 40) (v := ?_) rfl rfl (by kernel_rfl) (by kernel_rfl) (by kernel_rfl) (fun _ _ _ h => h) (Or.inl ⟨by rfl, ?_⟩) (by assumption) ?_
        rotate_left
        (focus (intro w hSw; (try dsimp only at hSw); (first | (go_simp; done) | (go_simp; with_reducible rfl) | with_reducible rfl)))
        (try simp only [Act.put]); (try simp only [List.setIfInBounds_toArray]); (try simp only [List.set_cons_succ]); (try simp only [List.set_cons_zero])
        refine wpAnyH_takeD (i := 9) (some 41) (v := ?_) rfl rfl (by kernel_rfl) (by kernel_rfl) (by kernel_rfl) (fun _ _ _ h => h) (Or.inl ⟨by rfl, ?_⟩) (by assumption) ?_
        rotate_left
        (focus (intro w hSw; (try dsimp only at hSw); (first | (go_simp; done) | (go_simp; with_reducible rfl) | with_reducible rfl)))
        (try simp only [Act.put]); (try simp only [List.setIfInBounds_toArray]); (try simp only [List.set_cons_succ]); (try simp only [List.set_cons_zero])
        refine wpAnyH_ready (rs := [11]) (by kernel_rfl) (by simp) (AllReadyH.cons rfl (fun K hK => ?_) AllReadyH.nil)
        refine step_stRD rfl rfl 34 (.tmp 8) (.tmp 39) rfl q_w0 _ _ rfl rfl bq_w0 si_Ep rfl (by first | rfl | (simp [Value.oneCell']; done)) ?_
        intro ws_w0 bs_w0 gs_w0
        have zs_w0 := gs_w0.size
        replace o_w0 := o_w0.keepI (gbI.ofRow (B := q_w0) (S := q_w0 + 1) gs_w0 (fun g e => by cases e; omega)) (by omega)
        replace o_w1 := o_w1.row gs_w0 (fun p hp => by have := o_w1.lt p hp; have := u_w1 p hp; omega)
        replace gc := gb_row gc gs_w0 lq_w0
        clear bq_w0
        skip
        refine hK.out _ _ ?_ (fun hHeld2 => ?_)
        · (try dsimp only)
          refine KX.out _ ?_; exact gc
        clear hK K hHeld
        have hHeld := hHeld2
        clear hHeld2
        (try simp only [Act.put]); (try simp only [List.setIfInBounds_toArray]); (try simp only [List.set_cons_succ]); (try simp only [List.set_cons_zero])
        refine wpAnyH_takeD (i := 12) (some 9) (v := ?_) rfl rfl (by kernel_rfl) (by kernel_rfl) (by kernel_rfl) (fun _ _ _ h => h) (Or.inl ⟨by rfl, ?_⟩) (by assumption) ?_
        rotate_left
        (focus (intro w hSw; (try dsimp only at hSw); (first | (go_simp; done) | (go_simp; with_reducible rfl) | with_reducible rfl)))
        (try simp only [Act.put]); (try simp only [List.setIfInBounds_toArray]); (try simp only [List.set_cons_succ]); (try simp only [List.set_cons_zero])
        refine wpAnyH_takeD (i := 13) (some 10) (v := ?_) rfl rfl (by kernel_rfl) (by kernel_rfl) (by kernel_rfl) (fun _ _ _ h => h) (Or.inl ⟨by rfl, ?_⟩) (by assumption) ?_
        rotate_left
        (focus (intro w hSw; (try dsimp only at hSw); (first | (go_simp; done) | (go_simp; with_reducible rfl) | with_reducible rfl)))
        (try simp only [Act.put]); (try simp only [List.setIfInBounds_toArray]); (try simp only [List.set_cons_succ]); (try simp only [List.set_cons_zero])
        refine wpAnyH_done (by kernel_rfl) ?_ _
        (try dsimp only)
        refine ⟨q_w0, a_tw00_0, n_tw00_0, c_tw00_0, a_tw00_1, n_tw00_1, c_tw00_1, a_tw01_0, n_tw01_0, c_tw01_0, a_tw01_1, n_tw01_1, c_tw01_1, a_tw01_2, n_tw01_2, c_tw01_2, a_tw01_3, n_tw01_3, c_tw01_3, a_tw01_4, n_tw01_4, c_tw01_4, a_tw01_5, n_tw01_5, c_tw01_5, a_w0_0, n_w0_0, c_w0_0, a_w0_1, n_w0_1, c_w0_1, a_w1, n_w1, c_w1, ?_, _, _, gc, (by omega), (by omega), o_w0, o_w1, u_w1, bs_w0, (by omega), (by omega)⟩
        exact rfl
    · refine step_alD rfl (some 8) rfl 34 _ rfl al_Ep ?_
      intro q_w0 wq_w0 hq_w0 bq_w0 ga_w0
      have lq_w0 := Nat.le_trans gc.size hq_w0
      have y_w0 := bq_w0.lt
      have zq_w0 := ga_w0.size
      (try replace o_tw00 := o_tw00.keep0 ga_w0)
      (try replace o_tw01 := o_tw01.keep0 ga_w0)
      (try replace o_w0 := o_w0.keep0 ga_w0)
      (try replace o_w1 := o_w1.keep0 ga_w0)
      replace gc := gb_trans gc ga_w0
      skip
      refine hK.out _ _ ?_ (fun hHeld2 => ?_)
      · (try dsimp only)
        refine KX.out _ ?_; exact gc
      clear hK K hHeld
      have hHeld := hHeld2
      clear hHeld2
      (try simp only [Act.put]); (try simp only [List.setIfInBounds_toArray]); (try simp only [List.set_cons_succ]); (try simp only [List.set_cons_zero])
      refine wpAnyH_ready (rs := [1]) (by kernel_rfl) (by simp) (AllReadyH.cons rfl (fun K hK => ?_) AllReadyH.nil)
      go_simp
      go_at_call 7
      refine (laws_toEp _ f0 _ ((hR0.below T2).keep0 (gb_trans (by repeat (first | with_reducible exact gb_refl _ | refine gb_alloc ?_ _ | refine gb_drewN ?_ _ | refine gb_drew ?_)) gc)) (by have := P0.out; simp only [EpM.tot] at this; omega) (by have := P0.out; simp only [EpM.tot] at this; omega)).mono ?_
      rintro e wt_tw00 ⟨v_tw00, rfl, o_tw00, gt_tw00⟩
      obtain ⟨a_tw00_0, n_tw00_0, c_tw00_0, a_tw00_1, n_tw00_1, c_tw00_1, rfl⟩ := o_tw00.r.shape
      have z_tw00 := gt_tw00.size
      (try replace o_tw01 := o_tw01.keep0 gt_tw00)
      (try replace o_w0 := o_w0.keep0 gt_tw00)
      (try replace o_w1 := o_w1.keep0 gt_tw00)
      (try replace bq_w0 := bq_w0.keep0 gt_tw00)
      (try replace bs_w0 := bs_w0.keep0 gt_tw00)
      replace gc := gb_trans gc gt_tw00
      skip
      go_wp2_with fail
      refine hK.out _ _ ?_ (fun hHeld2 => ?_)
      · (try dsimp only)
        refine KX.out _ ?_; exact gc
      clear hK K hHeld
      have hHeld := hHeld2
      clear hHeld2
      (try simp only [Act.put]); (try simp only [List.setIfInBounds_toArray]); (try simp only [List.set_cons_succ]); (try simp only [List.set_cons_zero])
      refine wpAnyH_ready (rs := [4]) (by kernel_rfl) (by simp) (AllReadyH.cons rfl (fun K hK => ?_) AllReadyH.nil)
      go_simp
      go_at_call 8
      refine (laws_toFrame _ f2 _ ((hR2.below T2).keep0 (gb_trans (by repeat (first | with_reducible exact gb_refl _ | refine gb_alloc ?_ _ | refine gb_drewN ?_ _ | refine gb_drew ?_)) gc)) (by have := P2.out; simp only [FrameM.tot] at this; omega) (by have := P2.out; simp only [FrameM.tot] at this; omega) (by have := P2.out; simp only [FrameM.tot] at this; omega) (by have := P2.out; simp only [FrameM.tot] at this; omega) (by have := P2.out; simp only [FrameM.tot] at this; omega) (by have := P2.out; simp only [FrameM.tot] at this; omega)).mono ?_
      rintro e wt_tw01 ⟨v_tw01, rfl, o_tw01, gt_tw01⟩
      obtain ⟨a_tw01_0, n_tw01_0, c_tw01_0, a_tw01_1, n_tw01_1, c_tw01_1, a_tw01_2, n_tw01_2, c_tw01_2, a_tw01_3, n_tw01_3, c_tw01_3, a_tw01_4, n_tw01_4, c_tw01_4, a_tw01_5, n_tw01_5, c_tw01_5, rfl⟩ := o_tw01.r.shape
      have z_tw01 := gt_tw01.size
      (try replace o_tw00 := o_tw00.keep0 gt_tw01)
      (try replace o_w0 := o_w0.keep0 gt_tw01)
      (try replace o_w1 := o_w1.keep0 gt_tw01)
      (try replace bq_w0 := bq_w0.keep0 gt_tw01)
      (try replace bs_w0 := bs_w0.keep0 gt_tw01)
      replace gc := gb_trans gc gt_tw01
      skip
      go_wp2_with fail
      refine hK.out _ _ ?_ (fun hHeld2 => ?_)
      · (try dsimp only)
        refine KX.out _ ?_; exact gc
      clear hK K hHeld
      have hHeld := hHeld2
      clear hHeld2
      (try simp only [Act.put]); (try simp only [List.setIfInBounds_toArray]); (try simp only [List.set_cons_succ]); (try simp only [List.set_cons_zero])
      refine wpAnyH_ready (rs := [5]) (by kernel_rfl) (by simp) (AllReadyH.cons rfl (fun K hK => ?_) AllReadyH.nil)
      go_simp
      go_at_call 6
      refine (LS_EpOpen _ f0 x1 _ f2 _ o_tw00.r o_tw01.r (by have := P0.out; omega) (by have := P2.out; omega)).mono ?_
      rintro e wF ⟨v_w0, a_w1, n_w1, c_w1, rfl, o_w0, o_w1, gF⟩
      obtain ⟨a_w0_0, n_w0_0, c_w0_0, a_w0_1, n_w0_1, c_w0_1, rfl⟩ := o_w0.r.shape
      have zF := gF.size
      have u_w1 := fun p hp => (o_w1.lt p hp).2
      (try replace o_tw00 := o_tw00.keep0 gF)
      (try replace o_tw01 := o_tw01.keep0 gF)
      (try replace bq_w0 := bq_w0.keep0 gF)
      (try replace bs_w0 := bs_w0.keep0 gF)
      replace gc := gb_trans gc gF
      skip
      go_wp2_with fail
      refine hK.out _ _ ?_ (fun hHeld2 => ?_)
      · (try dsimp only)
        refine KX.out _ ?_; exact gc
      clear hK K hHeld
      have hHeld := hHeld2
      clear hHeld2
      (try simp only [Act.put]); (try simp only [List.setIfInBounds_toArray]); (try simp only [List.set_cons_succ]); (try simp only [List.set_cons_zero])
      refine wpAnyH_takeD (i := 6) (some 32) (v := ?_) rfl rfl (by kernel_rfl) (by kernel_rfl) (by kernel_rfl) (fun _ _ _ h => h) (Or.inl ⟨by rfl, ?_⟩) (by assumption) ?_
      rotate_left
      (focus (intro w hSw; (try dsimp only at hSw); (first | (go_simp; done) | (go_simp; with_reducible rfl) | with_reducible rfl)))
      (try simp only [Act.put]); (try simp only [List.setIfInBounds_toArray]); (try simp only [List.set_cons_succ]); (try simp only [List.set_cons_zero])
      refine wpAnyH_takeD (i := 7) (some 39) (v := ?_) rfl rfl (by kernel_rfl) (by kernel_rfl) (by kernel_rfl) (fun _ _ _ h => h) (Or.inl ⟨by rfl, ?_⟩) (by assumption) ?_
      rotate_left
      (focus (intro w hSw; (try dsimp only at hSw); (first | (go_simp; done) | (go_simp; with_reducible rfl) | with_reducible rfl)))
      (try simp only [Act.put]); (try simp only [List.setIfInBounds_toArray]); (try simp only [List.set_cons_succ]); (try simp only [List.set_cons_zero])
      refine wpAnyH_takeD (i := 8) (some 40) (v := ?_) rfl rfl (by kernel_rfl) (by kernel_rfl) (by kernel_rfl) (fun _ _ _ h => h) (Or.inl ⟨by rfl, ?_⟩) (by assumption) ?_
      rotate_left
      (focus (intro w hSw; (try dsimp only at hSw); (first | (go_simp; done) | (go_simp; with_reducible rfl) | with_reducible rfl)))
      (try simp only [Act.put]); (try simp only [List.setIfInBounds_toArray]); (try simp only [List.set_cons_succ]); (try simp only [List.set_cons_zero])
      refine wpAnyH_takeD (i := 9) (some 41) (v := ?_) rfl rfl (by kernel_rfl) (by kernel_rfl) (by kernel_rfl) (fun _ _ _ h => h) (Or.inl ⟨by rfl, ?_⟩) (by assumption) ?_
      rotate_left
      (focus (intro w hSw; (try dsimp only at hSw); (first | (go_simp; done) | (go_simp; with_reducible rfl) | with_reducible rfl)))
      (try simp only [Act.put]); (try simp only [List.setIfInBounds_toArray]); (try simp only [List.set_cons_succ]); (try simp only [List.set_cons_zero])
      refine wpAnyH_ready (rs := [11]) (by kernel_rfl) (by simp) (AllReadyH.cons rfl (fun K hK => ?_) AllReadyH.nil)
      refine step_stRD rfl rfl 34 (.tmp 8) (.tmp 39) rfl q_w0 _ _ rfl rfl bq_w0 si_Ep rfl (by first | rfl | (simp [Value.oneCell']; done)) ?_
      intro ws_w0 bs_w0 gs_w0
      have zs_w0 := gs_w0.size
      replace o_w0 := o_w0.keepI (gbI.ofRow (B := q_w0) (S := q_w0 + 1) gs_w0 (fun g e => by cases e; omega)) (by omega)
      replace o_w1 := o_w1.row gs_w0 (fun p hp => by have := o_w1.lt p hp; have := u_w1 p hp; omega)
      replace gc := gb_row gc gs_w0 lq_w0
      clear bq_w0
      skip
      refine hK.out _ _ ?_ (fun hHeld2 => ?_)
      · (try dsimp only)
        refine KX.out _ ?_; exact gc
      clear hK K hHeld
      have hHeld := hHeld2
      clear hHeld2
      (try simp only [Act.put]); (try simp only [List.setIfInBounds_toArray]); (try simp only [List.set_cons_succ]); (try simp only [List.set_cons_zero])
      refine wpAnyH_takeD (i := 12) (some 9) (v := ?_) rfl rfl (by kernel_rfl) (by kernel_rfl) (by kernel_rfl) (fun _ _ _ h => h) (Or.inl ⟨by rfl, ?_⟩) (by assumption) ?_
      rotate_left
      (focus (intro w hSw; (try dsimp only at hSw); (first | (go_simp; done) | (go_simp; with_reducible rfl) | with_reducible rfl)))
      (try simp only [Act.put]); (try simp only [List.setIfInBounds_toArray]); (try simp only [List.set_cons_succ]); (try simp only [List.set_cons_zero])
      refine wpAnyH_takeD (i := 13) (some 10) (v := ?_) rfl rfl (by kernel_rfl) (by kernel_rfl) (by kernel_rfl) (fun _ _ _ h => h) (Or.inl ⟨by rfl, ?_⟩) (by assumption) ?_
      rotate_left
      (focus (intro w hSw; (try dsimp only at hSw); (first | (go_simp; done) | (go_simp; with_reducible rfl) | with_reducible rfl)))
      (try simp only [Act.put]); (try simp only [List.setIfInBounds_toArray]); (try simp only [List.set_cons_succ]); (try simp only [List.set_cons_zero])
      refine wpAnyH_done (by kernel_rfl) ?_ _
      (try dsimp only)
      refine ⟨q_w0, a_tw00_0, n_tw00_0, c_tw00_0, a_tw00_1, n_tw00_1, c_tw00_1, a_tw01_0, n_tw01_0, c_tw01_0, a_tw01_1, n_tw01_1, c_tw01_1, a_tw01_2, n_tw01_2, c_tw01_2, a_tw01_3, n_tw01_3, c_tw01_3, a_tw01_4, n_tw01_4, c_tw01_4, a_tw01_5, n_tw01_5, c_tw01_5, a_w0_0, n_w0_0, c_w0_0, a_w0_1, n_w0_1, c_w0_1, a_w1, n_w1, c_w1, ?_, _, _, gc, (by omega), (by omega), o_w0, o_w1, u_w1, bs_w0, (by omega), (by omega)⟩
      exact rfl
  rintro q_w0 a_tw00_0 n_tw00_0 c_tw00_0 a_tw00_1 n_tw00_1 c_tw00_1 a_tw01_0 n_tw01_0 c_tw01_0 a_tw01_1 n_tw01_1 c_tw01_1 a_tw01_2 n_tw01_2 c_tw01_2 a_tw01_3 n_tw01_3 c_tw01_3 a_tw01_4 n_tw01_4 c_tw01_4 a_tw01_5 n_tw01_5 c_tw01_5 a_w0_0 n_w0_0 c_w0_0 a_w0_1 n_w0_1 c_w0_1 a_w1 n_w1 c_w1 w3 ⟨Bc_3, Sc_3, g3, lb_3, ls_3, o_w0, o_w1, u_w1, bx_w0, nq_w0, lq_w0⟩
  clear KX
  have R3 : w2.grownBy w3 none := gb_trans (by repeat (first | with_reducible exact gb_refl _ | refine gb_alloc ?_ _ | refine gb_drewN ?_ _ | refine gb_drew ?_)) g3
  have T3 : Below w.heap.size w w3 := below_next T2 R3
  have z3 := R3.size
  clear cc_aE cc_aF
  replace bb_aE := bb_aE.keep0 R3
  replace bb_aF := bb_aF.keep0 R3
  have cc_aE := fun o => bb_aE.cell o
  have ll_aE_3 := bb_aE.lt
  have cc_aF := fun o => bb_aF.cell o
  have ll_aF_3 := bb_aF.lt
  have bb_w0 := bx_w0
  clear bx_w0
  have cc_w0 := fun o => bb_w0.cell o
  have ll_w0_3 := bb_w0.lt
  go_wp2_with fail
  refine (laws_toEp _ f0 _ ((hR0.below T3).keep0 (by repeat (first | with_reducible exact gb_refl _ | refine gb_alloc ?_ _ | refine gb_drewN ?_ _ | refine gb_drew ?_))) (by have := P0.out; simp only [EpM.tot] at this; omega) (by have := P0.out; simp only [EpM.tot] at this; omega)).mono ?_
  rintro e w4 ⟨v_x0, rfl, o_x0, g4⟩
  obtain ⟨a_x0_0, n_x0_0, c_x0_0, a_x0_1, n_x0_1, c_x0_1, rfl⟩ := o_x0.r.shape
  have R4 : w3.grownBy w4 none := gb_trans (by repeat (first | with_reducible exact gb_refl _ | refine gb_alloc ?_ _ | refine gb_drewN ?_ _ | refine gb_drew ?_)) g4
  have T4 : Below w.heap.size w w4 := below_next T3 R4
  have z4 := R4.size
  replace o_w0 := o_w0.keep0 R4
  replace o_w1 := o_w1.keep0 R4
  clear cc_aE cc_aF cc_w0
  replace bb_aE := bb_aE.keep0 R4
  replace bb_aF := bb_aF.keep0 R4
  replace bb_w0 := bb_w0.keep0 R4
  have cc_aE := fun o => bb_aE.cell o
  have ll_aE_4 := bb_aE.lt
  have cc_aF := fun o => bb_aF.cell o
  have ll_aF_4 := bb_aF.lt
  have cc_w0 := fun o => bb_w0.cell o
  have ll_w0_4 := bb_w0.lt
  replace o_x0 := o_x0.low (B' := w3.heap.size) (by first | exact Nat.le_refl _ | (simp; done) | (simp; omega))
  go_wp2_with fail
  refine (laws_toFrame _ f2 _ ((hR2.below T4).keep0 (by repeat (first | with_reducible exact gb_refl _ | refine gb_alloc ?_ _ | refine gb_drewN ?_ _ | refine gb_drew ?_))) (by have := P2.out; simp only [FrameM.tot] at this; omega) (by have := P2.out; simp only [FrameM.tot] at this; omega) (by have := P2.out; simp only [FrameM.tot] at this; omega) (by have := P2.out; simp only [FrameM.tot] at this; omega) (by have := P2.out; simp only [FrameM.tot] at this; omega) (by have := P2.out; simp only [FrameM.tot] at this; omega)).mono ?_
  rintro e w5 ⟨v_x2, rfl, o_x2, g5⟩
  obtain ⟨a_x2_0, n_x2_0, c_x2_0, a_x2_1, n_x2_1, c_x2_1, a_x2_2, n_x2_2, c_x2_2, a_x2_3, n_x2_3, c_x2_3, a_x2_4, n_x2_4, c_x2_4, a_x2_5, n_x2_5, c_x2_5, rfl⟩ := o_x2.r.shape
  have R5 : w4.grownBy w5 none := gb_trans (by repeat (first | with_reducible exact gb_refl _ | refine gb_alloc ?_ _ | refine gb_drewN ?_ _ | refine gb_drew ?_)) g5
  have T5 : Below w.heap.size w w5 := below_next T4 R5
  have z5 := R5.size
  replace o_w0 := o_w0.keep0 R5
  replace o_w1 := o_w1.keep0 R5
  replace o_x0 := o_x0.keep0 R5
  clear cc_aE cc_aF cc_w0
  replace bb_aE := bb_aE.keep0 R5
  replace bb_aF := bb_aF.keep0 R5
  replace bb_w0 := bb_w0.keep0 R5
  have bb_x0 : Bx w5 (w4.heap.size) 34 #[.int .i64 f0.n, .slice a_x0_0 n_x0_0 c_x0_0, .int .i64 f0.seq, .int .i64 f0.win.top, .slice a_x0_1 n_x0_1 c_x0_1] := by first | exact (bx1 w4 _ _).keep0 g5 | exact (bx1 w4 _ _).drew.keep0 g5
  have cc_aE := fun o => bb_aE.cell o
  have ll_aE_5 := bb_aE.lt
  have cc_aF := fun o => bb_aF.cell o
  have ll_aF_5 := bb_aF.lt
  have cc_w0 := fun o => bb_w0.cell o
  have ll_w0_5 := bb_w0.lt
  have cc_x0 := fun o => bb_x0.cell o
  have ll_x0_5 := bb_x0.lt
  replace o_x2 := o_x2.low (B' := w4.heap.size + 1) (by first | exact Nat.le_refl _ | (simp; done) | (simp; omega))
  go_wp2_with fail
  refine (LI_EpOpen _ f0 x1 _ f2 _ (o_x0.r.keep0 (by repeat (first | with_reducible exact gb_refl _ | refine gb_alloc ?_ _ | refine gb_drewN ?_ _ | refine gb_drew ?_))) (o_x2.r.keep0 (by repeat (first | with_reducible exact gb_refl _ | refine gb_alloc ?_ _ | refine gb_drewN ?_ _ | refine gb_drew ?_))) (by have := P0.out; omega) (by have := P2.out; omega)).mono ?_
  rintro e w6 ⟨M_g0, v_g0, a_g1, n_g1, c_g1, rfl, ml_g0, mh_g0, o_g0, o_g1, g6⟩
  obtain ⟨a_g0_0, n_g0_0, c_g0_0, a_g0_1, n_g0_1, c_g0_1, rfl⟩ := o_g0.r.shape
  have u_g1 := fun p hp => (o_g1.lt p hp).2
  have R6 : w5.grownBy w6 none := gb_trans (by repeat (first | with_reducible exact gb_refl _ | refine gb_alloc ?_ _ | refine gb_drewN ?_ _ | refine gb_drew ?_)) g6
  have T6 : Below w.heap.size w w6 := below_next T5 R6
  have z6 := R6.size
  replace o_w0 := o_w0.keep0 R6
  replace o_w1 := o_w1.keep0 R6
  replace o_x0 := o_x0.keep0 R6
  replace o_x2 := o_x2.keep0 R6
  clear cc_aE cc_aF cc_w0 cc_x0
  replace bb_aE := bb_aE.keep0 R6
  replace bb_aF := bb_aF.keep0 R6
  replace bb_w0 := bb_w0.keep0 R6
  replace bb_x0 := bb_x0.keep0 R6
  have bb_x2 : Bx w6 (w5.heap.size) 38 #[.int .i64 f2.kind, .int .i64 f2.id, .slice a_x2_0 n_x2_0 c_x2_0, .slice a_x2_1 n_x2_1 c_x2_1, .int .i64 f2.tick, .slice a_x2_2 n_x2_2 c_x2_2, .slice a_x2_3 n_x2_3 c_x2_3, .int .i64 f2.epoch, .int .i64 f2.seq, .slice a_x2_4 n_x2_4 c_x2_4, .slice a_x2_5 n_x2_5 c_x2_5] := by first | exact (bx1 w5 _ _).keep0 g6 | exact (bx1 w5 _ _).drew.keep0 g6
  have cc_aE := fun o => bb_aE.cell o
  have ll_aE_6 := bb_aE.lt
  have cc_aF := fun o => bb_aF.cell o
  have ll_aF_6 := bb_aF.lt
  have cc_w0 := fun o => bb_w0.cell o
  have ll_w0_6 := bb_w0.lt
  have cc_x0 := fun o => bb_x0.cell o
  have ll_x0_6 := bb_x0.lt
  have cc_x2 := fun o => bb_x2.cell o
  have ll_x2_6 := bb_x2.lt
  replace ml_g0 : w5.heap.size + 1 ≤ M_g0 := Nat.le_trans (by first | exact Nat.le_refl _ | (simp; done) | (simp; omega)) ml_g0
  replace o_g0 := o_g0.low (B' := w5.heap.size + 1) (by first | exact Nat.le_refl _ | (simp; done) | (simp; omega))
  go_wp2_with fail
  refine (laws_eqEp _ _ (epOpenE f0 x1 f2) _ (o_g0.r.keep0 (by repeat (first | with_reducible exact gb_refl _ | refine gb_alloc ?_ _ | refine gb_drewN ?_ _ | refine gb_drew ?_))) (o_w0.r.keep0 (by repeat (first | with_reducible exact gb_refl _ | refine gb_alloc ?_ _ | refine gb_drewN ?_ _ | refine gb_drew ?_))) (by have h9 := (show (epOpenE f0 x1 f2).tot ≤ 1048576 by rw [epOpenE_tot]; have := P0.out; omega); simp only [EpM.tot] at h9; omega) (by have h9 := (show (epOpenE f0 x1 f2).tot ≤ 1048576 by rw [epOpenE_tot]; have := P0.out; omega); simp only [EpM.tot] at h9; omega)).mono ?_
  rintro e w7 ⟨rfl, g7⟩
  have R7 : w6.grownBy w7 none := gb_trans (by repeat (first | with_reducible exact gb_refl _ | refine gb_alloc ?_ _ | refine gb_drewN ?_ _ | refine gb_drew ?_)) g7
  have T7 : Below w.heap.size w w7 := below_next T6 R7
  have z7 := R7.size
  replace o_w0 := o_w0.keep0 R7
  replace o_w1 := o_w1.keep0 R7
  replace o_x0 := o_x0.keep0 R7
  replace o_x2 := o_x2.keep0 R7
  replace o_g0 := o_g0.keep0 R7
  replace o_g1 := o_g1.keep0 R7
  clear cc_aE cc_aF cc_w0 cc_x0 cc_x2
  replace bb_aE := bb_aE.keep0 R7
  replace bb_aF := bb_aF.keep0 R7
  replace bb_w0 := bb_w0.keep0 R7
  replace bb_x0 := bb_x0.keep0 R7
  replace bb_x2 := bb_x2.keep0 R7
  have bb_g0 : Bx w7 (w6.heap.size) 34 #[.int .i64 ((epOpenE f0 x1 f2)).n, .slice a_g0_0 n_g0_0 c_g0_0, .int .i64 ((epOpenE f0 x1 f2)).seq, .int .i64 ((epOpenE f0 x1 f2)).win.top, .slice a_g0_1 n_g0_1 c_g0_1] := by first | exact (bx1 w6 _ _).keep0 g7 | exact (bx1 w6 _ _).drew.keep0 g7
  have cc_aE := fun o => bb_aE.cell o
  have ll_aE_7 := bb_aE.lt
  have cc_aF := fun o => bb_aF.cell o
  have ll_aF_7 := bb_aF.lt
  have cc_w0 := fun o => bb_w0.cell o
  have ll_w0_7 := bb_w0.lt
  have cc_x0 := fun o => bb_x0.cell o
  have ll_x0_7 := bb_x0.lt
  have cc_x2 := fun o => bb_x2.cell o
  have ll_x2_7 := bb_x2.lt
  have cc_g0 := fun o => bb_g0.cell o
  have ll_g0_7 := bb_g0.lt
  go_wp2_with fail
  refine (laws_eqByteS_same _ _ _ _ _ _ _ _ (o_g1.rd.keep0 (by repeat (first | with_reducible exact gb_refl _ | refine gb_alloc ?_ _ | refine gb_drewN ?_ _ | refine gb_drew ?_))) (o_w1.rd.keep0 (by repeat (first | with_reducible exact gb_refl _ | refine gb_alloc ?_ _ | refine gb_drewN ?_ _ | refine gb_drew ?_))) (by have h9 := (P_le f0 x1 f2); omega)).mono ?_
  rintro e w8 ⟨rfl, q8⟩
  have g8 := q8.gb
  have R8 : w7.grownBy w8 none := gb_trans (by repeat (first | with_reducible exact gb_refl _ | refine gb_alloc ?_ _ | refine gb_drewN ?_ _ | refine gb_drew ?_)) g8
  have T8 : Below w.heap.size w w8 := below_next T7 R8
  have z8 := R8.size
  replace o_w0 := o_w0.keep0 R8
  replace o_w1 := o_w1.keep0 R8
  replace o_x0 := o_x0.keep0 R8
  replace o_x2 := o_x2.keep0 R8
  replace o_g0 := o_g0.keep0 R8
  replace o_g1 := o_g1.keep0 R8
  clear cc_aE cc_aF cc_w0 cc_x0 cc_x2 cc_g0
  replace bb_aE := bb_aE.keep0 R8
  replace bb_aF := bb_aF.keep0 R8
  replace bb_w0 := bb_w0.keep0 R8
  replace bb_x0 := bb_x0.keep0 R8
  replace bb_x2 := bb_x2.keep0 R8
  replace bb_g0 := bb_g0.keep0 R8
  have cc_aE := fun o => bb_aE.cell o
  have ll_aE_8 := bb_aE.lt
  have cc_aF := fun o => bb_aF.cell o
  have ll_aF_8 := bb_aF.lt
  have cc_w0 := fun o => bb_w0.cell o
  have ll_w0_8 := bb_w0.lt
  have cc_x0 := fun o => bb_x0.cell o
  have ll_x0_8 := bb_x0.lt
  have cc_x2 := fun o => bb_x2.cell o
  have ll_x2_8 := bb_x2.lt
  have cc_g0 := fun o => bb_g0.cell o
  have ll_g0_8 := bb_g0.lt
  go_wp2_with fail
  have KX : Hid (∀ w', w8.grownBy w' none → (w'.cell? ⟨w.heap.size, 0, none⟩ = some (.int .i64 f0.n) ∧ w'.cell? ⟨w.heap.size, 1, none⟩ = some (.slice a0_0 n0_0 c0_0) ∧ w'.cell? ⟨w.heap.size, 2, none⟩ = some (.int .i64 f0.seq) ∧ w'.cell? ⟨w.heap.size, 3, none⟩ = some (.int .i64 f0.win.top) ∧ w'.cell? ⟨w.heap.size, 4, none⟩ = some (.slice a0_1 n0_1 c0_1) ∧ w'.cell? ⟨w4.heap.size, 0, none⟩ = some (.int .i64 f0.n) ∧ w'.cell? ⟨w4.heap.size, 1, none⟩ = some (.slice a_x0_0 n_x0_0 c_x0_0) ∧ w'.cell? ⟨w4.heap.size, 2, none⟩ = some (.int .i64 f0.seq) ∧ w'.cell? ⟨w4.heap.size, 3, none⟩ = some (.int .i64 f0.win.top) ∧ w'.cell? ⟨w4.heap.size, 4, none⟩ = some (.slice a_x0_1 n_x0_1 c_x0_1) ∧ w8.grownBy w' none)) :=
    fun w' hg => ⟨(bb_aE.keep0 hg).cell 0, (bb_aE.keep0 hg).cell 1, (bb_aE.keep0 hg).cell 2, (bb_aE.keep0 hg).cell 3, (bb_aE.keep0 hg).cell 4, (bb_x0.keep0 hg).cell 0, (bb_x0.keep0 hg).cell 1, (bb_x0.keep0 hg).cell 2, (bb_x0.keep0 hg).cell 3, (bb_x0.keep0 hg).cell 4, hg⟩
  clear cc_aE cc_aF cc_w0 cc_x0 cc_x2 cc_g0
  go_region_held3 (fun w' => w'.cell? ⟨w.heap.size, 0, none⟩ = some (.int .i64 f0.n) ∧ w'.cell? ⟨w.heap.size, 1, none⟩ = some (.slice a0_0 n0_0 c0_0) ∧ w'.cell? ⟨w.heap.size, 2, none⟩ = some (.int .i64 f0.seq) ∧ w'.cell? ⟨w.heap.size, 3, none⟩ = some (.int .i64 f0.win.top) ∧ w'.cell? ⟨w.heap.size, 4, none⟩ = some (.slice a0_1 n0_1 c0_1) ∧ w'.cell? ⟨w4.heap.size, 0, none⟩ = some (.int .i64 f0.n) ∧ w'.cell? ⟨w4.heap.size, 1, none⟩ = some (.slice a_x0_0 n_x0_0 c_x0_0) ∧ w'.cell? ⟨w4.heap.size, 2, none⟩ = some (.int .i64 f0.seq) ∧ w'.cell? ⟨w4.heap.size, 3, none⟩ = some (.int .i64 f0.win.top) ∧ w'.cell? ⟨w4.heap.size, 4, none⟩ = some (.slice a_x0_1 n_x0_1 c_x0_1) ∧ w8.grownBy w' none)
    ((refine KX.out _ ?_; first | exact gb_drew (gb_refl _) | exact gb_trans (gb_trans (gb_drew (gb_refl _)) g9a) g9b | exact gb_trans (gb_drew (gb_refl _)) g9a))
    (first
      | (go_at_call 7; refine (laws_toEp _ f0 _ ((hR0.below T8).keep0 (gb_drew (gb_refl _))) (by have := P0.out; simp only [EpM.tot] at this; omega) (by have := P0.out; simp only [EpM.tot] at this; omega)).mono ?_; rintro e wy9 ⟨vy, rfl, oy, g9a⟩; obtain ⟨a_yx0_0, n_yx0_0, c_yx0_0, a_yx0_1, n_yx0_1, c_yx0_1, rfl⟩ := oy.r.shape)
      | (go_at_call 10; refine (laws_eqEp _ _ f0 _ (o_x0.r.keep0 (gb_trans (gb_drew (gb_refl _)) g9a)) oy.r (by have h9 := (by have := P0.out; omega); simp only [EpM.tot] at h9; omega) (by have h9 := (by have := P0.out; omega); simp only [EpM.tot] at h9; omega)).mono ?_; rintro e w9 ⟨rfl, g9b⟩))
  have g9 := gb_trans g9a g9b
  have cc_aE : True := trivial
  have cc_aF : True := trivial
  have cc_w0 : True := trivial
  have cc_x0 : True := trivial
  have cc_x2 : True := trivial
  have cc_g0 : True := trivial
  have R9 : w8.grownBy w9 none := gb_trans (gb_drew (gb_refl _)) (gb_trans g9a g9b)
  have T9 : Below w.heap.size w w9 := below_next T8 R9
  have z9 := R9.size
  replace o_w0 := o_w0.keep0 R9
  replace o_w1 := o_w1.keep0 R9
  replace o_x0 := o_x0.keep0 R9
  replace o_x2 := o_x2.keep0 R9
  replace o_g0 := o_g0.keep0 R9
  replace o_g1 := o_g1.keep0 R9
  clear cc_aE cc_aF cc_w0 cc_x0 cc_x2 cc_g0
  replace bb_aE := bb_aE.keep0 R9
  replace bb_aF := bb_aF.keep0 R9
  replace bb_w0 := bb_w0.keep0 R9
  replace bb_x0 := bb_x0.keep0 R9
  replace bb_x2 := bb_x2.keep0 R9
  replace bb_g0 := bb_g0.keep0 R9
  have cc_aE := fun o => bb_aE.cell o
  have ll_aE_9 := bb_aE.lt
  have cc_aF := fun o => bb_aF.cell o
  have ll_aF_9 := bb_aF.lt
  have cc_w0 := fun o => bb_w0.cell o
  have ll_w0_9 := bb_w0.lt
  have cc_x0 := fun o => bb_x0.cell o
  have ll_x0_9 := bb_x0.lt
  have cc_x2 := fun o => bb_x2.cell o
  have ll_x2_9 := bb_x2.lt
  have cc_g0 := fun o => bb_g0.cell o
  have ll_g0_9 := bb_g0.lt
  clear KX oy
  go_wp2_with fail
  have KX : Hid (∀ w', w9.grownBy w' none → (w'.cell? ⟨w.heap.size + 1, 0, none⟩ = some (.int .i64 f2.kind) ∧ w'.cell? ⟨w.heap.size + 1, 1, none⟩ = some (.int .i64 f2.id) ∧ w'.cell? ⟨w.heap.size + 1, 2, none⟩ = some (.slice a2_0 n2_0 c2_0) ∧ w'.cell? ⟨w.heap.size + 1, 3, none⟩ = some (.slice a2_1 n2_1 c2_1) ∧ w'.cell? ⟨w.heap.size + 1, 4, none⟩ = some (.int .i64 f2.tick) ∧ w'.cell? ⟨w.heap.size + 1, 5, none⟩ = some (.slice a2_2 n2_2 c2_2) ∧ w'.cell? ⟨w.heap.size + 1, 6, none⟩ = some (.slice a2_3 n2_3 c2_3) ∧ w'.cell? ⟨w.heap.size + 1, 7, none⟩ = some (.int .i64 f2.epoch) ∧ w'.cell? ⟨w.heap.size + 1, 8, none⟩ = some (.int .i64 f2.seq) ∧ w'.cell? ⟨w.heap.size + 1, 9, none⟩ = some (.slice a2_4 n2_4 c2_4) ∧ w'.cell? ⟨w.heap.size + 1, 10, none⟩ = some (.slice a2_5 n2_5 c2_5) ∧ w'.cell? ⟨w5.heap.size, 0, none⟩ = some (.int .i64 f2.kind) ∧ w'.cell? ⟨w5.heap.size, 1, none⟩ = some (.int .i64 f2.id) ∧ w'.cell? ⟨w5.heap.size, 2, none⟩ = some (.slice a_x2_0 n_x2_0 c_x2_0) ∧ w'.cell? ⟨w5.heap.size, 3, none⟩ = some (.slice a_x2_1 n_x2_1 c_x2_1) ∧ w'.cell? ⟨w5.heap.size, 4, none⟩ = some (.int .i64 f2.tick) ∧ w'.cell? ⟨w5.heap.size, 5, none⟩ = some (.slice a_x2_2 n_x2_2 c_x2_2) ∧ w'.cell? ⟨w5.heap.size, 6, none⟩ = some (.slice a_x2_3 n_x2_3 c_x2_3) ∧ w'.cell? ⟨w5.heap.size, 7, none⟩ = some (.int .i64 f2.epoch) ∧ w'.cell? ⟨w5.heap.size, 8, none⟩ = some (.int .i64 f2.seq) ∧ w'.cell? ⟨w5.heap.size, 9, none⟩ = some (.slice a_x2_4 n_x2_4 c_x2_4) ∧ w'.cell? ⟨w5.heap.size, 10, none⟩ = some (.slice a_x2_5 n_x2_5 c_x2_5) ∧ w9.grownBy w' none)) :=
    fun w' hg => ⟨(bb_aF.keep0 hg).cell 0, (bb_aF.keep0 hg).cell 1, (bb_aF.keep0 hg).cell 2, (bb_aF.keep0 hg).cell 3, (bb_aF.keep0 hg).cell 4, (bb_aF.keep0 hg).cell 5, (bb_aF.keep0 hg).cell 6, (bb_aF.keep0 hg).cell 7, (bb_aF.keep0 hg).cell 8, (bb_aF.keep0 hg).cell 9, (bb_aF.keep0 hg).cell 10, (bb_x2.keep0 hg).cell 0, (bb_x2.keep0 hg).cell 1, (bb_x2.keep0 hg).cell 2, (bb_x2.keep0 hg).cell 3, (bb_x2.keep0 hg).cell 4, (bb_x2.keep0 hg).cell 5, (bb_x2.keep0 hg).cell 6, (bb_x2.keep0 hg).cell 7, (bb_x2.keep0 hg).cell 8, (bb_x2.keep0 hg).cell 9, (bb_x2.keep0 hg).cell 10, hg⟩
  clear cc_aE cc_aF cc_w0 cc_x0 cc_x2 cc_g0
  go_region_held3 (fun w' => w'.cell? ⟨w.heap.size + 1, 0, none⟩ = some (.int .i64 f2.kind) ∧ w'.cell? ⟨w.heap.size + 1, 1, none⟩ = some (.int .i64 f2.id) ∧ w'.cell? ⟨w.heap.size + 1, 2, none⟩ = some (.slice a2_0 n2_0 c2_0) ∧ w'.cell? ⟨w.heap.size + 1, 3, none⟩ = some (.slice a2_1 n2_1 c2_1) ∧ w'.cell? ⟨w.heap.size + 1, 4, none⟩ = some (.int .i64 f2.tick) ∧ w'.cell? ⟨w.heap.size + 1, 5, none⟩ = some (.slice a2_2 n2_2 c2_2) ∧ w'.cell? ⟨w.heap.size + 1, 6, none⟩ = some (.slice a2_3 n2_3 c2_3) ∧ w'.cell? ⟨w.heap.size + 1, 7, none⟩ = some (.int .i64 f2.epoch) ∧ w'.cell? ⟨w.heap.size + 1, 8, none⟩ = some (.int .i64 f2.seq) ∧ w'.cell? ⟨w.heap.size + 1, 9, none⟩ = some (.slice a2_4 n2_4 c2_4) ∧ w'.cell? ⟨w.heap.size + 1, 10, none⟩ = some (.slice a2_5 n2_5 c2_5) ∧ w'.cell? ⟨w5.heap.size, 0, none⟩ = some (.int .i64 f2.kind) ∧ w'.cell? ⟨w5.heap.size, 1, none⟩ = some (.int .i64 f2.id) ∧ w'.cell? ⟨w5.heap.size, 2, none⟩ = some (.slice a_x2_0 n_x2_0 c_x2_0) ∧ w'.cell? ⟨w5.heap.size, 3, none⟩ = some (.slice a_x2_1 n_x2_1 c_x2_1) ∧ w'.cell? ⟨w5.heap.size, 4, none⟩ = some (.int .i64 f2.tick) ∧ w'.cell? ⟨w5.heap.size, 5, none⟩ = some (.slice a_x2_2 n_x2_2 c_x2_2) ∧ w'.cell? ⟨w5.heap.size, 6, none⟩ = some (.slice a_x2_3 n_x2_3 c_x2_3) ∧ w'.cell? ⟨w5.heap.size, 7, none⟩ = some (.int .i64 f2.epoch) ∧ w'.cell? ⟨w5.heap.size, 8, none⟩ = some (.int .i64 f2.seq) ∧ w'.cell? ⟨w5.heap.size, 9, none⟩ = some (.slice a_x2_4 n_x2_4 c_x2_4) ∧ w'.cell? ⟨w5.heap.size, 10, none⟩ = some (.slice a_x2_5 n_x2_5 c_x2_5) ∧ w9.grownBy w' none)
    ((refine KX.out _ ?_; first | exact gb_drew (gb_refl _) | exact gb_trans (gb_trans (gb_drew (gb_refl _)) g10a) g10b | exact gb_trans (gb_drew (gb_refl _)) g10a))
    (first
      | (go_at_call 8; refine (laws_toFrame _ f2 _ ((hR2.below T9).keep0 (gb_drew (gb_refl _))) (by have := P2.out; simp only [FrameM.tot] at this; omega) (by have := P2.out; simp only [FrameM.tot] at this; omega) (by have := P2.out; simp only [FrameM.tot] at this; omega) (by have := P2.out; simp only [FrameM.tot] at this; omega) (by have := P2.out; simp only [FrameM.tot] at this; omega) (by have := P2.out; simp only [FrameM.tot] at this; omega)).mono ?_; rintro e wy10 ⟨vy, rfl, oy, g10a⟩; obtain ⟨a_yx2_0, n_yx2_0, c_yx2_0, a_yx2_1, n_yx2_1, c_yx2_1, a_yx2_2, n_yx2_2, c_yx2_2, a_yx2_3, n_yx2_3, c_yx2_3, a_yx2_4, n_yx2_4, c_yx2_4, a_yx2_5, n_yx2_5, c_yx2_5, rfl⟩ := oy.r.shape)
      | (go_at_call 12; refine (laws_eqFrame _ _ f2 _ (o_x2.r.keep0 (gb_trans (gb_drew (gb_refl _)) g10a)) oy.r (by have h9 := (by have := P2.out; omega); simp only [FrameM.tot] at h9; omega) (by have h9 := (by have := P2.out; omega); simp only [FrameM.tot] at h9; omega) (by have h9 := (by have := P2.out; omega); simp only [FrameM.tot] at h9; omega) (by have h9 := (by have := P2.out; omega); simp only [FrameM.tot] at h9; omega) (by have h9 := (by have := P2.out; omega); simp only [FrameM.tot] at h9; omega) (by have h9 := (by have := P2.out; omega); simp only [FrameM.tot] at h9; omega)).mono ?_; rintro e w10 ⟨rfl, g10b⟩))
  have g10 := gb_trans g10a g10b
  have cc_aE : True := trivial
  have cc_aF : True := trivial
  have cc_w0 : True := trivial
  have cc_x0 : True := trivial
  have cc_x2 : True := trivial
  have cc_g0 : True := trivial
  have R10 : w9.grownBy w10 none := gb_trans (gb_drew (gb_refl _)) (gb_trans g10a g10b)
  have T10 : Below w.heap.size w w10 := below_next T9 R10
  have z10 := R10.size
  replace o_w0 := o_w0.keep0 R10
  replace o_w1 := o_w1.keep0 R10
  replace o_x0 := o_x0.keep0 R10
  replace o_x2 := o_x2.keep0 R10
  replace o_g0 := o_g0.keep0 R10
  replace o_g1 := o_g1.keep0 R10
  clear cc_aE cc_aF cc_w0 cc_x0 cc_x2 cc_g0
  replace bb_aE := bb_aE.keep0 R10
  replace bb_aF := bb_aF.keep0 R10
  replace bb_w0 := bb_w0.keep0 R10
  replace bb_x0 := bb_x0.keep0 R10
  replace bb_x2 := bb_x2.keep0 R10
  replace bb_g0 := bb_g0.keep0 R10
  have cc_aE := fun o => bb_aE.cell o
  have ll_aE_10 := bb_aE.lt
  have cc_aF := fun o => bb_aF.cell o
  have ll_aF_10 := bb_aF.lt
  have cc_w0 := fun o => bb_w0.cell o
  have ll_w0_10 := bb_w0.lt
  have cc_x0 := fun o => bb_x0.cell o
  have ll_x0_10 := bb_x0.lt
  have cc_x2 := fun o => bb_x2.cell o
  have ll_x2_10 := bb_x2.lt
  have cc_g0 := fun o => bb_g0.cell o
  have ll_g0_10 := bb_g0.lt
  clear KX oy
  go_wp2_with fail
  refine (laws_markEp (w3.heap.size) (w4.heap.size) _ f0 (1) _ (o_x0.keep0 (by repeat (first | with_reducible exact gb_refl _ | refine gb_alloc ?_ _ | refine gb_drewN ?_ _ | refine gb_drew ?_))) (by have h9 := (by have := P0.out; omega); omega)).mono ?_
  rintro e w11 ⟨rfl, z_x0, g11⟩
  replace o_x0 := z_x0
  clear z_x0
  have R11 : gbI (w3.heap.size) (w4.heap.size) w10 w11 := (gbI.of0 (by repeat (first | with_reducible exact gb_refl _ | refine gb_alloc ?_ _ | refine gb_drewN ?_ _ | refine gb_drew ?_))).trans g11
  have T11 : Below w.heap.size w w11 := below_nextI T10 R11 (by omega)
  have z11 := R11.size
  replace o_w0 := o_w0.keepI R11 (by omega)
  replace o_w1 := o_w1.keepI R11 (fun p hp => by have := u_w1 p hp; have := (o_w1.lt p hp).1; omega)
  replace o_x2 := o_x2.keepI R11 (by omega)
  replace o_g0 := o_g0.keepI R11 (by omega)
  replace o_g1 := o_g1.keepI R11 (fun p hp => by have := u_g1 p hp; have := (o_g1.lt p hp).1; omega)
  clear cc_aE cc_aF cc_w0 cc_x0 cc_x2 cc_g0
  replace bb_aE := bb_aE.keepI R11 (by have := bb_aE.lt; omega)
  replace bb_aF := bb_aF.keepI R11 (by have := bb_aF.lt; omega)
  replace bb_w0 := bb_w0.keepI R11 (by have := bb_w0.lt; omega)
  replace bb_x0 := bb_x0.keepI R11 (by have := bb_x0.lt; omega)
  replace bb_x2 := bb_x2.keepI R11 (by have := bb_x2.lt; omega)
  replace bb_g0 := bb_g0.keepI R11 (by have := bb_g0.lt; omega)
  have cc_aE := fun o => bb_aE.cell o
  have ll_aE_11 := bb_aE.lt
  have cc_aF := fun o => bb_aF.cell o
  have ll_aF_11 := bb_aF.lt
  have cc_w0 := fun o => bb_w0.cell o
  have ll_w0_11 := bb_w0.lt
  have cc_x0 := fun o => bb_x0.cell o
  have ll_x0_11 := bb_x0.lt
  have cc_x2 := fun o => bb_x2.cell o
  have ll_x2_11 := bb_x2.lt
  have cc_g0 := fun o => bb_g0.cell o
  have ll_g0_11 := bb_g0.lt
  go_wp2_with fail
  refine (laws_markFrame (w4.heap.size + 1) (w5.heap.size) _ f2 (1 + (f0).tot) _ (o_x2.keep0 (by repeat (first | with_reducible exact gb_refl _ | refine gb_alloc ?_ _ | refine gb_drewN ?_ _ | refine gb_drew ?_))) (by have h9 := (by have := P2.out; omega); have := (by have := P0.out; omega); omega)).mono ?_
  rintro e w12 ⟨rfl, z_x2, g12⟩
  replace o_x2 := z_x2
  clear z_x2
  have R12 : gbI (w4.heap.size + 1) (w5.heap.size) w11 w12 := (gbI.of0 (by repeat (first | with_reducible exact gb_refl _ | refine gb_alloc ?_ _ | refine gb_drewN ?_ _ | refine gb_drew ?_))).trans g12
  have T12 : Below w.heap.size w w12 := below_nextI T11 R12 (by omega)
  have z12 := R12.size
  replace o_w0 := o_w0.keepI R12 (by omega)
  replace o_w1 := o_w1.keepI R12 (fun p hp => by have := u_w1 p hp; have := (o_w1.lt p hp).1; omega)
  replace o_x0 := o_x0.keepI R12 (by omega)
  replace o_g0 := o_g0.keepI R12 (by omega)
  replace o_g1 := o_g1.keepI R12 (fun p hp => by have := u_g1 p hp; have := (o_g1.lt p hp).1; omega)
  clear cc_aE cc_aF cc_w0 cc_x0 cc_x2 cc_g0
  replace bb_aE := bb_aE.keepI R12 (by have := bb_aE.lt; omega)
  replace bb_aF := bb_aF.keepI R12 (by have := bb_aF.lt; omega)
  replace bb_w0 := bb_w0.keepI R12 (by have := bb_w0.lt; omega)
  replace bb_x0 := bb_x0.keepI R12 (by have := bb_x0.lt; omega)
  replace bb_x2 := bb_x2.keepI R12 (by have := bb_x2.lt; omega)
  replace bb_g0 := bb_g0.keepI R12 (by have := bb_g0.lt; omega)
  have cc_aE := fun o => bb_aE.cell o
  have ll_aE_12 := bb_aE.lt
  have cc_aF := fun o => bb_aF.cell o
  have ll_aF_12 := bb_aF.lt
  have cc_w0 := fun o => bb_w0.cell o
  have ll_w0_12 := bb_w0.lt
  have cc_x0 := fun o => bb_x0.cell o
  have ll_x0_12 := bb_x0.lt
  have cc_x2 := fun o => bb_x2.cell o
  have ll_x2_12 := bb_x2.lt
  have cc_g0 := fun o => bb_g0.cell o
  have ll_g0_12 := bb_g0.lt
  go_wp2_with fail
  refine (laws_eqEp _ _ (epOpenE f0 x1 f2) _ (o_g0.r.keep0 (by repeat (first | with_reducible exact gb_refl _ | refine gb_alloc ?_ _ | refine gb_drewN ?_ _ | refine gb_drew ?_))) (o_w0.r.keep0 (by repeat (first | with_reducible exact gb_refl _ | refine gb_alloc ?_ _ | refine gb_drewN ?_ _ | refine gb_drew ?_))) (by have h9 := (show (epOpenE f0 x1 f2).tot ≤ 1048576 by rw [epOpenE_tot]; have := P0.out; omega); simp only [EpM.tot] at h9; omega) (by have h9 := (show (epOpenE f0 x1 f2).tot ≤ 1048576 by rw [epOpenE_tot]; have := P0.out; omega); simp only [EpM.tot] at h9; omega)).mono ?_
  rintro e w13 ⟨rfl, g13⟩
  have R13 : w12.grownBy w13 none := gb_trans (by repeat (first | with_reducible exact gb_refl _ | refine gb_alloc ?_ _ | refine gb_drewN ?_ _ | refine gb_drew ?_)) g13
  have T13 : Below w.heap.size w w13 := below_next T12 R13
  have z13 := R13.size
  replace o_w0 := o_w0.keep0 R13
  replace o_w1 := o_w1.keep0 R13
  replace o_x0 := o_x0.keep0 R13
  replace o_x2 := o_x2.keep0 R13
  replace o_g0 := o_g0.keep0 R13
  replace o_g1 := o_g1.keep0 R13
  clear cc_aE cc_aF cc_w0 cc_x0 cc_x2 cc_g0
  replace bb_aE := bb_aE.keep0 R13
  replace bb_aF := bb_aF.keep0 R13
  replace bb_w0 := bb_w0.keep0 R13
  replace bb_x0 := bb_x0.keep0 R13
  replace bb_x2 := bb_x2.keep0 R13
  replace bb_g0 := bb_g0.keep0 R13
  have cc_aE := fun o => bb_aE.cell o
  have ll_aE_13 := bb_aE.lt
  have cc_aF := fun o => bb_aF.cell o
  have ll_aF_13 := bb_aF.lt
  have cc_w0 := fun o => bb_w0.cell o
  have ll_w0_13 := bb_w0.lt
  have cc_x0 := fun o => bb_x0.cell o
  have ll_x0_13 := bb_x0.lt
  have cc_x2 := fun o => bb_x2.cell o
  have ll_x2_13 := bb_x2.lt
  have cc_g0 := fun o => bb_g0.cell o
  have ll_g0_13 := bb_g0.lt
  go_wp2_with fail
  refine (laws_eqByteS_same _ _ _ _ _ _ _ _ (o_g1.rd.keep0 (by repeat (first | with_reducible exact gb_refl _ | refine gb_alloc ?_ _ | refine gb_drewN ?_ _ | refine gb_drew ?_))) (o_w1.rd.keep0 (by repeat (first | with_reducible exact gb_refl _ | refine gb_alloc ?_ _ | refine gb_drewN ?_ _ | refine gb_drew ?_))) (by have h9 := (P_le f0 x1 f2); omega)).mono ?_
  rintro e w14 ⟨rfl, q14⟩
  have g14 := q14.gb
  have R14 : w13.grownBy w14 none := gb_trans (by repeat (first | with_reducible exact gb_refl _ | refine gb_alloc ?_ _ | refine gb_drewN ?_ _ | refine gb_drew ?_)) g14
  have T14 : Below w.heap.size w w14 := below_next T13 R14
  have z14 := R14.size
  replace o_w0 := o_w0.keep0 R14
  replace o_w1 := o_w1.keep0 R14
  replace o_x0 := o_x0.keep0 R14
  replace o_x2 := o_x2.keep0 R14
  replace o_g0 := o_g0.keep0 R14
  replace o_g1 := o_g1.keep0 R14
  clear cc_aE cc_aF cc_w0 cc_x0 cc_x2 cc_g0
  replace bb_aE := bb_aE.keep0 R14
  replace bb_aF := bb_aF.keep0 R14
  replace bb_w0 := bb_w0.keep0 R14
  replace bb_x0 := bb_x0.keep0 R14
  replace bb_x2 := bb_x2.keep0 R14
  replace bb_g0 := bb_g0.keep0 R14
  have cc_aE := fun o => bb_aE.cell o
  have ll_aE_14 := bb_aE.lt
  have cc_aF := fun o => bb_aF.cell o
  have ll_aF_14 := bb_aF.lt
  have cc_w0 := fun o => bb_w0.cell o
  have ll_w0_14 := bb_w0.lt
  have cc_x0 := fun o => bb_x0.cell o
  have ll_x0_14 := bb_x0.lt
  have cc_x2 := fun o => bb_x2.cell o
  have ll_x2_14 := bb_x2.lt
  have cc_g0 := fun o => bb_g0.cell o
  have ll_g0_14 := bb_g0.lt
  go_wp2_with fail
  refine (laws_markEp (w5.heap.size + 1) (M_g0) _ ((epOpenE f0 x1 f2)) (1) _ (o_g0.keep0 (by repeat (first | with_reducible exact gb_refl _ | refine gb_alloc ?_ _ | refine gb_drewN ?_ _ | refine gb_drew ?_))) (by have h9 := (show (epOpenE f0 x1 f2).tot ≤ 1048576 by rw [epOpenE_tot]; have := P0.out; omega); omega)).mono ?_
  rintro e w15 ⟨rfl, z_g0, g15⟩
  replace o_g0 := z_g0
  clear z_g0
  have R15 : gbI (w5.heap.size + 1) (M_g0) w14 w15 := (gbI.of0 (by repeat (first | with_reducible exact gb_refl _ | refine gb_alloc ?_ _ | refine gb_drewN ?_ _ | refine gb_drew ?_))).trans g15
  have T15 : Below w.heap.size w w15 := below_nextI T14 R15 (by omega)
  have z15 := R15.size
  replace o_w0 := o_w0.keepI R15 (by omega)
  replace o_w1 := o_w1.keepI R15 (fun p hp => by have := u_w1 p hp; have := (o_w1.lt p hp).1; omega)
  replace o_x0 := o_x0.keepI R15 (by omega)
  replace o_x2 := o_x2.keepI R15 (by omega)
  replace o_g1 := o_g1.keepI R15 (fun p hp => by have := u_g1 p hp; have := (o_g1.lt p hp).1; omega)
  clear cc_aE cc_aF cc_w0 cc_x0 cc_x2 cc_g0
  replace bb_aE := bb_aE.keepI R15 (by have := bb_aE.lt; omega)
  replace bb_aF := bb_aF.keepI R15 (by have := bb_aF.lt; omega)
  replace bb_w0 := bb_w0.keepI R15 (by have := bb_w0.lt; omega)
  replace bb_x0 := bb_x0.keepI R15 (by have := bb_x0.lt; omega)
  replace bb_x2 := bb_x2.keepI R15 (by have := bb_x2.lt; omega)
  replace bb_g0 := bb_g0.keepI R15 (by have := bb_g0.lt; omega)
  have cc_aE := fun o => bb_aE.cell o
  have ll_aE_15 := bb_aE.lt
  have cc_aF := fun o => bb_aF.cell o
  have ll_aF_15 := bb_aF.lt
  have cc_w0 := fun o => bb_w0.cell o
  have ll_w0_15 := bb_w0.lt
  have cc_x0 := fun o => bb_x0.cell o
  have ll_x0_15 := bb_x0.lt
  have cc_x2 := fun o => bb_x2.cell o
  have ll_x2_15 := bb_x2.lt
  have cc_g0 := fun o => bb_g0.cell o
  have ll_g0_15 := bb_g0.lt
  go_wp2_with fail
  refine (laws_markByteS (M_g0) _ _ _ (1 + ((epOpenE f0 x1 f2)).tot) _ _ (o_g1.keep0 (by repeat (first | with_reducible exact gb_refl _ | refine gb_alloc ?_ _ | refine gb_drewN ?_ _ | refine gb_drew ?_))) (by have h9 := (P_le f0 x1 f2); have h8 := o_g1.blen; have := (show (epOpenE f0 x1 f2).tot ≤ 1048576 by rw [epOpenE_tot]; have := P0.out; omega); omega)).mono ?_
  rintro e w16 ⟨rfl, z_g1, r16⟩
  have g16 := gbI.ofRow (B := M_g0) (S := w6.heap.size) r16 (fun g hg => by obtain ⟨p, hp, rfl⟩ := row_of hg; exact ⟨(o_g1.lt p hp).1, u_g1 p hp⟩)
  have e_g1_16 := Lib.hid o_g1.blen
  replace o_g1 := z_g1
  clear z_g1
  have R16 : gbI (M_g0) (w6.heap.size) w15 w16 := (gbI.of0 (by repeat (first | with_reducible exact gb_refl _ | refine gb_alloc ?_ _ | refine gb_drewN ?_ _ | refine gb_drew ?_))).trans g16
  have T16 : Below w.heap.size w w16 := below_nextI T15 R16 (by omega)
  have z16 := R16.size
  replace o_w0 := o_w0.keepI R16 (by omega)
  replace o_w1 := o_w1.keepI R16 (fun p hp => by have := u_w1 p hp; have := (o_w1.lt p hp).1; omega)
  replace o_x0 := o_x0.keepI R16 (by omega)
  replace o_x2 := o_x2.keepI R16 (by omega)
  replace o_g0 := o_g0.keepI R16 (by omega)
  clear cc_aE cc_aF cc_w0 cc_x0 cc_x2 cc_g0
  replace bb_aE := bb_aE.keepI R16 (by have := bb_aE.lt; omega)
  replace bb_aF := bb_aF.keepI R16 (by have := bb_aF.lt; omega)
  replace bb_w0 := bb_w0.keepI R16 (by have := bb_w0.lt; omega)
  replace bb_x0 := bb_x0.keepI R16 (by have := bb_x0.lt; omega)
  replace bb_x2 := bb_x2.keepI R16 (by have := bb_x2.lt; omega)
  replace bb_g0 := bb_g0.keepI R16 (by have := bb_g0.lt; omega)
  have cc_aE := fun o => bb_aE.cell o
  have ll_aE_16 := bb_aE.lt
  have cc_aF := fun o => bb_aF.cell o
  have ll_aF_16 := bb_aF.lt
  have cc_w0 := fun o => bb_w0.cell o
  have ll_w0_16 := bb_w0.lt
  have cc_x0 := fun o => bb_x0.cell o
  have ll_x0_16 := bb_x0.lt
  have cc_x2 := fun o => bb_x2.cell o
  have ll_x2_16 := bb_x2.lt
  have cc_g0 := fun o => bb_g0.cell o
  have ll_g0_16 := bb_g0.lt
  go_wp2_with fail
  refine (laws_heldEp _ ((epOpenE f0 x1 f2)) (1) _ (o_g0.r.keep0 (by repeat (first | with_reducible exact gb_refl _ | refine gb_alloc ?_ _ | refine gb_drewN ?_ _ | refine gb_drew ?_))) (by have h9 := (show (epOpenE f0 x1 f2).tot ≤ 1048576 by rw [epOpenE_tot]; have := P0.out; omega); have := (show (epOpenE f0 x1 f2).tot ≤ 1048576 by rw [epOpenE_tot]; have := P0.out; omega); have := (P_le f0 x1 f2); have := e_g1_16.out; omega)).mono ?_
  rintro e w17 ⟨rfl, g17⟩
  have R17 : w16.grownBy w17 none := gb_trans (by repeat (first | with_reducible exact gb_refl _ | refine gb_alloc ?_ _ | refine gb_drewN ?_ _ | refine gb_drew ?_)) g17
  have T17 : Below w.heap.size w w17 := below_next T16 R17
  have z17 := R17.size
  replace o_w0 := o_w0.keep0 R17
  replace o_w1 := o_w1.keep0 R17
  replace o_x0 := o_x0.keep0 R17
  replace o_x2 := o_x2.keep0 R17
  replace o_g0 := o_g0.keep0 R17
  replace o_g1 := o_g1.keep0 R17
  clear cc_aE cc_aF cc_w0 cc_x0 cc_x2 cc_g0
  replace bb_aE := bb_aE.keep0 R17
  replace bb_aF := bb_aF.keep0 R17
  replace bb_w0 := bb_w0.keep0 R17
  replace bb_x0 := bb_x0.keep0 R17
  replace bb_x2 := bb_x2.keep0 R17
  replace bb_g0 := bb_g0.keep0 R17
  have cc_aE := fun o => bb_aE.cell o
  have ll_aE_17 := bb_aE.lt
  have cc_aF := fun o => bb_aF.cell o
  have ll_aF_17 := bb_aF.lt
  have cc_w0 := fun o => bb_w0.cell o
  have ll_w0_17 := bb_w0.lt
  have cc_x0 := fun o => bb_x0.cell o
  have ll_x0_17 := bb_x0.lt
  have cc_x2 := fun o => bb_x2.cell o
  have ll_x2_17 := bb_x2.lt
  have cc_g0 := fun o => bb_g0.cell o
  have ll_g0_17 := bb_g0.lt
  go_wp2_with fail
  refine (laws_heldByteS _ n_g1 _ (1 + ((epOpenE f0 x1 f2)).tot) _ (o_g1.rd.keep0 (by repeat (first | with_reducible exact gb_refl _ | refine gb_alloc ?_ _ | refine gb_drewN ?_ _ | refine gb_drew ?_))) (by have h9 := (P_le f0 x1 f2); have := (show (epOpenE f0 x1 f2).tot ≤ 1048576 by rw [epOpenE_tot]; have := P0.out; omega); have := (P_le f0 x1 f2); have := e_g1_16.out; omega)).mono ?_
  rintro e w18 ⟨rfl, q18⟩
  have g18 := q18.gb
  have R18 : w17.grownBy w18 none := gb_trans (by repeat (first | with_reducible exact gb_refl _ | refine gb_alloc ?_ _ | refine gb_drewN ?_ _ | refine gb_drew ?_)) g18
  have T18 : Below w.heap.size w w18 := below_next T17 R18
  have z18 := R18.size
  replace o_w0 := o_w0.keep0 R18
  replace o_w1 := o_w1.keep0 R18
  replace o_x0 := o_x0.keep0 R18
  replace o_x2 := o_x2.keep0 R18
  replace o_g0 := o_g0.keep0 R18
  replace o_g1 := o_g1.keep0 R18
  clear cc_aE cc_aF cc_w0 cc_x0 cc_x2 cc_g0
  replace bb_aE := bb_aE.keep0 R18
  replace bb_aF := bb_aF.keep0 R18
  replace bb_w0 := bb_w0.keep0 R18
  replace bb_x0 := bb_x0.keep0 R18
  replace bb_x2 := bb_x2.keep0 R18
  replace bb_g0 := bb_g0.keep0 R18
  have cc_aE := fun o => bb_aE.cell o
  have ll_aE_18 := bb_aE.lt
  have cc_aF := fun o => bb_aF.cell o
  have ll_aF_18 := bb_aF.lt
  have cc_w0 := fun o => bb_w0.cell o
  have ll_w0_18 := bb_w0.lt
  have cc_x0 := fun o => bb_x0.cell o
  have ll_x0_18 := bb_x0.lt
  have cc_x2 := fun o => bb_x2.cell o
  have ll_x2_18 := bb_x2.lt
  have cc_g0 := fun o => bb_g0.cell o
  have ll_g0_18 := bb_g0.lt
  go_wp2_with fail
  have KX : Hid (∀ w', w18.grownBy w' none → (w'.cell? ⟨w.heap.size, 0, none⟩ = some (.int .i64 f0.n) ∧ w'.cell? ⟨w.heap.size, 1, none⟩ = some (.slice a0_0 n0_0 c0_0) ∧ w'.cell? ⟨w.heap.size, 2, none⟩ = some (.int .i64 f0.seq) ∧ w'.cell? ⟨w.heap.size, 3, none⟩ = some (.int .i64 f0.win.top) ∧ w'.cell? ⟨w.heap.size, 4, none⟩ = some (.slice a0_1 n0_1 c0_1) ∧ w'.cell? ⟨w.heap.size + 1, 0, none⟩ = some (.int .i64 f2.kind) ∧ w'.cell? ⟨w.heap.size + 1, 1, none⟩ = some (.int .i64 f2.id) ∧ w'.cell? ⟨w.heap.size + 1, 2, none⟩ = some (.slice a2_0 n2_0 c2_0) ∧ w'.cell? ⟨w.heap.size + 1, 3, none⟩ = some (.slice a2_1 n2_1 c2_1) ∧ w'.cell? ⟨w.heap.size + 1, 4, none⟩ = some (.int .i64 f2.tick) ∧ w'.cell? ⟨w.heap.size + 1, 5, none⟩ = some (.slice a2_2 n2_2 c2_2) ∧ w'.cell? ⟨w.heap.size + 1, 6, none⟩ = some (.slice a2_3 n2_3 c2_3) ∧ w'.cell? ⟨w.heap.size + 1, 7, none⟩ = some (.int .i64 f2.epoch) ∧ w'.cell? ⟨w.heap.size + 1, 8, none⟩ = some (.int .i64 f2.seq) ∧ w'.cell? ⟨w.heap.size + 1, 9, none⟩ = some (.slice a2_4 n2_4 c2_4) ∧ w'.cell? ⟨w.heap.size + 1, 10, none⟩ = some (.slice a2_5 n2_5 c2_5) ∧ w18.grownBy w' none)) :=
    fun w' hg => ⟨(bb_aE.keep0 hg).cell 0, (bb_aE.keep0 hg).cell 1, (bb_aE.keep0 hg).cell 2, (bb_aE.keep0 hg).cell 3, (bb_aE.keep0 hg).cell 4, (bb_aF.keep0 hg).cell 0, (bb_aF.keep0 hg).cell 1, (bb_aF.keep0 hg).cell 2, (bb_aF.keep0 hg).cell 3, (bb_aF.keep0 hg).cell 4, (bb_aF.keep0 hg).cell 5, (bb_aF.keep0 hg).cell 6, (bb_aF.keep0 hg).cell 7, (bb_aF.keep0 hg).cell 8, (bb_aF.keep0 hg).cell 9, (bb_aF.keep0 hg).cell 10, hg⟩
  clear cc_aE cc_aF cc_w0 cc_x0 cc_x2 cc_g0
  have cc_aE : True := trivial
  have cc_aF : True := trivial
  have cc_w0 : True := trivial
  have cc_x0 : True := trivial
  have cc_x2 : True := trivial
  have cc_g0 : True := trivial
  refine' cut19 _ (fun q_h0 a_th00_0 n_th00_0 c_th00_0 a_th00_1 n_th00_1 c_th00_1 a_th01_0 n_th01_0 c_th01_0 a_th01_1 n_th01_1 c_th01_1 a_th01_2 n_th01_2 c_th01_2 a_th01_3 n_th01_3 c_th01_3 a_th01_4 n_th01_4 c_th01_4 a_th01_5 n_th01_5 c_th01_5 a_h0_0 n_h0_0 c_h0_0 a_h0_1 n_h0_1 c_h0_1 a_h1 n_h1 c_h1 w' => ∃ Bc Mc Sc : Nat, w18.grownBy w' none ∧ w18.heap.size ≤ Bc ∧ Sc ≤ w'.heap.size ∧ EpO Bc Mc w' (.agg #[.int .i64 ((epOpenE f0 x1 f2)).n, .slice a_h0_0 n_h0_0 c_h0_0, .int .i64 ((epOpenE f0 x1 f2)).seq, .int .i64 ((epOpenE f0 x1 f2)).win.top, .slice a_h0_1 n_h0_1 c_h0_1]) ((epOpenE f0 x1 f2)) ∧ Ow Mc w' 5 a_h1 n_h1 c_h1 (bys ((epOpenP f0 x1 f2))) ∧ (∀ p, a_h1 = some p → p.block < Sc) ∧ Bx w' q_h0 34 #[.int .i64 ((epOpenE f0 x1 f2)).n, .slice a_h0_0 n_h0_0 c_h0_0, .int .i64 ((epOpenE f0 x1 f2)).seq, .int .i64 ((epOpenE f0 x1 f2)).win.top, .slice a_h0_1 n_h0_1 c_h0_1] ∧ (q_h0 < Bc ∨ Sc ≤ q_h0) ∧ w18.heap.size ≤ q_h0 ∧ Bc ≤ Mc ∧ Mc ≤ Sc) ?br19 ?rest19
  case br19 =>
    have gc := gb_drew (gb_refl w18)
    have zD : (World.drew w18).heap.size = w18.heap.size := rfl
    have zD2 : w18.heap.size = w18.heap.size := by first | rfl | (simp; done)
    refine wp_region_held_drew (S := fun w' => w'.cell? ⟨w.heap.size, 0, none⟩ = some (.int .i64 f0.n) ∧ w'.cell? ⟨w.heap.size, 1, none⟩ = some (.slice a0_0 n0_0 c0_0) ∧ w'.cell? ⟨w.heap.size, 2, none⟩ = some (.int .i64 f0.seq) ∧ w'.cell? ⟨w.heap.size, 3, none⟩ = some (.int .i64 f0.win.top) ∧ w'.cell? ⟨w.heap.size, 4, none⟩ = some (.slice a0_1 n0_1 c0_1) ∧ w'.cell? ⟨w.heap.size + 1, 0, none⟩ = some (.int .i64 f2.kind) ∧ w'.cell? ⟨w.heap.size + 1, 1, none⟩ = some (.int .i64 f2.id) ∧ w'.cell? ⟨w.heap.size + 1, 2, none⟩ = some (.slice a2_0 n2_0 c2_0) ∧ w'.cell? ⟨w.heap.size + 1, 3, none⟩ = some (.slice a2_1 n2_1 c2_1) ∧ w'.cell? ⟨w.heap.size + 1, 4, none⟩ = some (.int .i64 f2.tick) ∧ w'.cell? ⟨w.heap.size + 1, 5, none⟩ = some (.slice a2_2 n2_2 c2_2) ∧ w'.cell? ⟨w.heap.size + 1, 6, none⟩ = some (.slice a2_3 n2_3 c2_3) ∧ w'.cell? ⟨w.heap.size + 1, 7, none⟩ = some (.int .i64 f2.epoch) ∧ w'.cell? ⟨w.heap.size + 1, 8, none⟩ = some (.int .i64 f2.seq) ∧ w'.cell? ⟨w.heap.size + 1, 9, none⟩ = some (.slice a2_4 n2_4 c2_4) ∧ w'.cell? ⟨w.heap.size + 1, 10, none⟩ = some (.slice a2_5 n2_5 c2_5) ∧ w18.grownBy w' none) (by kernel_rfl) ?_ (fun hHeld => ?_)
    · (try dsimp only)
      refine KX.out _ ?_; exact gc
    refine wpAnyH_takeD (i := 0) (some 124) (v := ?_) rfl rfl (by kernel_rfl) (by kernel_rfl) (by kernel_rfl) (fun _ _ _ h => h) (Or.inl ⟨by rfl, ?_⟩) (by assumption) ?_
    rotate_left
    (focus (intro w hSw; (try dsimp only at hSw); (first | (go_simp; done) | (go_simp; with_reducible rfl) | with_reducible rfl)))
    (try simp only [Act.put]); (try simp only [List.setIfInBounds_toArray]); (try simp only [List.set_cons_succ]); (try simp only [List.set_cons_zero])
    refine wpAnyH_takeD (i := 2) (some 126) (v := ?_) rfl rfl (by kernel_rfl) (by kernel_rfl) (by kernel_rfl) (fun _ _ _ h => h) (Or.inl ⟨by rfl, ?_⟩) (by assumption) ?_
    rotate_left
    (focus (intro w hSw; (try dsimp only at hSw); (first | (go_simp; done) | (go_simp; with_reducible rfl) | with_reducible rfl)))
    (try simp only [Act.put]); (try simp only [List.setIfInBounds_toArray]); (try simp only [List.set_cons_succ]); (try simp only [List.set_cons_zero])
    refine wpAnyH_takeD (i := 3) (some 127) (v := ?_) rfl rfl (by kernel_rfl) (by kernel_rfl) (by kernel_rfl) (fun _ _ _ h => h) (Or.inl ⟨by rfl, ?_⟩) (by assumption) ?_
    rotate_left
    (focus (intro w hSw; (try dsimp only at hSw); (first | (go_simp; done) | (go_simp; with_reducible rfl) | with_reducible rfl)))
    (try simp only [Act.put]); (try simp only [List.setIfInBounds_toArray]); (try simp only [List.set_cons_succ]); (try simp only [List.set_cons_zero])
    refine wpAnyH_ready (rs := [1, 10]) (by kernel_rfl) (by simp) (AllReadyH.cons rfl (fun K hK => ?_) (AllReadyH.cons rfl (fun K hK => ?_) AllReadyH.nil))
    · go_simp
      go_at_call 7
      refine (laws_toEp _ f0 _ ((hR0.below T18).keep0 (gb_trans (by repeat (first | with_reducible exact gb_refl _ | refine gb_alloc ?_ _ | refine gb_drewN ?_ _ | refine gb_drew ?_)) gc)) (by have := P0.out; simp only [EpM.tot] at this; omega) (by have := P0.out; simp only [EpM.tot] at this; omega)).mono ?_
      rintro e wt_th00 ⟨v_th00, rfl, o_th00, gt_th00⟩
      obtain ⟨a_th00_0, n_th00_0, c_th00_0, a_th00_1, n_th00_1, c_th00_1, rfl⟩ := o_th00.r.shape
      have z_th00 := gt_th00.size
      (try replace o_th01 := o_th01.keep0 gt_th00)
      (try replace o_h0 := o_h0.keep0 gt_th00)
      (try replace o_h1 := o_h1.keep0 gt_th00)
      (try replace bq_h0 := bq_h0.keep0 gt_th00)
      (try replace bs_h0 := bs_h0.keep0 gt_th00)
      replace gc := gb_trans gc gt_th00
      skip
      go_wp2_with fail
      refine hK.out _ _ ?_ (fun hHeld2 => ?_)
      · (try dsimp only)
        refine KX.out _ ?_; exact gc
      clear hK K hHeld
      have hHeld := hHeld2
      clear hHeld2
      (try simp only [Act.put]); (try simp only [List.setIfInBounds_toArray]); (try simp only [List.set_cons_succ]); (try simp only [List.set_cons_zero])
      refine wpAnyH_ready (rs := [4, 10]) (by kernel_rfl) (by simp) (AllReadyH.cons rfl (fun K hK => ?_) (AllReadyH.cons rfl (fun K hK => ?_) AllReadyH.nil))
      · go_simp
        go_at_call 8
        refine (laws_toFrame _ f2 _ ((hR2.below T18).keep0 (gb_trans (by repeat (first | with_reducible exact gb_refl _ | refine gb_alloc ?_ _ | refine gb_drewN ?_ _ | refine gb_drew ?_)) gc)) (by have := P2.out; simp only [FrameM.tot] at this; omega) (by have := P2.out; simp only [FrameM.tot] at this; omega) (by have := P2.out; simp only [FrameM.tot] at this; omega) (by have := P2.out; simp only [FrameM.tot] at this; omega) (by have := P2.out; simp only [FrameM.tot] at this; omega) (by have := P2.out; simp only [FrameM.tot] at this; omega)).mono ?_
        rintro e wt_th01 ⟨v_th01, rfl, o_th01, gt_th01⟩
        obtain ⟨a_th01_0, n_th01_0, c_th01_0, a_th01_1, n_th01_1, c_th01_1, a_th01_2, n_th01_2, c_th01_2, a_th01_3, n_th01_3, c_th01_3, a_th01_4, n_th01_4, c_th01_4, a_th01_5, n_th01_5, c_th01_5, rfl⟩ := o_th01.r.shape
        have z_th01 := gt_th01.size
        (try replace o_th00 := o_th00.keep0 gt_th01)
        (try replace o_h0 := o_h0.keep0 gt_th01)
        (try replace o_h1 := o_h1.keep0 gt_th01)
        (try replace bq_h0 := bq_h0.keep0 gt_th01)
        (try replace bs_h0 := bs_h0.keep0 gt_th01)
        replace gc := gb_trans gc gt_th01
        skip
        go_wp2_with fail
        refine hK.out _ _ ?_ (fun hHeld2 => ?_)
        · (try dsimp only)
          refine KX.out _ ?_; exact gc
        clear hK K hHeld
        have hHeld := hHeld2
        clear hHeld2
        (try simp only [Act.put]); (try simp only [List.setIfInBounds_toArray]); (try simp only [List.set_cons_succ]); (try simp only [List.set_cons_zero])
        refine wpAnyH_ready (rs := [5, 10]) (by kernel_rfl) (by simp) (AllReadyH.cons rfl (fun K hK => ?_) (AllReadyH.cons rfl (fun K hK => ?_) AllReadyH.nil))
        · go_simp
          go_at_call 9
          refine (LI_EpOpen _ f0 x1 _ f2 _ o_th00.r o_th01.r (by have := P0.out; omega) (by have := P2.out; omega)).mono ?_
          rintro e wF ⟨M_c, v_h0, a_h1, n_h1, c_h1, rfl, ml_c, mh_c, o_h0, o_h1, gF⟩
          obtain ⟨a_h0_0, n_h0_0, c_h0_0, a_h0_1, n_h0_1, c_h0_1, rfl⟩ := o_h0.r.shape
          have zF := gF.size
          have u_h1 := fun p hp => (o_h1.lt p hp).2
          (try replace o_th00 := o_th00.keep0 gF)
          (try replace o_th01 := o_th01.keep0 gF)
          (try replace bq_h0 := bq_h0.keep0 gF)
          (try replace bs_h0 := bs_h0.keep0 gF)
          replace gc := gb_trans gc gF
          skip
          go_wp2_with fail
          refine hK.out _ _ ?_ (fun hHeld2 => ?_)
          · (try dsimp only)
            refine KX.out _ ?_; exact gc
          clear hK K hHeld
          have hHeld := hHeld2
          clear hHeld2
          (try simp only [Act.put]); (try simp only [List.setIfInBounds_toArray]); (try simp only [List.set_cons_succ]); (try simp only [List.set_cons_zero])
          refine wpAnyH_takeD (i := 6) (some 123) (v := ?_) rfl rfl (by kernel_rfl) (by kernel_rfl) (by kernel_rfl) (fun _ _ _ h => h) (Or.inl ⟨by rfl, ?_⟩) (by assumption) ?_
          rotate_left
          (focus (intro w hSw; (try dsimp only at hSw); (first | (go_simp; done) | (go_simp; with_reducible rfl) | with_reducible rfl)))
          (try simp only [Act.put]); (try simp only [List.setIfInBounds_toArray]); (try simp only [List.set_cons_succ]); (try simp only [List.set_cons_zero])
          refine wpAnyH_takeD (i := 7) (some 130) (v := ?_) rfl rfl (by kernel_rfl) (by kernel_rfl) (by kernel_rfl) (fun _ _ _ h => h) (Or.inl ⟨by rfl, ?_⟩) (by assumption) ?_
          rotate_left
          (focus (intro w hSw; (try dsimp only at hSw); (first | (go_simp; done) | (go_simp; with_reducible rfl) | with_reducible rfl)))
          (try simp only [Act.put]); (try simp only [List.setIfInBounds_toArray]); (try simp only [List.set_cons_succ]); (try simp only [List.set_cons_zero])
          refine wpAnyH_takeD (i := 8) (some 131) (v := ?_) rfl rfl (by kernel_rfl) (by kernel_rfl) (by kernel_rfl) (fun _ _ _ h => h) (Or.inl ⟨by rfl, ?_⟩) (by assumption) ?_
          rotate_left
          (focus (intro w hSw; (try dsimp only at hSw); (first | (go_simp; done) | (go_simp; with_reducible rfl) | with_reducible rfl)))
          (try simp only [Act.put]); (try simp only [List.setIfInBounds_toArray]); (try simp only [List.set_cons_succ]); (try simp only [List.set_cons_zero])
          refine wpAnyH_takeD (i := 9) (some 132) (v := ?_) rfl rfl (by kernel_rfl) (by kernel_rfl) (by kernel_rfl) (fun _ _ _ h => h) (Or.inl ⟨by rfl, ?_⟩) (by assumption) ?_
          rotate_left
          (focus (intro w hSw; (try dsimp only at hSw); (first | (go_simp; done) | (go_simp; with_reducible rfl) | with_reducible rfl)))
          (try simp only [Act.put]); (try simp only [List.setIfInBounds_toArray]); (try simp only [List.set_cons_succ]); (try simp only [List.set_cons_zero])
          refine wpAnyH_ready (rs := [10]) (by kernel_rfl) (by simp) (AllReadyH.cons rfl (fun K hK => ?_) AllReadyH.nil)
          refine step_alD rfl (some 19) rfl 34 _ rfl al_Ep ?_
          intro q_h0 wq_h0 hq_h0 bq_h0 ga_h0
          have lq_h0 := Nat.le_trans gc.size hq_h0
          have y_h0 := bq_h0.lt
          have zq_h0 := ga_h0.size
          (try replace o_th00 := o_th00.keep0 ga_h0)
          (try replace o_th01 := o_th01.keep0 ga_h0)
          (try replace o_h0 := o_h0.keep0 ga_h0)
          (try replace o_h1 := o_h1.keep0 ga_h0)
          replace gc := gb_trans gc ga_h0
          skip
          refine hK.out _ _ ?_ (fun hHeld2 => ?_)
          · (try dsimp only)
            refine KX.out _ ?_; exact gc
          clear hK K hHeld
          have hHeld := hHeld2
          clear hHeld2
          (try simp only [Act.put]); (try simp only [List.setIfInBounds_toArray]); (try simp only [List.set_cons_succ]); (try simp only [List.set_cons_zero])
          refine wpAnyH_ready (rs := [11]) (by kernel_rfl) (by simp) (AllReadyH.cons rfl (fun K hK => ?_) AllReadyH.nil)
          refine step_stRD rfl rfl 34 (.tmp 19) (.tmp 130) rfl q_h0 _ _ rfl rfl bq_h0 si_Ep rfl (by first | rfl | (simp [Value.oneCell']; done)) ?_
          intro ws_h0 bs_h0 gs_h0
          have zs_h0 := gs_h0.size
          replace o_h0 := o_h0.keepI (gbI.ofRow (B := q_h0) (S := q_h0 + 1) gs_h0 (fun g e => by cases e; omega)) (by omega)
          replace o_h1 := o_h1.row gs_h0 (fun p hp => by have := o_h1.lt p hp; have := u_h1 p hp; omega)
          replace gc := gb_row gc gs_h0 lq_h0
          clear bq_h0
          skip
          refine hK.out _ _ ?_ (fun hHeld2 => ?_)
          · (try dsimp only)
            refine KX.out _ ?_; exact gc
          clear hK K hHeld
          have hHeld := hHeld2
          clear hHeld2
          (try simp only [Act.put]); (try simp only [List.setIfInBounds_toArray]); (try simp only [List.set_cons_succ]); (try simp only [List.set_cons_zero])
          refine wpAnyH_takeD (i := 12) (some 20) (v := ?_) rfl rfl (by kernel_rfl) (by kernel_rfl) (by kernel_rfl) (fun _ _ _ h => h) (Or.inl ⟨by rfl, ?_⟩) (by assumption) ?_
          rotate_left
          (focus (intro w hSw; (try dsimp only at hSw); (first | (go_simp; done) | (go_simp; with_reducible rfl) | with_reducible rfl)))
          (try simp only [Act.put]); (try simp only [List.setIfInBounds_toArray]); (try simp only [List.set_cons_succ]); (try simp only [List.set_cons_zero])
          refine wpAnyH_takeD (i := 13) (some 21) (v := ?_) rfl rfl (by kernel_rfl) (by kernel_rfl) (by kernel_rfl) (fun _ _ _ h => h) (Or.inl ⟨by rfl, ?_⟩) (by assumption) ?_
          rotate_left
          (focus (intro w hSw; (try dsimp only at hSw); (first | (go_simp; done) | (go_simp; with_reducible rfl) | with_reducible rfl)))
          (try simp only [Act.put]); (try simp only [List.setIfInBounds_toArray]); (try simp only [List.set_cons_succ]); (try simp only [List.set_cons_zero])
          refine wpAnyH_done (by kernel_rfl) ?_ _
          (try dsimp only)
          refine ⟨q_h0, a_th00_0, n_th00_0, c_th00_0, a_th00_1, n_th00_1, c_th00_1, a_th01_0, n_th01_0, c_th01_0, a_th01_1, n_th01_1, c_th01_1, a_th01_2, n_th01_2, c_th01_2, a_th01_3, n_th01_3, c_th01_3, a_th01_4, n_th01_4, c_th01_4, a_th01_5, n_th01_5, c_th01_5, a_h0_0, n_h0_0, c_h0_0, a_h0_1, n_h0_1, c_h0_1, a_h1, n_h1, c_h1, ?_, _, M_c, _, gc, (by omega), (by omega), o_h0, o_h1, u_h1, bs_h0, (by omega), (by omega), ml_c, mh_c⟩
          exact rfl
        · refine step_alD rfl (some 19) rfl 34 _ rfl al_Ep ?_
          intro q_h0 wq_h0 hq_h0 bq_h0 ga_h0
          have lq_h0 := Nat.le_trans gc.size hq_h0
          have y_h0 := bq_h0.lt
          have zq_h0 := ga_h0.size
          (try replace o_th00 := o_th00.keep0 ga_h0)
          (try replace o_th01 := o_th01.keep0 ga_h0)
          (try replace o_h0 := o_h0.keep0 ga_h0)
          (try replace o_h1 := o_h1.keep0 ga_h0)
          replace gc := gb_trans gc ga_h0
          skip
          refine hK.out _ _ ?_ (fun hHeld2 => ?_)
          · (try dsimp only)
            refine KX.out _ ?_; exact gc
          clear hK K hHeld
          have hHeld := hHeld2
          clear hHeld2
          (try simp only [Act.put]); (try simp only [List.setIfInBounds_toArray]); (try simp only [List.set_cons_succ]); (try simp only [List.set_cons_zero])
          refine wpAnyH_ready (rs := [5]) (by kernel_rfl) (by simp) (AllReadyH.cons rfl (fun K hK => ?_) AllReadyH.nil)
          go_simp
          go_at_call 9
          refine (LI_EpOpen _ f0 x1 _ f2 _ o_th00.r o_th01.r (by have := P0.out; omega) (by have := P2.out; omega)).mono ?_
          rintro e wF ⟨M_c, v_h0, a_h1, n_h1, c_h1, rfl, ml_c, mh_c, o_h0, o_h1, gF⟩
          obtain ⟨a_h0_0, n_h0_0, c_h0_0, a_h0_1, n_h0_1, c_h0_1, rfl⟩ := o_h0.r.shape
          have zF := gF.size
          have u_h1 := fun p hp => (o_h1.lt p hp).2
          (try replace o_th00 := o_th00.keep0 gF)
          (try replace o_th01 := o_th01.keep0 gF)
          (try replace bq_h0 := bq_h0.keep0 gF)
          (try replace bs_h0 := bs_h0.keep0 gF)
          replace gc := gb_trans gc gF
          skip
          go_wp2_with fail
          refine hK.out _ _ ?_ (fun hHeld2 => ?_)
          · (try dsimp only)
            refine KX.out _ ?_; exact gc
          clear hK K hHeld
          have hHeld := hHeld2
          clear hHeld2
          (try simp only [Act.put]); (try simp only [List.setIfInBounds_toArray]); (try simp only [List.set_cons_succ]); (try simp only [List.set_cons_zero])
          refine wpAnyH_takeD (i := 6) (some 123) (v := ?_) rfl rfl (by kernel_rfl) (by kernel_rfl) (by kernel_rfl) (fun _ _ _ h => h) (Or.inl ⟨by rfl, ?_⟩) (by assumption) ?_
          rotate_left
          (focus (intro w hSw; (try dsimp only at hSw); (first | (go_simp; done) | (go_simp; with_reducible rfl) | with_reducible rfl)))
          (try simp only [Act.put]); (try simp only [List.setIfInBounds_toArray]); (try simp only [List.set_cons_succ]); (try simp only [List.set_cons_zero])
          refine wpAnyH_takeD (i := 7) (some 130) (v := ?_) rfl rfl (by kernel_rfl) (by kernel_rfl) (by kernel_rfl) (fun _ _ _ h => h) (Or.inl ⟨by rfl, ?_⟩) (by assumption) ?_
          rotate_left
          (focus (intro w hSw; (try dsimp only at hSw); (first | (go_simp; done) | (go_simp; with_reducible rfl) | with_reducible rfl)))
          (try simp only [Act.put]); (try simp only [List.setIfInBounds_toArray]); (try simp only [List.set_cons_succ]); (try simp only [List.set_cons_zero])
          refine wpAnyH_takeD (i := 8) (some 131) (v := ?_) rfl rfl (by kernel_rfl) (by kernel_rfl) (by kernel_rfl) (fun _ _ _ h => h) (Or.inl ⟨by rfl, ?_⟩) (by assumption) ?_
          rotate_left
          (focus (intro w hSw; (try dsimp only at hSw); (first | (go_simp; done) | (go_simp; with_reducible rfl) | with_reducible rfl)))
          (try simp only [Act.put]); (try simp only [List.setIfInBounds_toArray]); (try simp only [List.set_cons_succ]); (try simp only [List.set_cons_zero])
          refine wpAnyH_takeD (i := 9) (some 132) (v := ?_) rfl rfl (by kernel_rfl) (by kernel_rfl) (by kernel_rfl) (fun _ _ _ h => h) (Or.inl ⟨by rfl, ?_⟩) (by assumption) ?_
          rotate_left
          (focus (intro w hSw; (try dsimp only at hSw); (first | (go_simp; done) | (go_simp; with_reducible rfl) | with_reducible rfl)))
          (try simp only [Act.put]); (try simp only [List.setIfInBounds_toArray]); (try simp only [List.set_cons_succ]); (try simp only [List.set_cons_zero])
          refine wpAnyH_ready (rs := [11]) (by kernel_rfl) (by simp) (AllReadyH.cons rfl (fun K hK => ?_) AllReadyH.nil)
          refine step_stRD rfl rfl 34 (.tmp 19) (.tmp 130) rfl q_h0 _ _ rfl rfl bq_h0 si_Ep rfl (by first | rfl | (simp [Value.oneCell']; done)) ?_
          intro ws_h0 bs_h0 gs_h0
          have zs_h0 := gs_h0.size
          replace o_h0 := o_h0.keepI (gbI.ofRow (B := q_h0) (S := q_h0 + 1) gs_h0 (fun g e => by cases e; omega)) (by omega)
          replace o_h1 := o_h1.row gs_h0 (fun p hp => by have := o_h1.lt p hp; have := u_h1 p hp; omega)
          replace gc := gb_row gc gs_h0 lq_h0
          clear bq_h0
          skip
          refine hK.out _ _ ?_ (fun hHeld2 => ?_)
          · (try dsimp only)
            refine KX.out _ ?_; exact gc
          clear hK K hHeld
          have hHeld := hHeld2
          clear hHeld2
          (try simp only [Act.put]); (try simp only [List.setIfInBounds_toArray]); (try simp only [List.set_cons_succ]); (try simp only [List.set_cons_zero])
          refine wpAnyH_takeD (i := 12) (some 20) (v := ?_) rfl rfl (by kernel_rfl) (by kernel_rfl) (by kernel_rfl) (fun _ _ _ h => h) (Or.inl ⟨by rfl, ?_⟩) (by assumption) ?_
          rotate_left
          (focus (intro w hSw; (try dsimp only at hSw); (first | (go_simp; done) | (go_simp; with_reducible rfl) | with_reducible rfl)))
          (try simp only [Act.put]); (try simp only [List.setIfInBounds_toArray]); (try simp only [List.set_cons_succ]); (try simp only [List.set_cons_zero])
          refine wpAnyH_takeD (i := 13) (some 21) (v := ?_) rfl rfl (by kernel_rfl) (by kernel_rfl) (by kernel_rfl) (fun _ _ _ h => h) (Or.inl ⟨by rfl, ?_⟩) (by assumption) ?_
          rotate_left
          (focus (intro w hSw; (try dsimp only at hSw); (first | (go_simp; done) | (go_simp; with_reducible rfl) | with_reducible rfl)))
          (try simp only [Act.put]); (try simp only [List.setIfInBounds_toArray]); (try simp only [List.set_cons_succ]); (try simp only [List.set_cons_zero])
          refine wpAnyH_done (by kernel_rfl) ?_ _
          (try dsimp only)
          refine ⟨q_h0, a_th00_0, n_th00_0, c_th00_0, a_th00_1, n_th00_1, c_th00_1, a_th01_0, n_th01_0, c_th01_0, a_th01_1, n_th01_1, c_th01_1, a_th01_2, n_th01_2, c_th01_2, a_th01_3, n_th01_3, c_th01_3, a_th01_4, n_th01_4, c_th01_4, a_th01_5, n_th01_5, c_th01_5, a_h0_0, n_h0_0, c_h0_0, a_h0_1, n_h0_1, c_h0_1, a_h1, n_h1, c_h1, ?_, _, M_c, _, gc, (by omega), (by omega), o_h0, o_h1, u_h1, bs_h0, (by omega), (by omega), ml_c, mh_c⟩
          exact rfl
      · refine step_alD rfl (some 19) rfl 34 _ rfl al_Ep ?_
        intro q_h0 wq_h0 hq_h0 bq_h0 ga_h0
        have lq_h0 := Nat.le_trans gc.size hq_h0
        have y_h0 := bq_h0.lt
        have zq_h0 := ga_h0.size
        (try replace o_th00 := o_th00.keep0 ga_h0)
        (try replace o_th01 := o_th01.keep0 ga_h0)
        (try replace o_h0 := o_h0.keep0 ga_h0)
        (try replace o_h1 := o_h1.keep0 ga_h0)
        replace gc := gb_trans gc ga_h0
        skip
        refine hK.out _ _ ?_ (fun hHeld2 => ?_)
        · (try dsimp only)
          refine KX.out _ ?_; exact gc
        clear hK K hHeld
        have hHeld := hHeld2
        clear hHeld2
        (try simp only [Act.put]); (try simp only [List.setIfInBounds_toArray]); (try simp only [List.set_cons_succ]); (try simp only [List.set_cons_zero])
        refine wpAnyH_ready (rs := [4]) (by kernel_rfl) (by simp) (AllReadyH.cons rfl (fun K hK => ?_) AllReadyH.nil)
        go_simp
        go_at_call 8
        refine (laws_toFrame _ f2 _ ((hR2.below T18).keep0 (gb_trans (by repeat (first | with_reducible exact gb_refl _ | refine gb_alloc ?_ _ | refine gb_drewN ?_ _ | refine gb_drew ?_)) gc)) (by have := P2.out; simp only [FrameM.tot] at this; omega) (by have := P2.out; simp only [FrameM.tot] at this; omega) (by have := P2.out; simp only [FrameM.tot] at this; omega) (by have := P2.out; simp only [FrameM.tot] at this; omega) (by have := P2.out; simp only [FrameM.tot] at this; omega) (by have := P2.out; simp only [FrameM.tot] at this; omega)).mono ?_
        rintro e wt_th01 ⟨v_th01, rfl, o_th01, gt_th01⟩
        obtain ⟨a_th01_0, n_th01_0, c_th01_0, a_th01_1, n_th01_1, c_th01_1, a_th01_2, n_th01_2, c_th01_2, a_th01_3, n_th01_3, c_th01_3, a_th01_4, n_th01_4, c_th01_4, a_th01_5, n_th01_5, c_th01_5, rfl⟩ := o_th01.r.shape
        have z_th01 := gt_th01.size
        (try replace o_th00 := o_th00.keep0 gt_th01)
        (try replace o_h0 := o_h0.keep0 gt_th01)
        (try replace o_h1 := o_h1.keep0 gt_th01)
        (try replace bq_h0 := bq_h0.keep0 gt_th01)
        (try replace bs_h0 := bs_h0.keep0 gt_th01)
        replace gc := gb_trans gc gt_th01
        skip
        go_wp2_with fail
        refine hK.out _ _ ?_ (fun hHeld2 => ?_)
        · (try dsimp only)
          refine KX.out _ ?_; exact gc
        clear hK K hHeld
        have hHeld := hHeld2
        clear hHeld2
        (try simp only [Act.put]); (try simp only [List.setIfInBounds_toArray]); (try simp only [List.set_cons_succ]); (try simp only [List.set_cons_zero])
        refine wpAnyH_ready (rs := [5]) (by kernel_rfl) (by simp) (AllReadyH.cons rfl (fun K hK => ?_) AllReadyH.nil)
        go_simp
        go_at_call 9
        refine (LI_EpOpen _ f0 x1 _ f2 _ o_th00.r o_th01.r (by have := P0.out; omega) (by have := P2.out; omega)).mono ?_
        rintro e wF ⟨M_c, v_h0, a_h1, n_h1, c_h1, rfl, ml_c, mh_c, o_h0, o_h1, gF⟩
        obtain ⟨a_h0_0, n_h0_0, c_h0_0, a_h0_1, n_h0_1, c_h0_1, rfl⟩ := o_h0.r.shape
        have zF := gF.size
        have u_h1 := fun p hp => (o_h1.lt p hp).2
        (try replace o_th00 := o_th00.keep0 gF)
        (try replace o_th01 := o_th01.keep0 gF)
        (try replace bq_h0 := bq_h0.keep0 gF)
        (try replace bs_h0 := bs_h0.keep0 gF)
        replace gc := gb_trans gc gF
        skip
        go_wp2_with fail
        refine hK.out _ _ ?_ (fun hHeld2 => ?_)
        · (try dsimp only)
          refine KX.out _ ?_; exact gc
        clear hK K hHeld
        have hHeld := hHeld2
        clear hHeld2
        (try simp only [Act.put]); (try simp only [List.setIfInBounds_toArray]); (try simp only [List.set_cons_succ]); (try simp only [List.set_cons_zero])
        refine wpAnyH_takeD (i := 6) (some 123) (v := ?_) rfl rfl (by kernel_rfl) (by kernel_rfl) (by kernel_rfl) (fun _ _ _ h => h) (Or.inl ⟨by rfl, ?_⟩) (by assumption) ?_
        rotate_left
        (focus (intro w hSw; (try dsimp only at hSw); (first | (go_simp; done) | (go_simp; with_reducible rfl) | with_reducible rfl)))
        (try simp only [Act.put]); (try simp only [List.setIfInBounds_toArray]); (try simp only [List.set_cons_succ]); (try simp only [List.set_cons_zero])
        refine wpAnyH_takeD (i := 7) (some 130) (v := ?_) rfl rfl (by kernel_rfl) (by kernel_rfl) (by kernel_rfl) (fun _ _ _ h => h) (Or.inl ⟨by rfl, ?_⟩) (by assumption) ?_
        rotate_left
        (focus (intro w hSw; (try dsimp only at hSw); (first | (go_simp; done) | (go_simp; with_reducible rfl) | with_reducible rfl)))
        (try simp only [Act.put]); (try simp only [List.setIfInBounds_toArray]); (try simp only [List.set_cons_succ]); (try simp only [List.set_cons_zero])
        refine wpAnyH_takeD (i := 8) (some 131) (v := ?_) rfl rfl (by kernel_rfl) (by kernel_rfl) (by kernel_rfl) (fun _ _ _ h => h) (Or.inl ⟨by rfl, ?_⟩) (by assumption) ?_
        rotate_left
        (focus (intro w hSw; (try dsimp only at hSw); (first | (go_simp; done) | (go_simp; with_reducible rfl) | with_reducible rfl)))
        (try simp only [Act.put]); (try simp only [List.setIfInBounds_toArray]); (try simp only [List.set_cons_succ]); (try simp only [List.set_cons_zero])
        refine wpAnyH_takeD (i := 9) (some 132) (v := ?_) rfl rfl (by kernel_rfl) (by kernel_rfl) (by kernel_rfl) (fun _ _ _ h => h) (Or.inl ⟨by rfl, ?_⟩) (by assumption) ?_
        rotate_left
        (focus (intro w hSw; (try dsimp only at hSw); (first | (go_simp; done) | (go_simp; with_reducible rfl) | with_reducible rfl)))
        (try simp only [Act.put]); (try simp only [List.setIfInBounds_toArray]); (try simp only [List.set_cons_succ]); (try simp only [List.set_cons_zero])
        refine wpAnyH_ready (rs := [11]) (by kernel_rfl) (by simp) (AllReadyH.cons rfl (fun K hK => ?_) AllReadyH.nil)
        refine step_stRD rfl rfl 34 (.tmp 19) (.tmp 130) rfl q_h0 _ _ rfl rfl bq_h0 si_Ep rfl (by first | rfl | (simp [Value.oneCell']; done)) ?_
        intro ws_h0 bs_h0 gs_h0
        have zs_h0 := gs_h0.size
        replace o_h0 := o_h0.keepI (gbI.ofRow (B := q_h0) (S := q_h0 + 1) gs_h0 (fun g e => by cases e; omega)) (by omega)
        replace o_h1 := o_h1.row gs_h0 (fun p hp => by have := o_h1.lt p hp; have := u_h1 p hp; omega)
        replace gc := gb_row gc gs_h0 lq_h0
        clear bq_h0
        skip
        refine hK.out _ _ ?_ (fun hHeld2 => ?_)
        · (try dsimp only)
          refine KX.out _ ?_; exact gc
        clear hK K hHeld
        have hHeld := hHeld2
        clear hHeld2
        (try simp only [Act.put]); (try simp only [List.setIfInBounds_toArray]); (try simp only [List.set_cons_succ]); (try simp only [List.set_cons_zero])
        refine wpAnyH_takeD (i := 12) (some 20) (v := ?_) rfl rfl (by kernel_rfl) (by kernel_rfl) (by kernel_rfl) (fun _ _ _ h => h) (Or.inl ⟨by rfl, ?_⟩) (by assumption) ?_
        rotate_left
        (focus (intro w hSw; (try dsimp only at hSw); (first | (go_simp; done) | (go_simp; with_reducible rfl) | with_reducible rfl)))
        (try simp only [Act.put]); (try simp only [List.setIfInBounds_toArray]); (try simp only [List.set_cons_succ]); (try simp only [List.set_cons_zero])
        refine wpAnyH_takeD (i := 13) (some 21) (v := ?_) rfl rfl (by kernel_rfl) (by kernel_rfl) (by kernel_rfl) (fun _ _ _ h => h) (Or.inl ⟨by rfl, ?_⟩) (by assumption) ?_
        rotate_left
        (focus (intro w hSw; (try dsimp only at hSw); (first | (go_simp; done) | (go_simp; with_reducible rfl) | with_reducible rfl)))
        (try simp only [Act.put]); (try simp only [List.setIfInBounds_toArray]); (try simp only [List.set_cons_succ]); (try simp only [List.set_cons_zero])
        refine wpAnyH_done (by kernel_rfl) ?_ _
        (try dsimp only)
        refine ⟨q_h0, a_th00_0, n_th00_0, c_th00_0, a_th00_1, n_th00_1, c_th00_1, a_th01_0, n_th01_0, c_th01_0, a_th01_1, n_th01_1, c_th01_1, a_th01_2, n_th01_2, c_th01_2, a_th01_3, n_th01_3, c_th01_3, a_th01_4, n_th01_4, c_th01_4, a_th01_5, n_th01_5, c_th01_5, a_h0_0, n_h0_0, c_h0_0, a_h0_1, n_h0_1, c_h0_1, a_h1, n_h1, c_h1, ?_, _, M_c, _, gc, (by omega), (by omega), o_h0, o_h1, u_h1, bs_h0, (by omega), (by omega), ml_c, mh_c⟩
        exact rfl
    · refine step_alD rfl (some 19) rfl 34 _ rfl al_Ep ?_
      intro q_h0 wq_h0 hq_h0 bq_h0 ga_h0
      have lq_h0 := Nat.le_trans gc.size hq_h0
      have y_h0 := bq_h0.lt
      have zq_h0 := ga_h0.size
      (try replace o_th00 := o_th00.keep0 ga_h0)
      (try replace o_th01 := o_th01.keep0 ga_h0)
      (try replace o_h0 := o_h0.keep0 ga_h0)
      (try replace o_h1 := o_h1.keep0 ga_h0)
      replace gc := gb_trans gc ga_h0
      skip
      refine hK.out _ _ ?_ (fun hHeld2 => ?_)
      · (try dsimp only)
        refine KX.out _ ?_; exact gc
      clear hK K hHeld
      have hHeld := hHeld2
      clear hHeld2
      (try simp only [Act.put]); (try simp only [List.setIfInBounds_toArray]); (try simp only [List.set_cons_succ]); (try simp only [List.set_cons_zero])
      refine wpAnyH_ready (rs := [1]) (by kernel_rfl) (by simp) (AllReadyH.cons rfl (fun K hK => ?_) AllReadyH.nil)
      go_simp
      go_at_call 7
      refine (laws_toEp _ f0 _ ((hR0.below T18).keep0 (gb_trans (by repeat (first | with_reducible exact gb_refl _ | refine gb_alloc ?_ _ | refine gb_drewN ?_ _ | refine gb_drew ?_)) gc)) (by have := P0.out; simp only [EpM.tot] at this; omega) (by have := P0.out; simp only [EpM.tot] at this; omega)).mono ?_
      rintro e wt_th00 ⟨v_th00, rfl, o_th00, gt_th00⟩
      obtain ⟨a_th00_0, n_th00_0, c_th00_0, a_th00_1, n_th00_1, c_th00_1, rfl⟩ := o_th00.r.shape
      have z_th00 := gt_th00.size
      (try replace o_th01 := o_th01.keep0 gt_th00)
      (try replace o_h0 := o_h0.keep0 gt_th00)
      (try replace o_h1 := o_h1.keep0 gt_th00)
      (try replace bq_h0 := bq_h0.keep0 gt_th00)
      (try replace bs_h0 := bs_h0.keep0 gt_th00)
      replace gc := gb_trans gc gt_th00
      skip
      go_wp2_with fail
      refine hK.out _ _ ?_ (fun hHeld2 => ?_)
      · (try dsimp only)
        refine KX.out _ ?_; exact gc
      clear hK K hHeld
      have hHeld := hHeld2
      clear hHeld2
      (try simp only [Act.put]); (try simp only [List.setIfInBounds_toArray]); (try simp only [List.set_cons_succ]); (try simp only [List.set_cons_zero])
      refine wpAnyH_ready (rs := [4]) (by kernel_rfl) (by simp) (AllReadyH.cons rfl (fun K hK => ?_) AllReadyH.nil)
      go_simp
      go_at_call 8
      refine (laws_toFrame _ f2 _ ((hR2.below T18).keep0 (gb_trans (by repeat (first | with_reducible exact gb_refl _ | refine gb_alloc ?_ _ | refine gb_drewN ?_ _ | refine gb_drew ?_)) gc)) (by have := P2.out; simp only [FrameM.tot] at this; omega) (by have := P2.out; simp only [FrameM.tot] at this; omega) (by have := P2.out; simp only [FrameM.tot] at this; omega) (by have := P2.out; simp only [FrameM.tot] at this; omega) (by have := P2.out; simp only [FrameM.tot] at this; omega) (by have := P2.out; simp only [FrameM.tot] at this; omega)).mono ?_
      rintro e wt_th01 ⟨v_th01, rfl, o_th01, gt_th01⟩
      obtain ⟨a_th01_0, n_th01_0, c_th01_0, a_th01_1, n_th01_1, c_th01_1, a_th01_2, n_th01_2, c_th01_2, a_th01_3, n_th01_3, c_th01_3, a_th01_4, n_th01_4, c_th01_4, a_th01_5, n_th01_5, c_th01_5, rfl⟩ := o_th01.r.shape
      have z_th01 := gt_th01.size
      (try replace o_th00 := o_th00.keep0 gt_th01)
      (try replace o_h0 := o_h0.keep0 gt_th01)
      (try replace o_h1 := o_h1.keep0 gt_th01)
      (try replace bq_h0 := bq_h0.keep0 gt_th01)
      (try replace bs_h0 := bs_h0.keep0 gt_th01)
      replace gc := gb_trans gc gt_th01
      skip
      go_wp2_with fail
      refine hK.out _ _ ?_ (fun hHeld2 => ?_)
      · (try dsimp only)
        refine KX.out _ ?_; exact gc
      clear hK K hHeld
      have hHeld := hHeld2
      clear hHeld2
      (try simp only [Act.put]); (try simp only [List.setIfInBounds_toArray]); (try simp only [List.set_cons_succ]); (try simp only [List.set_cons_zero])
      refine wpAnyH_ready (rs := [5]) (by kernel_rfl) (by simp) (AllReadyH.cons rfl (fun K hK => ?_) AllReadyH.nil)
      go_simp
      go_at_call 9
      refine (LI_EpOpen _ f0 x1 _ f2 _ o_th00.r o_th01.r (by have := P0.out; omega) (by have := P2.out; omega)).mono ?_
      rintro e wF ⟨M_c, v_h0, a_h1, n_h1, c_h1, rfl, ml_c, mh_c, o_h0, o_h1, gF⟩
      obtain ⟨a_h0_0, n_h0_0, c_h0_0, a_h0_1, n_h0_1, c_h0_1, rfl⟩ := o_h0.r.shape
      have zF := gF.size
      have u_h1 := fun p hp => (o_h1.lt p hp).2
      (try replace o_th00 := o_th00.keep0 gF)
      (try replace o_th01 := o_th01.keep0 gF)
      (try replace bq_h0 := bq_h0.keep0 gF)
      (try replace bs_h0 := bs_h0.keep0 gF)
      replace gc := gb_trans gc gF
      skip
      go_wp2_with fail
      refine hK.out _ _ ?_ (fun hHeld2 => ?_)
      · (try dsimp only)
        refine KX.out _ ?_; exact gc
      clear hK K hHeld
      have hHeld := hHeld2
      clear hHeld2
      (try simp only [Act.put]); (try simp only [List.setIfInBounds_toArray]); (try simp only [List.set_cons_succ]); (try simp only [List.set_cons_zero])
      refine wpAnyH_takeD (i := 6) (some 123) (v := ?_) rfl rfl (by kernel_rfl) (by kernel_rfl) (by kernel_rfl) (fun _ _ _ h => h) (Or.inl ⟨by rfl, ?_⟩) (by assumption) ?_
      rotate_left
      (focus (intro w hSw; (try dsimp only at hSw); (first | (go_simp; done) | (go_simp; with_reducible rfl) | with_reducible rfl)))
      (try simp only [Act.put]); (try simp only [List.setIfInBounds_toArray]); (try simp only [List.set_cons_succ]); (try simp only [List.set_cons_zero])
      refine wpAnyH_takeD (i := 7) (some 130) (v := ?_) rfl rfl (by kernel_rfl) (by kernel_rfl) (by kernel_rfl) (fun _ _ _ h => h) (Or.inl ⟨by rfl, ?_⟩) (by assumption) ?_
      rotate_left
      (focus (intro w hSw; (try dsimp only at hSw); (first | (go_simp; done) | (go_simp; with_reducible rfl) | with_reducible rfl)))
      (try simp only [Act.put]); (try simp only [List.setIfInBounds_toArray]); (try simp only [List.set_cons_succ]); (try simp only [List.set_cons_zero])
      refine wpAnyH_takeD (i := 8) (some 131) (v := ?_) rfl rfl (by kernel_rfl) (by kernel_rfl) (by kernel_rfl) (fun _ _ _ h => h) (Or.inl ⟨by rfl, ?_⟩) (by assumption) ?_
      rotate_left
      (focus (intro w hSw; (try dsimp only at hSw); (first | (go_simp; done) | (go_simp; with_reducible rfl) | with_reducible rfl)))
      (try simp only [Act.put]); (try simp only [List.setIfInBounds_toArray]); (try simp only [List.set_cons_succ]); (try simp only [List.set_cons_zero])
      refine wpAnyH_takeD (i := 9) (some 132) (v := ?_) rfl rfl (by kernel_rfl) (by kernel_rfl) (by kernel_rfl) (fun _ _ _ h => h) (Or.inl ⟨by rfl, ?_⟩) (by assumption) ?_
      rotate_left
      (focus (intro w hSw; (try dsimp only at hSw); (first | (go_simp; done) | (go_simp; with_reducible rfl) | with_reducible rfl)))
      (try simp only [Act.put]); (try simp only [List.setIfInBounds_toArray]); (try simp only [List.set_cons_succ]); (try simp only [List.set_cons_zero])
      refine wpAnyH_ready (rs := [11]) (by kernel_rfl) (by simp) (AllReadyH.cons rfl (fun K hK => ?_) AllReadyH.nil)
      refine step_stRD rfl rfl 34 (.tmp 19) (.tmp 130) rfl q_h0 _ _ rfl rfl bq_h0 si_Ep rfl (by first | rfl | (simp [Value.oneCell']; done)) ?_
      intro ws_h0 bs_h0 gs_h0
      have zs_h0 := gs_h0.size
      replace o_h0 := o_h0.keepI (gbI.ofRow (B := q_h0) (S := q_h0 + 1) gs_h0 (fun g e => by cases e; omega)) (by omega)
      replace o_h1 := o_h1.row gs_h0 (fun p hp => by have := o_h1.lt p hp; have := u_h1 p hp; omega)
      replace gc := gb_row gc gs_h0 lq_h0
      clear bq_h0
      skip
      refine hK.out _ _ ?_ (fun hHeld2 => ?_)
      · (try dsimp only)
        refine KX.out _ ?_; exact gc
      clear hK K hHeld
      have hHeld := hHeld2
      clear hHeld2
      (try simp only [Act.put]); (try simp only [List.setIfInBounds_toArray]); (try simp only [List.set_cons_succ]); (try simp only [List.set_cons_zero])
      refine wpAnyH_takeD (i := 12) (some 20) (v := ?_) rfl rfl (by kernel_rfl) (by kernel_rfl) (by kernel_rfl) (fun _ _ _ h => h) (Or.inl ⟨by rfl, ?_⟩) (by assumption) ?_
      rotate_left
      (focus (intro w hSw; (try dsimp only at hSw); (first | (go_simp; done) | (go_simp; with_reducible rfl) | with_reducible rfl)))
      (try simp only [Act.put]); (try simp only [List.setIfInBounds_toArray]); (try simp only [List.set_cons_succ]); (try simp only [List.set_cons_zero])
      refine wpAnyH_takeD (i := 13) (some 21) (v := ?_) rfl rfl (by kernel_rfl) (by kernel_rfl) (by kernel_rfl) (fun _ _ _ h => h) (Or.inl ⟨by rfl, ?_⟩) (by assumption) ?_
      rotate_left
      (focus (intro w hSw; (try dsimp only at hSw); (first | (go_simp; done) | (go_simp; with_reducible rfl) | with_reducible rfl)))
      (try simp only [Act.put]); (try simp only [List.setIfInBounds_toArray]); (try simp only [List.set_cons_succ]); (try simp only [List.set_cons_zero])
      refine wpAnyH_done (by kernel_rfl) ?_ _
      (try dsimp only)
      refine ⟨q_h0, a_th00_0, n_th00_0, c_th00_0, a_th00_1, n_th00_1, c_th00_1, a_th01_0, n_th01_0, c_th01_0, a_th01_1, n_th01_1, c_th01_1, a_th01_2, n_th01_2, c_th01_2, a_th01_3, n_th01_3, c_th01_3, a_th01_4, n_th01_4, c_th01_4, a_th01_5, n_th01_5, c_th01_5, a_h0_0, n_h0_0, c_h0_0, a_h0_1, n_h0_1, c_h0_1, a_h1, n_h1, c_h1, ?_, _, M_c, _, gc, (by omega), (by omega), o_h0, o_h1, u_h1, bs_h0, (by omega), (by omega), ml_c, mh_c⟩
      exact rfl
  rintro q_h0 a_th00_0 n_th00_0 c_th00_0 a_th00_1 n_th00_1 c_th00_1 a_th01_0 n_th01_0 c_th01_0 a_th01_1 n_th01_1 c_th01_1 a_th01_2 n_th01_2 c_th01_2 a_th01_3 n_th01_3 c_th01_3 a_th01_4 n_th01_4 c_th01_4 a_th01_5 n_th01_5 c_th01_5 a_h0_0 n_h0_0 c_h0_0 a_h0_1 n_h0_1 c_h0_1 a_h1 n_h1 c_h1 w19 ⟨Bc_19, Mc_19, Sc_19, g19, lb_19, ls_19, o_h0, o_h1, u_h1, bx_h0, nq_h0, lq_h0, ml_19, mh_19⟩
  clear KX
  have R19 : w18.grownBy w19 none := gb_trans (by repeat (first | with_reducible exact gb_refl _ | refine gb_alloc ?_ _ | refine gb_drewN ?_ _ | refine gb_drew ?_)) g19
  have T19 : Below w.heap.size w w19 := below_next T18 R19
  have z19 := R19.size
  replace o_w0 := o_w0.keep0 R19
  replace o_w1 := o_w1.keep0 R19
  replace o_x0 := o_x0.keep0 R19
  replace o_x2 := o_x2.keep0 R19
  replace o_g0 := o_g0.keep0 R19
  replace o_g1 := o_g1.keep0 R19
  clear cc_aE cc_aF cc_w0 cc_x0 cc_x2 cc_g0
  replace bb_aE := bb_aE.keep0 R19
  replace bb_aF := bb_aF.keep0 R19
  replace bb_w0 := bb_w0.keep0 R19
  replace bb_x0 := bb_x0.keep0 R19
  replace bb_x2 := bb_x2.keep0 R19
  replace bb_g0 := bb_g0.keep0 R19
  have cc_aE := fun o => bb_aE.cell o
  have ll_aE_19 := bb_aE.lt
  have cc_aF := fun o => bb_aF.cell o
  have ll_aF_19 := bb_aF.lt
  have cc_w0 := fun o => bb_w0.cell o
  have ll_w0_19 := bb_w0.lt
  have cc_x0 := fun o => bb_x0.cell o
  have ll_x0_19 := bb_x0.lt
  have cc_x2 := fun o => bb_x2.cell o
  have ll_x2_19 := bb_x2.lt
  have cc_g0 := fun o => bb_g0.cell o
  have ll_g0_19 := bb_g0.lt
  have bb_h0 := bx_h0
  clear bx_h0
  have cc_h0 := fun o => bb_h0.cell o
  have ll_h0_19 := bb_h0.lt
  go_wp2_with fail
  refine (laws_eqEp _ _ (epOpenE f0 x1 f2) _ (o_h0.r.keep0 (by repeat (first | with_reducible exact gb_refl _ | refine gb_alloc ?_ _ | refine gb_drewN ?_ _ | refine gb_drew ?_))) (o_w0.r.keep0 (by repeat (first | with_reducible exact gb_refl _ | refine gb_alloc ?_ _ | refine gb_drewN ?_ _ | refine gb_drew ?_))) (by have h9 := (show (epOpenE f0 x1 f2).tot ≤ 1048576 by rw [epOpenE_tot]; have := P0.out; omega); simp only [EpM.tot] at h9; omega) (by have h9 := (show (epOpenE f0 x1 f2).tot ≤ 1048576 by rw [epOpenE_tot]; have := P0.out; omega); simp only [EpM.tot] at h9; omega)).mono ?_
  rintro e w20 ⟨rfl, g20⟩
  have R20 : w19.grownBy w20 none := gb_trans (by repeat (first | with_reducible exact gb_refl _ | refine gb_alloc ?_ _ | refine gb_drewN ?_ _ | refine gb_drew ?_)) g20
  have T20 : Below w.heap.size w w20 := below_next T19 R20
  have z20 := R20.size
  replace o_w0 := o_w0.keep0 R20
  replace o_w1 := o_w1.keep0 R20
  replace o_x0 := o_x0.keep0 R20
  replace o_x2 := o_x2.keep0 R20
  replace o_g0 := o_g0.keep0 R20
  replace o_g1 := o_g1.keep0 R20
  replace o_h0 := o_h0.keep0 R20
  replace o_h1 := o_h1.keep0 R20
  clear cc_aE cc_aF cc_w0 cc_x0 cc_x2 cc_g0 cc_h0
  replace bb_aE := bb_aE.keep0 R20
  replace bb_aF := bb_aF.keep0 R20
  replace bb_w0 := bb_w0.keep0 R20
  replace bb_x0 := bb_x0.keep0 R20
  replace bb_x2 := bb_x2.keep0 R20
  replace bb_g0 := bb_g0.keep0 R20
  replace bb_h0 := bb_h0.keep0 R20
  have cc_aE := fun o => bb_aE.cell o
  have ll_aE_20 := bb_aE.lt
  have cc_aF := fun o => bb_aF.cell o
  have ll_aF_20 := bb_aF.lt
  have cc_w0 := fun o => bb_w0.cell o
  have ll_w0_20 := bb_w0.lt
  have cc_x0 := fun o => bb_x0.cell o
  have ll_x0_20 := bb_x0.lt
  have cc_x2 := fun o => bb_x2.cell o
  have ll_x2_20 := bb_x2.lt
  have cc_g0 := fun o => bb_g0.cell o
  have ll_g0_20 := bb_g0.lt
  have cc_h0 := fun o => bb_h0.cell o
  have ll_h0_20 := bb_h0.lt
  go_wp2_with fail
  refine (laws_eqByteS_same _ _ _ _ _ _ _ _ (o_h1.rd.keep0 (by repeat (first | with_reducible exact gb_refl _ | refine gb_alloc ?_ _ | refine gb_drewN ?_ _ | refine gb_drew ?_))) (o_w1.rd.keep0 (by repeat (first | with_reducible exact gb_refl _ | refine gb_alloc ?_ _ | refine gb_drewN ?_ _ | refine gb_drew ?_))) (by have h9 := (P_le f0 x1 f2); omega)).mono ?_
  rintro e w21 ⟨rfl, q21⟩
  have g21 := q21.gb
  have R21 : w20.grownBy w21 none := gb_trans (by repeat (first | with_reducible exact gb_refl _ | refine gb_alloc ?_ _ | refine gb_drewN ?_ _ | refine gb_drew ?_)) g21
  have T21 : Below w.heap.size w w21 := below_next T20 R21
  have z21 := R21.size
  replace o_w0 := o_w0.keep0 R21
  replace o_w1 := o_w1.keep0 R21
  replace o_x0 := o_x0.keep0 R21
  replace o_x2 := o_x2.keep0 R21
  replace o_g0 := o_g0.keep0 R21
  replace o_g1 := o_g1.keep0 R21
  replace o_h0 := o_h0.keep0 R21
  replace o_h1 := o_h1.keep0 R21
  clear cc_aE cc_aF cc_w0 cc_x0 cc_x2 cc_g0 cc_h0
  replace bb_aE := bb_aE.keep0 R21
  replace bb_aF := bb_aF.keep0 R21
  replace bb_w0 := bb_w0.keep0 R21
  replace bb_x0 := bb_x0.keep0 R21
  replace bb_x2 := bb_x2.keep0 R21
  replace bb_g0 := bb_g0.keep0 R21
  replace bb_h0 := bb_h0.keep0 R21
  have cc_aE := fun o => bb_aE.cell o
  have ll_aE_21 := bb_aE.lt
  have cc_aF := fun o => bb_aF.cell o
  have ll_aF_21 := bb_aF.lt
  have cc_w0 := fun o => bb_w0.cell o
  have ll_w0_21 := bb_w0.lt
  have cc_x0 := fun o => bb_x0.cell o
  have ll_x0_21 := bb_x0.lt
  have cc_x2 := fun o => bb_x2.cell o
  have ll_x2_21 := bb_x2.lt
  have cc_g0 := fun o => bb_g0.cell o
  have ll_g0_21 := bb_g0.lt
  have cc_h0 := fun o => bb_h0.cell o
  have ll_h0_21 := bb_h0.lt
  go_wp2_with fail
  refine (laws_heldEp _ ((epOpenE f0 x1 f2)) (1) _ (o_g0.r.keep0 (by repeat (first | with_reducible exact gb_refl _ | refine gb_alloc ?_ _ | refine gb_drewN ?_ _ | refine gb_drew ?_))) (by have h9 := (show (epOpenE f0 x1 f2).tot ≤ 1048576 by rw [epOpenE_tot]; have := P0.out; omega); have := (show (epOpenE f0 x1 f2).tot ≤ 1048576 by rw [epOpenE_tot]; have := P0.out; omega); have := (P_le f0 x1 f2); have := e_g1_16.out; omega)).mono ?_
  rintro e w22 ⟨rfl, g22⟩
  have R22 : w21.grownBy w22 none := gb_trans (by repeat (first | with_reducible exact gb_refl _ | refine gb_alloc ?_ _ | refine gb_drewN ?_ _ | refine gb_drew ?_)) g22
  have T22 : Below w.heap.size w w22 := below_next T21 R22
  have z22 := R22.size
  replace o_w0 := o_w0.keep0 R22
  replace o_w1 := o_w1.keep0 R22
  replace o_x0 := o_x0.keep0 R22
  replace o_x2 := o_x2.keep0 R22
  replace o_g0 := o_g0.keep0 R22
  replace o_g1 := o_g1.keep0 R22
  replace o_h0 := o_h0.keep0 R22
  replace o_h1 := o_h1.keep0 R22
  clear cc_aE cc_aF cc_w0 cc_x0 cc_x2 cc_g0 cc_h0
  replace bb_aE := bb_aE.keep0 R22
  replace bb_aF := bb_aF.keep0 R22
  replace bb_w0 := bb_w0.keep0 R22
  replace bb_x0 := bb_x0.keep0 R22
  replace bb_x2 := bb_x2.keep0 R22
  replace bb_g0 := bb_g0.keep0 R22
  replace bb_h0 := bb_h0.keep0 R22
  have cc_aE := fun o => bb_aE.cell o
  have ll_aE_22 := bb_aE.lt
  have cc_aF := fun o => bb_aF.cell o
  have ll_aF_22 := bb_aF.lt
  have cc_w0 := fun o => bb_w0.cell o
  have ll_w0_22 := bb_w0.lt
  have cc_x0 := fun o => bb_x0.cell o
  have ll_x0_22 := bb_x0.lt
  have cc_x2 := fun o => bb_x2.cell o
  have ll_x2_22 := bb_x2.lt
  have cc_g0 := fun o => bb_g0.cell o
  have ll_g0_22 := bb_g0.lt
  have cc_h0 := fun o => bb_h0.cell o
  have ll_h0_22 := bb_h0.lt
  go_wp2_with fail
  refine (laws_heldByteS _ n_g1 _ (1 + ((epOpenE f0 x1 f2)).tot) _ (o_g1.rd.keep0 (by repeat (first | with_reducible exact gb_refl _ | refine gb_alloc ?_ _ | refine gb_drewN ?_ _ | refine gb_drew ?_))) (by have h9 := (P_le f0 x1 f2); have := (show (epOpenE f0 x1 f2).tot ≤ 1048576 by rw [epOpenE_tot]; have := P0.out; omega); have := (P_le f0 x1 f2); have := e_g1_16.out; omega)).mono ?_
  rintro e w23 ⟨rfl, q23⟩
  have g23 := q23.gb
  have R23 : w22.grownBy w23 none := gb_trans (by repeat (first | with_reducible exact gb_refl _ | refine gb_alloc ?_ _ | refine gb_drewN ?_ _ | refine gb_drew ?_)) g23
  have T23 : Below w.heap.size w w23 := below_next T22 R23
  have z23 := R23.size
  replace o_w0 := o_w0.keep0 R23
  replace o_w1 := o_w1.keep0 R23
  replace o_x0 := o_x0.keep0 R23
  replace o_x2 := o_x2.keep0 R23
  replace o_g0 := o_g0.keep0 R23
  replace o_g1 := o_g1.keep0 R23
  replace o_h0 := o_h0.keep0 R23
  replace o_h1 := o_h1.keep0 R23
  clear cc_aE cc_aF cc_w0 cc_x0 cc_x2 cc_g0 cc_h0
  replace bb_aE := bb_aE.keep0 R23
  replace bb_aF := bb_aF.keep0 R23
  replace bb_w0 := bb_w0.keep0 R23
  replace bb_x0 := bb_x0.keep0 R23
  replace bb_x2 := bb_x2.keep0 R23
  replace bb_g0 := bb_g0.keep0 R23
  replace bb_h0 := bb_h0.keep0 R23
  have cc_aE := fun o => bb_aE.cell o
  have ll_aE_23 := bb_aE.lt
  have cc_aF := fun o => bb_aF.cell o
  have ll_aF_23 := bb_aF.lt
  have cc_w0 := fun o => bb_w0.cell o
  have ll_w0_23 := bb_w0.lt
  have cc_x0 := fun o => bb_x0.cell o
  have ll_x0_23 := bb_x0.lt
  have cc_x2 := fun o => bb_x2.cell o
  have ll_x2_23 := bb_x2.lt
  have cc_g0 := fun o => bb_g0.cell o
  have ll_g0_23 := bb_g0.lt
  have cc_h0 := fun o => bb_h0.cell o
  have ll_h0_23 := bb_h0.lt
  go_wp2
  go_ret
  exact ⟨rfl, T23⟩
set_option maxRecDepth 100000 in
theorem lifted (os : Os) (started : os.Started) (H : Type) (enc : TypeId × Value → H) :
    ReturnsInHanded {} Tryz.checked os 3 .any (Rows.fnExactEpOpenSpec.pre6 enc Tryz.prog Tryz.f3 Rows.fnExactEpOpenRow.domain false) (Rows.fnExactEpOpenSpec.post enc Tryz.prog Tryz.f3 false true false false) := by
  refine returnsInHanded_of_change (C := Tryz.checked) own started (by kernel_rfl) Tryz.func3
    (ChangeSpec.witness6 (enc := enc) (C := Tryz.checked) false ⟨#[], #[.agg #[.int .i64 0, .slice none 0 0, .int .i64 0, .int .i64 0, .slice none 0 0], .int .i64 0, .agg #[.int .i64 0, .int .i64 0, .slice none 0 0, .slice none 0 0, .int .i64 0, .slice none 0 0, .slice none 0 0, .int .i64 0, .int .i64 0, .slice none 0 0, .slice none 0 0]], []⟩ 8 (by kernel_rfl) (by kernel_rfl) (by kernel_rfl) (by kernel_rfl)) ?_
  intro W base args ds gs before hval0 hW _ _
  have hval : ∀ (j : Nat) t v, Tryz.f3.params[j]? = some t → args[j]? = some v → Value.okWide Tryz.prog W .any base t v := hval0
  have hW2 := hW
  obtain ⟨p, q, hA0, hV, hps, _, _⟩ := hW
  have hA : DataW.TrodAll enc Tryz.prog W 0 (fun _ => true) true Tryz.f3.params.toList args.toList ds p := hA0
  rw [Tryz.params3] at hA hval
  obtain ⟨rfl, rfl⟩ := trodVars_none hV
  obtain ⟨v0, vs0, d0, ds0, p0, q0, hargs, rfl, rfl, h0, r0⟩ := trodAll_cons hA
  obtain ⟨v1, vs1, d1, ds1, p1, q1, rfl, rfl, rfl, h1, r1⟩ := trodAll_cons r0
  obtain ⟨v2, vs2, d2, ds2, p2, q2, rfl, rfl, rfl, h2, r2⟩ := trodAll_cons r1
  obtain ⟨rfl, rfl, rfl⟩ := trodAll_nil r2
  obtain rfl : args = #[v0, v1, v2] := by cases args; simp_all
  have i0 := open_Ep (hval 0 27 v0 rfl rfl) h0
  have i1 := open_I (hval 1 3 v1 rfl rfl) h1
  have i2 := open_Frame (hval 2 29 v2 rfl rfl) h2
  clear hA0 hval0
  refine (walk W v0 v1 v2 i0 i1 i2).mono fun e W2 ⟨he, hb⟩ => ?_
  subst he
  exact ⟨_, rfl, law_post (tb := 4) laidOut (by kernel_rfl) (by kernel_rfl) Tryz.underlying4 rfl ⟨rfl, rfl, rfl⟩ hW2 hb⟩
theorem over : Rows.fnExactEpOpenRow.holds Tryz.pinned (OpenSpec.ofChange Rows.fnExactEpOpenSpec) :=
  OpenClaim.holds_of_wide 3 Tryz.f3 rfl rfl rfl rfl rfl rfl rfl ⟨rfl, rfl, rfl, rfl, rfl⟩ rfl rfl rfl rfl rfl (by kernel_rfl) Tryz.func3 (by kernel_rfl)
    (of_decide_eq_true (by kernel_rfl)) (by unfold Func.isWrapper; first | (rw [if_pos (by decide +kernel)]; kernel_rfl) | (rw [if_neg (by decide +kernel)]; exact ⟨rfl, rfl⟩))
    (fun os started H enc _ => lifted os started H enc)
theorem proved : Rows.FnExactEpOpenSaid :=
  over
#print axioms proved
end Go.Proofs.YteoglfclliclbaaGreat.lEpOpen
