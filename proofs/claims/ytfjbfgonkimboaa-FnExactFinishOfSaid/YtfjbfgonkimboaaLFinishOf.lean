/-
  FnExactFinishOf returns true for every secret, id and frame. Conditions: none.
-/
import Derived.Test.YtfjbfgonkimboaaLaw
import Derived.Test.YtfjbfgonkimboaaFinO
import Derived.Deep.RegionHeld3
namespace Go.Proofs.Ytfjbfgonkimboaa.lFinishOf
open Go.ChangeShapes Go.WideShapes Go.ChangeAt Go.RowKit
theorem LS_FinishOf (a0 : Option Addr) (n0 c0 : Nat) (l0 : List UInt8) (x : Int) (v : Value) (f : FrameM) (w : World) (r0 : Rd w a0 n0 c0 (bys l0)) (h : FrameR w v f) (_s0 : l0.length ≤ 1048576) (_hs : f.tot ≤ 1048576) : Calls Try.prog 30 #[.slice a0 n0 c0, .int .i64 x, v] w fun e w' => ∃ v', e = .returned (.tuple #[v', .bool (finB l0 x f)]) ∧ FrameO w.heap.size w'.heap.size w' v' (finOfM l0 x f) ∧ w.grownBy w' none :=
  spec_FinishOf a0 n0 c0 l0 x v f w r0 h
theorem LI_FinishOf (a0 : Option Addr) (n0 c0 : Nat) (l0 : List UInt8) (x : Int) (v : Value) (f : FrameM) (w : World) (r0 : Rd w a0 n0 c0 (bys l0)) (h : FrameR w v f) (_s0 : l0.length ≤ 1048576) (_hs : f.tot ≤ 1048576) : Calls Try.prog 31 #[.slice a0 n0 c0, .int .i64 x, v] w fun e w' => ∃ v', e = .returned (.tuple #[v', .bool (finB l0 x f)]) ∧ FrameO w.heap.size w'.heap.size w' v' (finOfM l0 x f) ∧ w.grownBy w' none :=
  impl_FinishOf a0 n0 c0 l0 x v f w r0 h
theorem cut15 {P : Program} {c : Code} {Q : Exit → Act → World → Prop} {a : Act} {w : World} (G : Nat → Option Addr → Nat → Option Addr → Nat → Nat → Option Addr → Nat → Nat → Option Addr → Nat → Nat → Option Addr → Nat → Nat → Option Addr → Nat → Nat → Option Addr → Nat → Nat → Option Addr → Nat → Nat → Option Addr → Nat → Nat → Option Addr → Nat → Nat → Option Addr → Nat → Nat → Option Addr → Nat → Nat → Option Addr → Nat → Nat → Act) (F : Nat → Option Addr → Nat → Option Addr → Nat → Nat → Option Addr → Nat → Nat → Option Addr → Nat → Nat → Option Addr → Nat → Nat → Option Addr → Nat → Nat → Option Addr → Nat → Nat → Option Addr → Nat → Nat → Option Addr → Nat → Nat → Option Addr → Nat → Nat → Option Addr → Nat → Nat → Option Addr → Nat → Nat → Option Addr → Nat → Nat → World → Prop)
    (br : c.wp P (fun ex a' w' => match ex with | .normal => (∃ q_h0 a_th00 c_th00 a_th01_0 n_th01_0 c_th01_0 a_th01_1 n_th01_1 c_th01_1 a_th01_2 n_th01_2 c_th01_2 a_th01_3 n_th01_3 c_th01_3 a_th01_4 n_th01_4 c_th01_4 a_th01_5 n_th01_5 c_th01_5 a_h0_0 n_h0_0 c_h0_0 a_h0_1 n_h0_1 c_h0_1 a_h0_2 n_h0_2 c_h0_2 a_h0_3 n_h0_3 c_h0_3 a_h0_4 n_h0_4 c_h0_4 a_h0_5 n_h0_5 c_h0_5, a' = G q_h0 a_th00 c_th00 a_th01_0 n_th01_0 c_th01_0 a_th01_1 n_th01_1 c_th01_1 a_th01_2 n_th01_2 c_th01_2 a_th01_3 n_th01_3 c_th01_3 a_th01_4 n_th01_4 c_th01_4 a_th01_5 n_th01_5 c_th01_5 a_h0_0 n_h0_0 c_h0_0 a_h0_1 n_h0_1 c_h0_1 a_h0_2 n_h0_2 c_h0_2 a_h0_3 n_h0_3 c_h0_3 a_h0_4 n_h0_4 c_h0_4 a_h0_5 n_h0_5 c_h0_5 ∧ F q_h0 a_th00 c_th00 a_th01_0 n_th01_0 c_th01_0 a_th01_1 n_th01_1 c_th01_1 a_th01_2 n_th01_2 c_th01_2 a_th01_3 n_th01_3 c_th01_3 a_th01_4 n_th01_4 c_th01_4 a_th01_5 n_th01_5 c_th01_5 a_h0_0 n_h0_0 c_h0_0 a_h0_1 n_h0_1 c_h0_1 a_h0_2 n_h0_2 c_h0_2 a_h0_3 n_h0_3 c_h0_3 a_h0_4 n_h0_4 c_h0_4 a_h0_5 n_h0_5 c_h0_5 w') | _ => False) a w) (rest : ∀ q_h0 a_th00 c_th00 a_th01_0 n_th01_0 c_th01_0 a_th01_1 n_th01_1 c_th01_1 a_th01_2 n_th01_2 c_th01_2 a_th01_3 n_th01_3 c_th01_3 a_th01_4 n_th01_4 c_th01_4 a_th01_5 n_th01_5 c_th01_5 a_h0_0 n_h0_0 c_h0_0 a_h0_1 n_h0_1 c_h0_1 a_h0_2 n_h0_2 c_h0_2 a_h0_3 n_h0_3 c_h0_3 a_h0_4 n_h0_4 c_h0_4 a_h0_5 n_h0_5 c_h0_5 w', F q_h0 a_th00 c_th00 a_th01_0 n_th01_0 c_th01_0 a_th01_1 n_th01_1 c_th01_1 a_th01_2 n_th01_2 c_th01_2 a_th01_3 n_th01_3 c_th01_3 a_th01_4 n_th01_4 c_th01_4 a_th01_5 n_th01_5 c_th01_5 a_h0_0 n_h0_0 c_h0_0 a_h0_1 n_h0_1 c_h0_1 a_h0_2 n_h0_2 c_h0_2 a_h0_3 n_h0_3 c_h0_3 a_h0_4 n_h0_4 c_h0_4 a_h0_5 n_h0_5 c_h0_5 w' → Q .normal (G q_h0 a_th00 c_th00 a_th01_0 n_th01_0 c_th01_0 a_th01_1 n_th01_1 c_th01_1 a_th01_2 n_th01_2 c_th01_2 a_th01_3 n_th01_3 c_th01_3 a_th01_4 n_th01_4 c_th01_4 a_th01_5 n_th01_5 c_th01_5 a_h0_0 n_h0_0 c_h0_0 a_h0_1 n_h0_1 c_h0_1 a_h0_2 n_h0_2 c_h0_2 a_h0_3 n_h0_3 c_h0_3 a_h0_4 n_h0_4 c_h0_4 a_h0_5 n_h0_5 c_h0_5) w') : c.wp P Q a w := by
  refine Code.wp_mono (fun e a w h => ?_) br
  cases e <;> first | exact h.elim | (obtain ⟨q_h0, a_th00, c_th00, a_th01_0, n_th01_0, c_th01_0, a_th01_1, n_th01_1, c_th01_1, a_th01_2, n_th01_2, c_th01_2, a_th01_3, n_th01_3, c_th01_3, a_th01_4, n_th01_4, c_th01_4, a_th01_5, n_th01_5, c_th01_5, a_h0_0, n_h0_0, c_h0_0, a_h0_1, n_h0_1, c_h0_1, a_h0_2, n_h0_2, c_h0_2, a_h0_3, n_h0_3, c_h0_3, a_h0_4, n_h0_4, c_h0_4, a_h0_5, n_h0_5, c_h0_5, rfl, h2⟩ := h; exact rest _ _ _ _ _ _ _ _ _ _ _ _ _ _ _ _ _ _ _ _ _ _ _ _ _ _ _ _ _ _ _ _ _ _ _ _ _ _ _ _ h2)
theorem cut2 {P : Program} {c : Code} {Q : Exit → Act → World → Prop} {a : Act} {w : World} (G : Nat → Option Addr → Nat → Option Addr → Nat → Nat → Option Addr → Nat → Nat → Option Addr → Nat → Nat → Option Addr → Nat → Nat → Option Addr → Nat → Nat → Option Addr → Nat → Nat → Option Addr → Nat → Nat → Option Addr → Nat → Nat → Option Addr → Nat → Nat → Option Addr → Nat → Nat → Option Addr → Nat → Nat → Option Addr → Nat → Nat → Act) (F : Nat → Option Addr → Nat → Option Addr → Nat → Nat → Option Addr → Nat → Nat → Option Addr → Nat → Nat → Option Addr → Nat → Nat → Option Addr → Nat → Nat → Option Addr → Nat → Nat → Option Addr → Nat → Nat → Option Addr → Nat → Nat → Option Addr → Nat → Nat → Option Addr → Nat → Nat → Option Addr → Nat → Nat → Option Addr → Nat → Nat → World → Prop)
    (br : c.wp P (fun ex a' w' => match ex with | .normal => (∃ q_w0 a_tw00 c_tw00 a_tw01_0 n_tw01_0 c_tw01_0 a_tw01_1 n_tw01_1 c_tw01_1 a_tw01_2 n_tw01_2 c_tw01_2 a_tw01_3 n_tw01_3 c_tw01_3 a_tw01_4 n_tw01_4 c_tw01_4 a_tw01_5 n_tw01_5 c_tw01_5 a_w0_0 n_w0_0 c_w0_0 a_w0_1 n_w0_1 c_w0_1 a_w0_2 n_w0_2 c_w0_2 a_w0_3 n_w0_3 c_w0_3 a_w0_4 n_w0_4 c_w0_4 a_w0_5 n_w0_5 c_w0_5, a' = G q_w0 a_tw00 c_tw00 a_tw01_0 n_tw01_0 c_tw01_0 a_tw01_1 n_tw01_1 c_tw01_1 a_tw01_2 n_tw01_2 c_tw01_2 a_tw01_3 n_tw01_3 c_tw01_3 a_tw01_4 n_tw01_4 c_tw01_4 a_tw01_5 n_tw01_5 c_tw01_5 a_w0_0 n_w0_0 c_w0_0 a_w0_1 n_w0_1 c_w0_1 a_w0_2 n_w0_2 c_w0_2 a_w0_3 n_w0_3 c_w0_3 a_w0_4 n_w0_4 c_w0_4 a_w0_5 n_w0_5 c_w0_5 ∧ F q_w0 a_tw00 c_tw00 a_tw01_0 n_tw01_0 c_tw01_0 a_tw01_1 n_tw01_1 c_tw01_1 a_tw01_2 n_tw01_2 c_tw01_2 a_tw01_3 n_tw01_3 c_tw01_3 a_tw01_4 n_tw01_4 c_tw01_4 a_tw01_5 n_tw01_5 c_tw01_5 a_w0_0 n_w0_0 c_w0_0 a_w0_1 n_w0_1 c_w0_1 a_w0_2 n_w0_2 c_w0_2 a_w0_3 n_w0_3 c_w0_3 a_w0_4 n_w0_4 c_w0_4 a_w0_5 n_w0_5 c_w0_5 w') | _ => False) a w) (rest : ∀ q_w0 a_tw00 c_tw00 a_tw01_0 n_tw01_0 c_tw01_0 a_tw01_1 n_tw01_1 c_tw01_1 a_tw01_2 n_tw01_2 c_tw01_2 a_tw01_3 n_tw01_3 c_tw01_3 a_tw01_4 n_tw01_4 c_tw01_4 a_tw01_5 n_tw01_5 c_tw01_5 a_w0_0 n_w0_0 c_w0_0 a_w0_1 n_w0_1 c_w0_1 a_w0_2 n_w0_2 c_w0_2 a_w0_3 n_w0_3 c_w0_3 a_w0_4 n_w0_4 c_w0_4 a_w0_5 n_w0_5 c_w0_5 w', F q_w0 a_tw00 c_tw00 a_tw01_0 n_tw01_0 c_tw01_0 a_tw01_1 n_tw01_1 c_tw01_1 a_tw01_2 n_tw01_2 c_tw01_2 a_tw01_3 n_tw01_3 c_tw01_3 a_tw01_4 n_tw01_4 c_tw01_4 a_tw01_5 n_tw01_5 c_tw01_5 a_w0_0 n_w0_0 c_w0_0 a_w0_1 n_w0_1 c_w0_1 a_w0_2 n_w0_2 c_w0_2 a_w0_3 n_w0_3 c_w0_3 a_w0_4 n_w0_4 c_w0_4 a_w0_5 n_w0_5 c_w0_5 w' → Q .normal (G q_w0 a_tw00 c_tw00 a_tw01_0 n_tw01_0 c_tw01_0 a_tw01_1 n_tw01_1 c_tw01_1 a_tw01_2 n_tw01_2 c_tw01_2 a_tw01_3 n_tw01_3 c_tw01_3 a_tw01_4 n_tw01_4 c_tw01_4 a_tw01_5 n_tw01_5 c_tw01_5 a_w0_0 n_w0_0 c_w0_0 a_w0_1 n_w0_1 c_w0_1 a_w0_2 n_w0_2 c_w0_2 a_w0_3 n_w0_3 c_w0_3 a_w0_4 n_w0_4 c_w0_4 a_w0_5 n_w0_5 c_w0_5) w') : c.wp P Q a w := by
  refine Code.wp_mono (fun e a w h => ?_) br
  cases e <;> first | exact h.elim | (obtain ⟨q_w0, a_tw00, c_tw00, a_tw01_0, n_tw01_0, c_tw01_0, a_tw01_1, n_tw01_1, c_tw01_1, a_tw01_2, n_tw01_2, c_tw01_2, a_tw01_3, n_tw01_3, c_tw01_3, a_tw01_4, n_tw01_4, c_tw01_4, a_tw01_5, n_tw01_5, c_tw01_5, a_w0_0, n_w0_0, c_w0_0, a_w0_1, n_w0_1, c_w0_1, a_w0_2, n_w0_2, c_w0_2, a_w0_3, n_w0_3, c_w0_3, a_w0_4, n_w0_4, c_w0_4, a_w0_5, n_w0_5, c_w0_5, rfl, h2⟩ := h; exact rest _ _ _ _ _ _ _ _ _ _ _ _ _ _ _ _ _ _ _ _ _ _ _ _ _ _ _ _ _ _ _ _ _ _ _ _ _ _ _ _ h2)
set_option maxRecDepth 100000 in
set_option maxHeartbeats 4000000 in
theorem walk (w : World) (v0 v1 v2 : Value) (h0 : InBytes w v0) (h1 : InInt v1) (h2 : InFrame w v2) : Calls Try.prog 7 #[v0, v1, v2] w fun e w' => e = .returned (.bool true) ∧ Below w.heap.size w w' := by
  obtain ⟨a0, n0, c0, l0, rfl, hR0, hC0⟩ := h0
  have hN0 := Lib.hid hR0.blen
  obtain ⟨x1, rfl, hx1⟩ := h1
  obtain ⟨f2, hR2, hL2⟩ := h2
  have hS2 := hR2.shape
  obtain ⟨a2_0, n2_0, c2_0, a2_1, n2_1, c2_1, a2_2, n2_2, c2_2, a2_3, n2_3, c2_3, a2_4, n2_4, c2_4, a2_5, n2_5, c2_5, rfl⟩ := hS2
  have T0 : Below w.heap.size w w := Below.refl _ _
  go_enter Try.func7, Try.ntmps7
  rcases Nat.lt_or_ge 1048576 n0 with p0 | p0
  · go_wp2
    go_ret
    exact ⟨rfl, below_next T0 (by repeat (first | with_reducible exact gb_refl _ | refine gb_alloc ?_ _ | refine gb_drewN ?_ _ | refine gb_drew ?_))⟩
  have P0 := Lib.hid p0
  have p0z : ((n0 : Int) ≤ 1048576) := by have := P0.out; omega
  clear p0
  rcases Nat.lt_or_ge (1048576) f2.tot with p2 | p2
  · go_wp2_with fail
    refine (laws_szFrame _ f2 (1048576) _ ((hR2.below T0).keep0 (by repeat (first | with_reducible exact gb_refl _ | refine gb_alloc ?_ _ | refine gb_drewN ?_ _ | refine gb_drew ?_))) (by omega) (hL2.len1) (hL2.len2) (hL2.len3) (hL2.len4) (hL2.len5) (hL2.len6)).mono ?_
    rintro e w9 ⟨_, hn9, g9⟩
    obtain rfl := hn9 p2
    clear hn9
    go_wp2
    go_ret
    exact ⟨rfl, below_next T0 (gb_trans (by repeat (first | with_reducible exact gb_refl _ | refine gb_alloc ?_ _ | refine gb_drewN ?_ _ | refine gb_drew ?_)) g9)⟩
  have P2 := Lib.hid p2
  clear p2
  go_wp2_with fail
  refine (laws_szFrame _ f2 (1048576) _ ((hR2.below T0).keep0 (by repeat (first | with_reducible exact gb_refl _ | refine gb_alloc ?_ _ | refine gb_drewN ?_ _ | refine gb_drew ?_))) (by omega) (hL2.len1) (hL2.len2) (hL2.len3) (hL2.len4) (hL2.len5) (hL2.len6)).mono ?_
  rintro e w1 ⟨hy9, hn9, g1⟩
  obtain rfl := hy9 P2.out
  clear hy9 hn9
  have R1 : w.grownBy w1 none := gb_trans (by repeat (first | with_reducible exact gb_refl _ | refine gb_alloc ?_ _ | refine gb_drewN ?_ _ | refine gb_drew ?_)) g1
  have T1 : Below w.heap.size w w1 := below_next T0 R1
  have z1 := R1.size
  have bb_aF : Bx w1 (w.heap.size) 33 #[.int .i64 f2.kind, .int .i64 f2.id, .slice a2_0 n2_0 c2_0, .slice a2_1 n2_1 c2_1, .int .i64 f2.tick, .slice a2_2 n2_2 c2_2, .slice a2_3 n2_3 c2_3, .int .i64 f2.epoch, .int .i64 f2.seq, .slice a2_4 n2_4 c2_4, .slice a2_5 n2_5 c2_5] := by first | exact (bx1 w _ _).keep0 g1 | exact (bx1 w _ _).drew.keep0 g1
  have cc_aF := fun o => bb_aF.cell o
  have ll_aF_1 := bb_aF.lt
  go_wp2_with fail
  have KX : Hid (∀ w', w1.grownBy w' none → (w'.cell? ⟨w.heap.size, 0, none⟩ = some (.int .i64 f2.kind) ∧ w'.cell? ⟨w.heap.size, 1, none⟩ = some (.int .i64 f2.id) ∧ w'.cell? ⟨w.heap.size, 2, none⟩ = some (.slice a2_0 n2_0 c2_0) ∧ w'.cell? ⟨w.heap.size, 3, none⟩ = some (.slice a2_1 n2_1 c2_1) ∧ w'.cell? ⟨w.heap.size, 4, none⟩ = some (.int .i64 f2.tick) ∧ w'.cell? ⟨w.heap.size, 5, none⟩ = some (.slice a2_2 n2_2 c2_2) ∧ w'.cell? ⟨w.heap.size, 6, none⟩ = some (.slice a2_3 n2_3 c2_3) ∧ w'.cell? ⟨w.heap.size, 7, none⟩ = some (.int .i64 f2.epoch) ∧ w'.cell? ⟨w.heap.size, 8, none⟩ = some (.int .i64 f2.seq) ∧ w'.cell? ⟨w.heap.size, 9, none⟩ = some (.slice a2_4 n2_4 c2_4) ∧ w'.cell? ⟨w.heap.size, 10, none⟩ = some (.slice a2_5 n2_5 c2_5) ∧ w1.grownBy w' none)) :=
    fun w' hg => ⟨(bb_aF.keep0 hg).cell 0, (bb_aF.keep0 hg).cell 1, (bb_aF.keep0 hg).cell 2, (bb_aF.keep0 hg).cell 3, (bb_aF.keep0 hg).cell 4, (bb_aF.keep0 hg).cell 5, (bb_aF.keep0 hg).cell 6, (bb_aF.keep0 hg).cell 7, (bb_aF.keep0 hg).cell 8, (bb_aF.keep0 hg).cell 9, (bb_aF.keep0 hg).cell 10, hg⟩
  clear cc_aF
  have cc_aF : True := trivial
  refine' cut2 _ (fun q_w0 a_tw00 c_tw00 a_tw01_0 n_tw01_0 c_tw01_0 a_tw01_1 n_tw01_1 c_tw01_1 a_tw01_2 n_tw01_2 c_tw01_2 a_tw01_3 n_tw01_3 c_tw01_3 a_tw01_4 n_tw01_4 c_tw01_4 a_tw01_5 n_tw01_5 c_tw01_5 a_w0_0 n_w0_0 c_w0_0 a_w0_1 n_w0_1 c_w0_1 a_w0_2 n_w0_2 c_w0_2 a_w0_3 n_w0_3 c_w0_3 a_w0_4 n_w0_4 c_w0_4 a_w0_5 n_w0_5 c_w0_5 w' => ∃ Bc Sc : Nat, w1.grownBy w' none ∧ w1.heap.size ≤ Bc ∧ Sc ≤ w'.heap.size ∧ FrameO Bc Sc w' (.agg #[.int .i64 ((finOfM l0 x1 f2)).kind, .int .i64 ((finOfM l0 x1 f2)).id, .slice a_w0_0 n_w0_0 c_w0_0, .slice a_w0_1 n_w0_1 c_w0_1, .int .i64 ((finOfM l0 x1 f2)).tick, .slice a_w0_2 n_w0_2 c_w0_2, .slice a_w0_3 n_w0_3 c_w0_3, .int .i64 ((finOfM l0 x1 f2)).epoch, .int .i64 ((finOfM l0 x1 f2)).seq, .slice a_w0_4 n_w0_4 c_w0_4, .slice a_w0_5 n_w0_5 c_w0_5]) ((finOfM l0 x1 f2)) ∧ Bx w' q_w0 24 #[.int .i64 ((finOfM l0 x1 f2)).kind, .int .i64 ((finOfM l0 x1 f2)).id, .slice a_w0_0 n_w0_0 c_w0_0, .slice a_w0_1 n_w0_1 c_w0_1, .int .i64 ((finOfM l0 x1 f2)).tick, .slice a_w0_2 n_w0_2 c_w0_2, .slice a_w0_3 n_w0_3 c_w0_3, .int .i64 ((finOfM l0 x1 f2)).epoch, .int .i64 ((finOfM l0 x1 f2)).seq, .slice a_w0_4 n_w0_4 c_w0_4, .slice a_w0_5 n_w0_5 c_w0_5] ∧ (q_w0 < Bc ∨ Sc ≤ q_w0) ∧ w1.heap.size ≤ q_w0) ?br2 ?rest2
  case br2 =>
    have gc := gb_drew (gb_refl w1)
    have zD : (World.drew w1).heap.size = w1.heap.size := rfl
    have zD2 : w1.heap.size = w1.heap.size := by first | rfl | (simp; done)
    refine wp_region_held_drew (S := fun w' => w'.cell? ⟨w.heap.size, 0, none⟩ = some (.int .i64 f2.kind) ∧ w'.cell? ⟨w.heap.size, 1, none⟩ = some (.int .i64 f2.id) ∧ w'.cell? ⟨w.heap.size, 2, none⟩ = some (.slice a2_0 n2_0 c2_0) ∧ w'.cell? ⟨w.heap.size, 3, none⟩ = some (.slice a2_1 n2_1 c2_1) ∧ w'.cell? ⟨w.heap.size, 4, none⟩ = some (.int .i64 f2.tick) ∧ w'.cell? ⟨w.heap.size, 5, none⟩ = some (.slice a2_2 n2_2 c2_2) ∧ w'.cell? ⟨w.heap.size, 6, none⟩ = some (.slice a2_3 n2_3 c2_3) ∧ w'.cell? ⟨w.heap.size, 7, none⟩ = some (.int .i64 f2.epoch) ∧ w'.cell? ⟨w.heap.size, 8, none⟩ = some (.int .i64 f2.seq) ∧ w'.cell? ⟨w.heap.size, 9, none⟩ = some (.slice a2_4 n2_4 c2_4) ∧ w'.cell? ⟨w.heap.size, 10, none⟩ = some (.slice a2_5 n2_5 c2_5) ∧ w1.grownBy w' none) (by kernel_rfl) ?_ (fun hHeld => ?_)
    · (try dsimp only)
      refine KX.out _ ?_; exact gc
    refine wpAnyH_takeD (i := 0) (some 28) (v := ?_) rfl rfl (by kernel_rfl) (by kernel_rfl) (by kernel_rfl) (fun _ _ _ h => h) (Or.inl ⟨by rfl, ?_⟩) (by assumption) ?_
    rotate_left
    (focus (intro w hSw; (try dsimp only at hSw); (first | (go_simp; done) | (go_simp; with_reducible rfl) | with_reducible rfl)))
    (try simp only [Act.put]); (try simp only [List.setIfInBounds_toArray]); (try simp only [List.set_cons_succ]); (try simp only [List.set_cons_zero])
    refine wpAnyH_takeD (i := 2) (some 30) (v := ?_) rfl rfl (by kernel_rfl) (by kernel_rfl) (by kernel_rfl) (fun _ _ _ h => h) (Or.inl ⟨by rfl, ?_⟩) (by assumption) ?_
    rotate_left
    (focus (intro w hSw; (try dsimp only at hSw); (first | (go_simp; done) | (go_simp; with_reducible rfl) | with_reducible rfl)))
    (try simp only [Act.put]); (try simp only [List.setIfInBounds_toArray]); (try simp only [List.set_cons_succ]); (try simp only [List.set_cons_zero])
    refine wpAnyH_takeD (i := 3) (some 31) (v := ?_) rfl rfl (by kernel_rfl) (by kernel_rfl) (by kernel_rfl) (fun _ _ _ h => h) (Or.inl ⟨by rfl, ?_⟩) (by assumption) ?_
    rotate_left
    (focus (intro w hSw; (try dsimp only at hSw); (first | (go_simp; done) | (go_simp; with_reducible rfl) | with_reducible rfl)))
    (try simp only [Act.put]); (try simp only [List.setIfInBounds_toArray]); (try simp only [List.set_cons_succ]); (try simp only [List.set_cons_zero])
    refine wpAnyH_ready (rs := [1, 9]) (by kernel_rfl) (by simp) (AllReadyH.cons rfl (fun K hK => ?_) (AllReadyH.cons rfl (fun K hK => ?_) AllReadyH.nil))
    · go_simp
      go_at_call 10
      refine (laws_toByteS _ _ _ l0 _ ((hR0.below T1).keep0 (gb_trans (by repeat (first | with_reducible exact gb_refl _ | refine gb_alloc ?_ _ | refine gb_drewN ?_ _ | refine gb_drew ?_)) gc)) (by have := P0.out; omega)).mono ?_
      rintro e wt_tw00 ⟨a_tw00, c_tw00, rfl, o_tw00, gt_tw00⟩
      have z_tw00 := gt_tw00.size
      (try replace o_tw01 := o_tw01.keep0 gt_tw00)
      (try replace o_w0 := o_w0.keep0 gt_tw00)
      (try replace bq_w0 := bq_w0.keep0 gt_tw00)
      (try replace bs_w0 := bs_w0.keep0 gt_tw00)
      replace gc := gb_trans gc gt_tw00
      skip
      go_wp2_with fail
      refine hK.out _ _ ?_ (fun hHeld2 => ?_)
      · (try dsimp only)
        refine KX.out _ ?_; exact gc
      clear hK K hHeld
      have hHeld := hHeld2
      clear hHeld2
      (try simp only [Act.put]); (try simp only [List.setIfInBounds_toArray]); (try simp only [List.set_cons_succ]); (try simp only [List.set_cons_zero])
      refine wpAnyH_ready (rs := [4, 9]) (by kernel_rfl) (by simp) (AllReadyH.cons rfl (fun K hK => ?_) (AllReadyH.cons rfl (fun K hK => ?_) AllReadyH.nil))
      · go_simp
        go_at_call 19
        refine (laws_toFrame _ f2 _ ((hR2.below T1).keep0 (gb_trans (by repeat (first | with_reducible exact gb_refl _ | refine gb_alloc ?_ _ | refine gb_drewN ?_ _ | refine gb_drew ?_)) gc)) (by have := P2.out; simp only [FrameM.tot] at this; omega) (by have := P2.out; simp only [FrameM.tot] at this; omega) (by have := P2.out; simp only [FrameM.tot] at this; omega) (by have := P2.out; simp only [FrameM.tot] at this; omega) (by have := P2.out; simp only [FrameM.tot] at this; omega) (by have := P2.out; simp only [FrameM.tot] at this; omega)).mono ?_
        rintro e wt_tw01 ⟨v_tw01, rfl, o_tw01, gt_tw01⟩
        obtain ⟨a_tw01_0, n_tw01_0, c_tw01_0, a_tw01_1, n_tw01_1, c_tw01_1, a_tw01_2, n_tw01_2, c_tw01_2, a_tw01_3, n_tw01_3, c_tw01_3, a_tw01_4, n_tw01_4, c_tw01_4, a_tw01_5, n_tw01_5, c_tw01_5, rfl⟩ := o_tw01.r.shape
        have z_tw01 := gt_tw01.size
        (try replace o_tw00 := o_tw00.keep0 gt_tw01)
        (try replace o_w0 := o_w0.keep0 gt_tw01)
        (try replace bq_w0 := bq_w0.keep0 gt_tw01)
        (try replace bs_w0 := bs_w0.keep0 gt_tw01)
        replace gc := gb_trans gc gt_tw01
        skip
        go_wp2_with fail
        refine hK.out _ _ ?_ (fun hHeld2 => ?_)
        · (try dsimp only)
          refine KX.out _ ?_; exact gc
        clear hK K hHeld
        have hHeld := hHeld2
        clear hHeld2
        (try simp only [Act.put]); (try simp only [List.setIfInBounds_toArray]); (try simp only [List.set_cons_succ]); (try simp only [List.set_cons_zero])
        refine wpAnyH_ready (rs := [5, 9]) (by kernel_rfl) (by simp) (AllReadyH.cons rfl (fun K hK => ?_) (AllReadyH.cons rfl (fun K hK => ?_) AllReadyH.nil))
        · go_simp
          go_at_call 30
          refine (LS_FinishOf _ _ _ l0 x1 _ f2 _ o_tw00.rd o_tw01.r (show l0.length ≤ 1048576 by have := hN0.out; have := P0.out; omega) (by have := P2.out; omega)).mono ?_
          rintro e wF ⟨v_w0, rfl, o_w0, gF⟩
          obtain ⟨a_w0_0, n_w0_0, c_w0_0, a_w0_1, n_w0_1, c_w0_1, a_w0_2, n_w0_2, c_w0_2, a_w0_3, n_w0_3, c_w0_3, a_w0_4, n_w0_4, c_w0_4, a_w0_5, n_w0_5, c_w0_5, rfl⟩ := o_w0.r.shape
          have zF := gF.size
          (try replace o_tw00 := o_tw00.keep0 gF)
          (try replace o_tw01 := o_tw01.keep0 gF)
          (try replace bq_w0 := bq_w0.keep0 gF)
          (try replace bs_w0 := bs_w0.keep0 gF)
          replace gc := gb_trans gc gF
          skip
          go_wp2_with fail
          refine hK.out _ _ ?_ (fun hHeld2 => ?_)
          · (try dsimp only)
            refine KX.out _ ?_; exact gc
          clear hK K hHeld
          have hHeld := hHeld2
          clear hHeld2
          (try simp only [Act.put]); (try simp only [List.setIfInBounds_toArray]); (try simp only [List.set_cons_succ]); (try simp only [List.set_cons_zero])
          refine wpAnyH_takeD (i := 6) (some 27) (v := ?_) rfl rfl (by kernel_rfl) (by kernel_rfl) (by kernel_rfl) (fun _ _ _ h => h) (Or.inl ⟨by rfl, ?_⟩) (by assumption) ?_
          rotate_left
          (focus (intro w hSw; (try dsimp only at hSw); (first | (go_simp; done) | (go_simp; with_reducible rfl) | with_reducible rfl)))
          (try simp only [Act.put]); (try simp only [List.setIfInBounds_toArray]); (try simp only [List.set_cons_succ]); (try simp only [List.set_cons_zero])
          refine wpAnyH_takeD (i := 7) (some 34) (v := ?_) rfl rfl (by kernel_rfl) (by kernel_rfl) (by kernel_rfl) (fun _ _ _ h => h) (Or.inl ⟨by rfl, ?_⟩) (by assumption) ?_
          rotate_left
          (focus (intro w hSw; (try dsimp only at hSw); (first | (go_simp; done) | (go_simp; with_reducible rfl) | with_reducible rfl)))
          (try simp only [Act.put]); (try simp only [List.setIfInBounds_toArray]); (try simp only [List.set_cons_succ]); (try simp only [List.set_cons_zero])
          refine wpAnyH_takeD (i := 8) (some 35) (v := ?_) rfl rfl (by kernel_rfl) (by kernel_rfl) (by kernel_rfl) (fun _ _ _ h => h) (Or.inl ⟨by rfl, ?_⟩) (by assumption) ?_
          rotate_left
          (focus (intro w hSw; (try dsimp only at hSw); (first | (go_simp; done) | (go_simp; with_reducible rfl) | with_reducible rfl)))
          (try simp only [Act.put]); (try simp only [List.setIfInBounds_toArray]); (try simp only [List.set_cons_succ]); (try simp only [List.set_cons_zero])
          refine wpAnyH_ready (rs := [9]) (by kernel_rfl) (by simp) (AllReadyH.cons rfl (fun K hK => ?_) AllReadyH.nil)
          refine step_alD rfl (some 8) rfl 24 _ rfl al_Frame ?_
          intro q_w0 wq_w0 hq_w0 bq_w0 ga_w0
          have lq_w0 := Nat.le_trans gc.size hq_w0
          have y_w0 := bq_w0.lt
          have zq_w0 := ga_w0.size
          (try replace o_tw00 := o_tw00.keep0 ga_w0)
          (try replace o_tw01 := o_tw01.keep0 ga_w0)
          (try replace o_w0 := o_w0.keep0 ga_w0)
          replace gc := gb_trans gc ga_w0
          skip
          refine hK.out _ _ ?_ (fun hHeld2 => ?_)
          · (try dsimp only)
            refine KX.out _ ?_; exact gc
          clear hK K hHeld
          have hHeld := hHeld2
          clear hHeld2
          (try simp only [Act.put]); (try simp only [List.setIfInBounds_toArray]); (try simp only [List.set_cons_succ]); (try simp only [List.set_cons_zero])
          refine wpAnyH_ready (rs := [10]) (by kernel_rfl) (by simp) (AllReadyH.cons rfl (fun K hK => ?_) AllReadyH.nil)
          refine step_stRD rfl rfl 24 (.tmp 8) (.tmp 34) rfl q_w0 _ _ rfl rfl bq_w0 si_Frame rfl (by first | rfl | (simp [Value.oneCell']; done)) ?_
          intro ws_w0 bs_w0 gs_w0
          have zs_w0 := gs_w0.size
          replace o_w0 := o_w0.keepI (gbI.ofRow (B := q_w0) (S := q_w0 + 1) gs_w0 (fun g e => by cases e; omega)) (by omega)
          replace gc := gb_row gc gs_w0 lq_w0
          clear bq_w0
          skip
          refine hK.out _ _ ?_ (fun hHeld2 => ?_)
          · (try dsimp only)
            refine KX.out _ ?_; exact gc
          clear hK K hHeld
          have hHeld := hHeld2
          clear hHeld2
          (try simp only [Act.put]); (try simp only [List.setIfInBounds_toArray]); (try simp only [List.set_cons_succ]); (try simp only [List.set_cons_zero])
          refine wpAnyH_takeD (i := 11) (some 9) (v := ?_) rfl rfl (by kernel_rfl) (by kernel_rfl) (by kernel_rfl) (fun _ _ _ h => h) (Or.inl ⟨by rfl, ?_⟩) (by assumption) ?_
          rotate_left
          (focus (intro w hSw; (try dsimp only at hSw); (first | (go_simp; done) | (go_simp; with_reducible rfl) | with_reducible rfl)))
          (try simp only [Act.put]); (try simp only [List.setIfInBounds_toArray]); (try simp only [List.set_cons_succ]); (try simp only [List.set_cons_zero])
          refine wpAnyH_done (by kernel_rfl) ?_ _
          (try dsimp only)
          refine ⟨q_w0, a_tw00, c_tw00, a_tw01_0, n_tw01_0, c_tw01_0, a_tw01_1, n_tw01_1, c_tw01_1, a_tw01_2, n_tw01_2, c_tw01_2, a_tw01_3, n_tw01_3, c_tw01_3, a_tw01_4, n_tw01_4, c_tw01_4, a_tw01_5, n_tw01_5, c_tw01_5, a_w0_0, n_w0_0, c_w0_0, a_w0_1, n_w0_1, c_w0_1, a_w0_2, n_w0_2, c_w0_2, a_w0_3, n_w0_3, c_w0_3, a_w0_4, n_w0_4, c_w0_4, a_w0_5, n_w0_5, c_w0_5, ?_, _, _, gc, (by omega), (by omega), o_w0, bs_w0, (by omega), (by omega)⟩
          exact rfl
        · refine step_alD rfl (some 8) rfl 24 _ rfl al_Frame ?_
          intro q_w0 wq_w0 hq_w0 bq_w0 ga_w0
          have lq_w0 := Nat.le_trans gc.size hq_w0
          have y_w0 := bq_w0.lt
          have zq_w0 := ga_w0.size
          (try replace o_tw00 := o_tw00.keep0 ga_w0)
          (try replace o_tw01 := o_tw01.keep0 ga_w0)
          (try replace o_w0 := o_w0.keep0 ga_w0)
          replace gc := gb_trans gc ga_w0
          skip
          refine hK.out _ _ ?_ (fun hHeld2 => ?_)
          · (try dsimp only)
            refine KX.out _ ?_; exact gc
          clear hK K hHeld
          have hHeld := hHeld2
          clear hHeld2
          (try simp only [Act.put]); (try simp only [List.setIfInBounds_toArray]); (try simp only [List.set_cons_succ]); (try simp only [List.set_cons_zero])
          refine wpAnyH_ready (rs := [5]) (by kernel_rfl) (by simp) (AllReadyH.cons rfl (fun K hK => ?_) AllReadyH.nil)
          go_simp
          go_at_call 30
          refine (LS_FinishOf _ _ _ l0 x1 _ f2 _ o_tw00.rd o_tw01.r (show l0.length ≤ 1048576 by have := hN0.out; have := P0.out; omega) (by have := P2.out; omega)).mono ?_
          rintro e wF ⟨v_w0, rfl, o_w0, gF⟩
          obtain ⟨a_w0_0, n_w0_0, c_w0_0, a_w0_1, n_w0_1, c_w0_1, a_w0_2, n_w0_2, c_w0_2, a_w0_3, n_w0_3, c_w0_3, a_w0_4, n_w0_4, c_w0_4, a_w0_5, n_w0_5, c_w0_5, rfl⟩ := o_w0.r.shape
          have zF := gF.size
          (try replace o_tw00 := o_tw00.keep0 gF)
          (try replace o_tw01 := o_tw01.keep0 gF)
          (try replace bq_w0 := bq_w0.keep0 gF)
          (try replace bs_w0 := bs_w0.keep0 gF)
          replace gc := gb_trans gc gF
          skip
          go_wp2_with fail
          refine hK.out _ _ ?_ (fun hHeld2 => ?_)
          · (try dsimp only)
            refine KX.out _ ?_; exact gc
          clear hK K hHeld
          have hHeld := hHeld2
          clear hHeld2
          (try simp only [Act.put]); (try simp only [List.setIfInBounds_toArray]); (try simp only [List.set_cons_succ]); (try simp only [List.set_cons_zero])
          refine wpAnyH_takeD (i := 6) (some 27) (v := ?_) rfl rfl (by kernel_rfl) (by kernel_rfl) (by kernel_rfl) (fun _ _ _ h => h) (Or.inl ⟨by rfl, ?_⟩) (by assumption) ?_
          rotate_left
          (focus (intro w hSw; (try dsimp only at hSw); (first | (go_simp; done) | (go_simp; with_reducible rfl) | with_reducible rfl)))
          (try simp only [Act.put]); (try simp only [List.setIfInBounds_toArray]); (try simp only [List.set_cons_succ]); (try simp only [List.set_cons_zero])
          refine wpAnyH_takeD (i := 7) (some 34) (v := ?_) rfl rfl (by kernel_rfl) (by kernel_rfl) (by kernel_rfl) (fun _ _ _ h => h) (Or.inl ⟨by rfl, ?_⟩) (by assumption) ?_
          rotate_left
          (focus (intro w hSw; (try dsimp only at hSw); (first | (go_simp; done) | (go_simp; with_reducible rfl) | with_reducible rfl)))
          (try simp only [Act.put]); (try simp only [List.setIfInBounds_toArray]); (try simp only [List.set_cons_succ]); (try simp only [List.set_cons_zero])
          refine wpAnyH_takeD (i := 8) (some 35) (v := ?_) rfl rfl (by kernel_rfl) (by kernel_rfl) (by kernel_rfl) (fun _ _ _ h => h) (Or.inl ⟨by rfl, ?_⟩) (by assumption) ?_
          rotate_left
          (focus (intro w hSw; (try dsimp only at hSw); (first | (go_simp; done) | (go_simp; with_reducible rfl) | with_reducible rfl)))
          (try simp only [Act.put]); (try simp only [List.setIfInBounds_toArray]); (try simp only [List.set_cons_succ]); (try simp only [List.set_cons_zero])
          refine wpAnyH_ready (rs := [10]) (by kernel_rfl) (by simp) (AllReadyH.cons rfl (fun K hK => ?_) AllReadyH.nil)
          refine step_stRD rfl rfl 24 (.tmp 8) (.tmp 34) rfl q_w0 _ _ rfl rfl bq_w0 si_Frame rfl (by first | rfl | (simp [Value.oneCell']; done)) ?_
          intro ws_w0 bs_w0 gs_w0
          have zs_w0 := gs_w0.size
          replace o_w0 := o_w0.keepI (gbI.ofRow (B := q_w0) (S := q_w0 + 1) gs_w0 (fun g e => by cases e; omega)) (by omega)
          replace gc := gb_row gc gs_w0 lq_w0
          clear bq_w0
          skip
          refine hK.out _ _ ?_ (fun hHeld2 => ?_)
          · (try dsimp only)
            refine KX.out _ ?_; exact gc
          clear hK K hHeld
          have hHeld := hHeld2
          clear hHeld2
          (try simp only [Act.put]); (try simp only [List.setIfInBounds_toArray]); (try simp only [List.set_cons_succ]); (try simp only [List.set_cons_zero])
          refine wpAnyH_takeD (i := 11) (some 9) (v := ?_) rfl rfl (by kernel_rfl) (by kernel_rfl) (by kernel_rfl) (fun _ _ _ h => h) (Or.inl ⟨by rfl, ?_⟩) (by assumption) ?_
          rotate_left
          (focus (intro w hSw; (try dsimp only at hSw); (first | (go_simp; done) | (go_simp; with_reducible rfl) | with_reducible rfl)))
          (try simp only [Act.put]); (try simp only [List.setIfInBounds_toArray]); (try simp only [List.set_cons_succ]); (try simp only [List.set_cons_zero])
          refine wpAnyH_done (by kernel_rfl) ?_ _
          (try dsimp only)
          refine ⟨q_w0, a_tw00, c_tw00, a_tw01_0, n_tw01_0, c_tw01_0, a_tw01_1, n_tw01_1, c_tw01_1, a_tw01_2, n_tw01_2, c_tw01_2, a_tw01_3, n_tw01_3, c_tw01_3, a_tw01_4, n_tw01_4, c_tw01_4, a_tw01_5, n_tw01_5, c_tw01_5, a_w0_0, n_w0_0, c_w0_0, a_w0_1, n_w0_1, c_w0_1, a_w0_2, n_w0_2, c_w0_2, a_w0_3, n_w0_3, c_w0_3, a_w0_4, n_w0_4, c_w0_4, a_w0_5, n_w0_5, c_w0_5, ?_, _, _, gc, (by omega), (by omega), o_w0, bs_w0, (by omega), (by omega)⟩
          exact rfl
      · refine step_alD rfl (some 8) rfl 24 _ rfl al_Frame ?_
        intro q_w0 wq_w0 hq_w0 bq_w0 ga_w0
        have lq_w0 := Nat.le_trans gc.size hq_w0
        have y_w0 := bq_w0.lt
        have zq_w0 := ga_w0.size
        (try replace o_tw00 := o_tw00.keep0 ga_w0)
        (try replace o_tw01 := o_tw01.keep0 ga_w0)
        (try replace o_w0 := o_w0.keep0 ga_w0)
        replace gc := gb_trans gc ga_w0
        skip
        refine hK.out _ _ ?_ (fun hHeld2 => ?_)
        · (try dsimp only)
          refine KX.out _ ?_; exact gc
        clear hK K hHeld
        have hHeld := hHeld2
        clear hHeld2
        (try simp only [Act.put]); (try simp only [List.setIfInBounds_toArray]); (try simp only [List.set_cons_succ]); (try simp only [List.set_cons_zero])
        refine wpAnyH_ready (rs := [4]) (by kernel_rfl) (by simp) (AllReadyH.cons rfl (fun K hK => ?_) AllReadyH.nil)
        go_simp
        go_at_call 19
        refine (laws_toFrame _ f2 _ ((hR2.below T1).keep0 (gb_trans (by repeat (first | with_reducible exact gb_refl _ | refine gb_alloc ?_ _ | refine gb_drewN ?_ _ | refine gb_drew ?_)) gc)) (by have := P2.out; simp only [FrameM.tot] at this; omega) (by have := P2.out; simp only [FrameM.tot] at this; omega) (by have := P2.out; simp only [FrameM.tot] at this; omega) (by have := P2.out; simp only [FrameM.tot] at this; omega) (by have := P2.out; simp only [FrameM.tot] at this; omega) (by have := P2.out; simp only [FrameM.tot] at this; omega)).mono ?_
        rintro e wt_tw01 ⟨v_tw01, rfl, o_tw01, gt_tw01⟩
        obtain ⟨a_tw01_0, n_tw01_0, c_tw01_0, a_tw01_1, n_tw01_1, c_tw01_1, a_tw01_2, n_tw01_2, c_tw01_2, a_tw01_3, n_tw01_3, c_tw01_3, a_tw01_4, n_tw01_4, c_tw01_4, a_tw01_5, n_tw01_5, c_tw01_5, rfl⟩ := o_tw01.r.shape
        have z_tw01 := gt_tw01.size
        (try replace o_tw00 := o_tw00.keep0 gt_tw01)
        (try replace o_w0 := o_w0.keep0 gt_tw01)
        (try replace bq_w0 := bq_w0.keep0 gt_tw01)
        (try replace bs_w0 := bs_w0.keep0 gt_tw01)
        replace gc := gb_trans gc gt_tw01
        skip
        go_wp2_with fail
        refine hK.out _ _ ?_ (fun hHeld2 => ?_)
        · (try dsimp only)
          refine KX.out _ ?_; exact gc
        clear hK K hHeld
        have hHeld := hHeld2
        clear hHeld2
        (try simp only [Act.put]); (try simp only [List.setIfInBounds_toArray]); (try simp only [List.set_cons_succ]); (try simp only [List.set_cons_zero])
        refine wpAnyH_ready (rs := [5]) (by kernel_rfl) (by simp) (AllReadyH.cons rfl (fun K hK => ?_) AllReadyH.nil)
        go_simp
        go_at_call 30
        refine (LS_FinishOf _ _ _ l0 x1 _ f2 _ o_tw00.rd o_tw01.r (show l0.length ≤ 1048576 by have := hN0.out; have := P0.out; omega) (by have := P2.out; omega)).mono ?_
        rintro e wF ⟨v_w0, rfl, o_w0, gF⟩
        obtain ⟨a_w0_0, n_w0_0, c_w0_0, a_w0_1, n_w0_1, c_w0_1, a_w0_2, n_w0_2, c_w0_2, a_w0_3, n_w0_3, c_w0_3, a_w0_4, n_w0_4, c_w0_4, a_w0_5, n_w0_5, c_w0_5, rfl⟩ := o_w0.r.shape
        have zF := gF.size
        (try replace o_tw00 := o_tw00.keep0 gF)
        (try replace o_tw01 := o_tw01.keep0 gF)
        (try replace bq_w0 := bq_w0.keep0 gF)
        (try replace bs_w0 := bs_w0.keep0 gF)
        replace gc := gb_trans gc gF
        skip
        go_wp2_with fail
        refine hK.out _ _ ?_ (fun hHeld2 => ?_)
        · (try dsimp only)
          refine KX.out _ ?_; exact gc
        clear hK K hHeld
        have hHeld := hHeld2
        clear hHeld2
        (try simp only [Act.put]); (try simp only [List.setIfInBounds_toArray]); (try simp only [List.set_cons_succ]); (try simp only [List.set_cons_zero])
        refine wpAnyH_takeD (i := 6) (some 27) (v := ?_) rfl rfl (by kernel_rfl) (by kernel_rfl) (by kernel_rfl) (fun _ _ _ h => h) (Or.inl ⟨by rfl, ?_⟩) (by assumption) ?_
        rotate_left
        (focus (intro w hSw; (try dsimp only at hSw); (first | (go_simp; done) | (go_simp; with_reducible rfl) | with_reducible rfl)))
        (try simp only [Act.put]); (try simp only [List.setIfInBounds_toArray]); (try simp only [List.set_cons_succ]); (try simp only [List.set_cons_zero])
        refine wpAnyH_takeD (i := 7) (some 34) (v := ?_) rfl rfl (by kernel_rfl) (by kernel_rfl) (by kernel_rfl) (fun _ _ _ h => h) (Or.inl ⟨by rfl, ?_⟩) (by assumption) ?_
        rotate_left
        (focus (intro w hSw; (try dsimp only at hSw); (first | (go_simp; done) | (go_simp; with_reducible rfl) | with_reducible rfl)))
        (try simp only [Act.put]); (try simp only [List.setIfInBounds_toArray]); (try simp only [List.set_cons_succ]); (try simp only [List.set_cons_zero])
        refine wpAnyH_takeD (i := 8) (some 35) (v := ?_) rfl rfl (by kernel_rfl) (by kernel_rfl) (by kernel_rfl) (fun _ _ _ h => h) (Or.inl ⟨by rfl, ?_⟩) (by assumption) ?_
        rotate_left
        (focus (intro w hSw; (try dsimp only at hSw); (first | (go_simp; done) | (go_simp; with_reducible rfl) | with_reducible rfl)))
        (try simp only [Act.put]); (try simp only [List.setIfInBounds_toArray]); (try simp only [List.set_cons_succ]); (try simp only [List.set_cons_zero])
        refine wpAnyH_ready (rs := [10]) (by kernel_rfl) (by simp) (AllReadyH.cons rfl (fun K hK => ?_) AllReadyH.nil)
        refine step_stRD rfl rfl 24 (.tmp 8) (.tmp 34) rfl q_w0 _ _ rfl rfl bq_w0 si_Frame rfl (by first | rfl | (simp [Value.oneCell']; done)) ?_
        intro ws_w0 bs_w0 gs_w0
        have zs_w0 := gs_w0.size
        replace o_w0 := o_w0.keepI (gbI.ofRow (B := q_w0) (S := q_w0 + 1) gs_w0 (fun g e => by cases e; omega)) (by omega)
        replace gc := gb_row gc gs_w0 lq_w0
        clear bq_w0
        skip
        refine hK.out _ _ ?_ (fun hHeld2 => ?_)
        · (try dsimp only)
          refine KX.out _ ?_; exact gc
        clear hK K hHeld
        have hHeld := hHeld2
        clear hHeld2
        (try simp only [Act.put]); (try simp only [List.setIfInBounds_toArray]); (try simp only [List.set_cons_succ]); (try simp only [List.set_cons_zero])
        refine wpAnyH_takeD (i := 11) (some 9) (v := ?_) rfl rfl (by kernel_rfl) (by kernel_rfl) (by kernel_rfl) (fun _ _ _ h => h) (Or.inl ⟨by rfl, ?_⟩) (by assumption) ?_
        rotate_left
        (focus (intro w hSw; (try dsimp only at hSw); (first | (go_simp; done) | (go_simp; with_reducible rfl) | with_reducible rfl)))
        (try simp only [Act.put]); (try simp only [List.setIfInBounds_toArray]); (try simp only [List.set_cons_succ]); (try simp only [List.set_cons_zero])
        refine wpAnyH_done (by kernel_rfl) ?_ _
        (try dsimp only)
        refine ⟨q_w0, a_tw00, c_tw00, a_tw01_0, n_tw01_0, c_tw01_0, a_tw01_1, n_tw01_1, c_tw01_1, a_tw01_2, n_tw01_2, c_tw01_2, a_tw01_3, n_tw01_3, c_tw01_3, a_tw01_4, n_tw01_4, c_tw01_4, a_tw01_5, n_tw01_5, c_tw01_5, a_w0_0, n_w0_0, c_w0_0, a_w0_1, n_w0_1, c_w0_1, a_w0_2, n_w0_2, c_w0_2, a_w0_3, n_w0_3, c_w0_3, a_w0_4, n_w0_4, c_w0_4, a_w0_5, n_w0_5, c_w0_5, ?_, _, _, gc, (by omega), (by omega), o_w0, bs_w0, (by omega), (by omega)⟩
        exact rfl
    · refine step_alD rfl (some 8) rfl 24 _ rfl al_Frame ?_
      intro q_w0 wq_w0 hq_w0 bq_w0 ga_w0
      have lq_w0 := Nat.le_trans gc.size hq_w0
      have y_w0 := bq_w0.lt
      have zq_w0 := ga_w0.size
      (try replace o_tw00 := o_tw00.keep0 ga_w0)
      (try replace o_tw01 := o_tw01.keep0 ga_w0)
      (try replace o_w0 := o_w0.keep0 ga_w0)
      replace gc := gb_trans gc ga_w0
      skip
      refine hK.out _ _ ?_ (fun hHeld2 => ?_)
      · (try dsimp only)
        refine KX.out _ ?_; exact gc
      clear hK K hHeld
      have hHeld := hHeld2
      clear hHeld2
      (try simp only [Act.put]); (try simp only [List.setIfInBounds_toArray]); (try simp only [List.set_cons_succ]); (try simp only [List.set_cons_zero])
      refine wpAnyH_ready (rs := [1]) (by kernel_rfl) (by simp) (AllReadyH.cons rfl (fun K hK => ?_) AllReadyH.nil)
      go_simp
      go_at_call 10
      refine (laws_toByteS _ _ _ l0 _ ((hR0.below T1).keep0 (gb_trans (by repeat (first | with_reducible exact gb_refl _ | refine gb_alloc ?_ _ | refine gb_drewN ?_ _ | refine gb_drew ?_)) gc)) (by have := P0.out; omega)).mono ?_
      rintro e wt_tw00 ⟨a_tw00, c_tw00, rfl, o_tw00, gt_tw00⟩
      have z_tw00 := gt_tw00.size
      (try replace o_tw01 := o_tw01.keep0 gt_tw00)
      (try replace o_w0 := o_w0.keep0 gt_tw00)
      (try replace bq_w0 := bq_w0.keep0 gt_tw00)
      (try replace bs_w0 := bs_w0.keep0 gt_tw00)
      replace gc := gb_trans gc gt_tw00
      skip
      go_wp2_with fail
      refine hK.out _ _ ?_ (fun hHeld2 => ?_)
      · (try dsimp only)
        refine KX.out _ ?_; exact gc
      clear hK K hHeld
      have hHeld := hHeld2
      clear hHeld2
      (try simp only [Act.put]); (try simp only [List.setIfInBounds_toArray]); (try simp only [List.set_cons_succ]); (try simp only [List.set_cons_zero])
      refine wpAnyH_ready (rs := [4]) (by kernel_rfl) (by simp) (AllReadyH.cons rfl (fun K hK => ?_) AllReadyH.nil)
      go_simp
      go_at_call 19
      refine (laws_toFrame _ f2 _ ((hR2.below T1).keep0 (gb_trans (by repeat (first | with_reducible exact gb_refl _ | refine gb_alloc ?_ _ | refine gb_drewN ?_ _ | refine gb_drew ?_)) gc)) (by have := P2.out; simp only [FrameM.tot] at this; omega) (by have := P2.out; simp only [FrameM.tot] at this; omega) (by have := P2.out; simp only [FrameM.tot] at this; omega) (by have := P2.out; simp only [FrameM.tot] at this; omega) (by have := P2.out; simp only [FrameM.tot] at this; omega) (by have := P2.out; simp only [FrameM.tot] at this; omega)).mono ?_
      rintro e wt_tw01 ⟨v_tw01, rfl, o_tw01, gt_tw01⟩
      obtain ⟨a_tw01_0, n_tw01_0, c_tw01_0, a_tw01_1, n_tw01_1, c_tw01_1, a_tw01_2, n_tw01_2, c_tw01_2, a_tw01_3, n_tw01_3, c_tw01_3, a_tw01_4, n_tw01_4, c_tw01_4, a_tw01_5, n_tw01_5, c_tw01_5, rfl⟩ := o_tw01.r.shape
      have z_tw01 := gt_tw01.size
      (try replace o_tw00 := o_tw00.keep0 gt_tw01)
      (try replace o_w0 := o_w0.keep0 gt_tw01)
      (try replace bq_w0 := bq_w0.keep0 gt_tw01)
      (try replace bs_w0 := bs_w0.keep0 gt_tw01)
      replace gc := gb_trans gc gt_tw01
      skip
      go_wp2_with fail
      refine hK.out _ _ ?_ (fun hHeld2 => ?_)
      · (try dsimp only)
        refine KX.out _ ?_; exact gc
      clear hK K hHeld
      have hHeld := hHeld2
      clear hHeld2
      (try simp only [Act.put]); (try simp only [List.setIfInBounds_toArray]); (try simp only [List.set_cons_succ]); (try simp only [List.set_cons_zero])
      refine wpAnyH_ready (rs := [5]) (by kernel_rfl) (by simp) (AllReadyH.cons rfl (fun K hK => ?_) AllReadyH.nil)
      go_simp
      go_at_call 30
      refine (LS_FinishOf _ _ _ l0 x1 _ f2 _ o_tw00.rd o_tw01.r (show l0.length ≤ 1048576 by have := hN0.out; have := P0.out; omega) (by have := P2.out; omega)).mono ?_
      rintro e wF ⟨v_w0, rfl, o_w0, gF⟩
      obtain ⟨a_w0_0, n_w0_0, c_w0_0, a_w0_1, n_w0_1, c_w0_1, a_w0_2, n_w0_2, c_w0_2, a_w0_3, n_w0_3, c_w0_3, a_w0_4, n_w0_4, c_w0_4, a_w0_5, n_w0_5, c_w0_5, rfl⟩ := o_w0.r.shape
      have zF := gF.size
      (try replace o_tw00 := o_tw00.keep0 gF)
      (try replace o_tw01 := o_tw01.keep0 gF)
      (try replace bq_w0 := bq_w0.keep0 gF)
      (try replace bs_w0 := bs_w0.keep0 gF)
      replace gc := gb_trans gc gF
      skip
      go_wp2_with fail
      refine hK.out _ _ ?_ (fun hHeld2 => ?_)
      · (try dsimp only)
        refine KX.out _ ?_; exact gc
      clear hK K hHeld
      have hHeld := hHeld2
      clear hHeld2
      (try simp only [Act.put]); (try simp only [List.setIfInBounds_toArray]); (try simp only [List.set_cons_succ]); (try simp only [List.set_cons_zero])
      refine wpAnyH_takeD (i := 6) (some 27) (v := ?_) rfl rfl (by kernel_rfl) (by kernel_rfl) (by kernel_rfl) (fun _ _ _ h => h) (Or.inl ⟨by rfl, ?_⟩) (by assumption) ?_
      rotate_left
      (focus (intro w hSw; (try dsimp only at hSw); (first | (go_simp; done) | (go_simp; with_reducible rfl) | with_reducible rfl)))
      (try simp only [Act.put]); (try simp only [List.setIfInBounds_toArray]); (try simp only [List.set_cons_succ]); (try simp only [List.set_cons_zero])
      refine wpAnyH_takeD (i := 7) (some 34) (v := ?_) rfl rfl (by kernel_rfl) (by kernel_rfl) (by kernel_rfl) (fun _ _ _ h => h) (Or.inl ⟨by rfl, ?_⟩) (by assumption) ?_
      rotate_left
      (focus (intro w hSw; (try dsimp only at hSw); (first | (go_simp; done) | (go_simp; with_reducible rfl) | with_reducible rfl)))
      (try simp only [Act.put]); (try simp only [List.setIfInBounds_toArray]); (try simp only [List.set_cons_succ]); (try simp only [List.set_cons_zero])
      refine wpAnyH_takeD (i := 8) (some 35) (v := ?_) rfl rfl (by kernel_rfl) (by kernel_rfl) (by kernel_rfl) (fun _ _ _ h => h) (Or.inl ⟨by rfl, ?_⟩) (by assumption) ?_
      rotate_left
      (focus (intro w hSw; (try dsimp only at hSw); (first | (go_simp; done) | (go_simp; with_reducible rfl) | with_reducible rfl)))
      (try simp only [Act.put]); (try simp only [List.setIfInBounds_toArray]); (try simp only [List.set_cons_succ]); (try simp only [List.set_cons_zero])
      refine wpAnyH_ready (rs := [10]) (by kernel_rfl) (by simp) (AllReadyH.cons rfl (fun K hK => ?_) AllReadyH.nil)
      refine step_stRD rfl rfl 24 (.tmp 8) (.tmp 34) rfl q_w0 _ _ rfl rfl bq_w0 si_Frame rfl (by first | rfl | (simp [Value.oneCell']; done)) ?_
      intro ws_w0 bs_w0 gs_w0
      have zs_w0 := gs_w0.size
      replace o_w0 := o_w0.keepI (gbI.ofRow (B := q_w0) (S := q_w0 + 1) gs_w0 (fun g e => by cases e; omega)) (by omega)
      replace gc := gb_row gc gs_w0 lq_w0
      clear bq_w0
      skip
      refine hK.out _ _ ?_ (fun hHeld2 => ?_)
      · (try dsimp only)
        refine KX.out _ ?_; exact gc
      clear hK K hHeld
      have hHeld := hHeld2
      clear hHeld2
      (try simp only [Act.put]); (try simp only [List.setIfInBounds_toArray]); (try simp only [List.set_cons_succ]); (try simp only [List.set_cons_zero])
      refine wpAnyH_takeD (i := 11) (some 9) (v := ?_) rfl rfl (by kernel_rfl) (by kernel_rfl) (by kernel_rfl) (fun _ _ _ h => h) (Or.inl ⟨by rfl, ?_⟩) (by assumption) ?_
      rotate_left
      (focus (intro w hSw; (try dsimp only at hSw); (first | (go_simp; done) | (go_simp; with_reducible rfl) | with_reducible rfl)))
      (try simp only [Act.put]); (try simp only [List.setIfInBounds_toArray]); (try simp only [List.set_cons_succ]); (try simp only [List.set_cons_zero])
      refine wpAnyH_done (by kernel_rfl) ?_ _
      (try dsimp only)
      refine ⟨q_w0, a_tw00, c_tw00, a_tw01_0, n_tw01_0, c_tw01_0, a_tw01_1, n_tw01_1, c_tw01_1, a_tw01_2, n_tw01_2, c_tw01_2, a_tw01_3, n_tw01_3, c_tw01_3, a_tw01_4, n_tw01_4, c_tw01_4, a_tw01_5, n_tw01_5, c_tw01_5, a_w0_0, n_w0_0, c_w0_0, a_w0_1, n_w0_1, c_w0_1, a_w0_2, n_w0_2, c_w0_2, a_w0_3, n_w0_3, c_w0_3, a_w0_4, n_w0_4, c_w0_4, a_w0_5, n_w0_5, c_w0_5, ?_, _, _, gc, (by omega), (by omega), o_w0, bs_w0, (by omega), (by omega)⟩
      exact rfl
  rintro q_w0 a_tw00 c_tw00 a_tw01_0 n_tw01_0 c_tw01_0 a_tw01_1 n_tw01_1 c_tw01_1 a_tw01_2 n_tw01_2 c_tw01_2 a_tw01_3 n_tw01_3 c_tw01_3 a_tw01_4 n_tw01_4 c_tw01_4 a_tw01_5 n_tw01_5 c_tw01_5 a_w0_0 n_w0_0 c_w0_0 a_w0_1 n_w0_1 c_w0_1 a_w0_2 n_w0_2 c_w0_2 a_w0_3 n_w0_3 c_w0_3 a_w0_4 n_w0_4 c_w0_4 a_w0_5 n_w0_5 c_w0_5 w2 ⟨Bc_2, Sc_2, g2, lb_2, ls_2, o_w0, bx_w0, nq_w0, lq_w0⟩
  clear KX
  have R2 : w1.grownBy w2 none := gb_trans (by repeat (first | with_reducible exact gb_refl _ | refine gb_alloc ?_ _ | refine gb_drewN ?_ _ | refine gb_drew ?_)) g2
  have T2 : Below w.heap.size w w2 := below_next T1 R2
  have z2 := R2.size
  clear cc_aF
  replace bb_aF := bb_aF.keep0 R2
  have cc_aF := fun o => bb_aF.cell o
  have ll_aF_2 := bb_aF.lt
  have bb_w0 := bx_w0
  clear bx_w0
  have cc_w0 := fun o => bb_w0.cell o
  have ll_w0_2 := bb_w0.lt
  go_wp2_with fail
  refine (laws_toByteS _ _ _ l0 _ ((hR0.below T2).keep0 (by repeat (first | with_reducible exact gb_refl _ | refine gb_alloc ?_ _ | refine gb_drewN ?_ _ | refine gb_drew ?_))) (by have := P0.out; omega)).mono ?_
  rintro e w3 ⟨a_x0, c_x0, rfl, o_x0, g3⟩
  have u_x0 := fun p hp => (o_x0.lt p hp).2
  have R3 : w2.grownBy w3 none := gb_trans (by repeat (first | with_reducible exact gb_refl _ | refine gb_alloc ?_ _ | refine gb_drewN ?_ _ | refine gb_drew ?_)) g3
  have T3 : Below w.heap.size w w3 := below_next T2 R3
  have z3 := R3.size
  replace o_w0 := o_w0.keep0 R3
  clear cc_aF cc_w0
  replace bb_aF := bb_aF.keep0 R3
  replace bb_w0 := bb_w0.keep0 R3
  have cc_aF := fun o => bb_aF.cell o
  have ll_aF_3 := bb_aF.lt
  have cc_w0 := fun o => bb_w0.cell o
  have ll_w0_3 := bb_w0.lt
  replace o_x0 := o_x0.mono (B' := w2.heap.size) (by first | exact Nat.le_refl _ | (simp; done) | (simp; omega))
  go_wp2_with fail
  refine (laws_toFrame _ f2 _ ((hR2.below T3).keep0 (by repeat (first | with_reducible exact gb_refl _ | refine gb_alloc ?_ _ | refine gb_drewN ?_ _ | refine gb_drew ?_))) (by have := P2.out; simp only [FrameM.tot] at this; omega) (by have := P2.out; simp only [FrameM.tot] at this; omega) (by have := P2.out; simp only [FrameM.tot] at this; omega) (by have := P2.out; simp only [FrameM.tot] at this; omega) (by have := P2.out; simp only [FrameM.tot] at this; omega) (by have := P2.out; simp only [FrameM.tot] at this; omega)).mono ?_
  rintro e w4 ⟨v_x2, rfl, o_x2, g4⟩
  obtain ⟨a_x2_0, n_x2_0, c_x2_0, a_x2_1, n_x2_1, c_x2_1, a_x2_2, n_x2_2, c_x2_2, a_x2_3, n_x2_3, c_x2_3, a_x2_4, n_x2_4, c_x2_4, a_x2_5, n_x2_5, c_x2_5, rfl⟩ := o_x2.r.shape
  have R4 : w3.grownBy w4 none := gb_trans (by repeat (first | with_reducible exact gb_refl _ | refine gb_alloc ?_ _ | refine gb_drewN ?_ _ | refine gb_drew ?_)) g4
  have T4 : Below w.heap.size w w4 := below_next T3 R4
  have z4 := R4.size
  replace o_w0 := o_w0.keep0 R4
  replace o_x0 := o_x0.keep0 R4
  clear cc_aF cc_w0
  replace bb_aF := bb_aF.keep0 R4
  replace bb_w0 := bb_w0.keep0 R4
  have cc_aF := fun o => bb_aF.cell o
  have ll_aF_4 := bb_aF.lt
  have cc_w0 := fun o => bb_w0.cell o
  have ll_w0_4 := bb_w0.lt
  replace o_x2 := o_x2.low (B' := w3.heap.size) (by first | exact Nat.le_refl _ | (simp; done) | (simp; omega))
  go_wp2_with fail
  refine (LI_FinishOf _ _ _ l0 x1 _ f2 _ (o_x0.rd.keep0 (by repeat (first | with_reducible exact gb_refl _ | refine gb_alloc ?_ _ | refine gb_drewN ?_ _ | refine gb_drew ?_))) (o_x2.r.keep0 (by repeat (first | with_reducible exact gb_refl _ | refine gb_alloc ?_ _ | refine gb_drewN ?_ _ | refine gb_drew ?_))) (show l0.length ≤ 1048576 by have := hN0.out; have := P0.out; omega) (by have := P2.out; omega)).mono ?_
  rintro e w5 ⟨v_g0, rfl, o_g0, g5⟩
  obtain ⟨a_g0_0, n_g0_0, c_g0_0, a_g0_1, n_g0_1, c_g0_1, a_g0_2, n_g0_2, c_g0_2, a_g0_3, n_g0_3, c_g0_3, a_g0_4, n_g0_4, c_g0_4, a_g0_5, n_g0_5, c_g0_5, rfl⟩ := o_g0.r.shape
  have R5 : w4.grownBy w5 none := gb_trans (by repeat (first | with_reducible exact gb_refl _ | refine gb_alloc ?_ _ | refine gb_drewN ?_ _ | refine gb_drew ?_)) g5
  have T5 : Below w.heap.size w w5 := below_next T4 R5
  have z5 := R5.size
  replace o_w0 := o_w0.keep0 R5
  replace o_x0 := o_x0.keep0 R5
  replace o_x2 := o_x2.keep0 R5
  clear cc_aF cc_w0
  replace bb_aF := bb_aF.keep0 R5
  replace bb_w0 := bb_w0.keep0 R5
  have bb_x2 : Bx w5 (w4.heap.size) 24 #[.int .i64 f2.kind, .int .i64 f2.id, .slice a_x2_0 n_x2_0 c_x2_0, .slice a_x2_1 n_x2_1 c_x2_1, .int .i64 f2.tick, .slice a_x2_2 n_x2_2 c_x2_2, .slice a_x2_3 n_x2_3 c_x2_3, .int .i64 f2.epoch, .int .i64 f2.seq, .slice a_x2_4 n_x2_4 c_x2_4, .slice a_x2_5 n_x2_5 c_x2_5] := by first | exact (bx1 w4 _ _).keep0 g5 | exact (bx1 w4 _ _).drew.keep0 g5
  have cc_aF := fun o => bb_aF.cell o
  have ll_aF_5 := bb_aF.lt
  have cc_w0 := fun o => bb_w0.cell o
  have ll_w0_5 := bb_w0.lt
  have cc_x2 := fun o => bb_x2.cell o
  have ll_x2_5 := bb_x2.lt
  replace o_g0 := o_g0.low (B' := w4.heap.size + 1) (by first | exact Nat.le_refl _ | (simp; done) | (simp; omega))
  go_wp2_with fail
  refine (laws_eqFrame _ _ (finOfM l0 x1 f2) _ (o_g0.r.keep0 (by repeat (first | with_reducible exact gb_refl _ | refine gb_alloc ?_ _ | refine gb_drewN ?_ _ | refine gb_drew ?_))) (o_w0.r.keep0 (by repeat (first | with_reducible exact gb_refl _ | refine gb_alloc ?_ _ | refine gb_drewN ?_ _ | refine gb_drew ?_))) (by have h9 := (show (finOfM l0 x1 f2).tot ≤ 1048576 from Nat.le_trans (finOfM_tot _ _ _) (by decide)); simp only [FrameM.tot] at h9; omega) (by have h9 := (show (finOfM l0 x1 f2).tot ≤ 1048576 from Nat.le_trans (finOfM_tot _ _ _) (by decide)); simp only [FrameM.tot] at h9; omega) (by have h9 := (show (finOfM l0 x1 f2).tot ≤ 1048576 from Nat.le_trans (finOfM_tot _ _ _) (by decide)); simp only [FrameM.tot] at h9; omega) (by have h9 := (show (finOfM l0 x1 f2).tot ≤ 1048576 from Nat.le_trans (finOfM_tot _ _ _) (by decide)); simp only [FrameM.tot] at h9; omega) (by have h9 := (show (finOfM l0 x1 f2).tot ≤ 1048576 from Nat.le_trans (finOfM_tot _ _ _) (by decide)); simp only [FrameM.tot] at h9; omega) (by have h9 := (show (finOfM l0 x1 f2).tot ≤ 1048576 from Nat.le_trans (finOfM_tot _ _ _) (by decide)); simp only [FrameM.tot] at h9; omega)).mono ?_
  rintro e w6 ⟨rfl, g6⟩
  have R6 : w5.grownBy w6 none := gb_trans (by repeat (first | with_reducible exact gb_refl _ | refine gb_alloc ?_ _ | refine gb_drewN ?_ _ | refine gb_drew ?_)) g6
  have T6 : Below w.heap.size w w6 := below_next T5 R6
  have z6 := R6.size
  replace o_w0 := o_w0.keep0 R6
  replace o_x0 := o_x0.keep0 R6
  replace o_x2 := o_x2.keep0 R6
  replace o_g0 := o_g0.keep0 R6
  clear cc_aF cc_w0 cc_x2
  replace bb_aF := bb_aF.keep0 R6
  replace bb_w0 := bb_w0.keep0 R6
  replace bb_x2 := bb_x2.keep0 R6
  have bb_g0 : Bx w6 (w5.heap.size) 24 #[.int .i64 ((finOfM l0 x1 f2)).kind, .int .i64 ((finOfM l0 x1 f2)).id, .slice a_g0_0 n_g0_0 c_g0_0, .slice a_g0_1 n_g0_1 c_g0_1, .int .i64 ((finOfM l0 x1 f2)).tick, .slice a_g0_2 n_g0_2 c_g0_2, .slice a_g0_3 n_g0_3 c_g0_3, .int .i64 ((finOfM l0 x1 f2)).epoch, .int .i64 ((finOfM l0 x1 f2)).seq, .slice a_g0_4 n_g0_4 c_g0_4, .slice a_g0_5 n_g0_5 c_g0_5] := by first | exact (bx1 w5 _ _).keep0 g6 | exact (bx1 w5 _ _).drew.keep0 g6
  have cc_aF := fun o => bb_aF.cell o
  have ll_aF_6 := bb_aF.lt
  have cc_w0 := fun o => bb_w0.cell o
  have ll_w0_6 := bb_w0.lt
  have cc_x2 := fun o => bb_x2.cell o
  have ll_x2_6 := bb_x2.lt
  have cc_g0 := fun o => bb_g0.cell o
  have ll_g0_6 := bb_g0.lt
  go_wp2_with fail
  refine (laws_toByteS _ _ _ l0 _ ((hR0.below T6).keep0 (by repeat (first | with_reducible exact gb_refl _ | refine gb_alloc ?_ _ | refine gb_drewN ?_ _ | refine gb_drew ?_))) (by have := P0.out; omega)).mono ?_
  rintro e w7 ⟨a_tz_x0, c_tz_x0, rfl, o_tz_x0, g7⟩
  have u_tz_x0 := fun p hp => (o_tz_x0.lt p hp).2
  have R7 : w6.grownBy w7 none := gb_trans (by repeat (first | with_reducible exact gb_refl _ | refine gb_alloc ?_ _ | refine gb_drewN ?_ _ | refine gb_drew ?_)) g7
  have T7 : Below w.heap.size w w7 := below_next T6 R7
  have z7 := R7.size
  replace o_w0 := o_w0.keep0 R7
  replace o_x0 := o_x0.keep0 R7
  replace o_x2 := o_x2.keep0 R7
  replace o_g0 := o_g0.keep0 R7
  clear cc_aF cc_w0 cc_x2 cc_g0
  replace bb_aF := bb_aF.keep0 R7
  replace bb_w0 := bb_w0.keep0 R7
  replace bb_x2 := bb_x2.keep0 R7
  replace bb_g0 := bb_g0.keep0 R7
  have cc_aF := fun o => bb_aF.cell o
  have ll_aF_7 := bb_aF.lt
  have cc_w0 := fun o => bb_w0.cell o
  have ll_w0_7 := bb_w0.lt
  have cc_x2 := fun o => bb_x2.cell o
  have ll_x2_7 := bb_x2.lt
  have cc_g0 := fun o => bb_g0.cell o
  have ll_g0_7 := bb_g0.lt
  replace o_tz_x0 := o_tz_x0.mono (B' := w6.heap.size) (by first | exact Nat.le_refl _ | (simp; done) | (simp; omega))
  go_wp2_with fail
  refine (laws_eqByteS_same _ _ _ _ _ _ _ _ (o_x0.rd.keep0 (by repeat (first | with_reducible exact gb_refl _ | refine gb_alloc ?_ _ | refine gb_drewN ?_ _ | refine gb_drew ?_))) (o_tz_x0.rd.keep0 (by repeat (first | with_reducible exact gb_refl _ | refine gb_alloc ?_ _ | refine gb_drewN ?_ _ | refine gb_drew ?_))) (by have h9 := (show l0.length ≤ 1048576 by have := hN0.out; have := P0.out; omega); omega)).mono ?_
  rintro e w8 ⟨rfl, q8⟩
  have g8 := q8.gb
  have R8 : w7.grownBy w8 none := gb_trans (by repeat (first | with_reducible exact gb_refl _ | refine gb_alloc ?_ _ | refine gb_drewN ?_ _ | refine gb_drew ?_)) g8
  have T8 : Below w.heap.size w w8 := below_next T7 R8
  have z8 := R8.size
  replace o_w0 := o_w0.keep0 R8
  replace o_x0 := o_x0.keep0 R8
  replace o_x2 := o_x2.keep0 R8
  replace o_g0 := o_g0.keep0 R8
  replace o_tz_x0 := o_tz_x0.keep0 R8
  clear cc_aF cc_w0 cc_x2 cc_g0
  replace bb_aF := bb_aF.keep0 R8
  replace bb_w0 := bb_w0.keep0 R8
  replace bb_x2 := bb_x2.keep0 R8
  replace bb_g0 := bb_g0.keep0 R8
  have cc_aF := fun o => bb_aF.cell o
  have ll_aF_8 := bb_aF.lt
  have cc_w0 := fun o => bb_w0.cell o
  have ll_w0_8 := bb_w0.lt
  have cc_x2 := fun o => bb_x2.cell o
  have ll_x2_8 := bb_x2.lt
  have cc_g0 := fun o => bb_g0.cell o
  have ll_g0_8 := bb_g0.lt
  clear o_tz_x0 u_tz_x0
  go_wp2_with fail
  have KX : Hid (∀ w', w8.grownBy w' none → (w'.cell? ⟨w.heap.size, 0, none⟩ = some (.int .i64 f2.kind) ∧ w'.cell? ⟨w.heap.size, 1, none⟩ = some (.int .i64 f2.id) ∧ w'.cell? ⟨w.heap.size, 2, none⟩ = some (.slice a2_0 n2_0 c2_0) ∧ w'.cell? ⟨w.heap.size, 3, none⟩ = some (.slice a2_1 n2_1 c2_1) ∧ w'.cell? ⟨w.heap.size, 4, none⟩ = some (.int .i64 f2.tick) ∧ w'.cell? ⟨w.heap.size, 5, none⟩ = some (.slice a2_2 n2_2 c2_2) ∧ w'.cell? ⟨w.heap.size, 6, none⟩ = some (.slice a2_3 n2_3 c2_3) ∧ w'.cell? ⟨w.heap.size, 7, none⟩ = some (.int .i64 f2.epoch) ∧ w'.cell? ⟨w.heap.size, 8, none⟩ = some (.int .i64 f2.seq) ∧ w'.cell? ⟨w.heap.size, 9, none⟩ = some (.slice a2_4 n2_4 c2_4) ∧ w'.cell? ⟨w.heap.size, 10, none⟩ = some (.slice a2_5 n2_5 c2_5) ∧ w'.cell? ⟨w4.heap.size, 0, none⟩ = some (.int .i64 f2.kind) ∧ w'.cell? ⟨w4.heap.size, 1, none⟩ = some (.int .i64 f2.id) ∧ w'.cell? ⟨w4.heap.size, 2, none⟩ = some (.slice a_x2_0 n_x2_0 c_x2_0) ∧ w'.cell? ⟨w4.heap.size, 3, none⟩ = some (.slice a_x2_1 n_x2_1 c_x2_1) ∧ w'.cell? ⟨w4.heap.size, 4, none⟩ = some (.int .i64 f2.tick) ∧ w'.cell? ⟨w4.heap.size, 5, none⟩ = some (.slice a_x2_2 n_x2_2 c_x2_2) ∧ w'.cell? ⟨w4.heap.size, 6, none⟩ = some (.slice a_x2_3 n_x2_3 c_x2_3) ∧ w'.cell? ⟨w4.heap.size, 7, none⟩ = some (.int .i64 f2.epoch) ∧ w'.cell? ⟨w4.heap.size, 8, none⟩ = some (.int .i64 f2.seq) ∧ w'.cell? ⟨w4.heap.size, 9, none⟩ = some (.slice a_x2_4 n_x2_4 c_x2_4) ∧ w'.cell? ⟨w4.heap.size, 10, none⟩ = some (.slice a_x2_5 n_x2_5 c_x2_5) ∧ w8.grownBy w' none)) :=
    fun w' hg => ⟨(bb_aF.keep0 hg).cell 0, (bb_aF.keep0 hg).cell 1, (bb_aF.keep0 hg).cell 2, (bb_aF.keep0 hg).cell 3, (bb_aF.keep0 hg).cell 4, (bb_aF.keep0 hg).cell 5, (bb_aF.keep0 hg).cell 6, (bb_aF.keep0 hg).cell 7, (bb_aF.keep0 hg).cell 8, (bb_aF.keep0 hg).cell 9, (bb_aF.keep0 hg).cell 10, (bb_x2.keep0 hg).cell 0, (bb_x2.keep0 hg).cell 1, (bb_x2.keep0 hg).cell 2, (bb_x2.keep0 hg).cell 3, (bb_x2.keep0 hg).cell 4, (bb_x2.keep0 hg).cell 5, (bb_x2.keep0 hg).cell 6, (bb_x2.keep0 hg).cell 7, (bb_x2.keep0 hg).cell 8, (bb_x2.keep0 hg).cell 9, (bb_x2.keep0 hg).cell 10, hg⟩
  clear cc_aF cc_w0 cc_x2 cc_g0
  go_region_held3 (fun w' => w'.cell? ⟨w.heap.size, 0, none⟩ = some (.int .i64 f2.kind) ∧ w'.cell? ⟨w.heap.size, 1, none⟩ = some (.int .i64 f2.id) ∧ w'.cell? ⟨w.heap.size, 2, none⟩ = some (.slice a2_0 n2_0 c2_0) ∧ w'.cell? ⟨w.heap.size, 3, none⟩ = some (.slice a2_1 n2_1 c2_1) ∧ w'.cell? ⟨w.heap.size, 4, none⟩ = some (.int .i64 f2.tick) ∧ w'.cell? ⟨w.heap.size, 5, none⟩ = some (.slice a2_2 n2_2 c2_2) ∧ w'.cell? ⟨w.heap.size, 6, none⟩ = some (.slice a2_3 n2_3 c2_3) ∧ w'.cell? ⟨w.heap.size, 7, none⟩ = some (.int .i64 f2.epoch) ∧ w'.cell? ⟨w.heap.size, 8, none⟩ = some (.int .i64 f2.seq) ∧ w'.cell? ⟨w.heap.size, 9, none⟩ = some (.slice a2_4 n2_4 c2_4) ∧ w'.cell? ⟨w.heap.size, 10, none⟩ = some (.slice a2_5 n2_5 c2_5) ∧ w'.cell? ⟨w4.heap.size, 0, none⟩ = some (.int .i64 f2.kind) ∧ w'.cell? ⟨w4.heap.size, 1, none⟩ = some (.int .i64 f2.id) ∧ w'.cell? ⟨w4.heap.size, 2, none⟩ = some (.slice a_x2_0 n_x2_0 c_x2_0) ∧ w'.cell? ⟨w4.heap.size, 3, none⟩ = some (.slice a_x2_1 n_x2_1 c_x2_1) ∧ w'.cell? ⟨w4.heap.size, 4, none⟩ = some (.int .i64 f2.tick) ∧ w'.cell? ⟨w4.heap.size, 5, none⟩ = some (.slice a_x2_2 n_x2_2 c_x2_2) ∧ w'.cell? ⟨w4.heap.size, 6, none⟩ = some (.slice a_x2_3 n_x2_3 c_x2_3) ∧ w'.cell? ⟨w4.heap.size, 7, none⟩ = some (.int .i64 f2.epoch) ∧ w'.cell? ⟨w4.heap.size, 8, none⟩ = some (.int .i64 f2.seq) ∧ w'.cell? ⟨w4.heap.size, 9, none⟩ = some (.slice a_x2_4 n_x2_4 c_x2_4) ∧ w'.cell? ⟨w4.heap.size, 10, none⟩ = some (.slice a_x2_5 n_x2_5 c_x2_5) ∧ w8.grownBy w' none)
    ((refine KX.out _ ?_; first | exact gb_drew (gb_refl _) | exact gb_trans (gb_trans (gb_drew (gb_refl _)) g9a) g9b | exact gb_trans (gb_drew (gb_refl _)) g9a))
    (first
      | (go_at_call 19; refine (laws_toFrame _ f2 _ ((hR2.below T8).keep0 (gb_drew (gb_refl _))) (by have := P2.out; simp only [FrameM.tot] at this; omega) (by have := P2.out; simp only [FrameM.tot] at this; omega) (by have := P2.out; simp only [FrameM.tot] at this; omega) (by have := P2.out; simp only [FrameM.tot] at this; omega) (by have := P2.out; simp only [FrameM.tot] at this; omega) (by have := P2.out; simp only [FrameM.tot] at this; omega)).mono ?_; rintro e wy9 ⟨vy, rfl, oy, g9a⟩; obtain ⟨a_yx2_0, n_yx2_0, c_yx2_0, a_yx2_1, n_yx2_1, c_yx2_1, a_yx2_2, n_yx2_2, c_yx2_2, a_yx2_3, n_yx2_3, c_yx2_3, a_yx2_4, n_yx2_4, c_yx2_4, a_yx2_5, n_yx2_5, c_yx2_5, rfl⟩ := oy.r.shape)
      | (go_at_call 12; refine (laws_eqFrame _ _ f2 _ (o_x2.r.keep0 (gb_trans (gb_drew (gb_refl _)) g9a)) oy.r (by have h9 := (by have := P2.out; omega); simp only [FrameM.tot] at h9; omega) (by have h9 := (by have := P2.out; omega); simp only [FrameM.tot] at h9; omega) (by have h9 := (by have := P2.out; omega); simp only [FrameM.tot] at h9; omega) (by have h9 := (by have := P2.out; omega); simp only [FrameM.tot] at h9; omega) (by have h9 := (by have := P2.out; omega); simp only [FrameM.tot] at h9; omega) (by have h9 := (by have := P2.out; omega); simp only [FrameM.tot] at h9; omega)).mono ?_; rintro e w9 ⟨rfl, g9b⟩))
  have g9 := gb_trans g9a g9b
  have cc_aF : True := trivial
  have cc_w0 : True := trivial
  have cc_x2 : True := trivial
  have cc_g0 : True := trivial
  have R9 : w8.grownBy w9 none := gb_trans (gb_drew (gb_refl _)) (gb_trans g9a g9b)
  have T9 : Below w.heap.size w w9 := below_next T8 R9
  have z9 := R9.size
  replace o_w0 := o_w0.keep0 R9
  replace o_x0 := o_x0.keep0 R9
  replace o_x2 := o_x2.keep0 R9
  replace o_g0 := o_g0.keep0 R9
  clear cc_aF cc_w0 cc_x2 cc_g0
  replace bb_aF := bb_aF.keep0 R9
  replace bb_w0 := bb_w0.keep0 R9
  replace bb_x2 := bb_x2.keep0 R9
  replace bb_g0 := bb_g0.keep0 R9
  have cc_aF := fun o => bb_aF.cell o
  have ll_aF_9 := bb_aF.lt
  have cc_w0 := fun o => bb_w0.cell o
  have ll_w0_9 := bb_w0.lt
  have cc_x2 := fun o => bb_x2.cell o
  have ll_x2_9 := bb_x2.lt
  have cc_g0 := fun o => bb_g0.cell o
  have ll_g0_9 := bb_g0.lt
  clear KX oy
  go_wp2_with fail
  refine (laws_markByteS (w2.heap.size) _ _ _ (1) _ _ (o_x0.keep0 (by repeat (first | with_reducible exact gb_refl _ | refine gb_alloc ?_ _ | refine gb_drewN ?_ _ | refine gb_drew ?_))) (by have h9 := (show l0.length ≤ 1048576 by have := hN0.out; have := P0.out; omega); have h8 := o_x0.blen; omega)).mono ?_
  rintro e w10 ⟨rfl, z_x0, r10⟩
  have g10 := gbI.ofRow (B := w2.heap.size) (S := w3.heap.size) r10 (fun g hg => by obtain ⟨p, hp, rfl⟩ := row_of hg; exact ⟨(o_x0.lt p hp).1, u_x0 p hp⟩)
  have e_x0_10 := Lib.hid o_x0.blen
  replace o_x0 := z_x0
  clear z_x0
  have R10 : gbI (w2.heap.size) (w3.heap.size) w9 w10 := (gbI.of0 (by repeat (first | with_reducible exact gb_refl _ | refine gb_alloc ?_ _ | refine gb_drewN ?_ _ | refine gb_drew ?_))).trans g10
  have T10 : Below w.heap.size w w10 := below_nextI T9 R10 (by omega)
  have z10 := R10.size
  replace o_w0 := o_w0.keepI R10 (by omega)
  replace o_x2 := o_x2.keepI R10 (by omega)
  replace o_g0 := o_g0.keepI R10 (by omega)
  clear cc_aF cc_w0 cc_x2 cc_g0
  replace bb_aF := bb_aF.keepI R10 (by have := bb_aF.lt; omega)
  replace bb_w0 := bb_w0.keepI R10 (by have := bb_w0.lt; omega)
  replace bb_x2 := bb_x2.keepI R10 (by have := bb_x2.lt; omega)
  replace bb_g0 := bb_g0.keepI R10 (by have := bb_g0.lt; omega)
  have cc_aF := fun o => bb_aF.cell o
  have ll_aF_10 := bb_aF.lt
  have cc_w0 := fun o => bb_w0.cell o
  have ll_w0_10 := bb_w0.lt
  have cc_x2 := fun o => bb_x2.cell o
  have ll_x2_10 := bb_x2.lt
  have cc_g0 := fun o => bb_g0.cell o
  have ll_g0_10 := bb_g0.lt
  go_wp2_with fail
  refine (laws_markFrame (w3.heap.size) (w4.heap.size) _ f2 (1 + n0) _ (o_x2.keep0 (by repeat (first | with_reducible exact gb_refl _ | refine gb_alloc ?_ _ | refine gb_drewN ?_ _ | refine gb_drew ?_))) (by have h9 := (by have := P2.out; omega); have := (show l0.length ≤ 1048576 by have := hN0.out; have := P0.out; omega); have := e_x0_10.out; omega)).mono ?_
  rintro e w11 ⟨rfl, z_x2, g11⟩
  replace o_x2 := z_x2
  clear z_x2
  have R11 : gbI (w3.heap.size) (w4.heap.size) w10 w11 := (gbI.of0 (by repeat (first | with_reducible exact gb_refl _ | refine gb_alloc ?_ _ | refine gb_drewN ?_ _ | refine gb_drew ?_))).trans g11
  have T11 : Below w.heap.size w w11 := below_nextI T10 R11 (by omega)
  have z11 := R11.size
  replace o_w0 := o_w0.keepI R11 (by omega)
  replace o_x0 := o_x0.keepI R11 (fun p hp => by have := u_x0 p hp; have := (o_x0.lt p hp).1; omega)
  replace o_g0 := o_g0.keepI R11 (by omega)
  clear cc_aF cc_w0 cc_x2 cc_g0
  replace bb_aF := bb_aF.keepI R11 (by have := bb_aF.lt; omega)
  replace bb_w0 := bb_w0.keepI R11 (by have := bb_w0.lt; omega)
  replace bb_x2 := bb_x2.keepI R11 (by have := bb_x2.lt; omega)
  replace bb_g0 := bb_g0.keepI R11 (by have := bb_g0.lt; omega)
  have cc_aF := fun o => bb_aF.cell o
  have ll_aF_11 := bb_aF.lt
  have cc_w0 := fun o => bb_w0.cell o
  have ll_w0_11 := bb_w0.lt
  have cc_x2 := fun o => bb_x2.cell o
  have ll_x2_11 := bb_x2.lt
  have cc_g0 := fun o => bb_g0.cell o
  have ll_g0_11 := bb_g0.lt
  go_wp2_with fail
  refine (laws_eqFrame _ _ (finOfM l0 x1 f2) _ (o_g0.r.keep0 (by repeat (first | with_reducible exact gb_refl _ | refine gb_alloc ?_ _ | refine gb_drewN ?_ _ | refine gb_drew ?_))) (o_w0.r.keep0 (by repeat (first | with_reducible exact gb_refl _ | refine gb_alloc ?_ _ | refine gb_drewN ?_ _ | refine gb_drew ?_))) (by have h9 := (show (finOfM l0 x1 f2).tot ≤ 1048576 from Nat.le_trans (finOfM_tot _ _ _) (by decide)); simp only [FrameM.tot] at h9; omega) (by have h9 := (show (finOfM l0 x1 f2).tot ≤ 1048576 from Nat.le_trans (finOfM_tot _ _ _) (by decide)); simp only [FrameM.tot] at h9; omega) (by have h9 := (show (finOfM l0 x1 f2).tot ≤ 1048576 from Nat.le_trans (finOfM_tot _ _ _) (by decide)); simp only [FrameM.tot] at h9; omega) (by have h9 := (show (finOfM l0 x1 f2).tot ≤ 1048576 from Nat.le_trans (finOfM_tot _ _ _) (by decide)); simp only [FrameM.tot] at h9; omega) (by have h9 := (show (finOfM l0 x1 f2).tot ≤ 1048576 from Nat.le_trans (finOfM_tot _ _ _) (by decide)); simp only [FrameM.tot] at h9; omega) (by have h9 := (show (finOfM l0 x1 f2).tot ≤ 1048576 from Nat.le_trans (finOfM_tot _ _ _) (by decide)); simp only [FrameM.tot] at h9; omega)).mono ?_
  rintro e w12 ⟨rfl, g12⟩
  have R12 : w11.grownBy w12 none := gb_trans (by repeat (first | with_reducible exact gb_refl _ | refine gb_alloc ?_ _ | refine gb_drewN ?_ _ | refine gb_drew ?_)) g12
  have T12 : Below w.heap.size w w12 := below_next T11 R12
  have z12 := R12.size
  replace o_w0 := o_w0.keep0 R12
  replace o_x0 := o_x0.keep0 R12
  replace o_x2 := o_x2.keep0 R12
  replace o_g0 := o_g0.keep0 R12
  clear cc_aF cc_w0 cc_x2 cc_g0
  replace bb_aF := bb_aF.keep0 R12
  replace bb_w0 := bb_w0.keep0 R12
  replace bb_x2 := bb_x2.keep0 R12
  replace bb_g0 := bb_g0.keep0 R12
  have cc_aF := fun o => bb_aF.cell o
  have ll_aF_12 := bb_aF.lt
  have cc_w0 := fun o => bb_w0.cell o
  have ll_w0_12 := bb_w0.lt
  have cc_x2 := fun o => bb_x2.cell o
  have ll_x2_12 := bb_x2.lt
  have cc_g0 := fun o => bb_g0.cell o
  have ll_g0_12 := bb_g0.lt
  go_wp2_with fail
  refine (laws_markFrame (w4.heap.size + 1) (w5.heap.size) _ ((finOfM l0 x1 f2)) (1) _ (o_g0.keep0 (by repeat (first | with_reducible exact gb_refl _ | refine gb_alloc ?_ _ | refine gb_drewN ?_ _ | refine gb_drew ?_))) (by have h9 := (show (finOfM l0 x1 f2).tot ≤ 1048576 from Nat.le_trans (finOfM_tot _ _ _) (by decide)); omega)).mono ?_
  rintro e w13 ⟨rfl, z_g0, g13⟩
  replace o_g0 := z_g0
  clear z_g0
  have R13 : gbI (w4.heap.size + 1) (w5.heap.size) w12 w13 := (gbI.of0 (by repeat (first | with_reducible exact gb_refl _ | refine gb_alloc ?_ _ | refine gb_drewN ?_ _ | refine gb_drew ?_))).trans g13
  have T13 : Below w.heap.size w w13 := below_nextI T12 R13 (by omega)
  have z13 := R13.size
  replace o_w0 := o_w0.keepI R13 (by omega)
  replace o_x0 := o_x0.keepI R13 (fun p hp => by have := u_x0 p hp; have := (o_x0.lt p hp).1; omega)
  replace o_x2 := o_x2.keepI R13 (by omega)
  clear cc_aF cc_w0 cc_x2 cc_g0
  replace bb_aF := bb_aF.keepI R13 (by have := bb_aF.lt; omega)
  replace bb_w0 := bb_w0.keepI R13 (by have := bb_w0.lt; omega)
  replace bb_x2 := bb_x2.keepI R13 (by have := bb_x2.lt; omega)
  replace bb_g0 := bb_g0.keepI R13 (by have := bb_g0.lt; omega)
  have cc_aF := fun o => bb_aF.cell o
  have ll_aF_13 := bb_aF.lt
  have cc_w0 := fun o => bb_w0.cell o
  have ll_w0_13 := bb_w0.lt
  have cc_x2 := fun o => bb_x2.cell o
  have ll_x2_13 := bb_x2.lt
  have cc_g0 := fun o => bb_g0.cell o
  have ll_g0_13 := bb_g0.lt
  go_wp2_with fail
  refine (laws_heldFrame _ ((finOfM l0 x1 f2)) (1) _ (o_g0.r.keep0 (by repeat (first | with_reducible exact gb_refl _ | refine gb_alloc ?_ _ | refine gb_drewN ?_ _ | refine gb_drew ?_))) (by have h9 := (show (finOfM l0 x1 f2).tot ≤ 1048576 from Nat.le_trans (finOfM_tot _ _ _) (by decide)); have := (show (finOfM l0 x1 f2).tot ≤ 1048576 from Nat.le_trans (finOfM_tot _ _ _) (by decide)); omega)).mono ?_
  rintro e w14 ⟨rfl, g14⟩
  have R14 : w13.grownBy w14 none := gb_trans (by repeat (first | with_reducible exact gb_refl _ | refine gb_alloc ?_ _ | refine gb_drewN ?_ _ | refine gb_drew ?_)) g14
  have T14 : Below w.heap.size w w14 := below_next T13 R14
  have z14 := R14.size
  replace o_w0 := o_w0.keep0 R14
  replace o_x0 := o_x0.keep0 R14
  replace o_x2 := o_x2.keep0 R14
  replace o_g0 := o_g0.keep0 R14
  clear cc_aF cc_w0 cc_x2 cc_g0
  replace bb_aF := bb_aF.keep0 R14
  replace bb_w0 := bb_w0.keep0 R14
  replace bb_x2 := bb_x2.keep0 R14
  replace bb_g0 := bb_g0.keep0 R14
  have cc_aF := fun o => bb_aF.cell o
  have ll_aF_14 := bb_aF.lt
  have cc_w0 := fun o => bb_w0.cell o
  have ll_w0_14 := bb_w0.lt
  have cc_x2 := fun o => bb_x2.cell o
  have ll_x2_14 := bb_x2.lt
  have cc_g0 := fun o => bb_g0.cell o
  have ll_g0_14 := bb_g0.lt
  go_wp2_with fail
  have KX : Hid (∀ w', w14.grownBy w' none → (w'.cell? ⟨w.heap.size, 0, none⟩ = some (.int .i64 f2.kind) ∧ w'.cell? ⟨w.heap.size, 1, none⟩ = some (.int .i64 f2.id) ∧ w'.cell? ⟨w.heap.size, 2, none⟩ = some (.slice a2_0 n2_0 c2_0) ∧ w'.cell? ⟨w.heap.size, 3, none⟩ = some (.slice a2_1 n2_1 c2_1) ∧ w'.cell? ⟨w.heap.size, 4, none⟩ = some (.int .i64 f2.tick) ∧ w'.cell? ⟨w.heap.size, 5, none⟩ = some (.slice a2_2 n2_2 c2_2) ∧ w'.cell? ⟨w.heap.size, 6, none⟩ = some (.slice a2_3 n2_3 c2_3) ∧ w'.cell? ⟨w.heap.size, 7, none⟩ = some (.int .i64 f2.epoch) ∧ w'.cell? ⟨w.heap.size, 8, none⟩ = some (.int .i64 f2.seq) ∧ w'.cell? ⟨w.heap.size, 9, none⟩ = some (.slice a2_4 n2_4 c2_4) ∧ w'.cell? ⟨w.heap.size, 10, none⟩ = some (.slice a2_5 n2_5 c2_5) ∧ w14.grownBy w' none)) :=
    fun w' hg => ⟨(bb_aF.keep0 hg).cell 0, (bb_aF.keep0 hg).cell 1, (bb_aF.keep0 hg).cell 2, (bb_aF.keep0 hg).cell 3, (bb_aF.keep0 hg).cell 4, (bb_aF.keep0 hg).cell 5, (bb_aF.keep0 hg).cell 6, (bb_aF.keep0 hg).cell 7, (bb_aF.keep0 hg).cell 8, (bb_aF.keep0 hg).cell 9, (bb_aF.keep0 hg).cell 10, hg⟩
  clear cc_aF cc_w0 cc_x2 cc_g0
  have cc_aF : True := trivial
  have cc_w0 : True := trivial
  have cc_x2 : True := trivial
  have cc_g0 : True := trivial
  refine' cut15 _ (fun q_h0 a_th00 c_th00 a_th01_0 n_th01_0 c_th01_0 a_th01_1 n_th01_1 c_th01_1 a_th01_2 n_th01_2 c_th01_2 a_th01_3 n_th01_3 c_th01_3 a_th01_4 n_th01_4 c_th01_4 a_th01_5 n_th01_5 c_th01_5 a_h0_0 n_h0_0 c_h0_0 a_h0_1 n_h0_1 c_h0_1 a_h0_2 n_h0_2 c_h0_2 a_h0_3 n_h0_3 c_h0_3 a_h0_4 n_h0_4 c_h0_4 a_h0_5 n_h0_5 c_h0_5 w' => ∃ Bc Sc : Nat, w14.grownBy w' none ∧ w14.heap.size ≤ Bc ∧ Sc ≤ w'.heap.size ∧ FrameO Bc Sc w' (.agg #[.int .i64 ((finOfM l0 x1 f2)).kind, .int .i64 ((finOfM l0 x1 f2)).id, .slice a_h0_0 n_h0_0 c_h0_0, .slice a_h0_1 n_h0_1 c_h0_1, .int .i64 ((finOfM l0 x1 f2)).tick, .slice a_h0_2 n_h0_2 c_h0_2, .slice a_h0_3 n_h0_3 c_h0_3, .int .i64 ((finOfM l0 x1 f2)).epoch, .int .i64 ((finOfM l0 x1 f2)).seq, .slice a_h0_4 n_h0_4 c_h0_4, .slice a_h0_5 n_h0_5 c_h0_5]) ((finOfM l0 x1 f2)) ∧ Bx w' q_h0 24 #[.int .i64 ((finOfM l0 x1 f2)).kind, .int .i64 ((finOfM l0 x1 f2)).id, .slice a_h0_0 n_h0_0 c_h0_0, .slice a_h0_1 n_h0_1 c_h0_1, .int .i64 ((finOfM l0 x1 f2)).tick, .slice a_h0_2 n_h0_2 c_h0_2, .slice a_h0_3 n_h0_3 c_h0_3, .int .i64 ((finOfM l0 x1 f2)).epoch, .int .i64 ((finOfM l0 x1 f2)).seq, .slice a_h0_4 n_h0_4 c_h0_4, .slice a_h0_5 n_h0_5 c_h0_5] ∧ (q_h0 < Bc ∨ Sc ≤ q_h0) ∧ w14.heap.size ≤ q_h0) ?br15 ?rest15
  case br15 =>
    have gc := gb_drew (gb_refl w14)
    have zD : (World.drew w14).heap.size = w14.heap.size := rfl
    have zD2 : w14.heap.size = w14.heap.size := by first | rfl | (simp; done)
    refine wp_region_held_drew (S := fun w' => w'.cell? ⟨w.heap.size, 0, none⟩ = some (.int .i64 f2.kind) ∧ w'.cell? ⟨w.heap.size, 1, none⟩ = some (.int .i64 f2.id) ∧ w'.cell? ⟨w.heap.size, 2, none⟩ = some (.slice a2_0 n2_0 c2_0) ∧ w'.cell? ⟨w.heap.size, 3, none⟩ = some (.slice a2_1 n2_1 c2_1) ∧ w'.cell? ⟨w.heap.size, 4, none⟩ = some (.int .i64 f2.tick) ∧ w'.cell? ⟨w.heap.size, 5, none⟩ = some (.slice a2_2 n2_2 c2_2) ∧ w'.cell? ⟨w.heap.size, 6, none⟩ = some (.slice a2_3 n2_3 c2_3) ∧ w'.cell? ⟨w.heap.size, 7, none⟩ = some (.int .i64 f2.epoch) ∧ w'.cell? ⟨w.heap.size, 8, none⟩ = some (.int .i64 f2.seq) ∧ w'.cell? ⟨w.heap.size, 9, none⟩ = some (.slice a2_4 n2_4 c2_4) ∧ w'.cell? ⟨w.heap.size, 10, none⟩ = some (.slice a2_5 n2_5 c2_5) ∧ w14.grownBy w' none) (by kernel_rfl) ?_ (fun hHeld => ?_)
    · (try dsimp only)
      refine KX.out _ ?_; exact gc
    refine wpAnyH_takeD (i := 0) (some 97) (v := ?_) rfl rfl (by kernel_rfl) (by kernel_rfl) (by kernel_rfl) (fun _ _ _ h => h) (Or.inl ⟨by rfl, ?_⟩) (by assumption) ?_
    rotate_left
    (focus (intro w hSw; (try dsimp only at hSw); (first | (go_simp; done) | (go_simp; with_reducible rfl) | with_reducible rfl)))
    (try simp only [Act.put]); (try simp only [List.setIfInBounds_toArray]); (try simp only [List.set_cons_succ]); (try simp only [List.set_cons_zero])
    refine wpAnyH_takeD (i := 2) (some 99) (v := ?_) rfl rfl (by kernel_rfl) (by kernel_rfl) (by kernel_rfl) (fun _ _ _ h => h) (Or.inl ⟨by rfl, ?_⟩) (by assumption) ?_
    rotate_left
    (focus (intro w hSw; (try dsimp only at hSw); (first | (go_simp; done) | (go_simp; with_reducible rfl) | with_reducible rfl)))
    (try simp only [Act.put]); (try simp only [List.setIfInBounds_toArray]); (try simp only [List.set_cons_succ]); (try simp only [List.set_cons_zero])
    refine wpAnyH_takeD (i := 3) (some 100) (v := ?_) rfl rfl (by kernel_rfl) (by kernel_rfl) (by kernel_rfl) (fun _ _ _ h => h) (Or.inl ⟨by rfl, ?_⟩) (by assumption) ?_
    rotate_left
    (focus (intro w hSw; (try dsimp only at hSw); (first | (go_simp; done) | (go_simp; with_reducible rfl) | with_reducible rfl)))
    (try simp only [Act.put]); (try simp only [List.setIfInBounds_toArray]); (try simp only [List.set_cons_succ]); (try simp only [List.set_cons_zero])
    refine wpAnyH_ready (rs := [1, 9]) (by kernel_rfl) (by simp) (AllReadyH.cons rfl (fun K hK => ?_) (AllReadyH.cons rfl (fun K hK => ?_) AllReadyH.nil))
    · go_simp
      go_at_call 10
      refine (laws_toByteS _ _ _ l0 _ ((hR0.below T14).keep0 (gb_trans (by repeat (first | with_reducible exact gb_refl _ | refine gb_alloc ?_ _ | refine gb_drewN ?_ _ | refine gb_drew ?_)) gc)) (by have := P0.out; omega)).mono ?_
      rintro e wt_th00 ⟨a_th00, c_th00, rfl, o_th00, gt_th00⟩
      have z_th00 := gt_th00.size
      (try replace o_th01 := o_th01.keep0 gt_th00)
      (try replace o_h0 := o_h0.keep0 gt_th00)
      (try replace bq_h0 := bq_h0.keep0 gt_th00)
      (try replace bs_h0 := bs_h0.keep0 gt_th00)
      replace gc := gb_trans gc gt_th00
      skip
      go_wp2_with fail
      refine hK.out _ _ ?_ (fun hHeld2 => ?_)
      · (try dsimp only)
        refine KX.out _ ?_; exact gc
      clear hK K hHeld
      have hHeld := hHeld2
      clear hHeld2
      (try simp only [Act.put]); (try simp only [List.setIfInBounds_toArray]); (try simp only [List.set_cons_succ]); (try simp only [List.set_cons_zero])
      refine wpAnyH_ready (rs := [4, 9]) (by kernel_rfl) (by simp) (AllReadyH.cons rfl (fun K hK => ?_) (AllReadyH.cons rfl (fun K hK => ?_) AllReadyH.nil))
      · go_simp
        go_at_call 19
        refine (laws_toFrame _ f2 _ ((hR2.below T14).keep0 (gb_trans (by repeat (first | with_reducible exact gb_refl _ | refine gb_alloc ?_ _ | refine gb_drewN ?_ _ | refine gb_drew ?_)) gc)) (by have := P2.out; simp only [FrameM.tot] at this; omega) (by have := P2.out; simp only [FrameM.tot] at this; omega) (by have := P2.out; simp only [FrameM.tot] at this; omega) (by have := P2.out; simp only [FrameM.tot] at this; omega) (by have := P2.out; simp only [FrameM.tot] at this; omega) (by have := P2.out; simp only [FrameM.tot] at this; omega)).mono ?_
        rintro e wt_th01 ⟨v_th01, rfl, o_th01, gt_th01⟩
        obtain ⟨a_th01_0, n_th01_0, c_th01_0, a_th01_1, n_th01_1, c_th01_1, a_th01_2, n_th01_2, c_th01_2, a_th01_3, n_th01_3, c_th01_3, a_th01_4, n_th01_4, c_th01_4, a_th01_5, n_th01_5, c_th01_5, rfl⟩ := o_th01.r.shape
        have z_th01 := gt_th01.size
        (try replace o_th00 := o_th00.keep0 gt_th01)
        (try replace o_h0 := o_h0.keep0 gt_th01)
        (try replace bq_h0 := bq_h0.keep0 gt_th01)
        (try replace bs_h0 := bs_h0.keep0 gt_th01)
        replace gc := gb_trans gc gt_th01
        skip
        go_wp2_with fail
        refine hK.out _ _ ?_ (fun hHeld2 => ?_)
        · (try dsimp only)
          refine KX.out _ ?_; exact gc
        clear hK K hHeld
        have hHeld := hHeld2
        clear hHeld2
        (try simp only [Act.put]); (try simp only [List.setIfInBounds_toArray]); (try simp only [List.set_cons_succ]); (try simp only [List.set_cons_zero])
        refine wpAnyH_ready (rs := [5, 9]) (by kernel_rfl) (by simp) (AllReadyH.cons rfl (fun K hK => ?_) (AllReadyH.cons rfl (fun K hK => ?_) AllReadyH.nil))
        · go_simp
          go_at_call 31
          refine (LI_FinishOf _ _ _ l0 x1 _ f2 _ o_th00.rd o_th01.r (show l0.length ≤ 1048576 by have := hN0.out; have := P0.out; omega) (by have := P2.out; omega)).mono ?_
          rintro e wF ⟨v_h0, rfl, o_h0, gF⟩
          obtain ⟨a_h0_0, n_h0_0, c_h0_0, a_h0_1, n_h0_1, c_h0_1, a_h0_2, n_h0_2, c_h0_2, a_h0_3, n_h0_3, c_h0_3, a_h0_4, n_h0_4, c_h0_4, a_h0_5, n_h0_5, c_h0_5, rfl⟩ := o_h0.r.shape
          have zF := gF.size
          (try replace o_th00 := o_th00.keep0 gF)
          (try replace o_th01 := o_th01.keep0 gF)
          (try replace bq_h0 := bq_h0.keep0 gF)
          (try replace bs_h0 := bs_h0.keep0 gF)
          replace gc := gb_trans gc gF
          skip
          go_wp2_with fail
          refine hK.out _ _ ?_ (fun hHeld2 => ?_)
          · (try dsimp only)
            refine KX.out _ ?_; exact gc
          clear hK K hHeld
          have hHeld := hHeld2
          clear hHeld2
          (try simp only [Act.put]); (try simp only [List.setIfInBounds_toArray]); (try simp only [List.set_cons_succ]); (try simp only [List.set_cons_zero])
          refine wpAnyH_takeD (i := 6) (some 96) (v := ?_) rfl rfl (by kernel_rfl) (by kernel_rfl) (by kernel_rfl) (fun _ _ _ h => h) (Or.inl ⟨by rfl, ?_⟩) (by assumption) ?_
          rotate_left
          (focus (intro w hSw; (try dsimp only at hSw); (first | (go_simp; done) | (go_simp; with_reducible rfl) | with_reducible rfl)))
          (try simp only [Act.put]); (try simp only [List.setIfInBounds_toArray]); (try simp only [List.set_cons_succ]); (try simp only [List.set_cons_zero])
          refine wpAnyH_takeD (i := 7) (some 103) (v := ?_) rfl rfl (by kernel_rfl) (by kernel_rfl) (by kernel_rfl) (fun _ _ _ h => h) (Or.inl ⟨by rfl, ?_⟩) (by assumption) ?_
          rotate_left
          (focus (intro w hSw; (try dsimp only at hSw); (first | (go_simp; done) | (go_simp; with_reducible rfl) | with_reducible rfl)))
          (try simp only [Act.put]); (try simp only [List.setIfInBounds_toArray]); (try simp only [List.set_cons_succ]); (try simp only [List.set_cons_zero])
          refine wpAnyH_takeD (i := 8) (some 104) (v := ?_) rfl rfl (by kernel_rfl) (by kernel_rfl) (by kernel_rfl) (fun _ _ _ h => h) (Or.inl ⟨by rfl, ?_⟩) (by assumption) ?_
          rotate_left
          (focus (intro w hSw; (try dsimp only at hSw); (first | (go_simp; done) | (go_simp; with_reducible rfl) | with_reducible rfl)))
          (try simp only [Act.put]); (try simp only [List.setIfInBounds_toArray]); (try simp only [List.set_cons_succ]); (try simp only [List.set_cons_zero])
          refine wpAnyH_ready (rs := [9]) (by kernel_rfl) (by simp) (AllReadyH.cons rfl (fun K hK => ?_) AllReadyH.nil)
          refine step_alD rfl (some 17) rfl 24 _ rfl al_Frame ?_
          intro q_h0 wq_h0 hq_h0 bq_h0 ga_h0
          have lq_h0 := Nat.le_trans gc.size hq_h0
          have y_h0 := bq_h0.lt
          have zq_h0 := ga_h0.size
          (try replace o_th00 := o_th00.keep0 ga_h0)
          (try replace o_th01 := o_th01.keep0 ga_h0)
          (try replace o_h0 := o_h0.keep0 ga_h0)
          replace gc := gb_trans gc ga_h0
          skip
          refine hK.out _ _ ?_ (fun hHeld2 => ?_)
          · (try dsimp only)
            refine KX.out _ ?_; exact gc
          clear hK K hHeld
          have hHeld := hHeld2
          clear hHeld2
          (try simp only [Act.put]); (try simp only [List.setIfInBounds_toArray]); (try simp only [List.set_cons_succ]); (try simp only [List.set_cons_zero])
          refine wpAnyH_ready (rs := [10]) (by kernel_rfl) (by simp) (AllReadyH.cons rfl (fun K hK => ?_) AllReadyH.nil)
          refine step_stRD rfl rfl 24 (.tmp 17) (.tmp 103) rfl q_h0 _ _ rfl rfl bq_h0 si_Frame rfl (by first | rfl | (simp [Value.oneCell']; done)) ?_
          intro ws_h0 bs_h0 gs_h0
          have zs_h0 := gs_h0.size
          replace o_h0 := o_h0.keepI (gbI.ofRow (B := q_h0) (S := q_h0 + 1) gs_h0 (fun g e => by cases e; omega)) (by omega)
          replace gc := gb_row gc gs_h0 lq_h0
          clear bq_h0
          skip
          refine hK.out _ _ ?_ (fun hHeld2 => ?_)
          · (try dsimp only)
            refine KX.out _ ?_; exact gc
          clear hK K hHeld
          have hHeld := hHeld2
          clear hHeld2
          (try simp only [Act.put]); (try simp only [List.setIfInBounds_toArray]); (try simp only [List.set_cons_succ]); (try simp only [List.set_cons_zero])
          refine wpAnyH_takeD (i := 11) (some 18) (v := ?_) rfl rfl (by kernel_rfl) (by kernel_rfl) (by kernel_rfl) (fun _ _ _ h => h) (Or.inl ⟨by rfl, ?_⟩) (by assumption) ?_
          rotate_left
          (focus (intro w hSw; (try dsimp only at hSw); (first | (go_simp; done) | (go_simp; with_reducible rfl) | with_reducible rfl)))
          (try simp only [Act.put]); (try simp only [List.setIfInBounds_toArray]); (try simp only [List.set_cons_succ]); (try simp only [List.set_cons_zero])
          refine wpAnyH_done (by kernel_rfl) ?_ _
          (try dsimp only)
          refine ⟨q_h0, a_th00, c_th00, a_th01_0, n_th01_0, c_th01_0, a_th01_1, n_th01_1, c_th01_1, a_th01_2, n_th01_2, c_th01_2, a_th01_3, n_th01_3, c_th01_3, a_th01_4, n_th01_4, c_th01_4, a_th01_5, n_th01_5, c_th01_5, a_h0_0, n_h0_0, c_h0_0, a_h0_1, n_h0_1, c_h0_1, a_h0_2, n_h0_2, c_h0_2, a_h0_3, n_h0_3, c_h0_3, a_h0_4, n_h0_4, c_h0_4, a_h0_5, n_h0_5, c_h0_5, ?_, _, _, gc, (by omega), (by omega), o_h0, bs_h0, (by omega), (by omega)⟩
          exact rfl
        · refine step_alD rfl (some 17) rfl 24 _ rfl al_Frame ?_
          intro q_h0 wq_h0 hq_h0 bq_h0 ga_h0
          have lq_h0 := Nat.le_trans gc.size hq_h0
          have y_h0 := bq_h0.lt
          have zq_h0 := ga_h0.size
          (try replace o_th00 := o_th00.keep0 ga_h0)
          (try replace o_th01 := o_th01.keep0 ga_h0)
          (try replace o_h0 := o_h0.keep0 ga_h0)
          replace gc := gb_trans gc ga_h0
          skip
          refine hK.out _ _ ?_ (fun hHeld2 => ?_)
          · (try dsimp only)
            refine KX.out _ ?_; exact gc
          clear hK K hHeld
          have hHeld := hHeld2
          clear hHeld2
          (try simp only [Act.put]); (try simp only [List.setIfInBounds_toArray]); (try simp only [List.set_cons_succ]); (try simp only [List.set_cons_zero])
          refine wpAnyH_ready (rs := [5]) (by kernel_rfl) (by simp) (AllReadyH.cons rfl (fun K hK => ?_) AllReadyH.nil)
          go_simp
          go_at_call 31
          refine (LI_FinishOf _ _ _ l0 x1 _ f2 _ o_th00.rd o_th01.r (show l0.length ≤ 1048576 by have := hN0.out; have := P0.out; omega) (by have := P2.out; omega)).mono ?_
          rintro e wF ⟨v_h0, rfl, o_h0, gF⟩
          obtain ⟨a_h0_0, n_h0_0, c_h0_0, a_h0_1, n_h0_1, c_h0_1, a_h0_2, n_h0_2, c_h0_2, a_h0_3, n_h0_3, c_h0_3, a_h0_4, n_h0_4, c_h0_4, a_h0_5, n_h0_5, c_h0_5, rfl⟩ := o_h0.r.shape
          have zF := gF.size
          (try replace o_th00 := o_th00.keep0 gF)
          (try replace o_th01 := o_th01.keep0 gF)
          (try replace bq_h0 := bq_h0.keep0 gF)
          (try replace bs_h0 := bs_h0.keep0 gF)
          replace gc := gb_trans gc gF
          skip
          go_wp2_with fail
          refine hK.out _ _ ?_ (fun hHeld2 => ?_)
          · (try dsimp only)
            refine KX.out _ ?_; exact gc
          clear hK K hHeld
          have hHeld := hHeld2
          clear hHeld2
          (try simp only [Act.put]); (try simp only [List.setIfInBounds_toArray]); (try simp only [List.set_cons_succ]); (try simp only [List.set_cons_zero])
          refine wpAnyH_takeD (i := 6) (some 96) (v := ?_) rfl rfl (by kernel_rfl) (by kernel_rfl) (by kernel_rfl) (fun _ _ _ h => h) (Or.inl ⟨by rfl, ?_⟩) (by assumption) ?_
          rotate_left
          (focus (intro w hSw; (try dsimp only at hSw); (first | (go_simp; done) | (go_simp; with_reducible rfl) | with_reducible rfl)))
          (try simp only [Act.put]); (try simp only [List.setIfInBounds_toArray]); (try simp only [List.set_cons_succ]); (try simp only [List.set_cons_zero])
          refine wpAnyH_takeD (i := 7) (some 103) (v := ?_) rfl rfl (by kernel_rfl) (by kernel_rfl) (by kernel_rfl) (fun _ _ _ h => h) (Or.inl ⟨by rfl, ?_⟩) (by assumption) ?_
          rotate_left
          (focus (intro w hSw; (try dsimp only at hSw); (first | (go_simp; done) | (go_simp; with_reducible rfl) | with_reducible rfl)))
          (try simp only [Act.put]); (try simp only [List.setIfInBounds_toArray]); (try simp only [List.set_cons_succ]); (try simp only [List.set_cons_zero])
          refine wpAnyH_takeD (i := 8) (some 104) (v := ?_) rfl rfl (by kernel_rfl) (by kernel_rfl) (by kernel_rfl) (fun _ _ _ h => h) (Or.inl ⟨by rfl, ?_⟩) (by assumption) ?_
          rotate_left
          (focus (intro w hSw; (try dsimp only at hSw); (first | (go_simp; done) | (go_simp; with_reducible rfl) | with_reducible rfl)))
          (try simp only [Act.put]); (try simp only [List.setIfInBounds_toArray]); (try simp only [List.set_cons_succ]); (try simp only [List.set_cons_zero])
          refine wpAnyH_ready (rs := [10]) (by kernel_rfl) (by simp) (AllReadyH.cons rfl (fun K hK => ?_) AllReadyH.nil)
          refine step_stRD rfl rfl 24 (.tmp 17) (.tmp 103) rfl q_h0 _ _ rfl rfl bq_h0 si_Frame rfl (by first | rfl | (simp [Value.oneCell']; done)) ?_
          intro ws_h0 bs_h0 gs_h0
          have zs_h0 := gs_h0.size
          replace o_h0 := o_h0.keepI (gbI.ofRow (B := q_h0) (S := q_h0 + 1) gs_h0 (fun g e => by cases e; omega)) (by omega)
          replace gc := gb_row gc gs_h0 lq_h0
          clear bq_h0
          skip
          refine hK.out _ _ ?_ (fun hHeld2 => ?_)
          · (try dsimp only)
            refine KX.out _ ?_; exact gc
          clear hK K hHeld
          have hHeld := hHeld2
          clear hHeld2
          (try simp only [Act.put]); (try simp only [List.setIfInBounds_toArray]); (try simp only [List.set_cons_succ]); (try simp only [List.set_cons_zero])
          refine wpAnyH_takeD (i := 11) (some 18) (v := ?_) rfl rfl (by kernel_rfl) (by kernel_rfl) (by kernel_rfl) (fun _ _ _ h => h) (Or.inl ⟨by rfl, ?_⟩) (by assumption) ?_
          rotate_left
          (focus (intro w hSw; (try dsimp only at hSw); (first | (go_simp; done) | (go_simp; with_reducible rfl) | with_reducible rfl)))
          (try simp only [Act.put]); (try simp only [List.setIfInBounds_toArray]); (try simp only [List.set_cons_succ]); (try simp only [List.set_cons_zero])
          refine wpAnyH_done (by kernel_rfl) ?_ _
          (try dsimp only)
          refine ⟨q_h0, a_th00, c_th00, a_th01_0, n_th01_0, c_th01_0, a_th01_1, n_th01_1, c_th01_1, a_th01_2, n_th01_2, c_th01_2, a_th01_3, n_th01_3, c_th01_3, a_th01_4, n_th01_4, c_th01_4, a_th01_5, n_th01_5, c_th01_5, a_h0_0, n_h0_0, c_h0_0, a_h0_1, n_h0_1, c_h0_1, a_h0_2, n_h0_2, c_h0_2, a_h0_3, n_h0_3, c_h0_3, a_h0_4, n_h0_4, c_h0_4, a_h0_5, n_h0_5, c_h0_5, ?_, _, _, gc, (by omega), (by omega), o_h0, bs_h0, (by omega), (by omega)⟩
          exact rfl
      · refine step_alD rfl (some 17) rfl 24 _ rfl al_Frame ?_
        intro q_h0 wq_h0 hq_h0 bq_h0 ga_h0
        have lq_h0 := Nat.le_trans gc.size hq_h0
        have y_h0 := bq_h0.lt
        have zq_h0 := ga_h0.size
        (try replace o_th00 := o_th00.keep0 ga_h0)
        (try replace o_th01 := o_th01.keep0 ga_h0)
        (try replace o_h0 := o_h0.keep0 ga_h0)
        replace gc := gb_trans gc ga_h0
        skip
        refine hK.out _ _ ?_ (fun hHeld2 => ?_)
        · (try dsimp only)
          refine KX.out _ ?_; exact gc
        clear hK K hHeld
        have hHeld := hHeld2
        clear hHeld2
        (try simp only [Act.put]); (try simp only [List.setIfInBounds_toArray]); (try simp only [List.set_cons_succ]); (try simp only [List.set_cons_zero])
        refine wpAnyH_ready (rs := [4]) (by kernel_rfl) (by simp) (AllReadyH.cons rfl (fun K hK => ?_) AllReadyH.nil)
        go_simp
        go_at_call 19
        refine (laws_toFrame _ f2 _ ((hR2.below T14).keep0 (gb_trans (by repeat (first | with_reducible exact gb_refl _ | refine gb_alloc ?_ _ | refine gb_drewN ?_ _ | refine gb_drew ?_)) gc)) (by have := P2.out; simp only [FrameM.tot] at this; omega) (by have := P2.out; simp only [FrameM.tot] at this; omega) (by have := P2.out; simp only [FrameM.tot] at this; omega) (by have := P2.out; simp only [FrameM.tot] at this; omega) (by have := P2.out; simp only [FrameM.tot] at this; omega) (by have := P2.out; simp only [FrameM.tot] at this; omega)).mono ?_
        rintro e wt_th01 ⟨v_th01, rfl, o_th01, gt_th01⟩
        obtain ⟨a_th01_0, n_th01_0, c_th01_0, a_th01_1, n_th01_1, c_th01_1, a_th01_2, n_th01_2, c_th01_2, a_th01_3, n_th01_3, c_th01_3, a_th01_4, n_th01_4, c_th01_4, a_th01_5, n_th01_5, c_th01_5, rfl⟩ := o_th01.r.shape
        have z_th01 := gt_th01.size
        (try replace o_th00 := o_th00.keep0 gt_th01)
        (try replace o_h0 := o_h0.keep0 gt_th01)
        (try replace bq_h0 := bq_h0.keep0 gt_th01)
        (try replace bs_h0 := bs_h0.keep0 gt_th01)
        replace gc := gb_trans gc gt_th01
        skip
        go_wp2_with fail
        refine hK.out _ _ ?_ (fun hHeld2 => ?_)
        · (try dsimp only)
          refine KX.out _ ?_; exact gc
        clear hK K hHeld
        have hHeld := hHeld2
        clear hHeld2
        (try simp only [Act.put]); (try simp only [List.setIfInBounds_toArray]); (try simp only [List.set_cons_succ]); (try simp only [List.set_cons_zero])
        refine wpAnyH_ready (rs := [5]) (by kernel_rfl) (by simp) (AllReadyH.cons rfl (fun K hK => ?_) AllReadyH.nil)
        go_simp
        go_at_call 31
        refine (LI_FinishOf _ _ _ l0 x1 _ f2 _ o_th00.rd o_th01.r (show l0.length ≤ 1048576 by have := hN0.out; have := P0.out; omega) (by have := P2.out; omega)).mono ?_
        rintro e wF ⟨v_h0, rfl, o_h0, gF⟩
        obtain ⟨a_h0_0, n_h0_0, c_h0_0, a_h0_1, n_h0_1, c_h0_1, a_h0_2, n_h0_2, c_h0_2, a_h0_3, n_h0_3, c_h0_3, a_h0_4, n_h0_4, c_h0_4, a_h0_5, n_h0_5, c_h0_5, rfl⟩ := o_h0.r.shape
        have zF := gF.size
        (try replace o_th00 := o_th00.keep0 gF)
        (try replace o_th01 := o_th01.keep0 gF)
        (try replace bq_h0 := bq_h0.keep0 gF)
        (try replace bs_h0 := bs_h0.keep0 gF)
        replace gc := gb_trans gc gF
        skip
        go_wp2_with fail
        refine hK.out _ _ ?_ (fun hHeld2 => ?_)
        · (try dsimp only)
          refine KX.out _ ?_; exact gc
        clear hK K hHeld
        have hHeld := hHeld2
        clear hHeld2
        (try simp only [Act.put]); (try simp only [List.setIfInBounds_toArray]); (try simp only [List.set_cons_succ]); (try simp only [List.set_cons_zero])
        refine wpAnyH_takeD (i := 6) (some 96) (v := ?_) rfl rfl (by kernel_rfl) (by kernel_rfl) (by kernel_rfl) (fun _ _ _ h => h) (Or.inl ⟨by rfl, ?_⟩) (by assumption) ?_
        rotate_left
        (focus (intro w hSw; (try dsimp only at hSw); (first | (go_simp; done) | (go_simp; with_reducible rfl) | with_reducible rfl)))
        (try simp only [Act.put]); (try simp only [List.setIfInBounds_toArray]); (try simp only [List.set_cons_succ]); (try simp only [List.set_cons_zero])
        refine wpAnyH_takeD (i := 7) (some 103) (v := ?_) rfl rfl (by kernel_rfl) (by kernel_rfl) (by kernel_rfl) (fun _ _ _ h => h) (Or.inl ⟨by rfl, ?_⟩) (by assumption) ?_
        rotate_left
        (focus (intro w hSw; (try dsimp only at hSw); (first | (go_simp; done) | (go_simp; with_reducible rfl) | with_reducible rfl)))
        (try simp only [Act.put]); (try simp only [List.setIfInBounds_toArray]); (try simp only [List.set_cons_succ]); (try simp only [List.set_cons_zero])
        refine wpAnyH_takeD (i := 8) (some 104) (v := ?_) rfl rfl (by kernel_rfl) (by kernel_rfl) (by kernel_rfl) (fun _ _ _ h => h) (Or.inl ⟨by rfl, ?_⟩) (by assumption) ?_
        rotate_left
        (focus (intro w hSw; (try dsimp only at hSw); (first | (go_simp; done) | (go_simp; with_reducible rfl) | with_reducible rfl)))
        (try simp only [Act.put]); (try simp only [List.setIfInBounds_toArray]); (try simp only [List.set_cons_succ]); (try simp only [List.set_cons_zero])
        refine wpAnyH_ready (rs := [10]) (by kernel_rfl) (by simp) (AllReadyH.cons rfl (fun K hK => ?_) AllReadyH.nil)
        refine step_stRD rfl rfl 24 (.tmp 17) (.tmp 103) rfl q_h0 _ _ rfl rfl bq_h0 si_Frame rfl (by first | rfl | (simp [Value.oneCell']; done)) ?_
        intro ws_h0 bs_h0 gs_h0
        have zs_h0 := gs_h0.size
        replace o_h0 := o_h0.keepI (gbI.ofRow (B := q_h0) (S := q_h0 + 1) gs_h0 (fun g e => by cases e; omega)) (by omega)
        replace gc := gb_row gc gs_h0 lq_h0
        clear bq_h0
        skip
        refine hK.out _ _ ?_ (fun hHeld2 => ?_)
        · (try dsimp only)
          refine KX.out _ ?_; exact gc
        clear hK K hHeld
        have hHeld := hHeld2
        clear hHeld2
        (try simp only [Act.put]); (try simp only [List.setIfInBounds_toArray]); (try simp only [List.set_cons_succ]); (try simp only [List.set_cons_zero])
        refine wpAnyH_takeD (i := 11) (some 18) (v := ?_) rfl rfl (by kernel_rfl) (by kernel_rfl) (by kernel_rfl) (fun _ _ _ h => h) (Or.inl ⟨by rfl, ?_⟩) (by assumption) ?_
        rotate_left
        (focus (intro w hSw; (try dsimp only at hSw); (first | (go_simp; done) | (go_simp; with_reducible rfl) | with_reducible rfl)))
        (try simp only [Act.put]); (try simp only [List.setIfInBounds_toArray]); (try simp only [List.set_cons_succ]); (try simp only [List.set_cons_zero])
        refine wpAnyH_done (by kernel_rfl) ?_ _
        (try dsimp only)
        refine ⟨q_h0, a_th00, c_th00, a_th01_0, n_th01_0, c_th01_0, a_th01_1, n_th01_1, c_th01_1, a_th01_2, n_th01_2, c_th01_2, a_th01_3, n_th01_3, c_th01_3, a_th01_4, n_th01_4, c_th01_4, a_th01_5, n_th01_5, c_th01_5, a_h0_0, n_h0_0, c_h0_0, a_h0_1, n_h0_1, c_h0_1, a_h0_2, n_h0_2, c_h0_2, a_h0_3, n_h0_3, c_h0_3, a_h0_4, n_h0_4, c_h0_4, a_h0_5, n_h0_5, c_h0_5, ?_, _, _, gc, (by omega), (by omega), o_h0, bs_h0, (by omega), (by omega)⟩
        exact rfl
    · refine step_alD rfl (some 17) rfl 24 _ rfl al_Frame ?_
      intro q_h0 wq_h0 hq_h0 bq_h0 ga_h0
      have lq_h0 := Nat.le_trans gc.size hq_h0
      have y_h0 := bq_h0.lt
      have zq_h0 := ga_h0.size
      (try replace o_th00 := o_th00.keep0 ga_h0)
      (try replace o_th01 := o_th01.keep0 ga_h0)
      (try replace o_h0 := o_h0.keep0 ga_h0)
      replace gc := gb_trans gc ga_h0
      skip
      refine hK.out _ _ ?_ (fun hHeld2 => ?_)
      · (try dsimp only)
        refine KX.out _ ?_; exact gc
      clear hK K hHeld
      have hHeld := hHeld2
      clear hHeld2
      (try simp only [Act.put]); (try simp only [List.setIfInBounds_toArray]); (try simp only [List.set_cons_succ]); (try simp only [List.set_cons_zero])
      refine wpAnyH_ready (rs := [1]) (by kernel_rfl) (by simp) (AllReadyH.cons rfl (fun K hK => ?_) AllReadyH.nil)
      go_simp
      go_at_call 10
      refine (laws_toByteS _ _ _ l0 _ ((hR0.below T14).keep0 (gb_trans (by repeat (first | with_reducible exact gb_refl _ | refine gb_alloc ?_ _ | refine gb_drewN ?_ _ | refine gb_drew ?_)) gc)) (by have := P0.out; omega)).mono ?_
      rintro e wt_th00 ⟨a_th00, c_th00, rfl, o_th00, gt_th00⟩
      have z_th00 := gt_th00.size
      (try replace o_th01 := o_th01.keep0 gt_th00)
      (try replace o_h0 := o_h0.keep0 gt_th00)
      (try replace bq_h0 := bq_h0.keep0 gt_th00)
      (try replace bs_h0 := bs_h0.keep0 gt_th00)
      replace gc := gb_trans gc gt_th00
      skip
      go_wp2_with fail
      refine hK.out _ _ ?_ (fun hHeld2 => ?_)
      · (try dsimp only)
        refine KX.out _ ?_; exact gc
      clear hK K hHeld
      have hHeld := hHeld2
      clear hHeld2
      (try simp only [Act.put]); (try simp only [List.setIfInBounds_toArray]); (try simp only [List.set_cons_succ]); (try simp only [List.set_cons_zero])
      refine wpAnyH_ready (rs := [4]) (by kernel_rfl) (by simp) (AllReadyH.cons rfl (fun K hK => ?_) AllReadyH.nil)
      go_simp
      go_at_call 19
      refine (laws_toFrame _ f2 _ ((hR2.below T14).keep0 (gb_trans (by repeat (first | with_reducible exact gb_refl _ | refine gb_alloc ?_ _ | refine gb_drewN ?_ _ | refine gb_drew ?_)) gc)) (by have := P2.out; simp only [FrameM.tot] at this; omega) (by have := P2.out; simp only [FrameM.tot] at this; omega) (by have := P2.out; simp only [FrameM.tot] at this; omega) (by have := P2.out; simp only [FrameM.tot] at this; omega) (by have := P2.out; simp only [FrameM.tot] at this; omega) (by have := P2.out; simp only [FrameM.tot] at this; omega)).mono ?_
      rintro e wt_th01 ⟨v_th01, rfl, o_th01, gt_th01⟩
      obtain ⟨a_th01_0, n_th01_0, c_th01_0, a_th01_1, n_th01_1, c_th01_1, a_th01_2, n_th01_2, c_th01_2, a_th01_3, n_th01_3, c_th01_3, a_th01_4, n_th01_4, c_th01_4, a_th01_5, n_th01_5, c_th01_5, rfl⟩ := o_th01.r.shape
      have z_th01 := gt_th01.size
      (try replace o_th00 := o_th00.keep0 gt_th01)
      (try replace o_h0 := o_h0.keep0 gt_th01)
      (try replace bq_h0 := bq_h0.keep0 gt_th01)
      (try replace bs_h0 := bs_h0.keep0 gt_th01)
      replace gc := gb_trans gc gt_th01
      skip
      go_wp2_with fail
      refine hK.out _ _ ?_ (fun hHeld2 => ?_)
      · (try dsimp only)
        refine KX.out _ ?_; exact gc
      clear hK K hHeld
      have hHeld := hHeld2
      clear hHeld2
      (try simp only [Act.put]); (try simp only [List.setIfInBounds_toArray]); (try simp only [List.set_cons_succ]); (try simp only [List.set_cons_zero])
      refine wpAnyH_ready (rs := [5]) (by kernel_rfl) (by simp) (AllReadyH.cons rfl (fun K hK => ?_) AllReadyH.nil)
      go_simp
      go_at_call 31
      refine (LI_FinishOf _ _ _ l0 x1 _ f2 _ o_th00.rd o_th01.r (show l0.length ≤ 1048576 by have := hN0.out; have := P0.out; omega) (by have := P2.out; omega)).mono ?_
      rintro e wF ⟨v_h0, rfl, o_h0, gF⟩
      obtain ⟨a_h0_0, n_h0_0, c_h0_0, a_h0_1, n_h0_1, c_h0_1, a_h0_2, n_h0_2, c_h0_2, a_h0_3, n_h0_3, c_h0_3, a_h0_4, n_h0_4, c_h0_4, a_h0_5, n_h0_5, c_h0_5, rfl⟩ := o_h0.r.shape
      have zF := gF.size
      (try replace o_th00 := o_th00.keep0 gF)
      (try replace o_th01 := o_th01.keep0 gF)
      (try replace bq_h0 := bq_h0.keep0 gF)
      (try replace bs_h0 := bs_h0.keep0 gF)
      replace gc := gb_trans gc gF
      skip
      go_wp2_with fail
      refine hK.out _ _ ?_ (fun hHeld2 => ?_)
      · (try dsimp only)
        refine KX.out _ ?_; exact gc
      clear hK K hHeld
      have hHeld := hHeld2
      clear hHeld2
      (try simp only [Act.put]); (try simp only [List.setIfInBounds_toArray]); (try simp only [List.set_cons_succ]); (try simp only [List.set_cons_zero])
      refine wpAnyH_takeD (i := 6) (some 96) (v := ?_) rfl rfl (by kernel_rfl) (by kernel_rfl) (by kernel_rfl) (fun _ _ _ h => h) (Or.inl ⟨by rfl, ?_⟩) (by assumption) ?_
      rotate_left
      (focus (intro w hSw; (try dsimp only at hSw); (first | (go_simp; done) | (go_simp; with_reducible rfl) | with_reducible rfl)))
      (try simp only [Act.put]); (try simp only [List.setIfInBounds_toArray]); (try simp only [List.set_cons_succ]); (try simp only [List.set_cons_zero])
      refine wpAnyH_takeD (i := 7) (some 103) (v := ?_) rfl rfl (by kernel_rfl) (by kernel_rfl) (by kernel_rfl) (fun _ _ _ h => h) (Or.inl ⟨by rfl, ?_⟩) (by assumption) ?_
      rotate_left
      (focus (intro w hSw; (try dsimp only at hSw); (first | (go_simp; done) | (go_simp; with_reducible rfl) | with_reducible rfl)))
      (try simp only [Act.put]); (try simp only [List.setIfInBounds_toArray]); (try simp only [List.set_cons_succ]); (try simp only [List.set_cons_zero])
      refine wpAnyH_takeD (i := 8) (some 104) (v := ?_) rfl rfl (by kernel_rfl) (by kernel_rfl) (by kernel_rfl) (fun _ _ _ h => h) (Or.inl ⟨by rfl, ?_⟩) (by assumption) ?_
      rotate_left
      (focus (intro w hSw; (try dsimp only at hSw); (first | (go_simp; done) | (go_simp; with_reducible rfl) | with_reducible rfl)))
      (try simp only [Act.put]); (try simp only [List.setIfInBounds_toArray]); (try simp only [List.set_cons_succ]); (try simp only [List.set_cons_zero])
      refine wpAnyH_ready (rs := [10]) (by kernel_rfl) (by simp) (AllReadyH.cons rfl (fun K hK => ?_) AllReadyH.nil)
      refine step_stRD rfl rfl 24 (.tmp 17) (.tmp 103) rfl q_h0 _ _ rfl rfl bq_h0 si_Frame rfl (by first | rfl | (simp [Value.oneCell']; done)) ?_
      intro ws_h0 bs_h0 gs_h0
      have zs_h0 := gs_h0.size
      replace o_h0 := o_h0.keepI (gbI.ofRow (B := q_h0) (S := q_h0 + 1) gs_h0 (fun g e => by cases e; omega)) (by omega)
      replace gc := gb_row gc gs_h0 lq_h0
      clear bq_h0
      skip
      refine hK.out _ _ ?_ (fun hHeld2 => ?_)
      · (try dsimp only)
        refine KX.out _ ?_; exact gc
      clear hK K hHeld
      have hHeld := hHeld2
      clear hHeld2
      (try simp only [Act.put]); (try simp only [List.setIfInBounds_toArray]); (try simp only [List.set_cons_succ]); (try simp only [List.set_cons_zero])
      refine wpAnyH_takeD (i := 11) (some 18) (v := ?_) rfl rfl (by kernel_rfl) (by kernel_rfl) (by kernel_rfl) (fun _ _ _ h => h) (Or.inl ⟨by rfl, ?_⟩) (by assumption) ?_
      rotate_left
      (focus (intro w hSw; (try dsimp only at hSw); (first | (go_simp; done) | (go_simp; with_reducible rfl) | with_reducible rfl)))
      (try simp only [Act.put]); (try simp only [List.setIfInBounds_toArray]); (try simp only [List.set_cons_succ]); (try simp only [List.set_cons_zero])
      refine wpAnyH_done (by kernel_rfl) ?_ _
      (try dsimp only)
      refine ⟨q_h0, a_th00, c_th00, a_th01_0, n_th01_0, c_th01_0, a_th01_1, n_th01_1, c_th01_1, a_th01_2, n_th01_2, c_th01_2, a_th01_3, n_th01_3, c_th01_3, a_th01_4, n_th01_4, c_th01_4, a_th01_5, n_th01_5, c_th01_5, a_h0_0, n_h0_0, c_h0_0, a_h0_1, n_h0_1, c_h0_1, a_h0_2, n_h0_2, c_h0_2, a_h0_3, n_h0_3, c_h0_3, a_h0_4, n_h0_4, c_h0_4, a_h0_5, n_h0_5, c_h0_5, ?_, _, _, gc, (by omega), (by omega), o_h0, bs_h0, (by omega), (by omega)⟩
      exact rfl
  rintro q_h0 a_th00 c_th00 a_th01_0 n_th01_0 c_th01_0 a_th01_1 n_th01_1 c_th01_1 a_th01_2 n_th01_2 c_th01_2 a_th01_3 n_th01_3 c_th01_3 a_th01_4 n_th01_4 c_th01_4 a_th01_5 n_th01_5 c_th01_5 a_h0_0 n_h0_0 c_h0_0 a_h0_1 n_h0_1 c_h0_1 a_h0_2 n_h0_2 c_h0_2 a_h0_3 n_h0_3 c_h0_3 a_h0_4 n_h0_4 c_h0_4 a_h0_5 n_h0_5 c_h0_5 w15 ⟨Bc_15, Sc_15, g15, lb_15, ls_15, o_h0, bx_h0, nq_h0, lq_h0⟩
  clear KX
  have R15 : w14.grownBy w15 none := gb_trans (by repeat (first | with_reducible exact gb_refl _ | refine gb_alloc ?_ _ | refine gb_drewN ?_ _ | refine gb_drew ?_)) g15
  have T15 : Below w.heap.size w w15 := below_next T14 R15
  have z15 := R15.size
  replace o_w0 := o_w0.keep0 R15
  replace o_x0 := o_x0.keep0 R15
  replace o_x2 := o_x2.keep0 R15
  replace o_g0 := o_g0.keep0 R15
  clear cc_aF cc_w0 cc_x2 cc_g0
  replace bb_aF := bb_aF.keep0 R15
  replace bb_w0 := bb_w0.keep0 R15
  replace bb_x2 := bb_x2.keep0 R15
  replace bb_g0 := bb_g0.keep0 R15
  have cc_aF := fun o => bb_aF.cell o
  have ll_aF_15 := bb_aF.lt
  have cc_w0 := fun o => bb_w0.cell o
  have ll_w0_15 := bb_w0.lt
  have cc_x2 := fun o => bb_x2.cell o
  have ll_x2_15 := bb_x2.lt
  have cc_g0 := fun o => bb_g0.cell o
  have ll_g0_15 := bb_g0.lt
  have bb_h0 := bx_h0
  clear bx_h0
  have cc_h0 := fun o => bb_h0.cell o
  have ll_h0_15 := bb_h0.lt
  go_wp2_with fail
  refine (laws_eqFrame _ _ (finOfM l0 x1 f2) _ (o_h0.r.keep0 (by repeat (first | with_reducible exact gb_refl _ | refine gb_alloc ?_ _ | refine gb_drewN ?_ _ | refine gb_drew ?_))) (o_w0.r.keep0 (by repeat (first | with_reducible exact gb_refl _ | refine gb_alloc ?_ _ | refine gb_drewN ?_ _ | refine gb_drew ?_))) (by have h9 := (show (finOfM l0 x1 f2).tot ≤ 1048576 from Nat.le_trans (finOfM_tot _ _ _) (by decide)); simp only [FrameM.tot] at h9; omega) (by have h9 := (show (finOfM l0 x1 f2).tot ≤ 1048576 from Nat.le_trans (finOfM_tot _ _ _) (by decide)); simp only [FrameM.tot] at h9; omega) (by have h9 := (show (finOfM l0 x1 f2).tot ≤ 1048576 from Nat.le_trans (finOfM_tot _ _ _) (by decide)); simp only [FrameM.tot] at h9; omega) (by have h9 := (show (finOfM l0 x1 f2).tot ≤ 1048576 from Nat.le_trans (finOfM_tot _ _ _) (by decide)); simp only [FrameM.tot] at h9; omega) (by have h9 := (show (finOfM l0 x1 f2).tot ≤ 1048576 from Nat.le_trans (finOfM_tot _ _ _) (by decide)); simp only [FrameM.tot] at h9; omega) (by have h9 := (show (finOfM l0 x1 f2).tot ≤ 1048576 from Nat.le_trans (finOfM_tot _ _ _) (by decide)); simp only [FrameM.tot] at h9; omega)).mono ?_
  rintro e w16 ⟨rfl, g16⟩
  have R16 : w15.grownBy w16 none := gb_trans (by repeat (first | with_reducible exact gb_refl _ | refine gb_alloc ?_ _ | refine gb_drewN ?_ _ | refine gb_drew ?_)) g16
  have T16 : Below w.heap.size w w16 := below_next T15 R16
  have z16 := R16.size
  replace o_w0 := o_w0.keep0 R16
  replace o_x0 := o_x0.keep0 R16
  replace o_x2 := o_x2.keep0 R16
  replace o_g0 := o_g0.keep0 R16
  replace o_h0 := o_h0.keep0 R16
  clear cc_aF cc_w0 cc_x2 cc_g0 cc_h0
  replace bb_aF := bb_aF.keep0 R16
  replace bb_w0 := bb_w0.keep0 R16
  replace bb_x2 := bb_x2.keep0 R16
  replace bb_g0 := bb_g0.keep0 R16
  replace bb_h0 := bb_h0.keep0 R16
  have cc_aF := fun o => bb_aF.cell o
  have ll_aF_16 := bb_aF.lt
  have cc_w0 := fun o => bb_w0.cell o
  have ll_w0_16 := bb_w0.lt
  have cc_x2 := fun o => bb_x2.cell o
  have ll_x2_16 := bb_x2.lt
  have cc_g0 := fun o => bb_g0.cell o
  have ll_g0_16 := bb_g0.lt
  have cc_h0 := fun o => bb_h0.cell o
  have ll_h0_16 := bb_h0.lt
  go_wp2_with fail
  refine (laws_heldFrame _ ((finOfM l0 x1 f2)) (1) _ (o_g0.r.keep0 (by repeat (first | with_reducible exact gb_refl _ | refine gb_alloc ?_ _ | refine gb_drewN ?_ _ | refine gb_drew ?_))) (by have h9 := (show (finOfM l0 x1 f2).tot ≤ 1048576 from Nat.le_trans (finOfM_tot _ _ _) (by decide)); have := (show (finOfM l0 x1 f2).tot ≤ 1048576 from Nat.le_trans (finOfM_tot _ _ _) (by decide)); omega)).mono ?_
  rintro e w17 ⟨rfl, g17⟩
  have R17 : w16.grownBy w17 none := gb_trans (by repeat (first | with_reducible exact gb_refl _ | refine gb_alloc ?_ _ | refine gb_drewN ?_ _ | refine gb_drew ?_)) g17
  have T17 : Below w.heap.size w w17 := below_next T16 R17
  have z17 := R17.size
  replace o_w0 := o_w0.keep0 R17
  replace o_x0 := o_x0.keep0 R17
  replace o_x2 := o_x2.keep0 R17
  replace o_g0 := o_g0.keep0 R17
  replace o_h0 := o_h0.keep0 R17
  clear cc_aF cc_w0 cc_x2 cc_g0 cc_h0
  replace bb_aF := bb_aF.keep0 R17
  replace bb_w0 := bb_w0.keep0 R17
  replace bb_x2 := bb_x2.keep0 R17
  replace bb_g0 := bb_g0.keep0 R17
  replace bb_h0 := bb_h0.keep0 R17
  have cc_aF := fun o => bb_aF.cell o
  have ll_aF_17 := bb_aF.lt
  have cc_w0 := fun o => bb_w0.cell o
  have ll_w0_17 := bb_w0.lt
  have cc_x2 := fun o => bb_x2.cell o
  have ll_x2_17 := bb_x2.lt
  have cc_g0 := fun o => bb_g0.cell o
  have ll_g0_17 := bb_g0.lt
  have cc_h0 := fun o => bb_h0.cell o
  have ll_h0_17 := bb_h0.lt
  go_wp2
  go_ret
  exact ⟨rfl, T17⟩
set_option maxRecDepth 100000 in
theorem lifted (os : Os) (started : os.Started) (H : Type) (enc : TypeId × Value → H) :
    ReturnsInHanded {} Try.checked os 7 .any (Rows.fnExactFinishOfSpec.pre6 enc Try.prog Try.f7 Rows.fnExactFinishOfRow.domain false) (Rows.fnExactFinishOfSpec.post enc Try.prog Try.f7 false true false false) := by
  refine returnsInHanded_of_change (C := Try.checked) own started (by kernel_rfl) Try.func7
    (ChangeSpec.witness6 (enc := enc) (C := Try.checked) false ⟨#[], #[.slice none 0 0, .int .i64 0, .agg #[.int .i64 0, .int .i64 0, .slice none 0 0, .slice none 0 0, .int .i64 0, .slice none 0 0, .slice none 0 0, .int .i64 0, .int .i64 0, .slice none 0 0, .slice none 0 0]], []⟩ 8 (by kernel_rfl) (by kernel_rfl) (by kernel_rfl) (by kernel_rfl)) ?_
  intro W base args ds gs before hval0 hW _ _
  have hval : ∀ (j : Nat) t v, Try.f7.params[j]? = some t → args[j]? = some v → Value.okWide Try.prog W .any base t v := hval0
  have hW2 := hW
  obtain ⟨p, q, hA0, hV, hps, _, _⟩ := hW
  have hA : DataW.TrodAll enc Try.prog W 0 (fun _ => true) true Try.f7.params.toList args.toList ds p := hA0
  rw [Try.params7] at hA hval
  obtain ⟨rfl, rfl⟩ := trodVars_none hV
  obtain ⟨v0, vs0, d0, ds0, p0, q0, hargs, rfl, rfl, h0, r0⟩ := trodAll_cons hA
  obtain ⟨v1, vs1, d1, ds1, p1, q1, rfl, rfl, rfl, h1, r1⟩ := trodAll_cons r0
  obtain ⟨v2, vs2, d2, ds2, p2, q2, rfl, rfl, rfl, h2, r2⟩ := trodAll_cons r1
  obtain ⟨rfl, rfl, rfl⟩ := trodAll_nil r2
  obtain rfl : args = #[v0, v1, v2] := by cases args; simp_all
  have i0 := open_B (hval 0 22 v0 rfl rfl) h0
  have i1 := open_I (hval 1 3 v1 rfl rfl) h1
  have i2 := open_Frame (hval 2 33 v2 rfl rfl) h2
  clear hA0 hval0
  refine (walk W v0 v1 v2 i0 i1 i2).mono fun e W2 ⟨he, hb⟩ => ?_
  subst he
  exact ⟨_, rfl, law_post (tb := 4) laidOut (by kernel_rfl) (by kernel_rfl) Try.underlying4 rfl ⟨rfl, rfl, rfl⟩ hW2 hb⟩
theorem over : Rows.fnExactFinishOfRow.holds Try.pinned (OpenSpec.ofChange Rows.fnExactFinishOfSpec) :=
  OpenClaim.holds_of_wide 7 Try.f7 rfl rfl rfl rfl rfl rfl rfl ⟨rfl, rfl, rfl, rfl, rfl⟩ rfl rfl rfl rfl rfl (by kernel_rfl) Try.func7 (by kernel_rfl)
    (of_decide_eq_true (by kernel_rfl)) (by unfold Func.isWrapper; first | (rw [if_pos (by decide +kernel)]; kernel_rfl) | (rw [if_neg (by decide +kernel)]; exact ⟨rfl, rfl⟩))
    (fun os started H enc _ => lifted os started H enc)
theorem proved : Rows.FnExactFinishOfSaid :=
  over
#print axioms proved
end Go.Proofs.Ytfjbfgonkimboaa.lFinishOf
