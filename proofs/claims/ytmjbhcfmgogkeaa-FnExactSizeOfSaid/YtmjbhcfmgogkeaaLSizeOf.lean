/-
  FnExactSizeOf returns true for every frame. Conditions: none.
-/
import Derived.Test.YtmjbhcfmgogkeaaLaw
import Derived.Test.YtmjbhcfmgogkeaaPutF
import Derived.Deep.RegionHeld3
namespace Go.Proofs.Ytmjbhcfmgogkeaa.lSizeOf
open Go.ChangeShapes Go.WideShapes Go.ChangeAt Go.RowKit
theorem LS_SizeOf (v : Value) (f : FrameM) (w : World) (h : FrameR w v f) (_hs : f.tot ≤ 1048576) : Calls Try.prog 13 #[v] w fun e w' => e = .returned (.int .i64 ((putM f).length : Int)) ∧ w.grownBy w' none := spec_SizeOf v f w h
theorem LI_SizeOf (v : Value) (f : FrameM) (w : World) (h : FrameR w v f) (_hs : f.tot ≤ 1048576) : Calls Try.prog 14 #[v] w fun e w' => e = .returned (.int .i64 ((putM f).length : Int)) ∧ w.grownBy w' none := impl_SizeOf v f w h
set_option maxRecDepth 100000 in
set_option maxHeartbeats 4000000 in
theorem walk (w : World) (v0 : Value) (h0 : InFrame w v0) : Calls Try.prog 4 #[v0] w fun e w' => e = .returned (.bool true) ∧ Below w.heap.size w w' := by
  obtain ⟨f0, hR0, hL0⟩ := h0
  have hS0 := hR0.shape
  obtain ⟨a0_0, n0_0, c0_0, a0_1, n0_1, c0_1, a0_2, n0_2, c0_2, a0_3, n0_3, c0_3, a0_4, n0_4, c0_4, a0_5, n0_5, c0_5, rfl⟩ := hS0
  have T0 : Below w.heap.size w w := Below.refl _ _
  go_enter Try.func4, Try.ntmps4
  rcases Nat.lt_or_ge (1048576) f0.tot with p0 | p0
  · go_wp2_with fail
    refine (laws_szFrame _ f0 (1048576) _ ((hR0.below T0).keep0 (by repeat (first | with_reducible exact gb_refl _ | refine gb_alloc ?_ _ | refine gb_drewN ?_ _ | refine gb_drew ?_))) (by omega) (hL0.len1) (hL0.len2) (hL0.len3) (hL0.len4) (hL0.len5) (hL0.len6)).mono ?_
    rintro e w9 ⟨_, hn9, g9⟩
    obtain rfl := hn9 p0
    clear hn9
    go_wp2
    go_ret
    exact ⟨rfl, below_next T0 (gb_trans (by repeat (first | with_reducible exact gb_refl _ | refine gb_alloc ?_ _ | refine gb_drewN ?_ _ | refine gb_drew ?_)) g9)⟩
  have P0 := Lib.hid p0
  clear p0
  go_wp2_with fail
  refine (laws_szFrame _ f0 (1048576) _ ((hR0.below T0).keep0 (by repeat (first | with_reducible exact gb_refl _ | refine gb_alloc ?_ _ | refine gb_drewN ?_ _ | refine gb_drew ?_))) (by omega) (hL0.len1) (hL0.len2) (hL0.len3) (hL0.len4) (hL0.len5) (hL0.len6)).mono ?_
  rintro e w1 ⟨hy9, hn9, g1⟩
  obtain rfl := hy9 P0.out
  clear hy9 hn9
  have R1 : w.grownBy w1 none := gb_trans (by repeat (first | with_reducible exact gb_refl _ | refine gb_alloc ?_ _ | refine gb_drewN ?_ _ | refine gb_drew ?_)) g1
  have T1 : Below w.heap.size w w1 := below_next T0 R1
  have z1 := R1.size
  have bb_aF : Bx w1 (w.heap.size) 24 #[.int .i64 f0.kind, .int .i64 f0.id, .slice a0_0 n0_0 c0_0, .slice a0_1 n0_1 c0_1, .int .i64 f0.tick, .slice a0_2 n0_2 c0_2, .slice a0_3 n0_3 c0_3, .int .i64 f0.epoch, .int .i64 f0.seq, .slice a0_4 n0_4 c0_4, .slice a0_5 n0_5 c0_5] := (bx1 w _ _).keep0 g1
  have cc_aF := fun o => bb_aF.cell o
  have ll_aF_1 := bb_aF.lt
  go_wp2_with fail
  refine (laws_toFrame _ f0 _ ((hR0.below T1).keep0 (by repeat (first | with_reducible exact gb_refl _ | refine gb_alloc ?_ _ | refine gb_drewN ?_ _ | refine gb_drew ?_))) (by have := P0.out; simp only [FrameM.tot] at this; omega) (by have := P0.out; simp only [FrameM.tot] at this; omega) (by have := P0.out; simp only [FrameM.tot] at this; omega) (by have := P0.out; simp only [FrameM.tot] at this; omega) (by have := P0.out; simp only [FrameM.tot] at this; omega) (by have := P0.out; simp only [FrameM.tot] at this; omega)).mono ?_
  rintro e w2 ⟨v_tw00, rfl, o_tw00, g2⟩
  obtain ⟨a_tw00_0, n_tw00_0, c_tw00_0, a_tw00_1, n_tw00_1, c_tw00_1, a_tw00_2, n_tw00_2, c_tw00_2, a_tw00_3, n_tw00_3, c_tw00_3, a_tw00_4, n_tw00_4, c_tw00_4, a_tw00_5, n_tw00_5, c_tw00_5, rfl⟩ := o_tw00.r.shape
  have R2 : w1.grownBy w2 none := gb_trans (by repeat (first | with_reducible exact gb_refl _ | refine gb_alloc ?_ _ | refine gb_drewN ?_ _ | refine gb_drew ?_)) g2
  have T2 : Below w.heap.size w w2 := below_next T1 R2
  have z2 := R2.size
  clear cc_aF
  replace bb_aF := bb_aF.keep0 R2
  have cc_aF := fun o => bb_aF.cell o
  have ll_aF_2 := bb_aF.lt
  replace o_tw00 := o_tw00.low (B' := w1.heap.size) (by first | exact Nat.le_refl _ | (simp; done) | (simp; omega))
  go_wp2_with fail
  refine (LS_SizeOf _ f0 _ (o_tw00.r.keep0 (by repeat (first | with_reducible exact gb_refl _ | refine gb_alloc ?_ _ | refine gb_drewN ?_ _ | refine gb_drew ?_))) (by have := P0.out; omega)).mono ?_
  rintro e w3 ⟨rfl, g3⟩
  have R3 : w2.grownBy w3 none := gb_trans (by repeat (first | with_reducible exact gb_refl _ | refine gb_alloc ?_ _ | refine gb_drewN ?_ _ | refine gb_drew ?_)) g3
  have T3 : Below w.heap.size w w3 := below_next T2 R3
  have z3 := R3.size
  replace o_tw00 := o_tw00.keep0 R3
  clear cc_aF
  replace bb_aF := bb_aF.keep0 R3
  have cc_aF := fun o => bb_aF.cell o
  have ll_aF_3 := bb_aF.lt
  clear o_tw00
  go_wp2_with fail
  refine (laws_toFrame _ f0 _ ((hR0.below T3).keep0 (by repeat (first | with_reducible exact gb_refl _ | refine gb_alloc ?_ _ | refine gb_drewN ?_ _ | refine gb_drew ?_))) (by have := P0.out; simp only [FrameM.tot] at this; omega) (by have := P0.out; simp only [FrameM.tot] at this; omega) (by have := P0.out; simp only [FrameM.tot] at this; omega) (by have := P0.out; simp only [FrameM.tot] at this; omega) (by have := P0.out; simp only [FrameM.tot] at this; omega) (by have := P0.out; simp only [FrameM.tot] at this; omega)).mono ?_
  rintro e w4 ⟨v_x0, rfl, o_x0, g4⟩
  obtain ⟨a_x0_0, n_x0_0, c_x0_0, a_x0_1, n_x0_1, c_x0_1, a_x0_2, n_x0_2, c_x0_2, a_x0_3, n_x0_3, c_x0_3, a_x0_4, n_x0_4, c_x0_4, a_x0_5, n_x0_5, c_x0_5, rfl⟩ := o_x0.r.shape
  have R4 : w3.grownBy w4 none := gb_trans (by repeat (first | with_reducible exact gb_refl _ | refine gb_alloc ?_ _ | refine gb_drewN ?_ _ | refine gb_drew ?_)) g4
  have T4 : Below w.heap.size w w4 := below_next T3 R4
  have z4 := R4.size
  clear cc_aF
  replace bb_aF := bb_aF.keep0 R4
  have cc_aF := fun o => bb_aF.cell o
  have ll_aF_4 := bb_aF.lt
  replace o_x0 := o_x0.low (B' := w3.heap.size) (by first | exact Nat.le_refl _ | (simp; done) | (simp; omega))
  go_wp2_with fail
  refine (LI_SizeOf _ f0 _ (o_x0.r.keep0 (by repeat (first | with_reducible exact gb_refl _ | refine gb_alloc ?_ _ | refine gb_drewN ?_ _ | refine gb_drew ?_))) (by have := P0.out; omega)).mono ?_
  rintro e w5 ⟨rfl, g5⟩
  have R5 : w4.grownBy w5 none := gb_trans (by repeat (first | with_reducible exact gb_refl _ | refine gb_alloc ?_ _ | refine gb_drewN ?_ _ | refine gb_drew ?_)) g5
  have T5 : Below w.heap.size w w5 := below_next T4 R5
  have z5 := R5.size
  replace o_x0 := o_x0.keep0 R5
  clear cc_aF
  replace bb_aF := bb_aF.keep0 R5
  have bb_x0 : Bx w5 (w4.heap.size) 27 #[.int .i64 f0.kind, .int .i64 f0.id, .slice a_x0_0 n_x0_0 c_x0_0, .slice a_x0_1 n_x0_1 c_x0_1, .int .i64 f0.tick, .slice a_x0_2 n_x0_2 c_x0_2, .slice a_x0_3 n_x0_3 c_x0_3, .int .i64 f0.epoch, .int .i64 f0.seq, .slice a_x0_4 n_x0_4 c_x0_4, .slice a_x0_5 n_x0_5 c_x0_5] := (bx1 w4 _ _).keep0 g5
  have cc_aF := fun o => bb_aF.cell o
  have ll_aF_5 := bb_aF.lt
  have cc_x0 := fun o => bb_x0.cell o
  have ll_x0_5 := bb_x0.lt
  go_wp2_with fail
  have KX : Hid (∀ w', w5.grownBy w' none → (w'.cell? ⟨w.heap.size, 0, none⟩ = some (.int .i64 f0.kind) ∧ w'.cell? ⟨w.heap.size, 1, none⟩ = some (.int .i64 f0.id) ∧ w'.cell? ⟨w.heap.size, 2, none⟩ = some (.slice a0_0 n0_0 c0_0) ∧ w'.cell? ⟨w.heap.size, 3, none⟩ = some (.slice a0_1 n0_1 c0_1) ∧ w'.cell? ⟨w.heap.size, 4, none⟩ = some (.int .i64 f0.tick) ∧ w'.cell? ⟨w.heap.size, 5, none⟩ = some (.slice a0_2 n0_2 c0_2) ∧ w'.cell? ⟨w.heap.size, 6, none⟩ = some (.slice a0_3 n0_3 c0_3) ∧ w'.cell? ⟨w.heap.size, 7, none⟩ = some (.int .i64 f0.epoch) ∧ w'.cell? ⟨w.heap.size, 8, none⟩ = some (.int .i64 f0.seq) ∧ w'.cell? ⟨w.heap.size, 9, none⟩ = some (.slice a0_4 n0_4 c0_4) ∧ w'.cell? ⟨w.heap.size, 10, none⟩ = some (.slice a0_5 n0_5 c0_5) ∧ w'.cell? ⟨w4.heap.size, 0, none⟩ = some (.int .i64 f0.kind) ∧ w'.cell? ⟨w4.heap.size, 1, none⟩ = some (.int .i64 f0.id) ∧ w'.cell? ⟨w4.heap.size, 2, none⟩ = some (.slice a_x0_0 n_x0_0 c_x0_0) ∧ w'.cell? ⟨w4.heap.size, 3, none⟩ = some (.slice a_x0_1 n_x0_1 c_x0_1) ∧ w'.cell? ⟨w4.heap.size, 4, none⟩ = some (.int .i64 f0.tick) ∧ w'.cell? ⟨w4.heap.size, 5, none⟩ = some (.slice a_x0_2 n_x0_2 c_x0_2) ∧ w'.cell? ⟨w4.heap.size, 6, none⟩ = some (.slice a_x0_3 n_x0_3 c_x0_3) ∧ w'.cell? ⟨w4.heap.size, 7, none⟩ = some (.int .i64 f0.epoch) ∧ w'.cell? ⟨w4.heap.size, 8, none⟩ = some (.int .i64 f0.seq) ∧ w'.cell? ⟨w4.heap.size, 9, none⟩ = some (.slice a_x0_4 n_x0_4 c_x0_4) ∧ w'.cell? ⟨w4.heap.size, 10, none⟩ = some (.slice a_x0_5 n_x0_5 c_x0_5) ∧ w5.grownBy w' none)) :=
    fun w' hg => ⟨(bb_aF.keep0 hg).cell 0, (bb_aF.keep0 hg).cell 1, (bb_aF.keep0 hg).cell 2, (bb_aF.keep0 hg).cell 3, (bb_aF.keep0 hg).cell 4, (bb_aF.keep0 hg).cell 5, (bb_aF.keep0 hg).cell 6, (bb_aF.keep0 hg).cell 7, (bb_aF.keep0 hg).cell 8, (bb_aF.keep0 hg).cell 9, (bb_aF.keep0 hg).cell 10, (bb_x0.keep0 hg).cell 0, (bb_x0.keep0 hg).cell 1, (bb_x0.keep0 hg).cell 2, (bb_x0.keep0 hg).cell 3, (bb_x0.keep0 hg).cell 4, (bb_x0.keep0 hg).cell 5, (bb_x0.keep0 hg).cell 6, (bb_x0.keep0 hg).cell 7, (bb_x0.keep0 hg).cell 8, (bb_x0.keep0 hg).cell 9, (bb_x0.keep0 hg).cell 10, hg⟩
  clear cc_aF cc_x0
  go_region_held3 (fun w' => w'.cell? ⟨w.heap.size, 0, none⟩ = some (.int .i64 f0.kind) ∧ w'.cell? ⟨w.heap.size, 1, none⟩ = some (.int .i64 f0.id) ∧ w'.cell? ⟨w.heap.size, 2, none⟩ = some (.slice a0_0 n0_0 c0_0) ∧ w'.cell? ⟨w.heap.size, 3, none⟩ = some (.slice a0_1 n0_1 c0_1) ∧ w'.cell? ⟨w.heap.size, 4, none⟩ = some (.int .i64 f0.tick) ∧ w'.cell? ⟨w.heap.size, 5, none⟩ = some (.slice a0_2 n0_2 c0_2) ∧ w'.cell? ⟨w.heap.size, 6, none⟩ = some (.slice a0_3 n0_3 c0_3) ∧ w'.cell? ⟨w.heap.size, 7, none⟩ = some (.int .i64 f0.epoch) ∧ w'.cell? ⟨w.heap.size, 8, none⟩ = some (.int .i64 f0.seq) ∧ w'.cell? ⟨w.heap.size, 9, none⟩ = some (.slice a0_4 n0_4 c0_4) ∧ w'.cell? ⟨w.heap.size, 10, none⟩ = some (.slice a0_5 n0_5 c0_5) ∧ w'.cell? ⟨w4.heap.size, 0, none⟩ = some (.int .i64 f0.kind) ∧ w'.cell? ⟨w4.heap.size, 1, none⟩ = some (.int .i64 f0.id) ∧ w'.cell? ⟨w4.heap.size, 2, none⟩ = some (.slice a_x0_0 n_x0_0 c_x0_0) ∧ w'.cell? ⟨w4.heap.size, 3, none⟩ = some (.slice a_x0_1 n_x0_1 c_x0_1) ∧ w'.cell? ⟨w4.heap.size, 4, none⟩ = some (.int .i64 f0.tick) ∧ w'.cell? ⟨w4.heap.size, 5, none⟩ = some (.slice a_x0_2 n_x0_2 c_x0_2) ∧ w'.cell? ⟨w4.heap.size, 6, none⟩ = some (.slice a_x0_3 n_x0_3 c_x0_3) ∧ w'.cell? ⟨w4.heap.size, 7, none⟩ = some (.int .i64 f0.epoch) ∧ w'.cell? ⟨w4.heap.size, 8, none⟩ = some (.int .i64 f0.seq) ∧ w'.cell? ⟨w4.heap.size, 9, none⟩ = some (.slice a_x0_4 n_x0_4 c_x0_4) ∧ w'.cell? ⟨w4.heap.size, 10, none⟩ = some (.slice a_x0_5 n_x0_5 c_x0_5) ∧ w5.grownBy w' none)
    ((refine KX.out _ ?_; first | exact gb_drew (gb_refl _) | exact gb_trans (gb_trans (gb_drew (gb_refl _)) g6a) g6b | exact gb_trans (gb_drew (gb_refl _)) g6a))
    (first
      | (go_at_call 10; refine (laws_toFrame _ f0 _ ((hR0.below T5).keep0 (gb_drew (gb_refl _))) (by have := P0.out; simp only [FrameM.tot] at this; omega) (by have := P0.out; simp only [FrameM.tot] at this; omega) (by have := P0.out; simp only [FrameM.tot] at this; omega) (by have := P0.out; simp only [FrameM.tot] at this; omega) (by have := P0.out; simp only [FrameM.tot] at this; omega) (by have := P0.out; simp only [FrameM.tot] at this; omega)).mono ?_; rintro e wy6 ⟨vy, rfl, oy, g6a⟩; obtain ⟨a_yx0_0, n_yx0_0, c_yx0_0, a_yx0_1, n_yx0_1, c_yx0_1, a_yx0_2, n_yx0_2, c_yx0_2, a_yx0_3, n_yx0_3, c_yx0_3, a_yx0_4, n_yx0_4, c_yx0_4, a_yx0_5, n_yx0_5, c_yx0_5, rfl⟩ := oy.r.shape)
      | (go_at_call 12; refine (laws_eqFrame _ _ f0 _ (o_x0.r.keep0 (gb_trans (gb_drew (gb_refl _)) g6a)) oy.r (by have h9 := (by have := P0.out; omega); simp only [FrameM.tot] at h9; omega) (by have h9 := (by have := P0.out; omega); simp only [FrameM.tot] at h9; omega) (by have h9 := (by have := P0.out; omega); simp only [FrameM.tot] at h9; omega) (by have h9 := (by have := P0.out; omega); simp only [FrameM.tot] at h9; omega) (by have h9 := (by have := P0.out; omega); simp only [FrameM.tot] at h9; omega) (by have h9 := (by have := P0.out; omega); simp only [FrameM.tot] at h9; omega)).mono ?_; rintro e w6 ⟨rfl, g6b⟩))
  have g6 := gb_trans g6a g6b
  have cc_aF : True := trivial
  have cc_x0 : True := trivial
  have R6 : w5.grownBy w6 none := gb_trans (gb_drew (gb_refl _)) (gb_trans g6a g6b)
  have T6 : Below w.heap.size w w6 := below_next T5 R6
  have z6 := R6.size
  replace o_x0 := o_x0.keep0 R6
  clear cc_aF cc_x0
  replace bb_aF := bb_aF.keep0 R6
  replace bb_x0 := bb_x0.keep0 R6
  have cc_aF := fun o => bb_aF.cell o
  have ll_aF_6 := bb_aF.lt
  have cc_x0 := fun o => bb_x0.cell o
  have ll_x0_6 := bb_x0.lt
  clear KX oy
  go_wp2
  go_ret
  exact ⟨rfl, T6⟩
set_option maxRecDepth 100000 in
theorem lifted (os : Os) (started : os.Started) (H : Type) (enc : TypeId × Value → H) :
    ReturnsInHanded {} Try.checked os 4 .any (Rows.fnExactSizeOfSpec.pre6 enc Try.prog Try.f4 Rows.fnExactSizeOfRow.domain false) (Rows.fnExactSizeOfSpec.post enc Try.prog Try.f4 false true false false) := by
  refine returnsInHanded_of_change (C := Try.checked) own started (by kernel_rfl) Try.func4
    (ChangeSpec.witness6 (enc := enc) (C := Try.checked) false ⟨#[], #[.agg #[.int .i64 0, .int .i64 0, .slice none 0 0, .slice none 0 0, .int .i64 0, .slice none 0 0, .slice none 0 0, .int .i64 0, .int .i64 0, .slice none 0 0, .slice none 0 0]], []⟩ 8 (by kernel_rfl) (by kernel_rfl) (by kernel_rfl) (by kernel_rfl)) ?_
  intro W base args ds gs before hval0 hW _ _
  have hval : ∀ (j : Nat) t v, Try.f4.params[j]? = some t → args[j]? = some v → Value.okWide Try.prog W .any base t v := hval0
  have hW2 := hW
  obtain ⟨p, q, hA0, hV, hps, _, _⟩ := hW
  have hA : DataW.TrodAll enc Try.prog W 0 (fun _ => true) true Try.f4.params.toList args.toList ds p := hA0
  rw [Try.params4] at hA hval
  obtain ⟨rfl, rfl⟩ := trodVars_none hV
  obtain ⟨v0, vs0, d0, ds0, p0, q0, hargs, rfl, rfl, h0, r0⟩ := trodAll_cons hA
  obtain ⟨rfl, rfl, rfl⟩ := trodAll_nil r0
  obtain rfl : args = #[v0] := by cases args; simp_all
  have i0 := open_Frame (hval 0 24 v0 rfl rfl) h0
  clear hA0 hval0
  refine (walk W v0 i0).mono fun e W2 ⟨he, hb⟩ => ?_
  subst he
  exact ⟨_, rfl, law_post (tb := 4) laidOut (by kernel_rfl) (by kernel_rfl) Try.underlying4 rfl ⟨rfl, rfl, rfl⟩ hW2 hb⟩
theorem over : Rows.fnExactSizeOfRow.holds Try.pinned (OpenSpec.ofChange Rows.fnExactSizeOfSpec) :=
  OpenClaim.holds_of_wide 4 Try.f4 rfl rfl rfl rfl rfl rfl rfl ⟨rfl, rfl, rfl, rfl, rfl⟩ rfl rfl rfl rfl rfl (by kernel_rfl) Try.func4 (by kernel_rfl)
    (of_decide_eq_true (by kernel_rfl)) (by unfold Func.isWrapper; first | (rw [if_pos (by decide +kernel)]; kernel_rfl) | (rw [if_neg (by decide +kernel)]; exact ⟨rfl, rfl⟩))
    (fun os started H enc _ => lifted os started H enc)
theorem proved : Rows.FnExactSizeOfSaid :=
  over
#print axioms proved
end Go.Proofs.Ytmjbhcfmgogkeaa.lSizeOf
