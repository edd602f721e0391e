/-
  FnExactWinMay returns true for every window and every number. Conditions: none.
-/
import Derived.Test.YteeidlohhlnkgaaLaw
import Derived.Test.YteeidlohhlnkgaaWin
import Derived.Deep.RegionHeld3
namespace Go.Proofs.Yteeidlohhlnkgaa.lWinMay
open Go.ChangeShapes Go.WideShapes Go.ChangeAt Go.RowKit
theorem LS_WinMay (v : Value) (f : WinM) (n : Int) (w : World) (h : WinR w v f) (_hs : f.tot ≤ 1048576) : Calls Try.prog 16 #[v, .int .i64 n] w fun e w' => e = .returned (.bool (winMay f n)) ∧ w.grownBy w' none := spec_WinMay v f n w h
theorem LI_WinMay (v : Value) (f : WinM) (n : Int) (w : World) (h : WinR w v f) (hs : f.tot ≤ 1048576) : Calls Try.prog 17 #[v, .int .i64 n] w fun e w' => e = .returned (.bool (winMay f n)) ∧ w.grownBy w' none := impl_WinMay v f n w h (by simp only [WinM.tot] at hs; omega)
set_option maxRecDepth 100000 in
set_option maxHeartbeats 4000000 in
theorem walk (w : World) (v0 v1 : Value) (h0 : InWin w v0) (h1 : InInt v1) : Calls Try.prog 5 #[v0, v1] w fun e w' => e = .returned (.bool true) ∧ Below w.heap.size w w' := by
  obtain ⟨f0, hR0, hL0⟩ := h0
  have hS0 := hR0.shape
  obtain ⟨a0_0, n0_0, c0_0, rfl⟩ := hS0
  obtain ⟨x1, rfl, hx1⟩ := h1
  have T0 : Below w.heap.size w w := Below.refl _ _
  go_enter Try.func5, Try.ntmps5
  rcases Nat.lt_or_ge (1048576) f0.tot with p0 | p0
  · go_wp2_with fail
    refine (laws_szWin _ f0 (1048576) _ ((hR0.below T0).keep0 (by repeat (first | with_reducible exact gb_refl _ | refine gb_alloc ?_ _ | refine gb_drewN ?_ _ | refine gb_drew ?_))) (by omega) (hL0.len1)).mono ?_
    rintro e w9 ⟨_, hn9, g9⟩
    obtain rfl := hn9 p0
    clear hn9
    go_wp2
    go_ret
    exact ⟨rfl, below_next T0 (gb_trans (by repeat (first | with_reducible exact gb_refl _ | refine gb_alloc ?_ _ | refine gb_drewN ?_ _ | refine gb_drew ?_)) g9)⟩
  have P0 := Lib.hid p0
  clear p0
  go_wp2_with fail
  refine (laws_szWin _ f0 (1048576) _ ((hR0.below T0).keep0 (by repeat (first | with_reducible exact gb_refl _ | refine gb_alloc ?_ _ | refine gb_drewN ?_ _ | refine gb_drew ?_))) (by omega) (hL0.len1)).mono ?_
  rintro e w1 ⟨hy9, hn9, g1⟩
  obtain rfl := hy9 P0.out
  clear hy9 hn9
  have R1 : w.grownBy w1 none := gb_trans (by repeat (first | with_reducible exact gb_refl _ | refine gb_alloc ?_ _ | refine gb_drewN ?_ _ | refine gb_drew ?_)) g1
  have T1 : Below w.heap.size w w1 := below_next T0 R1
  have z1 := R1.size
  have bb_aW : Bx w1 (w.heap.size) 24 #[.int .i64 f0.top, .slice a0_0 n0_0 c0_0] := (bx1 w _ _).keep0 g1
  have cc_aW := fun o => bb_aW.cell o
  have ll_aW_1 := bb_aW.lt
  go_wp2_with fail
  refine (laws_toWin _ f0 _ ((hR0.below T1).keep0 (by repeat (first | with_reducible exact gb_refl _ | refine gb_alloc ?_ _ | refine gb_drewN ?_ _ | refine gb_drew ?_))) (by have := P0.out; simp only [WinM.tot] at this; omega)).mono ?_
  rintro e w2 ⟨v_tw00, rfl, o_tw00, g2⟩
  obtain ⟨a_tw00_0, n_tw00_0, c_tw00_0, rfl⟩ := o_tw00.r.shape
  have R2 : w1.grownBy w2 none := gb_trans (by repeat (first | with_reducible exact gb_refl _ | refine gb_alloc ?_ _ | refine gb_drewN ?_ _ | refine gb_drew ?_)) g2
  have T2 : Below w.heap.size w w2 := below_next T1 R2
  have z2 := R2.size
  clear cc_aW
  replace bb_aW := bb_aW.keep0 R2
  have cc_aW := fun o => bb_aW.cell o
  have ll_aW_2 := bb_aW.lt
  replace o_tw00 := o_tw00.low (B' := w1.heap.size) (by first | exact Nat.le_refl _ | (simp; done) | (simp; omega))
  go_wp2_with fail
  refine (LS_WinMay _ f0 x1 _ (o_tw00.r.keep0 (by repeat (first | with_reducible exact gb_refl _ | refine gb_alloc ?_ _ | refine gb_drewN ?_ _ | refine gb_drew ?_))) (by have := P0.out; omega)).mono ?_
  rintro e w3 ⟨rfl, g3⟩
  have R3 : w2.grownBy w3 none := gb_trans (by repeat (first | with_reducible exact gb_refl _ | refine gb_alloc ?_ _ | refine gb_drewN ?_ _ | refine gb_drew ?_)) g3
  have T3 : Below w.heap.size w w3 := below_next T2 R3
  have z3 := R3.size
  replace o_tw00 := o_tw00.keep0 R3
  clear cc_aW
  replace bb_aW := bb_aW.keep0 R3
  have cc_aW := fun o => bb_aW.cell o
  have ll_aW_3 := bb_aW.lt
  clear o_tw00
  go_wp2_with fail
  refine (laws_toWin _ f0 _ ((hR0.below T3).keep0 (by repeat (first | with_reducible exact gb_refl _ | refine gb_alloc ?_ _ | refine gb_drewN ?_ _ | refine gb_drew ?_))) (by have := P0.out; simp only [WinM.tot] at this; omega)).mono ?_
  rintro e w4 ⟨v_x0, rfl, o_x0, g4⟩
  obtain ⟨a_x0_0, n_x0_0, c_x0_0, rfl⟩ := o_x0.r.shape
  have R4 : w3.grownBy w4 none := gb_trans (by repeat (first | with_reducible exact gb_refl _ | refine gb_alloc ?_ _ | refine gb_drewN ?_ _ | refine gb_drew ?_)) g4
  have T4 : Below w.heap.size w w4 := below_next T3 R4
  have z4 := R4.size
  clear cc_aW
  replace bb_aW := bb_aW.keep0 R4
  have cc_aW := fun o => bb_aW.cell o
  have ll_aW_4 := bb_aW.lt
  replace o_x0 := o_x0.low (B' := w3.heap.size) (by first | exact Nat.le_refl _ | (simp; done) | (simp; omega))
  go_wp2_with fail
  refine (LI_WinMay _ f0 x1 _ (o_x0.r.keep0 (by repeat (first | with_reducible exact gb_refl _ | refine gb_alloc ?_ _ | refine gb_drewN ?_ _ | refine gb_drew ?_))) (by have := P0.out; omega)).mono ?_
  rintro e w5 ⟨rfl, g5⟩
  have R5 : w4.grownBy w5 none := gb_trans (by repeat (first | with_reducible exact gb_refl _ | refine gb_alloc ?_ _ | refine gb_drewN ?_ _ | refine gb_drew ?_)) g5
  have T5 : Below w.heap.size w w5 := below_next T4 R5
  have z5 := R5.size
  replace o_x0 := o_x0.keep0 R5
  clear cc_aW
  replace bb_aW := bb_aW.keep0 R5
  have bb_x0 : Bx w5 (w4.heap.size) 27 #[.int .i64 f0.top, .slice a_x0_0 n_x0_0 c_x0_0] := (bx1 w4 _ _).keep0 g5
  have cc_aW := fun o => bb_aW.cell o
  have ll_aW_5 := bb_aW.lt
  have cc_x0 := fun o => bb_x0.cell o
  have ll_x0_5 := bb_x0.lt
  go_wp2_with fail
  have KX : Hid (∀ w', w5.grownBy w' none → (w'.cell? ⟨w.heap.size, 0, none⟩ = some (.int .i64 f0.top) ∧ w'.cell? ⟨w.heap.size, 1, none⟩ = some (.slice a0_0 n0_0 c0_0) ∧ w'.cell? ⟨w4.heap.size, 0, none⟩ = some (.int .i64 f0.top) ∧ w'.cell? ⟨w4.heap.size, 1, none⟩ = some (.slice a_x0_0 n_x0_0 c_x0_0) ∧ w5.grownBy w' none)) :=
    fun w' hg => ⟨(bb_aW.keep0 hg).cell 0, (bb_aW.keep0 hg).cell 1, (bb_x0.keep0 hg).cell 0, (bb_x0.keep0 hg).cell 1, hg⟩
  clear cc_aW cc_x0
  go_region_held3 (fun w' => w'.cell? ⟨w.heap.size, 0, none⟩ = some (.int .i64 f0.top) ∧ w'.cell? ⟨w.heap.size, 1, none⟩ = some (.slice a0_0 n0_0 c0_0) ∧ w'.cell? ⟨w4.heap.size, 0, none⟩ = some (.int .i64 f0.top) ∧ w'.cell? ⟨w4.heap.size, 1, none⟩ = some (.slice a_x0_0 n_x0_0 c_x0_0) ∧ w5.grownBy w' none)
    ((refine KX.out _ ?_; first | exact gb_drew (gb_refl _) | exact gb_trans (gb_trans (gb_drew (gb_refl _)) g6a) g6b | exact gb_trans (gb_drew (gb_refl _)) g6a))
    (first
      | (go_at_call 11; refine (laws_toWin _ f0 _ ((hR0.below T5).keep0 (gb_drew (gb_refl _))) (by have := P0.out; simp only [WinM.tot] at this; omega)).mono ?_; rintro e wy6 ⟨vy, rfl, oy, g6a⟩; obtain ⟨a_yx0_0, n_yx0_0, c_yx0_0, rfl⟩ := oy.r.shape)
      | (go_at_call 13; refine (laws_eqWin _ _ f0 _ (o_x0.r.keep0 (gb_trans (gb_drew (gb_refl _)) g6a)) oy.r (by have h9 := (by have := P0.out; omega); simp only [WinM.tot] at h9; omega)).mono ?_; rintro e w6 ⟨rfl, g6b⟩))
  have g6 := gb_trans g6a g6b
  have cc_aW : True := trivial
  have cc_x0 : True := trivial
  have R6 : w5.grownBy w6 none := gb_trans (gb_drew (gb_refl _)) (gb_trans g6a g6b)
  have T6 : Below w.heap.size w w6 := below_next T5 R6
  have z6 := R6.size
  replace o_x0 := o_x0.keep0 R6
  clear cc_aW cc_x0
  replace bb_aW := bb_aW.keep0 R6
  replace bb_x0 := bb_x0.keep0 R6
  have cc_aW := fun o => bb_aW.cell o
  have ll_aW_6 := bb_aW.lt
  have cc_x0 := fun o => bb_x0.cell o
  have ll_x0_6 := bb_x0.lt
  clear KX oy
  go_wp2
  go_ret
  exact ⟨rfl, T6⟩
set_option maxRecDepth 100000 in
theorem lifted (os : Os) (started : os.Started) (H : Type) (enc : TypeId × Value → H) :
    ReturnsInHanded {} Try.checked os 5 .any (Rows.fnExactWinMaySpec.pre6 enc Try.prog Try.f5 Rows.fnExactWinMayRow.domain false) (Rows.fnExactWinMaySpec.post enc Try.prog Try.f5 false true false false) := by
  refine returnsInHanded_of_change (C := Try.checked) own started (by kernel_rfl) Try.func5
    (ChangeSpec.witness6 (enc := enc) (C := Try.checked) false ⟨#[], #[.agg #[.int .i64 0, .slice none 0 0], .int .i64 0], []⟩ 8 (by kernel_rfl) (by kernel_rfl) (by kernel_rfl) (by kernel_rfl)) ?_
  intro W base args ds gs before hval0 hW _ _
  have hval : ∀ (j : Nat) t v, Try.f5.params[j]? = some t → args[j]? = some v → Value.okWide Try.prog W .any base t v := hval0
  have hW2 := hW
  obtain ⟨p, q, hA0, hV, hps, _, _⟩ := hW
  have hA : DataW.TrodAll enc Try.prog W 0 (fun _ => true) true Try.f5.params.toList args.toList ds p := hA0
  rw [Try.params5] at hA hval
  obtain ⟨rfl, rfl⟩ := trodVars_none hV
  obtain ⟨v0, vs0, d0, ds0, p0, q0, hargs, rfl, rfl, h0, r0⟩ := trodAll_cons hA
  obtain ⟨v1, vs1, d1, ds1, p1, q1, rfl, rfl, rfl, h1, r1⟩ := trodAll_cons r0
  obtain ⟨rfl, rfl, rfl⟩ := trodAll_nil r1
  obtain rfl : args = #[v0, v1] := by cases args; simp_all
  have i0 := open_Win (hval 0 24 v0 rfl rfl) h0
  have i1 := open_I (hval 1 3 v1 rfl rfl) h1
  clear hA0 hval0
  refine (walk W v0 v1 i0 i1).mono fun e W2 ⟨he, hb⟩ => ?_
  subst he
  exact ⟨_, rfl, law_post (tb := 4) laidOut (by kernel_rfl) (by kernel_rfl) Try.underlying4 rfl ⟨rfl, rfl, rfl⟩ hW2 hb⟩
theorem over : Rows.fnExactWinMayRow.holds Try.pinned (OpenSpec.ofChange Rows.fnExactWinMaySpec) :=
  OpenClaim.holds_of_wide 5 Try.f5 rfl rfl rfl rfl rfl rfl rfl ⟨rfl, rfl, rfl, rfl, rfl⟩ rfl rfl rfl rfl rfl (by kernel_rfl) Try.func5 (by kernel_rfl)
    (of_decide_eq_true (by kernel_rfl)) (by unfold Func.isWrapper; first | (rw [if_pos (by decide +kernel)]; kernel_rfl) | (rw [if_neg (by decide +kernel)]; exact ⟨rfl, rfl⟩))
    (fun os started H enc _ => lifted os started H enc)
theorem proved : Rows.FnExactWinMaySaid :=
  over
#print axioms proved
end Go.Proofs.Yteeidlohhlnkgaa.lWinMay
