/-
  FnExactWinNew returns true. Conditions: none.
-/
import Derived.Test.YtgdhciebmcpkaaaLaw
import Derived.Test.YtgdhciebmcpkaaaWinN
namespace Go.Proofs.Ytgdhciebmcpkaaa.lWinNew
open Go.ChangeShapes Go.WideShapes Go.ChangeAt Go.RowKit
theorem LS_WinNew (w : World) : Calls Try.prog 24 #[] w fun e w' => ∃ v', e = .returned v' ∧ WinO w.heap.size w'.heap.size w' v' winNew ∧ w.grownBy w' none := spec_WinNew w
theorem LI_WinNew (w : World) : Calls Try.prog 25 #[] w fun e w' => ∃ v', e = .returned v' ∧ WinO w.heap.size w'.heap.size w' v' winNew ∧ w.grownBy w' none := impl_WinNew w
set_option maxRecDepth 100000 in
set_option maxHeartbeats 4000000 in
theorem walk (w : World) : Calls Try.prog 7 #[] w fun e w' => e = .returned (.bool true) ∧ Below w.heap.size w w' := by
  have T0 : Below w.heap.size w w := Below.refl _ _
  go_enter Try.func7, Try.ntmps7
  go_wp2_with fail
  refine (LS_WinNew  _  ).mono ?_
  rintro e w1 ⟨v_w0, rfl, o_w0, g1⟩
  obtain ⟨a_w0_0, n_w0_0, c_w0_0, rfl⟩ := o_w0.r.shape
  have R1 : w.grownBy w1 none := gb_trans (by repeat (first | with_reducible exact gb_refl _ | refine gb_alloc ?_ _ | refine gb_drewN ?_ _ | refine gb_drew ?_)) g1
  have T1 : Below w.heap.size w w1 := below_next T0 R1
  have z1 := R1.size
  replace o_w0 := o_w0.low (B' := w.heap.size) (by first | exact Nat.le_refl _ | (simp; done) | (simp; omega))
  go_wp2_with fail
  refine (LI_WinNew  _  ).mono ?_
  rintro e w2 ⟨v_g0, rfl, o_g0, g2⟩
  obtain ⟨a_g0_0, n_g0_0, c_g0_0, rfl⟩ := o_g0.r.shape
  have R2 : w1.grownBy w2 none := gb_trans (by repeat (first | with_reducible exact gb_refl _ | refine gb_alloc ?_ _ | refine gb_drewN ?_ _ | refine gb_drew ?_)) g2
  have T2 : Below w.heap.size w w2 := below_next T1 R2
  have z2 := R2.size
  replace o_w0 := o_w0.keep0 R2
  have bb_w0 : Bx w2 (w1.heap.size) 45 #[.int .i64 (winNew).top, .slice a_w0_0 n_w0_0 c_w0_0] := (bx1 w1 _ _).keep0 g2
  have cc_w0 := fun o => bb_w0.cell o
  have ll_w0_2 := bb_w0.lt
  replace o_g0 := o_g0.low (B' := w1.heap.size + 1) (by first | exact Nat.le_refl _ | (simp; done) | (simp; omega))
  go_wp2_with fail
  refine (laws_eqWin _ _ winNew _ (o_g0.r.keep0 (by repeat (first | with_reducible exact gb_refl _ | refine gb_alloc ?_ _ | refine gb_drewN ?_ _ | refine gb_drew ?_))) (o_w0.r.keep0 (by repeat (first | with_reducible exact gb_refl _ | refine gb_alloc ?_ _ | refine gb_drewN ?_ _ | refine gb_drew ?_))) (by have h9 := (show winNew.tot ≤ 1048576 by decide); simp only [WinM.tot] at h9; omega)).mono ?_
  rintro e w3 ⟨rfl, g3⟩
  have R3 : w2.grownBy w3 none := gb_trans (by repeat (first | with_reducible exact gb_refl _ | refine gb_alloc ?_ _ | refine gb_drewN ?_ _ | refine gb_drew ?_)) g3
  have T3 : Below w.heap.size w w3 := below_next T2 R3
  have z3 := R3.size
  replace o_w0 := o_w0.keep0 R3
  replace o_g0 := o_g0.keep0 R3
  clear cc_w0
  replace bb_w0 := bb_w0.keep0 R3
  have bb_g0 : Bx w3 (w2.heap.size) 45 #[.int .i64 (winNew).top, .slice a_g0_0 n_g0_0 c_g0_0] := (bx1 w2 _ _).keep0 g3
  have cc_w0 := fun o => bb_w0.cell o
  have ll_w0_3 := bb_w0.lt
  have cc_g0 := fun o => bb_g0.cell o
  have ll_g0_3 := bb_g0.lt
  go_wp2_with fail
  refine (laws_markWin (w1.heap.size + 1) (w2.heap.size) _ winNew (1) _ (o_g0.keep0 (by repeat (first | with_reducible exact gb_refl _ | refine gb_alloc ?_ _ | refine gb_drewN ?_ _ | refine gb_drew ?_))) (by have h9 := (show winNew.tot ≤ 1048576 by decide); omega)).mono ?_
  rintro e w4 ⟨rfl, z_g0, g4⟩
  replace o_g0 := z_g0
  clear z_g0
  have R4 : gbI (w1.heap.size + 1) (w2.heap.size) w3 w4 := (gbI.of0 (by repeat (first | with_reducible exact gb_refl _ | refine gb_alloc ?_ _ | refine gb_drewN ?_ _ | refine gb_drew ?_))).trans g4
  have T4 : Below w.heap.size w w4 := below_nextI T3 R4 (by omega)
  have z4 := R4.size
  replace o_w0 := o_w0.keepI R4 (by omega)
  clear cc_w0 cc_g0
  replace bb_w0 := bb_w0.keepI R4 (by have := bb_w0.lt; omega)
  replace bb_g0 := bb_g0.keepI R4 (by have := bb_g0.lt; omega)
  have cc_w0 := fun o => bb_w0.cell o
  have ll_w0_4 := bb_w0.lt
  have cc_g0 := fun o => bb_g0.cell o
  have ll_g0_4 := bb_g0.lt
  go_wp2_with fail
  refine (laws_heldWin _ winNew (1) _ (o_g0.r.keep0 (by repeat (first | with_reducible exact gb_refl _ | refine gb_alloc ?_ _ | refine gb_drewN ?_ _ | refine gb_drew ?_))) (by have h9 := (show winNew.tot ≤ 1048576 by decide); have := (show winNew.tot ≤ 1048576 by decide); omega)).mono ?_
  rintro e w5 ⟨rfl, g5⟩
  have R5 : w4.grownBy w5 none := gb_trans (by repeat (first | with_reducible exact gb_refl _ | refine gb_alloc ?_ _ | refine gb_drewN ?_ _ | refine gb_drew ?_)) g5
  have T5 : Below w.heap.size w w5 := below_next T4 R5
  have z5 := R5.size
  replace o_w0 := o_w0.keep0 R5
  replace o_g0 := o_g0.keep0 R5
  clear cc_w0 cc_g0
  replace bb_w0 := bb_w0.keep0 R5
  replace bb_g0 := bb_g0.keep0 R5
  have cc_w0 := fun o => bb_w0.cell o
  have ll_w0_5 := bb_w0.lt
  have cc_g0 := fun o => bb_g0.cell o
  have ll_g0_5 := bb_g0.lt
  go_wp2_with fail
  refine (LI_WinNew  _  ).mono ?_
  rintro e w6 ⟨v_h0, rfl, o_h0, g6⟩
  obtain ⟨a_h0_0, n_h0_0, c_h0_0, rfl⟩ := o_h0.r.shape
  have R6 : w5.grownBy w6 none := gb_trans (by repeat (first | with_reducible exact gb_refl _ | refine gb_alloc ?_ _ | refine gb_drewN ?_ _ | refine gb_drew ?_)) g6
  have T6 : Below w.heap.size w w6 := below_next T5 R6
  have z6 := R6.size
  replace o_w0 := o_w0.keep0 R6
  replace o_g0 := o_g0.keep0 R6
  clear cc_w0 cc_g0
  replace bb_w0 := bb_w0.keep0 R6
  replace bb_g0 := bb_g0.keep0 R6
  have cc_w0 := fun o => bb_w0.cell o
  have ll_w0_6 := bb_w0.lt
  have cc_g0 := fun o => bb_g0.cell o
  have ll_g0_6 := bb_g0.lt
  replace o_h0 := o_h0.low (B' := w5.heap.size) (by first | exact Nat.le_refl _ | (simp; done) | (simp; omega))
  go_wp2_with fail
  refine (laws_eqWin _ _ winNew _ (o_h0.r.keep0 (by repeat (first | with_reducible exact gb_refl _ | refine gb_alloc ?_ _ | refine gb_drewN ?_ _ | refine gb_drew ?_))) (o_w0.r.keep0 (by repeat (first | with_reducible exact gb_refl _ | refine gb_alloc ?_ _ | refine gb_drewN ?_ _ | refine gb_drew ?_))) (by have h9 := (show winNew.tot ≤ 1048576 by decide); simp only [WinM.tot] at h9; omega)).mono ?_
  rintro e w7 ⟨rfl, g7⟩
  have R7 : w6.grownBy w7 none := gb_trans (by repeat (first | with_reducible exact gb_refl _ | refine gb_alloc ?_ _ | refine gb_drewN ?_ _ | refine gb_drew ?_)) g7
  have T7 : Below w.heap.size w w7 := below_next T6 R7
  have z7 := R7.size
  replace o_w0 := o_w0.keep0 R7
  replace o_g0 := o_g0.keep0 R7
  replace o_h0 := o_h0.keep0 R7
  clear cc_w0 cc_g0
  replace bb_w0 := bb_w0.keep0 R7
  replace bb_g0 := bb_g0.keep0 R7
  have bb_h0 : Bx w7 (w6.heap.size) 45 #[.int .i64 (winNew).top, .slice a_h0_0 n_h0_0 c_h0_0] := (bx1 w6 _ _).keep0 g7
  have cc_w0 := fun o => bb_w0.cell o
  have ll_w0_7 := bb_w0.lt
  have cc_g0 := fun o => bb_g0.cell o
  have ll_g0_7 := bb_g0.lt
  have cc_h0 := fun o => bb_h0.cell o
  have ll_h0_7 := bb_h0.lt
  go_wp2_with fail
  refine (laws_heldWin _ winNew (1) _ (o_g0.r.keep0 (by repeat (first | with_reducible exact gb_refl _ | refine gb_alloc ?_ _ | refine gb_drewN ?_ _ | refine gb_drew ?_))) (by have h9 := (show winNew.tot ≤ 1048576 by decide); have := (show winNew.tot ≤ 1048576 by decide); omega)).mono ?_
  rintro e w8 ⟨rfl, g8⟩
  have R8 : w7.grownBy w8 none := gb_trans (by repeat (first | with_reducible exact gb_refl _ | refine gb_alloc ?_ _ | refine gb_drewN ?_ _ | refine gb_drew ?_)) g8
  have T8 : Below w.heap.size w w8 := below_next T7 R8
  have z8 := R8.size
  replace o_w0 := o_w0.keep0 R8
  replace o_g0 := o_g0.keep0 R8
  replace o_h0 := o_h0.keep0 R8
  clear cc_w0 cc_g0 cc_h0
  replace bb_w0 := bb_w0.keep0 R8
  replace bb_g0 := bb_g0.keep0 R8
  replace bb_h0 := bb_h0.keep0 R8
  have cc_w0 := fun o => bb_w0.cell o
  have ll_w0_8 := bb_w0.lt
  have cc_g0 := fun o => bb_g0.cell o
  have ll_g0_8 := bb_g0.lt
  have cc_h0 := fun o => bb_h0.cell o
  have ll_h0_8 := bb_h0.lt
  go_wp2
  go_ret
  exact ⟨rfl, T8⟩
set_option maxRecDepth 100000 in
theorem lifted (os : Os) (started : os.Started) (H : Type) (enc : TypeId × Value → H) :
    ReturnsInHanded {} Try.checked os 7 .any (Rows.fnExactWinNewSpec.pre6 enc Try.prog Try.f7 Rows.fnExactWinNewRow.domain false) (Rows.fnExactWinNewSpec.post enc Try.prog Try.f7 false true false false) := by
  refine returnsInHanded_of_change (C := Try.checked) own started (by kernel_rfl) Try.func7
    (ChangeSpec.witness6 (enc := enc) (C := Try.checked) false ⟨#[], #[], []⟩ 8 (by kernel_rfl) (by kernel_rfl) (by kernel_rfl) (by kernel_rfl)) ?_
  intro W base args ds gs before hval0 hW _ _
  have hW2 := hW
  obtain ⟨p, q, hA0, hV, hps, _, _⟩ := hW
  have hA : DataW.TrodAll enc Try.prog W 0 (fun _ => true) true Try.f7.params.toList args.toList ds p := hA0
  rw [Try.params7] at hA
  obtain ⟨rfl, rfl⟩ := trodVars_none hV
  obtain ⟨rfl, rfl, rfl⟩ := trodAll_none hA
  clear hA0 hval0
  refine (walk W).mono fun e W2 ⟨he, hb⟩ => ?_
  subst he
  exact ⟨_, rfl, law_post (tb := 4) laidOut (by kernel_rfl) (by kernel_rfl) Try.underlying4 rfl ⟨rfl, rfl, rfl⟩ hW2 hb⟩
theorem over : Rows.fnExactWinNewRow.holds Try.pinned (OpenSpec.ofChange Rows.fnExactWinNewSpec) :=
  OpenClaim.holds_of_wide 7 Try.f7 rfl rfl rfl rfl rfl rfl rfl ⟨rfl, rfl, rfl, rfl, rfl⟩ rfl rfl rfl rfl rfl (by kernel_rfl) Try.func7 (by kernel_rfl)
    (of_decide_eq_true (by kernel_rfl)) (by unfold Func.isWrapper; first | (rw [if_pos (by decide +kernel)]; kernel_rfl) | (rw [if_neg (by decide +kernel)]; exact ⟨rfl, rfl⟩))
    (fun os started H enc _ => lifted os started H enc)
theorem proved : Rows.FnExactWinNewSaid :=
  over
#print axioms proved
end Go.Proofs.Ytgdhciebmcpkaaa.lWinNew
