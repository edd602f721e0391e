/-
  FnExactEpOk returns true for every epoch. Conditions: none.
-/
import Derived.Test.YtpkjlhooiaedmaaLaw
import Derived.Test.YtpkjlhooiaedmaaEp
import Derived.Deep.RegionHeld3
namespace Go.Proofs.Ytpkjlhooiaedmaa.lEpOk
open Go.ChangeShapes Go.WideShapes Go.ChangeAt Go.RowKit
theorem LS_EpOk (v : Value) (f : EpM) (w : World) (h : EpR w v f) (hs : f.tot ≤ 1048576) : Calls Try.prog 41 #[v] w fun e w' => e = .returned (.bool (epOkB f)) ∧ w.grownBy w' none :=
  spec_EpOk v f w h (by simp only [EpM.tot] at hs; omega)
theorem LI_EpOk (v : Value) (f : EpM) (w : World) (h : EpR w v f) (hs : f.tot ≤ 1048576) : Calls Try.prog 43 #[v] w fun e w' => e = .returned (.bool (epOkB f)) ∧ w.grownBy w' none :=
  impl_EpOk v f w h (by simp only [EpM.tot] at hs; omega)
set_option maxRecDepth 100000 in
set_option maxHeartbeats 4000000 in
theorem walk (w : World) (v0 : Value) (h0 : InEp w v0) : Calls Try.prog 9 #[v0] w fun e w' => e = .returned (.bool true) ∧ Below w.heap.size w w' := by
  obtain ⟨f0, hR0, hL0⟩ := h0
  have hS0 := hR0.shape
  obtain ⟨a0_0, n0_0, c0_0, a0_1, n0_1, c0_1, rfl⟩ := hS0
  have T0 : Below w.heap.size w w := Below.refl _ _
  go_enter Try.func9, Try.ntmps9
  rcases Nat.lt_or_ge (1048576) f0.tot with p0 | p0
  · go_wp2_with fail
    refine (laws_szEp _ f0 (1048576) _ ((hR0.below T0).keep0 (by repeat (first | with_reducible exact gb_refl _ | refine gb_alloc ?_ _ | refine gb_drewN ?_ _ | refine gb_drew ?_))) (by omega) (hL0.len1) (hL0.len2)).mono ?_
    rintro e w9 ⟨_, hn9, g9⟩
    obtain rfl := hn9 p0
    clear hn9
    go_wp2
    go_ret
    exact ⟨rfl, below_next T0 (gb_trans (by repeat (first | with_reducible exact gb_refl _ | refine gb_alloc ?_ _ | refine gb_drewN ?_ _ | refine gb_drew ?_)) g9)⟩
  have P0 := Lib.hid p0
  clear p0
  go_wp2_with fail
  refine (laws_szEp _ f0 (1048576) _ ((hR0.below T0).keep0 (by repeat (first | with_reducible exact gb_refl _ | refine gb_alloc ?_ _ | refine gb_drewN ?_ _ | refine gb_drew ?_))) (by omega) (hL0.len1) (hL0.len2)).mono ?_
  rintro e w1 ⟨hy9, hn9, g1⟩
  obtain rfl := hy9 P0.out
  clear hy9 hn9
  have R1 : w.grownBy w1 none := gb_trans (by repeat (first | with_reducible exact gb_refl _ | refine gb_alloc ?_ _ | refine gb_drewN ?_ _ | refine gb_drew ?_)) g1
  have T1 : Below w.heap.size w w1 := below_next T0 R1
  have z1 := R1.size
  have bb_aE : Bx w1 (w.heap.size) 62 #[.int .i64 f0.n, .slice a0_0 n0_0 c0_0, .int .i64 f0.seq, .int .i64 f0.win.top, .slice a0_1 n0_1 c0_1] := (bx1 w _ _).keep0 g1
  have cc_aE := fun o => bb_aE.cell o
  have ll_aE_1 := bb_aE.lt
  go_wp2_with fail
  refine (laws_toEp _ f0 _ ((hR0.below T1).keep0 (by repeat (first | with_reducible exact gb_refl _ | refine gb_alloc ?_ _ | refine gb_drewN ?_ _ | refine gb_drew ?_))) (by have := P0.out; simp only [EpM.tot] at this; omega) (by have := P0.out; simp only [EpM.tot] at this; omega)).mono ?_
  rintro e w2 ⟨v_tw00, rfl, o_tw00, g2⟩
  obtain ⟨a_tw00_0, n_tw00_0, c_tw00_0, a_tw00_1, n_tw00_1, c_tw00_1, rfl⟩ := o_tw00.r.shape
  have R2 : w1.grownBy w2 none := gb_trans (by repeat (first | with_reducible exact gb_refl _ | refine gb_alloc ?_ _ | refine gb_drewN ?_ _ | refine gb_drew ?_)) g2
  have T2 : Below w.heap.size w w2 := below_next T1 R2
  have z2 := R2.size
  clear cc_aE
  replace bb_aE := bb_aE.keep0 R2
  have cc_aE := fun o => bb_aE.cell o
  have ll_aE_2 := bb_aE.lt
  replace o_tw00 := o_tw00.low (B' := w1.heap.size) (by first | exact Nat.le_refl _ | (simp; done) | (simp; omega))
  go_wp2_with fail
  refine (LS_EpOk _ f0 _ (o_tw00.r.keep0 (by repeat (first | with_reducible exact gb_refl _ | refine gb_alloc ?_ _ | refine gb_drewN ?_ _ | refine gb_drew ?_))) (by have := P0.out; omega)).mono ?_
  rintro e w3 ⟨rfl, g3⟩
  have R3 : w2.grownBy w3 none := gb_trans (by repeat (first | with_reducible exact gb_refl _ | refine gb_alloc ?_ _ | refine gb_drewN ?_ _ | refine gb_drew ?_)) g3
  have T3 : Below w.heap.size w w3 := below_next T2 R3
  have z3 := R3.size
  replace o_tw00 := o_tw00.keep0 R3
  clear cc_aE
  replace bb_aE := bb_aE.keep0 R3
  have cc_aE := fun o => bb_aE.cell o
  have ll_aE_3 := bb_aE.lt
  clear o_tw00
  go_wp2_with fail
  refine (laws_toEp _ f0 _ ((hR0.below T3).keep0 (by repeat (first | with_reducible exact gb_refl _ | refine gb_alloc ?_ _ | refine gb_drewN ?_ _ | refine gb_drew ?_))) (by have := P0.out; simp only [EpM.tot] at this; omega) (by have := P0.out; simp only [EpM.tot] at this; omega)).mono ?_
  rintro e w4 ⟨v_x0, rfl, o_x0, g4⟩
  obtain ⟨a_x0_0, n_x0_0, c_x0_0, a_x0_1, n_x0_1, c_x0_1, rfl⟩ := o_x0.r.shape
  have R4 : w3.grownBy w4 none := gb_trans (by repeat (first | with_reducible exact gb_refl _ | refine gb_alloc ?_ _ | refine gb_drewN ?_ _ | refine gb_drew ?_)) g4
  have T4 : Below w.heap.size w w4 := below_next T3 R4
  have z4 := R4.size
  clear cc_aE
  replace bb_aE := bb_aE.keep0 R4
  have cc_aE := fun o => bb_aE.cell o
  have ll_aE_4 := bb_aE.lt
  replace o_x0 := o_x0.low (B' := w3.heap.size) (by first | exact Nat.le_refl _ | (simp; done) | (simp; omega))
  go_wp2_with fail
  refine (LI_EpOk _ f0 _ (o_x0.r.keep0 (by repeat (first | with_reducible exact gb_refl _ | refine gb_alloc ?_ _ | refine gb_drewN ?_ _ | refine gb_drew ?_))) (by have := P0.out; omega)).mono ?_
  rintro e w5 ⟨rfl, g5⟩
  have R5 : w4.grownBy w5 none := gb_trans (by repeat (first | with_reducible exact gb_refl _ | refine gb_alloc ?_ _ | refine gb_drewN ?_ _ | refine gb_drew ?_)) g5
  have T5 : Below w.heap.size w w5 := below_next T4 R5
  have z5 := R5.size
  replace o_x0 := o_x0.keep0 R5
  clear cc_aE
  replace bb_aE := bb_aE.keep0 R5
  have bb_x0 : Bx w5 (w4.heap.size) 55 #[.int .i64 f0.n, .slice a_x0_0 n_x0_0 c_x0_0, .int .i64 f0.seq, .int .i64 f0.win.top, .slice a_x0_1 n_x0_1 c_x0_1] := (bx1 w4 _ _).keep0 g5
  have cc_aE := fun o => bb_aE.cell o
  have ll_aE_5 := bb_aE.lt
  have cc_x0 := fun o => bb_x0.cell o
  have ll_x0_5 := bb_x0.lt
  go_wp2_with fail
  have KX : Hid (∀ w', w5.grownBy w' none → (w'.cell? ⟨w.heap.size, 0, none⟩ = some (.int .i64 f0.n) ∧ w'.cell? ⟨w.heap.size, 1, none⟩ = some (.slice a0_0 n0_0 c0_0) ∧ w'.cell? ⟨w.heap.size, 2, none⟩ = some (.int .i64 f0.seq) ∧ w'.cell? ⟨w.heap.size, 3, none⟩ = some (.int .i64 f0.win.top) ∧ w'.cell? ⟨w.heap.size, 4, none⟩ = some (.slice a0_1 n0_1 c0_1) ∧ w'.cell? ⟨w4.heap.size, 0, none⟩ = some (.int .i64 f0.n) ∧ w'.cell? ⟨w4.heap.size, 1, none⟩ = some (.slice a_x0_0 n_x0_0 c_x0_0) ∧ w'.cell? ⟨w4.heap.size, 2, none⟩ = some (.int .i64 f0.seq) ∧ w'.cell? ⟨w4.heap.size, 3, none⟩ = some (.int .i64 f0.win.top) ∧ w'.cell? ⟨w4.heap.size, 4, none⟩ = some (.slice a_x0_1 n_x0_1 c_x0_1) ∧ w5.grownBy w' none)) :=
    fun w' hg => ⟨(bb_aE.keep0 hg).cell 0, (bb_aE.keep0 hg).cell 1, (bb_aE.keep0 hg).cell 2, (bb_aE.keep0 hg).cell 3, (bb_aE.keep0 hg).cell 4, (bb_x0.keep0 hg).cell 0, (bb_x0.keep0 hg).cell 1, (bb_x0.keep0 hg).cell 2, (bb_x0.keep0 hg).cell 3, (bb_x0.keep0 hg).cell 4, hg⟩
  clear cc_aE cc_x0
  go_region_held3 (fun w' => w'.cell? ⟨w.heap.size, 0, none⟩ = some (.int .i64 f0.n) ∧ w'.cell? ⟨w.heap.size, 1, none⟩ = some (.slice a0_0 n0_0 c0_0) ∧ w'.cell? ⟨w.heap.size, 2, none⟩ = some (.int .i64 f0.seq) ∧ w'.cell? ⟨w.heap.size, 3, none⟩ = some (.int .i64 f0.win.top) ∧ w'.cell? ⟨w.heap.size, 4, none⟩ = some (.slice a0_1 n0_1 c0_1) ∧ w'.cell? ⟨w4.heap.size, 0, none⟩ = some (.int .i64 f0.n) ∧ w'.cell? ⟨w4.heap.size, 1, none⟩ = some (.slice a_x0_0 n_x0_0 c_x0_0) ∧ w'.cell? ⟨w4.heap.size, 2, none⟩ = some (.int .i64 f0.seq) ∧ w'.cell? ⟨w4.heap.size, 3, none⟩ = some (.int .i64 f0.win.top) ∧ w'.cell? ⟨w4.heap.size, 4, none⟩ = some (.slice a_x0_1 n_x0_1 c_x0_1) ∧ w5.grownBy w' none)
    ((refine KX.out _ ?_; first | exact gb_drew (gb_refl _) | exact gb_trans (gb_trans (gb_drew (gb_refl _)) g6a) g6b | exact gb_trans (gb_drew (gb_refl _)) g6a))
    (first
      | (go_at_call 42; refine (laws_toEp _ f0 _ ((hR0.below T5).keep0 (gb_drew (gb_refl _))) (by have := P0.out; simp only [EpM.tot] at this; omega) (by have := P0.out; simp only [EpM.tot] at this; omega)).mono ?_; rintro e wy6 ⟨vy, rfl, oy, g6a⟩; obtain ⟨a_yx0_0, n_yx0_0, c_yx0_0, a_yx0_1, n_yx0_1, c_yx0_1, rfl⟩ := oy.r.shape)
      | (go_at_call 37; refine (laws_eqEp _ _ f0 _ (o_x0.r.keep0 (gb_trans (gb_drew (gb_refl _)) g6a)) oy.r (by have h9 := (by have := P0.out; omega); simp only [EpM.tot] at h9; omega) (by have h9 := (by have := P0.out; omega); simp only [EpM.tot] at h9; omega)).mono ?_; rintro e w6 ⟨rfl, g6b⟩))
  have g6 := gb_trans g6a g6b
  have cc_aE : True := trivial
  have cc_x0 : True := trivial
  have R6 : w5.grownBy w6 none := gb_trans (gb_drew (gb_refl _)) (gb_trans g6a g6b)
  have T6 : Below w.heap.size w w6 := below_next T5 R6
  have z6 := R6.size
  replace o_x0 := o_x0.keep0 R6
  clear cc_aE cc_x0
  replace bb_aE := bb_aE.keep0 R6
  replace bb_x0 := bb_x0.keep0 R6
  have cc_aE := fun o => bb_aE.cell o
  have ll_aE_6 := bb_aE.lt
  have cc_x0 := fun o => bb_x0.cell o
  have ll_x0_6 := bb_x0.lt
  clear KX oy
  go_wp2
  go_ret
  exact ⟨rfl, T6⟩
set_option maxRecDepth 100000 in
theorem lifted (os : Os) (started : os.Started) (H : Type) (enc : TypeId × Value → H) :
    ReturnsInHanded {} Try.checked os 9 .any (Rows.fnExactEpOkSpec.pre6 enc Try.prog Try.f9 Rows.fnExactEpOkRow.domain false) (Rows.fnExactEpOkSpec.post enc Try.prog Try.f9 false true false false) := by
  refine returnsInHanded_of_change (C := Try.checked) own started (by kernel_rfl) Try.func9
    (ChangeSpec.witness6 (enc := enc) (C := Try.checked) false ⟨#[], #[.agg #[.int .i64 0, .slice none 0 0, .int .i64 0, .int .i64 0, .slice none 0 0]], []⟩ 8 (by kernel_rfl) (by kernel_rfl) (by kernel_rfl) (by kernel_rfl)) ?_
  intro W base args ds gs before hval0 hW _ _
  have hval : ∀ (j : Nat) t v, Try.f9.params[j]? = some t → args[j]? = some v → Value.okWide Try.prog W .any base t v := hval0
  have hW2 := hW
  obtain ⟨p, q, hA0, hV, hps, _, _⟩ := hW
  have hA : DataW.TrodAll enc Try.prog W 0 (fun _ => true) true Try.f9.params.toList args.toList ds p := hA0
  rw [Try.params9] at hA hval
  obtain ⟨rfl, rfl⟩ := trodVars_none hV
  obtain ⟨v0, vs0, d0, ds0, p0, q0, hargs, rfl, rfl, h0, r0⟩ := trodAll_cons hA
  obtain ⟨rfl, rfl, rfl⟩ := trodAll_nil r0
  obtain rfl : args = #[v0] := by cases args; simp_all
  have i0 := open_Ep (hval 0 62 v0 rfl rfl) h0
  clear hA0 hval0
  refine (walk W v0 i0).mono fun e W2 ⟨he, hb⟩ => ?_
  subst he
  exact ⟨_, rfl, law_post (tb := 4) laidOut (by kernel_rfl) (by kernel_rfl) Try.underlying4 rfl ⟨rfl, rfl, rfl⟩ hW2 hb⟩
theorem over : Rows.fnExactEpOkRow.holds Try.pinned (OpenSpec.ofChange Rows.fnExactEpOkSpec) :=
  OpenClaim.holds_of_wide 9 Try.f9 rfl rfl rfl rfl rfl rfl rfl ⟨rfl, rfl, rfl, rfl, rfl⟩ rfl rfl rfl rfl rfl (by kernel_rfl) Try.func9 (by kernel_rfl)
    (of_decide_eq_true (by kernel_rfl)) (by unfold Func.isWrapper; first | (rw [if_pos (by decide +kernel)]; kernel_rfl) | (rw [if_neg (by decide +kernel)]; exact ⟨rfl, rfl⟩))
    (fun os started H enc _ => lifted os started H enc)
theorem proved : Rows.FnExactEpOkSaid :=
  over
#print axioms proved
end Go.Proofs.Ytpkjlhooiaedmaa.lEpOk
