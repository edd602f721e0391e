/-
  FnExactJarOk returns true for every jar. Conditions: none.
-/
import Derived.Test.YtgdhciebmcpkaaaLaw
import Derived.Test.YtgdhciebmcpkaaaWord
import Derived.Deep.RegionHeld3
namespace Go.Proofs.Ytgdhciebmcpkaaa.lJarOk
open Go.ChangeShapes Go.WideShapes Go.ChangeAt Go.RowKit
theorem len_eq {n m : Nat} (h : m = n) : ((n : Int) == 32) = (m == 32) := by
  subst h
  rw [Bool.eq_iff_iff]
  simp
  omega
theorem LS_JarOk (v : Value) (f : JarM) (w : World) (h : JarR w v f) (_hs : f.tot ≤ 1048576) : Calls Try.prog 15 #[v] w fun e w' => e = .returned (.bool (f.secret.length == 32)) ∧ w.grownBy w' none := by
  obtain ⟨a, n, c, rfl, h1⟩ := h
  exact (spec_JarOk a n c w).mono fun e w' ⟨h2, h3⟩ => ⟨by rw [h2, len_eq h1.blen], h3⟩
theorem LI_JarOk (v : Value) (f : JarM) (w : World) (h : JarR w v f) (_hs : f.tot ≤ 1048576) : Calls Try.prog 17 #[v] w fun e w' => e = .returned (.bool (f.secret.length == 32)) ∧ w.grownBy w' none := by
  obtain ⟨a, n, c, rfl, h1⟩ := h
  exact (impl_JarOk a n c w).mono fun e w' ⟨h2, h3⟩ => ⟨by rw [h2, len_eq h1.blen], h3⟩
set_option maxRecDepth 100000 in
set_option maxHeartbeats 4000000 in
theorem walk (w : World) (v0 : Value) (h0 : InJar w v0) : Calls Try.prog 5 #[v0] w fun e w' => e = .returned (.bool true) ∧ Below w.heap.size w w' := by
  obtain ⟨f0, hR0, hL0⟩ := h0
  have hS0 := hR0.shape
  obtain ⟨a0_0, n0_0, c0_0, rfl⟩ := hS0
  have T0 : Below w.heap.size w w := Below.refl _ _
  go_enter Try.func5, Try.ntmps5
  rcases Nat.lt_or_ge (1048576) f0.tot with p0 | p0
  · go_wp2_with fail
    refine (laws_szJar _ f0 (1048576) _ ((hR0.below T0).keep0 (by repeat (first | with_reducible exact gb_refl _ | refine gb_alloc ?_ _ | refine gb_drewN ?_ _ | refine gb_drew ?_))) (by omega) (hL0.len1)).mono ?_
    rintro e w9 ⟨_, hn9, g9⟩
    obtain rfl := hn9 p0
    clear hn9
    go_wp2
    go_ret
    exact ⟨rfl, below_next T0 (gb_trans (by repeat (first | with_reducible exact gb_refl _ | refine gb_alloc ?_ _ | refine gb_drewN ?_ _ | refine gb_drew ?_)) g9)⟩
  have P0 := Lib.hid p0
  clear p0
  go_wp2_with fail
  refine (laws_szJar _ f0 (1048576) _ ((hR0.below T0).keep0 (by repeat (first | with_reducible exact gb_refl _ | refine gb_alloc ?_ _ | refine gb_drewN ?_ _ | refine gb_drew ?_))) (by omega) (hL0.len1)).mono ?_
  rintro e w1 ⟨hy9, hn9, g1⟩
  obtain rfl := hy9 P0.out
  clear hy9 hn9
  have R1 : w.grownBy w1 none := gb_trans (by repeat (first | with_reducible exact gb_refl _ | refine gb_alloc ?_ _ | refine gb_drewN ?_ _ | refine gb_drew ?_)) g1
  have T1 : Below w.heap.size w w1 := below_next T0 R1
  have z1 := R1.size
  have bb_aJ : Bx w1 (w.heap.size) 28 #[.slice a0_0 n0_0 c0_0] := (bx1 w _ _).keep0 g1
  have cc_aJ := fun o => bb_aJ.cell o
  have ll_aJ_1 := bb_aJ.lt
  go_wp2_with fail
  refine (laws_toJar _ f0 _ ((hR0.below T1).keep0 (by repeat (first | with_reducible exact gb_refl _ | refine gb_alloc ?_ _ | refine gb_drewN ?_ _ | refine gb_drew ?_))) (by have := P0.out; simp only [JarM.tot] at this; omega)).mono ?_
  rintro e w2 ⟨v_tw00, rfl, o_tw00, g2⟩
  obtain ⟨a_tw00_0, n_tw00_0, c_tw00_0, rfl⟩ := o_tw00.r.shape
  have R2 : w1.grownBy w2 none := gb_trans (by repeat (first | with_reducible exact gb_refl _ | refine gb_alloc ?_ _ | refine gb_drewN ?_ _ | refine gb_drew ?_)) g2
  have T2 : Below w.heap.size w w2 := below_next T1 R2
  have z2 := R2.size
  clear cc_aJ
  replace bb_aJ := bb_aJ.keep0 R2
  have cc_aJ := fun o => bb_aJ.cell o
  have ll_aJ_2 := bb_aJ.lt
  replace o_tw00 := o_tw00.low (B' := w1.heap.size) (by first | exact Nat.le_refl _ | (simp; done) | (simp; omega))
  go_wp2_with fail
  refine (LS_JarOk _ f0 _ (o_tw00.r.keep0 (by repeat (first | with_reducible exact gb_refl _ | refine gb_alloc ?_ _ | refine gb_drewN ?_ _ | refine gb_drew ?_))) (by have := P0.out; omega)).mono ?_
  rintro e w3 ⟨rfl, g3⟩
  have R3 : w2.grownBy w3 none := gb_trans (by repeat (first | with_reducible exact gb_refl _ | refine gb_alloc ?_ _ | refine gb_drewN ?_ _ | refine gb_drew ?_)) g3
  have T3 : Below w.heap.size w w3 := below_next T2 R3
  have z3 := R3.size
  replace o_tw00 := o_tw00.keep0 R3
  clear cc_aJ
  replace bb_aJ := bb_aJ.keep0 R3
  have cc_aJ := fun o => bb_aJ.cell o
  have ll_aJ_3 := bb_aJ.lt
  clear o_tw00
  go_wp2_with fail
  refine (laws_toJar _ f0 _ ((hR0.below T3).keep0 (by repeat (first | with_reducible exact gb_refl _ | refine gb_alloc ?_ _ | refine gb_drewN ?_ _ | refine gb_drew ?_))) (by have := P0.out; simp only [JarM.tot] at this; omega)).mono ?_
  rintro e w4 ⟨v_x0, rfl, o_x0, g4⟩
  obtain ⟨a_x0_0, n_x0_0, c_x0_0, rfl⟩ := o_x0.r.shape
  have R4 : w3.grownBy w4 none := gb_trans (by repeat (first | with_reducible exact gb_refl _ | refine gb_alloc ?_ _ | refine gb_drewN ?_ _ | refine gb_drew ?_)) g4
  have T4 : Below w.heap.size w w4 := below_next T3 R4
  have z4 := R4.size
  clear cc_aJ
  replace bb_aJ := bb_aJ.keep0 R4
  have cc_aJ := fun o => bb_aJ.cell o
  have ll_aJ_4 := bb_aJ.lt
  replace o_x0 := o_x0.low (B' := w3.heap.size) (by first | exact Nat.le_refl _ | (simp; done) | (simp; omega))
  go_wp2_with fail
  refine (LI_JarOk _ f0 _ (o_x0.r.keep0 (by repeat (first | with_reducible exact gb_refl _ | refine gb_alloc ?_ _ | refine gb_drewN ?_ _ | refine gb_drew ?_))) (by have := P0.out; omega)).mono ?_
  rintro e w5 ⟨rfl, g5⟩
  have R5 : w4.grownBy w5 none := gb_trans (by repeat (first | with_reducible exact gb_refl _ | refine gb_alloc ?_ _ | refine gb_drewN ?_ _ | refine gb_drew ?_)) g5
  have T5 : Below w.heap.size w w5 := below_next T4 R5
  have z5 := R5.size
  replace o_x0 := o_x0.keep0 R5
  clear cc_aJ
  replace bb_aJ := bb_aJ.keep0 R5
  have bb_x0 : Bx w5 (w4.heap.size) 31 #[.slice a_x0_0 n_x0_0 c_x0_0] := (bx1 w4 _ _).keep0 g5
  have cc_aJ := fun o => bb_aJ.cell o
  have ll_aJ_5 := bb_aJ.lt
  have cc_x0 := fun o => bb_x0.cell o
  have ll_x0_5 := bb_x0.lt
  go_wp2_with fail
  have KX : Hid (∀ w', w5.grownBy w' none → (w'.cell? ⟨w.heap.size, 0, none⟩ = some (.slice a0_0 n0_0 c0_0) ∧ w'.cell? ⟨w4.heap.size, 0, none⟩ = some (.slice a_x0_0 n_x0_0 c_x0_0) ∧ w5.grownBy w' none)) :=
    fun w' hg => ⟨(bb_aJ.keep0 hg).cell 0, (bb_x0.keep0 hg).cell 0, hg⟩
  clear cc_aJ cc_x0
  go_region_held3 (fun w' => w'.cell? ⟨w.heap.size, 0, none⟩ = some (.slice a0_0 n0_0 c0_0) ∧ w'.cell? ⟨w4.heap.size, 0, none⟩ = some (.slice a_x0_0 n_x0_0 c_x0_0) ∧ w5.grownBy w' none)
    ((refine KX.out _ ?_; first | exact gb_drew (gb_refl _) | exact gb_trans (gb_trans (gb_drew (gb_refl _)) g6a) g6b | exact gb_trans (gb_drew (gb_refl _)) g6a))
    (first
      | (go_at_call 16; refine (laws_toJar _ f0 _ ((hR0.below T5).keep0 (gb_drew (gb_refl _))) (by have := P0.out; simp only [JarM.tot] at this; omega)).mono ?_; rintro e wy6 ⟨vy, rfl, oy, g6a⟩; obtain ⟨a_yx0_0, n_yx0_0, c_yx0_0, rfl⟩ := oy.r.shape)
      | (go_at_call 18; refine (laws_eqJar _ _ f0 _ (o_x0.r.keep0 (gb_trans (gb_drew (gb_refl _)) g6a)) oy.r (by have h9 := (by have := P0.out; omega); simp only [JarM.tot] at h9; omega)).mono ?_; rintro e w6 ⟨rfl, g6b⟩))
  have g6 := gb_trans g6a g6b
  have cc_aJ : True := trivial
  have cc_x0 : True := trivial
  have R6 : w5.grownBy w6 none := gb_trans (gb_drew (gb_refl _)) (gb_trans g6a g6b)
  have T6 : Below w.heap.size w w6 := below_next T5 R6
  have z6 := R6.size
  replace o_x0 := o_x0.keep0 R6
  clear cc_aJ cc_x0
  replace bb_aJ := bb_aJ.keep0 R6
  replace bb_x0 := bb_x0.keep0 R6
  have cc_aJ := fun o => bb_aJ.cell o
  have ll_aJ_6 := bb_aJ.lt
  have cc_x0 := fun o => bb_x0.cell o
  have ll_x0_6 := bb_x0.lt
  clear KX oy
  go_wp2
  go_ret
  exact ⟨rfl, T6⟩
set_option maxRecDepth 100000 in
theorem lifted (os : Os) (started : os.Started) (H : Type) (enc : TypeId × Value → H) :
    ReturnsInHanded {} Try.checked os 5 .any (Rows.fnExactJarOkSpec.pre6 enc Try.prog Try.f5 Rows.fnExactJarOkRow.domain false) (Rows.fnExactJarOkSpec.post enc Try.prog Try.f5 false true false false) := by
  refine returnsInHanded_of_change (C := Try.checked) own started (by kernel_rfl) Try.func5
    (ChangeSpec.witness6 (enc := enc) (C := Try.checked) false ⟨#[], #[.agg #[.slice none 0 0]], []⟩ 8 (by kernel_rfl) (by kernel_rfl) (by kernel_rfl) (by kernel_rfl)) ?_
  intro W base args ds gs before hval0 hW _ _
  have hval : ∀ (j : Nat) t v, Try.f5.params[j]? = some t → args[j]? = some v → Value.okWide Try.prog W .any base t v := hval0
  have hW2 := hW
  obtain ⟨p, q, hA0, hV, hps, _, _⟩ := hW
  have hA : DataW.TrodAll enc Try.prog W 0 (fun _ => true) true Try.f5.params.toList args.toList ds p := hA0
  rw [Try.params5] at hA hval
  obtain ⟨rfl, rfl⟩ := trodVars_none hV
  obtain ⟨v0, vs0, d0, ds0, p0, q0, hargs, rfl, rfl, h0, r0⟩ := trodAll_cons hA
  obtain ⟨rfl, rfl, rfl⟩ := trodAll_nil r0
  obtain rfl : args = #[v0] := by cases args; simp_all
  have i0 := open_Jar (hval 0 28 v0 rfl rfl) h0
  clear hA0 hval0
  refine (walk W v0 i0).mono fun e W2 ⟨he, hb⟩ => ?_
  subst he
  exact ⟨_, rfl, law_post (tb := 4) laidOut (by kernel_rfl) (by kernel_rfl) Try.underlying4 rfl ⟨rfl, rfl, rfl⟩ hW2 hb⟩
theorem over : Rows.fnExactJarOkRow.holds Try.pinned (OpenSpec.ofChange Rows.fnExactJarOkSpec) :=
  OpenClaim.holds_of_wide 5 Try.f5 rfl rfl rfl rfl rfl rfl rfl ⟨rfl, rfl, rfl, rfl, rfl⟩ rfl rfl rfl rfl rfl (by kernel_rfl) Try.func5 (by kernel_rfl)
    (of_decide_eq_true (by kernel_rfl)) (by unfold Func.isWrapper; first | (rw [if_pos (by decide +kernel)]; kernel_rfl) | (rw [if_neg (by decide +kernel)]; exact ⟨rfl, rfl⟩))
    (fun os started H enc _ => lifted os started H enc)
theorem proved : Rows.FnExactJarOkSaid :=
  over
#print axioms proved
end Go.Proofs.Ytgdhciebmcpkaaa.lJarOk
