/-
  FnExactPskOk returns true for every slice of bytes. Conditions: none.
-/
import Derived.Test.YtgdhciebmcpkaaaLaw
import Derived.Test.YtgdhciebmcpkaaaWord
import Derived.Test.YtgdhciebmcpkaaaHelp
namespace Go.Proofs.Ytgdhciebmcpkaaa.lPskOk
open Go.ChangeShapes Go.WideShapes Go.ChangeAt Go.RowKit
theorem walk (w : World) (v0 : Value) (h0 : InBytes w v0) : Calls Try.prog 4 #[v0] w fun e w' => e = .returned (.bool true) ∧ Below w.heap.size w w' := by
  obtain ⟨a, n, c, l, rfl, hr, _⟩ := h0
  by_cases hb : 1048576 < n
  · go_enter Try.func4, Try.ntmps4
    go_wp2
    go_ret
    exact ⟨rfl, Below.refl _ _⟩
  · go_enter Try.func4, Try.ntmps4
    go_wp2_with fail
    refine (laws_toByteS _ _ _ l _ hr (by omega)).mono ?_
    rintro e w1 ⟨a1, c1, rfl, ho1, g1⟩
    go_wp2_with fail
    refine (spec_PskOk _ _ _ _).mono ?_
    rintro e w' ⟨rfl, rfl⟩
    go_wp2_with fail
    refine (laws_toByteS _ _ _ l _ (hr.keep0 g1) (by omega)).mono ?_
    rintro e w2 ⟨a2, c2, rfl, ho2, g2⟩
    go_wp2_with fail
    refine (impl_PskOk _ _ _ _).mono ?_
    rintro e w' ⟨rfl, rfl⟩
    go_wp2_with fail
    refine (laws_toByteS _ _ _ l _ ((hr.keep0 g1).keep0 g2) (by omega)).mono ?_
    rintro e w3 ⟨a3, c3, rfl, ho3, g3⟩
    go_wp2_with fail
    refine (laws_eqByteS _ _ _ _ _ _ l l _ (ho2.rd.keep0 g3) ho3.rd (by omega) (by omega)).mono ?_
    rintro e w4 ⟨rfl, hq4⟩
    go_wp2
    go_ret
    exact ⟨rfl, gb_below (gb_trans (gb_trans (gb_trans g1 g2) g3) hq4.gb)⟩
set_option maxRecDepth 100000 in
theorem lifted (os : Os) (started : os.Started) (H : Type) (enc : TypeId × Value → H) :
    ReturnsInHanded {} Try.checked os 4 .any (Rows.fnExactPskOkSpec.pre6 enc Try.prog Try.f4 Rows.fnExactPskOkRow.domain false) (Rows.fnExactPskOkSpec.post enc Try.prog Try.f4 false true false false) := by
  refine returnsInHanded_of_change (C := Try.checked) own started (by kernel_rfl) Try.func4
    (ChangeSpec.witness6 (enc := enc) (C := Try.checked) false ⟨#[], #[.slice none 0 0], []⟩ 8 (by kernel_rfl) (by kernel_rfl) (by kernel_rfl) (by kernel_rfl)) ?_
  intro W base args ds gs before hval0 hW _ _
  have hval : ∀ (j : Nat) t v, Try.f4.params[j]? = some t → args[j]? = some v → Value.okWide Try.prog W .any base t v := hval0
  have hW2 := hW
  obtain ⟨p, q, hA0, hV, hps, _, _⟩ := hW
  have hA : DataW.TrodAll enc Try.prog W 0 (fun _ => true) true Try.f4.params.toList args.toList ds p := hA0
  rw [Try.params4] at hA hval
  obtain ⟨rfl, rfl⟩ := trodVars_none hV
  obtain ⟨v0, vs0, d0, ds0, p0, q0, hargs, rfl, rfl, h0, r0⟩ := trodAll_cons hA
  obtain ⟨rfl, rfl, rfl⟩ := trodAll_nil r0
  obtain rfl : args = #[v0] := by cases args; simp_all
  have i0 := open_B (hval 0 23 v0 rfl rfl) h0
  clear hA0 hval0
  refine (walk W v0 i0).mono fun e W2 ⟨he, hb⟩ => ?_
  subst he
  exact ⟨_, rfl, law_post (tb := 4) laidOut (by kernel_rfl) (by kernel_rfl) Try.underlying4 rfl ⟨rfl, rfl, rfl⟩ hW2 hb⟩
theorem over : Rows.fnExactPskOkRow.holds Try.pinned (OpenSpec.ofChange Rows.fnExactPskOkSpec) :=
  OpenClaim.holds_of_wide 4 Try.f4 rfl rfl rfl rfl rfl rfl rfl ⟨rfl, rfl, rfl, rfl, rfl⟩ rfl rfl rfl rfl rfl (by kernel_rfl) Try.func4 (by kernel_rfl)
    (of_decide_eq_true (by kernel_rfl)) (by unfold Func.isWrapper; first | (rw [if_pos (by decide +kernel)]; kernel_rfl) | (rw [if_neg (by decide +kernel)]; exact ⟨rfl, rfl⟩))
    (fun os started H enc _ => lifted os started H enc)
theorem proved : Rows.FnExactPskOkSaid :=
  over
#print axioms proved
end Go.Proofs.Ytgdhciebmcpkaaa.lPskOk
