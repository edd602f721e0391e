/-
  FnKinds returns true for every code. Conditions: none.
-/
import Derived.Test.YtgeoeacfkacdpaaLaw
import Derived.Test.YtgeoeacfkacdpaaLawH
import Derived.Test.YtgeoeacfkacdpaaDrK
namespace Go.Proofs.Ytgeoeacfkacdpaa.lKinds
open Go.ChangeShapes Go.WideShapes Go.ChangeAt Go.RowKit
set_option maxRecDepth 1000000 in
set_option maxHeartbeats 8000000 in
theorem walk (w : World) (v0 : Value) (h0 : InBytes w v0) : Calls Try.prog 3 #[v0] w fun e w' => e = .returned (.bool true) ∧ Below w.heap.size w w' := by
  obtain ⟨a, n, c, l, rfl, r, hC⟩ := h0
  rcases Nat.lt_or_ge 1048576 n with p | p
  · go_enter Try.func3, Try.ntmps3
    go_wp2_with (go_at_call 10; refine (laws_big a n c _).mono ?_; rw [decide_eq_true p]; rintro e w0 ⟨rfl, rfl⟩)
    go_ret
    exact ⟨rfl, Below.refl _ _⟩
  go_enter Try.func3, Try.ntmps3
  go_wp2_with (first | (go_at_call 10; refine (laws_big a n c _).mono ?_; rw [decide_eq_false (by omega)]; rintro e w0 ⟨rfl, rfl⟩) | (go_at_call 11; refine (spec_DrawKindName a n c l _ r p).mono ?_; rintro e w1 ⟨k, rfl, g1⟩; obtain ⟨S, hS⟩ : ∃ S, Hid (nmS k = S) := ⟨_, rfl⟩))
  go_wp2_with (first | (go_at_call 12; (with_reducible refine (impl_KindName k _).mono ?_); rw [hS.out]; rintro e w3 ⟨rfl, g3⟩; replace g1 := gb_trans g1 g3) | (go_at_call 13; refine (spec_DrawKindOf a n c l _ (r.keep0 g1) p).mono ?_; rintro e w2 ⟨T, rfl, g2⟩; replace g1 := gb_trans g1 g2) | (go_at_call 14; (with_reducible refine (impl_KindOf T _).mono ?_); rintro e w4 ⟨rfl, g4⟩; replace g1 := gb_trans g1 g4; obtain ⟨x, hx⟩ : ∃ x, Hid (kOf T = x) := ⟨_, rfl⟩; rw [hx.out]))
  have hN : Hid (x ≠ 0 → ((nmS x).toList == T.toList) = true) := by rw [Hid, ← hx.out]; exact nm_kOf
  cases hi : inB k 1 8
  · have hE : S.toList.isEmpty = true := by rw [← hS.out, nmS_out hi]; decide +kernel
    have h1 : ¬ (1 ≤ k ∧ k ≤ 8) := by rw [← inB_iff, hi]; decide
    have hq : Hid (sealedB k = false) := by
      rw [Hid, sealedB, inB, decide_eq_false_iff_not]
      omega
    replace h1 : k < 1 ∨ 8 < k := by omega
    clear hi
    rcases h1 with h1 | h1
    · have h2 : k < 4 := by omega
      cases hz : (x == 0)
      · have hy := hN.out (by rw [beq_eq_false_iff_ne] at hz; exact hz)
        go_wp2_with (first | (go_at_call 15; refine (impl_Sealed _ _).mono ?_; rw [hq.out]; rintro e w5 ⟨rfl, rfl⟩) | (go_at_call 14; (with_reducible refine (impl_KindOf S _).mono ?_); rw [hk.out]; rintro e w4 ⟨rfl, g4⟩; replace g1 := gb_trans g1 g4) | (go_at_call 16; refine (spec_KindOf T _).mono ?_; rw [hx.out]; rintro e w6 ⟨rfl, g6⟩; replace g1 := gb_trans g1 g6) | (go_at_call 12; (with_reducible refine (impl_KindName x _).mono ?_); rintro e w7 ⟨rfl, g7⟩; replace g1 := gb_trans g1 g7))
        go_ret
        first | exact ⟨rfl, gb_below g1⟩ | exact ⟨ret_b (by simp; omega), gb_below g1⟩
      · go_wp2_with (first | (go_at_call 15; refine (impl_Sealed _ _).mono ?_; rw [hq.out]; rintro e w5 ⟨rfl, rfl⟩) | (go_at_call 14; (with_reducible refine (impl_KindOf S _).mono ?_); rw [hk.out]; rintro e w4 ⟨rfl, g4⟩; replace g1 := gb_trans g1 g4) | (go_at_call 16; refine (spec_KindOf T _).mono ?_; rw [hx.out]; rintro e w6 ⟨rfl, g6⟩; replace g1 := gb_trans g1 g6) | (go_at_call 12; (with_reducible refine (impl_KindName x _).mono ?_); rintro e w7 ⟨rfl, g7⟩; replace g1 := gb_trans g1 g7))
        go_ret
        first | exact ⟨rfl, gb_below g1⟩ | exact ⟨ret_b (by simp; omega), gb_below g1⟩
    · have h2 : 4 ≤ k := by omega
      have h3 : 1 ≤ k := by omega
      cases hz : (x == 0)
      · have hy := hN.out (by rw [beq_eq_false_iff_ne] at hz; exact hz)
        go_wp2_with (first | (go_at_call 15; refine (impl_Sealed _ _).mono ?_; rw [hq.out]; rintro e w5 ⟨rfl, rfl⟩) | (go_at_call 14; (with_reducible refine (impl_KindOf S _).mono ?_); rw [hk.out]; rintro e w4 ⟨rfl, g4⟩; replace g1 := gb_trans g1 g4) | (go_at_call 16; refine (spec_KindOf T _).mono ?_; rw [hx.out]; rintro e w6 ⟨rfl, g6⟩; replace g1 := gb_trans g1 g6) | (go_at_call 12; (with_reducible refine (impl_KindName x _).mono ?_); rintro e w7 ⟨rfl, g7⟩; replace g1 := gb_trans g1 g7))
        go_ret
        first | exact ⟨rfl, gb_below g1⟩ | exact ⟨ret_b (by simp; omega), gb_below g1⟩
      · go_wp2_with (first | (go_at_call 15; refine (impl_Sealed _ _).mono ?_; rw [hq.out]; rintro e w5 ⟨rfl, rfl⟩) | (go_at_call 14; (with_reducible refine (impl_KindOf S _).mono ?_); rw [hk.out]; rintro e w4 ⟨rfl, g4⟩; replace g1 := gb_trans g1 g4) | (go_at_call 16; refine (spec_KindOf T _).mono ?_; rw [hx.out]; rintro e w6 ⟨rfl, g6⟩; replace g1 := gb_trans g1 g6) | (go_at_call 12; (with_reducible refine (impl_KindName x _).mono ?_); rintro e w7 ⟨rfl, g7⟩; replace g1 := gb_trans g1 g7))
        go_ret
        first | exact ⟨rfl, gb_below g1⟩ | exact ⟨ret_b (by simp; omega), gb_below g1⟩
  · have hE : S.toList.isEmpty = false := by rw [← hS.out]; exact nm_empty hi
    have hk : Hid (kOf S = k) := by rw [← hS.out]; exact kOf_nm hi
    obtain ⟨h1, h2⟩ := inB_iff.1 hi
    clear hi
    by_cases h4 : 4 ≤ k
    · have hq : Hid (sealedB k = true) := by
        rw [Hid, sealedB, inB, decide_eq_true_iff]
        omega
      cases hz : (x == 0)
      · have hy := hN.out (by rw [beq_eq_false_iff_ne] at hz; exact hz)
        go_wp2_with (first | (go_at_call 15; refine (impl_Sealed _ _).mono ?_; rw [hq.out]; rintro e w5 ⟨rfl, rfl⟩) | (go_at_call 14; (with_reducible refine (impl_KindOf S _).mono ?_); rw [hk.out]; rintro e w4 ⟨rfl, g4⟩; replace g1 := gb_trans g1 g4) | (go_at_call 16; refine (spec_KindOf T _).mono ?_; rw [hx.out]; rintro e w6 ⟨rfl, g6⟩; replace g1 := gb_trans g1 g6) | (go_at_call 12; (with_reducible refine (impl_KindName x _).mono ?_); rintro e w7 ⟨rfl, g7⟩; replace g1 := gb_trans g1 g7))
        go_ret
        first | exact ⟨rfl, gb_below g1⟩ | exact ⟨ret_b (by simp; omega), gb_below g1⟩
      · go_wp2_with (first | (go_at_call 15; refine (impl_Sealed _ _).mono ?_; rw [hq.out]; rintro e w5 ⟨rfl, rfl⟩) | (go_at_call 14; (with_reducible refine (impl_KindOf S _).mono ?_); rw [hk.out]; rintro e w4 ⟨rfl, g4⟩; replace g1 := gb_trans g1 g4) | (go_at_call 16; refine (spec_KindOf T _).mono ?_; rw [hx.out]; rintro e w6 ⟨rfl, g6⟩; replace g1 := gb_trans g1 g6) | (go_at_call 12; (with_reducible refine (impl_KindName x _).mono ?_); rintro e w7 ⟨rfl, g7⟩; replace g1 := gb_trans g1 g7))
        go_ret
        first | exact ⟨rfl, gb_below g1⟩ | exact ⟨ret_b (by simp; omega), gb_below g1⟩
    · have hq : Hid (sealedB k = false) := by
        rw [Hid, sealedB, inB, decide_eq_false_iff_not]
        omega
      have h5 : k < 4 := by omega
      cases hz : (x == 0)
      · have hy := hN.out (by rw [beq_eq_false_iff_ne] at hz; exact hz)
        go_wp2_with (first | (go_at_call 15; refine (impl_Sealed _ _).mono ?_; rw [hq.out]; rintro e w5 ⟨rfl, rfl⟩) | (go_at_call 14; (with_reducible refine (impl_KindOf S _).mono ?_); rw [hk.out]; rintro e w4 ⟨rfl, g4⟩; replace g1 := gb_trans g1 g4) | (go_at_call 16; refine (spec_KindOf T _).mono ?_; rw [hx.out]; rintro e w6 ⟨rfl, g6⟩; replace g1 := gb_trans g1 g6) | (go_at_call 12; (with_reducible refine (impl_KindName x _).mono ?_); rintro e w7 ⟨rfl, g7⟩; replace g1 := gb_trans g1 g7))
        go_ret
        first | exact ⟨rfl, gb_below g1⟩ | exact ⟨ret_b (by simp; omega), gb_below g1⟩
      · go_wp2_with (first | (go_at_call 15; refine (impl_Sealed _ _).mono ?_; rw [hq.out]; rintro e w5 ⟨rfl, rfl⟩) | (go_at_call 14; (with_reducible refine (impl_KindOf S _).mono ?_); rw [hk.out]; rintro e w4 ⟨rfl, g4⟩; replace g1 := gb_trans g1 g4) | (go_at_call 16; refine (spec_KindOf T _).mono ?_; rw [hx.out]; rintro e w6 ⟨rfl, g6⟩; replace g1 := gb_trans g1 g6) | (go_at_call 12; (with_reducible refine (impl_KindName x _).mono ?_); rintro e w7 ⟨rfl, g7⟩; replace g1 := gb_trans g1 g7))
        go_ret
        first | exact ⟨rfl, gb_below g1⟩ | exact ⟨ret_b (by simp; omega), gb_below g1⟩
set_option maxRecDepth 100000 in
theorem lifted (os : Os) (started : os.Started) (H : Type) (enc : TypeId × Value → H) :
    ReturnsInHanded {} Try.checked os 3 .any (Rows.fnKindsSpec.pre6 enc Try.prog Try.f3 Rows.fnKindsRow.domain false) (Rows.fnKindsSpec.post enc Try.prog Try.f3 false true false false) := by
  refine returnsInHanded_of_change (C := Try.checked) own started (by kernel_rfl) Try.func3
    (ChangeSpec.witness6 (enc := enc) (C := Try.checked) false ⟨#[], #[.slice none 0 0], []⟩ 8 (by kernel_rfl) (by kernel_rfl) (by kernel_rfl) (by kernel_rfl)) ?_
  intro W base args ds gs before hval0 hW _ _
  have hval : ∀ (j : Nat) t v, Try.f3.params[j]? = some t → args[j]? = some v → Value.okWide Try.prog W .any base t v := hval0
  have hW2 := hW
  obtain ⟨p, q, hA0, hV, hps, _, _⟩ := hW
  have hA : DataW.TrodAll enc Try.prog W 0 (fun _ => true) true Try.f3.params.toList args.toList ds p := hA0
  rw [Try.params3] at hA hval
  obtain ⟨rfl, rfl⟩ := trodVars_none hV
  obtain ⟨v0, vs0, d0, ds0, p0, q0, hargs, rfl, rfl, h0, r0⟩ := trodAll_cons hA
  obtain ⟨rfl, rfl, rfl⟩ := trodAll_nil r0
  obtain rfl : args = #[v0] := by cases args; simp_all
  have i0 := open_B (hval 0 22 v0 rfl rfl) h0
  clear hA0 hval0
  refine (walk W v0 i0).mono fun e W2 ⟨he, hb⟩ => ?_
  subst he
  exact ⟨_, rfl, law_post (tb := 4) laidOut (by kernel_rfl) (by kernel_rfl) Try.underlying4 rfl ⟨rfl, rfl, rfl⟩ hW2 hb⟩
theorem over : Rows.fnKindsRow.holds Try.pinned (OpenSpec.ofChange Rows.fnKindsSpec) :=
  OpenClaim.holds_of_wide 3 Try.f3 rfl rfl rfl rfl rfl rfl rfl ⟨rfl, rfl, rfl, rfl, rfl⟩ rfl rfl rfl rfl rfl (by kernel_rfl) Try.func3 (by kernel_rfl)
    (of_decide_eq_true (by kernel_rfl)) (by unfold Func.isWrapper; first | (rw [if_pos (by decide +kernel)]; kernel_rfl) | (rw [if_neg (by decide +kernel)]; exact ⟨rfl, rfl⟩))
    (fun os started H enc _ => lifted os started H enc)
theorem proved : Rows.FnKindsSaid :=
  over
#print axioms proved
end Go.Proofs.Ytgeoeacfkacdpaa.lKinds
