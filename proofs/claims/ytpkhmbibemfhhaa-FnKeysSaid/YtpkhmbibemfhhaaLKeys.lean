/-
  FnKeys returns true for every code. Conditions: none.
-/
import Derived.Test.YtpkhmbibemfhhaaLaw
import Derived.Test.YtpkhmbibemfhhaaLawH
import Derived.Test.YtpkhmbibemfhhaaKeys3
import Derived.Test.YtpkhmbibemfhhaaPlCook
import Derived.Test.YtpkhmbibemfhhaaDrY
import Derived.Test.YtpkhmbibemfhhaaWord
namespace Go.Proofs.Ytpkhmbibemfhhaa.lKeys
open Go.ChangeShapes Go.WideShapes Go.ChangeAt Go.RowKit
set_option maxRecDepth 1000000 in
set_option maxHeartbeats 8000000 in
theorem walk (w : World) (v0 : Value) (h0 : InBytes w v0) : Calls Try.prog 6 #[v0] w fun e w' => e = .returned (.bool true) ∧ Below w.heap.size w w' := by
  obtain ⟨a, n, c, l, rfl, r, hC⟩ := h0
  rcases Nat.lt_or_ge 1048576 n with p | p
  · go_enter Try.func6, Try.ntmps6
    go_wp2_with (go_at_call 9; refine (laws_big a n c _).mono ?_; rw [decide_eq_true p]; rintro e w0 ⟨rfl, rfl⟩)
    go_ret
    exact ⟨rfl, Below.refl _ _⟩
  go_enter Try.func6, Try.ntmps6
  go_wp2_with (first | (go_at_call 9; refine (laws_big a n c _).mono ?_; rw [decide_eq_false (by omega)]; rintro e w0 ⟨rfl, rfl⟩) | (go_at_call 33; refine (spec_DrawEpochKey a n c l _ r p).mono ?_; rintro e w1 ⟨b1, m1, d1, k1, b2, m2, d2, k2, b3, m3, d3, k3, x, rfl, r1, r2, r3, hm, G⟩; replace hm := Lib.hid hm))
  obtain ⟨E, hE⟩ : ∃ E, Hid (epKeyM k1 k2 k3 x = E) := ⟨_, rfl⟩
  obtain ⟨F, hF⟩ : ∃ F, Hid (firstM (rootM k1 k2 k3) = F) := ⟨_, rfl⟩
  go_wp2_with (first | (go_at_call 34; (with_reducible refine (impl_EpochKey b1 m1 d1 k1 b2 m2 d2 k2 b3 m3 d3 k3 x _ r1 r2 r3).mono ?_); rw [hE.out]; rintro e w2 ⟨a7, n7, c7, rfl, o7, g2⟩; replace r1 := r1.keep0 g2; replace r2 := r2.keep0 g2; replace r3 := r3.keep0 g2; (try replace r7 := r7.keep0 g2); (try replace r8 := r8.keep0 g2); (try replace r9 := r9.keep0 g2); replace G := gb_trans G g2; have r7 := o7.rd; clear o7; have e7 := Lib.hid r7.blen) | (go_at_call 35; (with_reducible refine (spec_EpochKey b1 m1 d1 k1 b2 m2 d2 k2 b3 m3 d3 k3 x _ r1 r2 r3).mono ?_); rw [hE.out]; rintro e w3 ⟨a8, n8, c8, rfl, o8, g3⟩; replace r1 := r1.keep0 g3; replace r2 := r2.keep0 g3; replace r3 := r3.keep0 g3; (try replace r7 := r7.keep0 g3); (try replace r8 := r8.keep0 g3); (try replace r9 := r9.keep0 g3); replace G := gb_trans G g3; have r8 := o8.rd; clear o8) | (go_at_call 12; (with_reducible refine (laws_same_t a7 n7 c7 a8 n8 c8 E _ r7 r8).mono ?_); rintro e w' ⟨rfl, rfl⟩) | (go_at_call 37; (with_reducible refine (impl_RootKey b1 m1 d1 k1 b2 m2 d2 k2 b3 m3 d3 k3 _ r1 r2 r3).mono ?_); rintro e w4 ⟨a5, n5, c5, rfl, o5, g4⟩; replace r1 := r1.keep0 g4; replace r2 := r2.keep0 g4; replace r3 := r3.keep0 g4; (try replace r7 := r7.keep0 g4); (try replace r8 := r8.keep0 g4); (try replace r9 := r9.keep0 g4); replace G := gb_trans G g4; have r5 := o5.rd; clear o5) | (go_at_call 36; (with_reducible refine (impl_FirstKey a5 n5 c5 _ _ r5).mono ?_); rw [hF.out]; rintro e w5 ⟨a9, n9, c9, rfl, o9, g5⟩; clear r5; replace r1 := r1.keep0 g5; replace r2 := r2.keep0 g5; replace r3 := r3.keep0 g5; (try replace r7 := r7.keep0 g5); (try replace r8 := r8.keep0 g5); (try replace r9 := r9.keep0 g5); replace G := gb_trans G g5; have r9 := o9.rd; clear o9; have e9 := Lib.hid r9.blen))
  have y1 := Lib.hid r1.blen
  have y2 := Lib.hid r2.blen
  have y3 := Lib.hid r3.blen
  have hno : Hid (rootOk m1 m2 m3 = false → n7 = 0 ∧ n9 = 0) := by
    intro h
    rw [← y1.out, ← y2.out, ← y3.out] at h
    have h1 := firstM_no h
    rw [hF.out] at h1
    subst h1
    have h2 := hE.out
    rw [epKeyM, hF.out, if_pos (show ([] : List UInt8).length = 0 from rfl)] at h2
    subst h2
    exact ⟨e7.out.symm, e9.out.symm⟩
  cases q1 : inB m1 1 32
  · have hq := Lib.hid q1
    obtain ⟨rfl, rfl⟩ := hno.out (by
      have : ¬ (1 ≤ (m1 : Int) ∧ (m1 : Int) ≤ 32) := by rw [← inB_iff, q1]; decide
      simp only [rootOk, Bool.and_eq_false_iff, decide_eq_false_iff_not]
      omega)
    clear q1
    go_wp2_with (first | (go_at_call 38; refine (impl_PskOk b1 m1 d1 _).mono ?_; rw [hq.out]; rintro e w' ⟨rfl, rfl⟩))
    go_ret
    exact ⟨rfl, gb_below G⟩
  have hq := Lib.hid q1
  have q1' := inB_iff.1 q1
  clear q1
  cases q2 : ((m2 : Int) != 12)
  rotate_left
  · obtain ⟨rfl, rfl⟩ := hno.out (by
      rw [bne_iff_ne] at q2
      simp only [rootOk, Bool.and_eq_false_iff, decide_eq_false_iff_not]
      omega)
    go_wp2_with (first | (go_at_call 38; refine (impl_PskOk b1 m1 d1 _).mono ?_; rw [hq.out]; rintro e w' ⟨rfl, rfl⟩))
    go_ret
    exact ⟨rfl, gb_below G⟩
  cases q3 : ((m3 : Int) != 12)
  rotate_left
  · obtain ⟨rfl, rfl⟩ := hno.out (by
      rw [bne_iff_ne] at q3
      simp only [rootOk, Bool.and_eq_false_iff, decide_eq_false_iff_not]
      omega)
    go_wp2_with (first | (go_at_call 38; refine (impl_PskOk b1 m1 d1 _).mono ?_; rw [hq.out]; rintro e w' ⟨rfl, rfl⟩))
    go_ret
    exact ⟨rfl, gb_below G⟩
  have z2 : m2 = 12 := by simp at q2; omega
  have z3 : m3 = 12 := by simp at q3; omega
  have hFl : F.length = 32 := by
    rw [← hF.out]
    exact firstM_len (rootM_len (by rw [y1.out]; omega) (by rw [y1.out]; omega) (by rw [y2.out]; exact z2) (by rw [y3.out]; exact z3))
  have hch : ∀ y, epKeyM k1 k2 k3 y = chainM F y := fun y => by rw [epKeyM, hF.out, if_neg (by rw [hFl]; decide)]
  obtain rfl : n9 = 32 := by rw [← e9.out, hFl]
  clear z2 z3
  replace hch := Lib.hid hch
  have hE0 : Hid (epKeyM k1 k2 k3 0 = F) := by rw [Hid, hch.out, chain_0]
  replace hFl := Lib.hid hFl
  by_cases hx0 : x = 0
  · subst hx0
    obtain rfl : F = E := by rw [← hE.out, hE0.out]
    obtain rfl : n7 = 32 := by rw [← e7.out, hFl.out]
    go_wp2_with (first | (go_at_call 38; refine (impl_PskOk b1 m1 d1 _).mono ?_; rw [hq.out]; rintro e w' ⟨rfl, rfl⟩) | (go_at_call 34; (with_reducible refine (impl_EpochKey b1 m1 d1 k1 b2 m2 d2 k2 b3 m3 d3 k3 0 _ r1 r2 r3).mono ?_); rw [hE0.out]; rintro e w6 ⟨a10, n10, c10, rfl, o10, g6⟩; replace r1 := r1.keep0 g6; replace r2 := r2.keep0 g6; replace r3 := r3.keep0 g6; (try replace r7 := r7.keep0 g6); (try replace r8 := r8.keep0 g6); (try replace r9 := r9.keep0 g6); replace G := gb_trans G g6; have r10 := o10.rd; clear o10) | (go_at_call 12; (with_reducible refine (laws_same_t a10 n10 c10 a9 32 c9 F _ r10 r9).mono ?_); rintro e w' ⟨rfl, rfl⟩) | (go_at_call 12; (refine (laws_same_t a7 32 c7 a9 32 c9 _ _ r7 r9).mono ?_); rintro e w' ⟨rfl, rfl⟩))
    go_ret
    exact ⟨rfl, gb_below G⟩
  by_cases hx : 1 ≤ x ∧ x ≤ 64
  · obtain ⟨hx1, hx2⟩ := hx
    obtain ⟨C1, hC1⟩ : ∃ C1, Hid (epKeyM k1 k2 k3 (x - 1) = C1) := ⟨_, rfl⟩
    have hE2 : Hid (derM C1 lRe = E) := by rw [Hid, ← hE.out, ← hC1.out, hch.out, hch.out, chain_next hx1 hx2]
    have hC2 : Hid (C1.length ≤ 1048576) := by rw [← hC1.out]; exact Nat.le_trans (epKeyM_le _ _ _ _) (by decide)
    have D := Lib.hid (show ∀ (a : Option Addr) (n c : Nat) (k : List UInt8) (w : World), Rd w a n c (bys k) → n ≤ 1048576 → Calls Try.prog 39 #[.slice a n c, .string { data := #[114, 101, 107, 101, 121] }] w (RetB w (derM k lRe)) from fun a n c k w r h => impl_Derive a n c k lRe w r h (by decide))
    go_wp2_with (first | (go_at_call 38; refine (impl_PskOk b1 m1 d1 _).mono ?_; rw [hq.out]; rintro e w' ⟨rfl, rfl⟩) | (go_at_call 34; (with_reducible refine (impl_EpochKey b1 m1 d1 k1 b2 m2 d2 k2 b3 m3 d3 k3 0 _ r1 r2 r3).mono ?_); rw [hE0.out]; rintro e w6 ⟨a10, n10, c10, rfl, o10, g6⟩; replace r1 := r1.keep0 g6; replace r2 := r2.keep0 g6; replace r3 := r3.keep0 g6; (try replace r7 := r7.keep0 g6); (try replace r8 := r8.keep0 g6); (try replace r9 := r9.keep0 g6); replace G := gb_trans G g6; have r10 := o10.rd; clear o10) | (go_at_call 12; (with_reducible refine (laws_same_t a10 n10 c10 a9 32 c9 F _ r10 r9).mono ?_); rintro e w' ⟨rfl, rfl⟩) | (go_at_call 34; (with_reducible refine (impl_EpochKey b1 m1 d1 k1 b2 m2 d2 k2 b3 m3 d3 k3 (x - 1) _ r1 r2 r3).mono ?_); rw [hC1.out]; rintro e w7 ⟨a11, n11, c11, rfl, o11, g7⟩; replace r1 := r1.keep0 g7; replace r2 := r2.keep0 g7; replace r3 := r3.keep0 g7; (try replace r7 := r7.keep0 g7); (try replace r8 := r8.keep0 g7); (try replace r9 := r9.keep0 g7); replace G := gb_trans G g7; have r11 := o11.rd; clear o11; have e11 := Lib.hid r11.blen) | (go_at_call 39; refine (D.out a11 n11 c11 C1 _ r11 (by rw [← e11.out]; exact hC2.out)).mono ?_; rw [hE2.out]; rintro e w8 ⟨a12, n12, c12, rfl, o12, g8⟩; clear r11; replace r1 := r1.keep0 g8; replace r2 := r2.keep0 g8; replace r3 := r3.keep0 g8; (try replace r7 := r7.keep0 g8); (try replace r8 := r8.keep0 g8); (try replace r9 := r9.keep0 g8); replace G := gb_trans G g8; have r12 := o12.rd; clear o12) | (go_at_call 12; (with_reducible refine (laws_same_t a7 n7 c7 a12 n12 c12 E _ r7 r12).mono ?_); rintro e w' ⟨rfl, rfl⟩))
    go_ret
    exact ⟨rfl, gb_below G⟩
  · have hE3 : E = [] := by rw [← hE.out, hch.out, chainM, if_neg (by omega)]
    subst hE3
    obtain rfl : n7 = 0 := by rw [← e7.out]; rfl
    rcases Int.lt_or_le x 1 with h1 | h1
    · go_wp2_with (first | (go_at_call 38; refine (impl_PskOk b1 m1 d1 _).mono ?_; rw [hq.out]; rintro e w' ⟨rfl, rfl⟩) | (go_at_call 34; (with_reducible refine (impl_EpochKey b1 m1 d1 k1 b2 m2 d2 k2 b3 m3 d3 k3 0 _ r1 r2 r3).mono ?_); rw [hE0.out]; rintro e w6 ⟨a10, n10, c10, rfl, o10, g6⟩; replace r1 := r1.keep0 g6; replace r2 := r2.keep0 g6; replace r3 := r3.keep0 g6; (try replace r7 := r7.keep0 g6); (try replace r8 := r8.keep0 g6); (try replace r9 := r9.keep0 g6); replace G := gb_trans G g6; have r10 := o10.rd; clear o10) | (go_at_call 12; (with_reducible refine (laws_same_t a10 n10 c10 a9 32 c9 F _ r10 r9).mono ?_); rintro e w' ⟨rfl, rfl⟩))
      go_ret
      exact ⟨rfl, gb_below G⟩
    · have h2 : 64 < x := by omega
      go_wp2_with (first | (go_at_call 38; refine (impl_PskOk b1 m1 d1 _).mono ?_; rw [hq.out]; rintro e w' ⟨rfl, rfl⟩) | (go_at_call 34; (with_reducible refine (impl_EpochKey b1 m1 d1 k1 b2 m2 d2 k2 b3 m3 d3 k3 0 _ r1 r2 r3).mono ?_); rw [hE0.out]; rintro e w6 ⟨a10, n10, c10, rfl, o10, g6⟩; replace r1 := r1.keep0 g6; replace r2 := r2.keep0 g6; replace r3 := r3.keep0 g6; (try replace r7 := r7.keep0 g6); (try replace r8 := r8.keep0 g6); (try replace r9 := r9.keep0 g6); replace G := gb_trans G g6; have r10 := o10.rd; clear o10) | (go_at_call 12; (with_reducible refine (laws_same_t a10 n10 c10 a9 32 c9 F _ r10 r9).mono ?_); rintro e w' ⟨rfl, rfl⟩))
      go_ret
      exact ⟨rfl, gb_below G⟩
set_option maxRecDepth 100000 in
theorem lifted (os : Os) (started : os.Started) (H : Type) (enc : TypeId × Value → H) :
    ReturnsInHanded {} Try.checked os 6 .any (Rows.fnKeysSpec.pre6 enc Try.prog Try.f6 Rows.fnKeysRow.domain false) (Rows.fnKeysSpec.post enc Try.prog Try.f6 false true false false) := by
  refine returnsInHanded_of_change (C := Try.checked) own started (by kernel_rfl) Try.func6
    (ChangeSpec.witness6 (enc := enc) (C := Try.checked) false ⟨#[], #[.slice none 0 0], []⟩ 8 (by kernel_rfl) (by kernel_rfl) (by kernel_rfl) (by kernel_rfl)) ?_
  intro W base args ds gs before hval0 hW _ _
  have hval : ∀ (j : Nat) t v, Try.f6.params[j]? = some t → args[j]? = some v → Value.okWide Try.prog W .any base t v := hval0
  have hW2 := hW
  obtain ⟨p, q, hA0, hV, hps, _, _⟩ := hW
  have hA : DataW.TrodAll enc Try.prog W 0 (fun _ => true) true Try.f6.params.toList args.toList ds p := hA0
  rw [Try.params6] at hA hval
  obtain ⟨rfl, rfl⟩ := trodVars_none hV
  obtain ⟨v0, vs0, d0, ds0, p0, q0, hargs, rfl, rfl, h0, r0⟩ := trodAll_cons hA
  obtain ⟨rfl, rfl, rfl⟩ := trodAll_nil r0
  obtain rfl : args = #[v0] := by cases args; simp_all
  have i0 := open_B (hval 0 22 v0 rfl rfl) h0
  clear hA0 hval0
  refine (walk W v0 i0).mono fun e W2 ⟨he, hb⟩ => ?_
  subst he
  exact ⟨_, rfl, law_post (tb := 4) laidOut (by kernel_rfl) (by kernel_rfl) Try.underlying4 rfl ⟨rfl, rfl, rfl⟩ hW2 hb⟩
theorem over : Rows.fnKeysRow.holds Try.pinned (OpenSpec.ofChange Rows.fnKeysSpec) :=
  OpenClaim.holds_of_wide 6 Try.f6 rfl rfl rfl rfl rfl rfl rfl ⟨rfl, rfl, rfl, rfl, rfl⟩ rfl rfl rfl rfl rfl (by kernel_rfl) Try.func6 (by kernel_rfl)
    (of_decide_eq_true (by kernel_rfl)) (by unfold Func.isWrapper; first | (rw [if_pos (by decide +kernel)]; kernel_rfl) | (rw [if_neg (by decide +kernel)]; exact ⟨rfl, rfl⟩))
    (fun os started H enc _ => lifted os started H enc)
theorem proved : Rows.FnKeysSaid :=
  over
#print axioms proved
end Go.Proofs.Ytpkhmbibemfhhaa.lKeys
