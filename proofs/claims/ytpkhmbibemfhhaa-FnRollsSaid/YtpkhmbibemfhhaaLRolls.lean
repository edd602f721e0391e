/-
  FnRolls returns true for every code. Conditions: none.
-/
import Derived.Test.YtpkhmbibemfhhaaLaw
import Derived.Test.YtpkhmbibemfhhaaLawH
import Derived.Test.YtpkhmbibemfhhaaRollC
import Derived.Test.YtpkhmbibemfhhaaDrD
import Derived.Deep.RegionHeld3
namespace Go.Proofs.Ytpkhmbibemfhhaa.lRolls
open Go.ChangeShapes Go.WideShapes Go.ChangeAt Go.RowKit
theorem diceAtM_12 {l : List UInt8} {x : Int} (h1 : 1 ≤ l.length ∧ l.length ≤ 32) (h2 : 0 ≤ x) (h3 : x ≤ 10000) : (diceAtM l x).length = 12 := by
  rw [diceAtM, if_pos ⟨h1, h2, h3⟩, List.length_take, hmacM_len (by omega) (by simp [be_len, lRoll])]
  rfl
set_option maxRecDepth 1000000 in
set_option maxHeartbeats 8000000 in
theorem walk (w : World) (v0 : Value) (h0 : InBytes w v0) : Calls Try.prog 7 #[v0] w fun e w' => e = .returned (.bool true) ∧ Below w.heap.size w w' := by
  obtain ⟨a, n, c, l, rfl, r, hC⟩ := h0
  rcases Nat.lt_or_ge 1048576 n with p | p
  · go_enter Try.func7, Try.ntmps7
    go_wp2_with (go_at_call 9; refine (laws_big a n c _).mono ?_; rw [decide_eq_true p]; rintro e w0 ⟨rfl, rfl⟩)
    go_ret
    exact ⟨rfl, Below.refl _ _⟩
  go_enter Try.func7, Try.ntmps7
  go_wp2_with (first | (go_at_call 9; refine (laws_big a n c _).mono ?_; rw [decide_eq_false (by omega)]; rintro e w0 ⟨rfl, rfl⟩) | (go_at_call 40; refine (spec_DrawRoll a n c l _ r p).mono ?_; rintro e w1 ⟨b, m, d, k, x, rfl, rb, hm, g1⟩; replace hm := Lib.hid (show k.length ≤ 256 by rw [rb.blen]; exact hm)))
  obtain ⟨ok, hok⟩ : ∃ ok, Hid (diceOkB (⟨k, x⟩ : DiceM) = ok) := ⟨_, rfl⟩
  cases ok
  · have E : rollOk (⟨k, x⟩ : DiceM) = false := by rw [rollOk, hok.out]; rfl
    have hD : Hid (rollD (⟨k, x⟩ : DiceM) = (⟨k, x⟩ : DiceM)) := by rw [Hid, rollD, E]; rfl
    have hB : Hid (rollB (⟨k, x⟩ : DiceM) = []) := by rw [Hid, rollB, E]; rfl
    clear E
    go_wp2_with (first | (go_at_call 41; refine (impl_Roll _ (⟨k, x⟩ : DiceM) _ (diceR_mk (rb.keep0 (gb_alloc (gb_refl _) _))) (Nat.le_trans hm.out (by decide))).mono ?_; rw [hD.out, hB.out]; rintro e w2 ⟨M, v1, a5, n5, c5, rfl, -, -, o1, o5, g2⟩; obtain ⟨a4, n4, c4, rfl, r4⟩ := o1.r; replace r5 := o5.rd; clear o1 o5; simp only at r4))
    obtain ⟨wx, hwx⟩ : ∃ wx, wx = w2.alloc (.cells #[.slice a4 n4 c4, .int .i64 x] 58) := ⟨_, rfl⟩
    have gA := gb_alloc (gb_refl w2) (.cells #[.slice a4 n4 c4, .int .i64 x] 58)
    have B4 := Bx.new w2 58 #[.slice a4 n4 c4, .int .i64 x]
    have B3 := ((Bx.new w1 58 #[.slice b m d, .int .i64 x]).keep0 g2).keep0 gA
    have G := gb_trans (gb_trans (gb_alloc g1 (.cells #[.slice b m d, .int .i64 x] 58)) g2) gA
    replace rb := rb.keep0 (gb_trans (gb_trans (gb_alloc (gb_refl w1) (.cells #[.slice b m d, .int .i64 x] 58)) g2) gA)
    replace r4 := r4.keep0 gA
    replace r5 := r5.keep0 gA
    rw [← hwx] at B3 B4 G rb r4 r5 ⊢
    clear hwx gA g1 g2
    have KX : Hid (∀ w', wx.grownBy w' none → ((w'.cell? ⟨w1.heap.size, 0, none⟩ = some (.slice b m d) ∧ w'.cell? ⟨w1.heap.size, 1, none⟩ = some (.int .i64 x)) ∧ wx.grownBy w' none)) := fun w' hg => ⟨⟨(B3.keep0 hg).cell 0, (B3.keep0 hg).cell 1⟩, hg⟩
    go_region_held3 (fun w' => (w'.cell? ⟨w1.heap.size, 0, none⟩ = some (.slice b m d) ∧ w'.cell? ⟨w1.heap.size, 1, none⟩ = some (.int .i64 x)) ∧ wx.grownBy w' none)
      ((refine KX.out _ ?_; (repeat (first | with_reducible exact gb_refl _ | with_reducible refine gb_alloc ?_ _ | with_reducible refine gb_drewN ?_ _ | with_reducible refine gb_drew ?_ | with_reducible refine gb_trans ?_ g3 | with_reducible refine gb_trans ?_ g4))))
      (first
        | (go_at_call 42; refine (impl_DiceOkR _ (⟨k, x⟩ : DiceM) _ (diceR_mk (rb.keep0 (by (repeat (first | with_reducible exact gb_refl _ | with_reducible refine gb_alloc ?_ _ | with_reducible refine gb_drewN ?_ _ | with_reducible refine gb_drew ?_ | with_reducible refine gb_trans ?_ g3 | with_reducible refine gb_trans ?_ g4)))))).mono ?_; rw [hok.out]; rintro e w3 ⟨rfl, g3⟩; skip)
        | (go_at_call 43; refine (spec_DiceOkR _ (⟨k, x⟩ : DiceM) _ (diceR_mk (rb.keep0 (by (repeat (first | with_reducible exact gb_refl _ | with_reducible refine gb_alloc ?_ _ | with_reducible refine gb_drewN ?_ _ | with_reducible refine gb_drew ?_ | with_reducible refine gb_trans ?_ g3 | with_reducible refine gb_trans ?_ g4)))))).mono ?_; rw [hok.out]; rintro e w4 ⟨rfl, g4⟩; skip)
        | fail)
    clear KX
    have H : wx.grownBy w4 none := (by (repeat (first | with_reducible exact gb_refl _ | with_reducible refine gb_alloc ?_ _ | with_reducible refine gb_drewN ?_ _ | with_reducible refine gb_drew ?_ | with_reducible refine gb_trans ?_ g3 | with_reducible refine gb_trans ?_ g4)))
    replace B3 := B3.keep0 H
    replace B4 := B4.keep0 H
    replace rb := rb.keep0 H
    replace r4 := r4.keep0 H
    replace r5 := r5.keep0 H
    replace G := gb_trans G H
    have k3 := fun o => B3.cell o
    have k4 := fun o => B4.cell o
    clear H
    obtain rfl : n5 = 0 := by have := r5.blen; simpa using this.symm
    go_wp2_with (first | (go_at_call 42; (with_reducible refine (impl_DiceOkR _ (⟨k, x⟩ : DiceM) _ (diceR_mk rb)).mono ?_); rw [hok.out]; rintro e w5 ⟨rfl, g5⟩; replace B3 := B3.keep0 g5; replace B4 := B4.keep0 g5; replace rb := rb.keep0 g5; replace r4 := r4.keep0 g5; replace r5 := r5.keep0 g5; replace G := gb_trans G g5; clear k3 k4; have k3 := fun o => B3.cell o; have k4 := fun o => B4.cell o) | (go_at_call 12; refine (laws_same_t a4 n4 c4 b m d k _ r4 rb).mono ?_; rintro e w6 ⟨rfl, rfl⟩))
    go_ret
    exact ⟨rfl, gb_below G⟩
  have hb := hok.out
  simp only [diceOkB, Bool.and_eq_true, inB_iff] at hb
  obtain ⟨⟨s0, s1⟩, h0x, h1x⟩ := hb
  cases h5 : (x == 10000)
  rotate_left
  · have E : rollOk (⟨k, x⟩ : DiceM) = false := by simp [rollOk, h5]
    have hD : Hid (rollD (⟨k, x⟩ : DiceM) = (⟨k, x⟩ : DiceM)) := by rw [Hid, rollD, E]; rfl
    have hB : Hid (rollB (⟨k, x⟩ : DiceM) = []) := by rw [Hid, rollB, E]; rfl
    clear E
    go_wp2_with (first | (go_at_call 41; refine (impl_Roll _ (⟨k, x⟩ : DiceM) _ (diceR_mk (rb.keep0 (gb_alloc (gb_refl _) _))) (Nat.le_trans hm.out (by decide))).mono ?_; rw [hD.out, hB.out]; rintro e w2 ⟨M, v1, a5, n5, c5, rfl, -, -, o1, o5, g2⟩; obtain ⟨a4, n4, c4, rfl, r4⟩ := o1.r; replace r5 := o5.rd; clear o1 o5; simp only at r4))
    obtain ⟨wx, hwx⟩ : ∃ wx, wx = w2.alloc (.cells #[.slice a4 n4 c4, .int .i64 x] 58) := ⟨_, rfl⟩
    have gA := gb_alloc (gb_refl w2) (.cells #[.slice a4 n4 c4, .int .i64 x] 58)
    have B4 := Bx.new w2 58 #[.slice a4 n4 c4, .int .i64 x]
    have B3 := ((Bx.new w1 58 #[.slice b m d, .int .i64 x]).keep0 g2).keep0 gA
    have G := gb_trans (gb_trans (gb_alloc g1 (.cells #[.slice b m d, .int .i64 x] 58)) g2) gA
    replace rb := rb.keep0 (gb_trans (gb_trans (gb_alloc (gb_refl w1) (.cells #[.slice b m d, .int .i64 x] 58)) g2) gA)
    replace r4 := r4.keep0 gA
    replace r5 := r5.keep0 gA
    rw [← hwx] at B3 B4 G rb r4 r5 ⊢
    clear hwx gA g1 g2
    have KX : Hid (∀ w', wx.grownBy w' none → ((w'.cell? ⟨w1.heap.size, 0, none⟩ = some (.slice b m d) ∧ w'.cell? ⟨w1.heap.size, 1, none⟩ = some (.int .i64 x)) ∧ wx.grownBy w' none)) := fun w' hg => ⟨⟨(B3.keep0 hg).cell 0, (B3.keep0 hg).cell 1⟩, hg⟩
    go_region_held3 (fun w' => (w'.cell? ⟨w1.heap.size, 0, none⟩ = some (.slice b m d) ∧ w'.cell? ⟨w1.heap.size, 1, none⟩ = some (.int .i64 x)) ∧ wx.grownBy w' none)
      ((refine KX.out _ ?_; (repeat (first | with_reducible exact gb_refl _ | with_reducible refine gb_alloc ?_ _ | with_reducible refine gb_drewN ?_ _ | with_reducible refine gb_drew ?_ | with_reducible refine gb_trans ?_ g3 | with_reducible refine gb_trans ?_ g4))))
      (first
        | (go_at_call 42; refine (impl_DiceOkR _ (⟨k, x⟩ : DiceM) _ (diceR_mk (rb.keep0 (by (repeat (first | with_reducible exact gb_refl _ | with_reducible refine gb_alloc ?_ _ | with_reducible refine gb_drewN ?_ _ | with_reducible refine gb_drew ?_ | with_reducible refine gb_trans ?_ g3 | with_reducible refine gb_trans ?_ g4)))))).mono ?_; rw [hok.out]; rintro e w3 ⟨rfl, g3⟩; skip)
        | (go_at_call 43; refine (spec_DiceOkR _ (⟨k, x⟩ : DiceM) _ (diceR_mk (rb.keep0 (by (repeat (first | with_reducible exact gb_refl _ | with_reducible refine gb_alloc ?_ _ | with_reducible refine gb_drewN ?_ _ | with_reducible refine gb_drew ?_ | with_reducible refine gb_trans ?_ g3 | with_reducible refine gb_trans ?_ g4)))))).mono ?_; rw [hok.out]; rintro e w4 ⟨rfl, g4⟩; skip)
        | fail)
    clear KX
    have H : wx.grownBy w4 none := (by (repeat (first | with_reducible exact gb_refl _ | with_reducible refine gb_alloc ?_ _ | with_reducible refine gb_drewN ?_ _ | with_reducible refine gb_drew ?_ | with_reducible refine gb_trans ?_ g3 | with_reducible refine gb_trans ?_ g4)))
    replace B3 := B3.keep0 H
    replace B4 := B4.keep0 H
    replace rb := rb.keep0 H
    replace r4 := r4.keep0 H
    replace r5 := r5.keep0 H
    replace G := gb_trans G H
    have k3 := fun o => B3.cell o
    have k4 := fun o => B4.cell o
    clear H
    obtain rfl : n5 = 0 := by have := r5.blen; simpa using this.symm
    go_wp2_with (first | (go_at_call 42; (with_reducible refine (impl_DiceOkR _ (⟨k, x⟩ : DiceM) _ (diceR_mk rb)).mono ?_); rw [hok.out]; rintro e w5 ⟨rfl, g5⟩; replace B3 := B3.keep0 g5; replace B4 := B4.keep0 g5; replace rb := rb.keep0 g5; replace r4 := r4.keep0 g5; replace r5 := r5.keep0 g5; replace G := gb_trans G g5; clear k3 k4; have k3 := fun o => B3.cell o; have k4 := fun o => B4.cell o) | (go_at_call 12; refine (laws_same_t a4 n4 c4 b m d k _ r4 rb).mono ?_; rintro e w6 ⟨rfl, rfl⟩))
    go_ret
    exact ⟨rfl, gb_below G⟩
  · have E : rollOk (⟨k, x⟩ : DiceM) = true := by simp [rollOk, h5, hok.out]
    have hx5 : x ≠ 10000 := by simpa using h5
    have hD : Hid (rollD (⟨k, x⟩ : DiceM) = ⟨k, x + 1⟩) := by rw [Hid, rollD, E]; rfl
    have hB : Hid (rollB (⟨k, x⟩ : DiceM) = diceAtM k x) := by rw [Hid, rollB, E]; rfl
    have hL := diceAtM_12 (l := k) (x := x) (by omega) h0x h1x
    have hok1 : Hid (diceOkB ⟨k, x + 1⟩ = true) := by
      simp only [Hid, diceOkB, Bool.and_eq_true, inB_iff]
      omega
    have hW : Hid (windM ⟨k, x + 1⟩ x = (⟨k, x⟩ : DiceM)) := by
      rw [Hid, windM, hok1.out]
      rw [show inB x 0 10000 = true from inB_iff.2 ⟨h0x, h1x⟩]
      rfl
    clear E
    obtain ⟨P, hP⟩ : ∃ P, Hid (diceAtM k x = P) := ⟨_, rfl⟩
    rw [hP.out] at hB hL
    replace hL := Lib.hid hL
    go_wp2_with (first | (go_at_call 41; refine (impl_Roll _ (⟨k, x⟩ : DiceM) _ (diceR_mk (rb.keep0 (gb_alloc (gb_refl _) _))) (Nat.le_trans hm.out (by decide))).mono ?_; rw [hD.out, hB.out]; rintro e w2 ⟨M, v1, a5, n5, c5, rfl, -, -, o1, o5, g2⟩; obtain ⟨a4, n4, c4, rfl, r4⟩ := o1.r; replace r5 := o5.rd; clear o1 o5; simp only at r4))
    obtain ⟨wx, hwx⟩ : ∃ wx, wx = w2.alloc (.cells #[.slice a4 n4 c4, .int .i64 (x + 1)] 58) := ⟨_, rfl⟩
    have gA := gb_alloc (gb_refl w2) (.cells #[.slice a4 n4 c4, .int .i64 (x + 1)] 58)
    have B4 := Bx.new w2 58 #[.slice a4 n4 c4, .int .i64 (x + 1)]
    have B3 := ((Bx.new w1 58 #[.slice b m d, .int .i64 x]).keep0 g2).keep0 gA
    have G := gb_trans (gb_trans (gb_alloc g1 (.cells #[.slice b m d, .int .i64 x] 58)) g2) gA
    replace rb := rb.keep0 (gb_trans (gb_trans (gb_alloc (gb_refl w1) (.cells #[.slice b m d, .int .i64 x] 58)) g2) gA)
    replace r4 := r4.keep0 gA
    replace r5 := r5.keep0 gA
    rw [← hwx] at B3 B4 G rb r4 r5 ⊢
    clear hwx gA g1 g2
    have KX : Hid (∀ w', wx.grownBy w' none → ((w'.cell? ⟨w1.heap.size, 0, none⟩ = some (.slice b m d) ∧ w'.cell? ⟨w1.heap.size, 1, none⟩ = some (.int .i64 x)) ∧ wx.grownBy w' none)) := fun w' hg => ⟨⟨(B3.keep0 hg).cell 0, (B3.keep0 hg).cell 1⟩, hg⟩
    go_region_held3 (fun w' => (w'.cell? ⟨w1.heap.size, 0, none⟩ = some (.slice b m d) ∧ w'.cell? ⟨w1.heap.size, 1, none⟩ = some (.int .i64 x)) ∧ wx.grownBy w' none)
      ((refine KX.out _ ?_; (repeat (first | with_reducible exact gb_refl _ | with_reducible refine gb_alloc ?_ _ | with_reducible refine gb_drewN ?_ _ | with_reducible refine gb_drew ?_ | with_reducible refine gb_trans ?_ g3 | with_reducible refine gb_trans ?_ g4))))
      (first
        | (go_at_call 42; refine (impl_DiceOkR _ (⟨k, x⟩ : DiceM) _ (diceR_mk (rb.keep0 (by (repeat (first | with_reducible exact gb_refl _ | with_reducible refine gb_alloc ?_ _ | with_reducible refine gb_drewN ?_ _ | with_reducible refine gb_drew ?_ | with_reducible refine gb_trans ?_ g3 | with_reducible refine gb_trans ?_ g4)))))).mono ?_; rw [hok.out]; rintro e w3 ⟨rfl, g3⟩; skip)
        | (go_at_call 43; refine (spec_DiceOkR _ (⟨k, x⟩ : DiceM) _ (diceR_mk (rb.keep0 (by (repeat (first | with_reducible exact gb_refl _ | with_reducible refine gb_alloc ?_ _ | with_reducible refine gb_drewN ?_ _ | with_reducible refine gb_drew ?_ | with_reducible refine gb_trans ?_ g3 | with_reducible refine gb_trans ?_ g4)))))).mono ?_; rw [hok.out]; rintro e w4 ⟨rfl, g4⟩; skip)
        | fail)
    clear KX
    have H : wx.grownBy w4 none := (by (repeat (first | with_reducible exact gb_refl _ | with_reducible refine gb_alloc ?_ _ | with_reducible refine gb_drewN ?_ _ | with_reducible refine gb_drew ?_ | with_reducible refine gb_trans ?_ g3 | with_reducible refine gb_trans ?_ g4)))
    replace B3 := B3.keep0 H
    replace B4 := B4.keep0 H
    replace rb := rb.keep0 H
    replace r4 := r4.keep0 H
    replace r5 := r5.keep0 H
    replace G := gb_trans G H
    have k3 := fun o => B3.cell o
    have k4 := fun o => B4.cell o
    clear H
    obtain rfl : n5 = 12 := by rw [← r5.blen, hL.out]
    go_wp2_with (first | (go_at_call 42; (with_reducible refine (impl_DiceOkR _ (⟨k, x⟩ : DiceM) _ (diceR_mk rb)).mono ?_); rw [hok.out]; rintro e w5 ⟨rfl, g5⟩; replace B3 := B3.keep0 g5; replace B4 := B4.keep0 g5; replace rb := rb.keep0 g5; replace r4 := r4.keep0 g5; replace r5 := r5.keep0 g5; replace G := gb_trans G g5; clear k3 k4; have k3 := fun o => B3.cell o; have k4 := fun o => B4.cell o) | (go_at_call 44; refine (impl_Wind _ ⟨k, x + 1⟩ x _ (diceR_mk r4) (Nat.le_trans hm.out (by decide))).mono ?_; rw [hW.out]; rintro e w6 ⟨v6, rfl, o6, g6⟩; obtain ⟨a6, n6, c6, rfl, r6⟩ := o6.r; clear o6; simp only at r6; replace B3 := B3.keep0 g6; replace B4 := B4.keep0 g6; replace rb := rb.keep0 g6; replace r4 := r4.keep0 g6; replace r5 := r5.keep0 g6; replace G := gb_trans G g6; clear k3 k4; have k3 := fun o => B3.cell o; have k4 := fun o => B4.cell o) | (go_at_call 41; refine (impl_Roll _ (⟨k, x⟩ : DiceM) _ (diceR_mk r6) (Nat.le_trans hm.out (by decide))).mono ?_; rw [hD.out, hB.out]; rintro e w7 ⟨M7, v7, a7, n7, c7, rfl, -, -, o7, o8, g7⟩; obtain ⟨a8, n8, c8, rfl, r8⟩ := o7.r; have r7 := o8.rd; clear o7 o8 r8; replace B3 := B3.keep0 g7; replace B4 := B4.keep0 g7; replace rb := rb.keep0 g7; replace r4 := r4.keep0 g7; replace r5 := r5.keep0 g7; replace G := gb_trans G g7; clear k3 k4; have k3 := fun o => B3.cell o; have k4 := fun o => B4.cell o; have gB := gb_alloc (gb_refl w7) (.cells #[.slice a8 n8 c8, .int .i64 (x + 1)] 58); have B8 := Bx.new w7 58 #[.slice a8 n8 c8, .int .i64 (x + 1)]; have q3 := B3.lt; have q4 := B4.lt) | (go_at_call 12; (with_reducible refine (laws_same_t a5 12 c5 a7 n7 c7 P _ (r5.keep0 (gb_alloc (gb_refl _) _)) (r7.keep0 (gb_alloc (gb_refl _) _))).mono ?_); rintro e w8 ⟨rfl, rfl⟩) | (go_at_call 45; refine (impl_DiceAt b m d k x _ (rb.keep0 (gb_alloc (gb_refl _) _))).mono ?_; rw [hP.out]; rintro e w9 ⟨a9, n9, c9, rfl, o9, g9⟩; replace gB := gb_trans gB g9; clear q3 q4; replace B3 := B3.keep0 gB; replace B4 := B4.keep0 gB; replace rb := rb.keep0 gB; replace r4 := r4.keep0 gB; replace r5 := r5.keep0 gB; replace G := gb_trans G gB; clear k3 k4; have k3 := fun o => B3.cell o; have k4 := fun o => B4.cell o; have r9 := o9.rd) | (go_at_call 12; (with_reducible refine (laws_same_t a5 12 c5 a9 n9 c9 P w9 r5 r9).mono ?_); rintro e w10 ⟨rfl, rfl⟩) | (go_at_call 42; (with_reducible refine (impl_DiceOkR _ ⟨k, x + 1⟩ w9 (diceR_mk r4)).mono ?_); rw [hok1.out]; rintro e w11 ⟨rfl, g11⟩; replace G := gb_trans G g11))
    go_ret
    exact ⟨rfl, gb_below G⟩
set_option maxRecDepth 100000 in
theorem lifted (os : Os) (started : os.Started) (H : Type) (enc : TypeId × Value → H) :
    ReturnsInHanded {} Try.checked os 7 .any (Rows.fnRollsSpec.pre6 enc Try.prog Try.f7 Rows.fnRollsRow.domain false) (Rows.fnRollsSpec.post enc Try.prog Try.f7 false true false false) := by
  refine returnsInHanded_of_change (C := Try.checked) own started (by kernel_rfl) Try.func7
    (ChangeSpec.witness6 (enc := enc) (C := Try.checked) false ⟨#[], #[.slice none 0 0], []⟩ 8 (by kernel_rfl) (by kernel_rfl) (by kernel_rfl) (by kernel_rfl)) ?_
  intro W base args ds gs before hval0 hW _ _
  have hval : ∀ (j : Nat) t v, Try.f7.params[j]? = some t → args[j]? = some v → Value.okWide Try.prog W .any base t v := hval0
  have hW2 := hW
  obtain ⟨p, q, hA0, hV, hps, _, _⟩ := hW
  have hA : DataW.TrodAll enc Try.prog W 0 (fun _ => true) true Try.f7.params.toList args.toList ds p := hA0
  rw [Try.params7] at hA hval
  obtain ⟨rfl, rfl⟩ := trodVars_none hV
  obtain ⟨v0, vs0, d0, ds0, p0, q0, hargs, rfl, rfl, h0, r0⟩ := trodAll_cons hA
  obtain ⟨rfl, rfl, rfl⟩ := trodAll_nil r0
  obtain rfl : args = #[v0] := by cases args; simp_all
  have i0 := open_B (hval 0 22 v0 rfl rfl) h0
  clear hA0 hval0
  refine (walk W v0 i0).mono fun e W2 ⟨he, hb⟩ => ?_
  subst he
  exact ⟨_, rfl, law_post (tb := 4) laidOut (by kernel_rfl) (by kernel_rfl) Try.underlying4 rfl ⟨rfl, rfl, rfl⟩ hW2 hb⟩
theorem over : Rows.fnRollsRow.holds Try.pinned (OpenSpec.ofChange Rows.fnRollsSpec) :=
  OpenClaim.holds_of_wide 7 Try.f7 rfl rfl rfl rfl rfl rfl rfl ⟨rfl, rfl, rfl, rfl, rfl⟩ rfl rfl rfl rfl rfl (by kernel_rfl) Try.func7 (by kernel_rfl)
    (of_decide_eq_true (by kernel_rfl)) (by unfold Func.isWrapper; first | (rw [if_pos (by decide +kernel)]; kernel_rfl) | (rw [if_neg (by decide +kernel)]; exact ⟨rfl, rfl⟩))
    (fun os started H enc _ => lifted os started H enc)
theorem proved : Rows.FnRollsSaid :=
  over
#print axioms proved
end Go.Proofs.Ytpkhmbibemfhhaa.lRolls
