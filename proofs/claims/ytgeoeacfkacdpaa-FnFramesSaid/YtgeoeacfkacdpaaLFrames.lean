/-
  FnFrames returns true for every code. Conditions: none.
-/
import Derived.Test.YtgeoeacfkacdpaaLaw
import Derived.Test.YtgeoeacfkacdpaaLawH
import Derived.Test.YtgeoeacfkacdpaaGetS6
import Derived.Test.YtgeoeacfkacdpaaDrF2
import Derived.Test.YtgeoeacfkacdpaaPlFrame
import Derived.Deep.RegionHeld3
namespace Go.Proofs.Ytgeoeacfkacdpaa.lFrames
open Go.ChangeShapes Go.WideShapes Go.ChangeAt Go.RowKit
theorem takeM {a : Option Addr} {n c : Nat} {l : List UInt8} {w : World} (r : Rd w a n c (bys l)) (M : Nat) (h : M ≤ n) : Rd w a M c (bys (l.take M)) := by
  have hl := r.blen
  refine ⟨by rw [bys_len, List.length_take]; omega, by have := r.le; omega, fun j hj => ?_⟩
  obtain ⟨b, off, e, hc⟩ := r.cells j (by omega)
  exact ⟨b, off, e, by rw [hc, bys, bys, List.getElem?_map, List.getElem?_map, List.getElem?_take, if_pos hj]⟩
set_option maxRecDepth 1000000 in
set_option maxHeartbeats 8000000 in
theorem walk (w : World) (v0 : Value) (h0 : InBytes w v0) : Calls Try.prog 7 #[v0] w fun e w' => e = .returned (.bool true) ∧ Below w.heap.size w w' := by
  obtain ⟨a, n, c, l, rfl, r, hC⟩ := h0
  rcases Nat.lt_or_ge 1048576 n with p | p
  · go_enter Try.func7, Try.ntmps7
    go_wp2_with (go_at_call 10; refine (laws_big a n c _).mono ?_; rw [decide_eq_true p]; rintro e w0 ⟨rfl, rfl⟩)
    go_ret
    exact ⟨rfl, Below.refl _ _⟩
  go_enter Try.func7, Try.ntmps7
  go_wp2_with (first | (go_at_call 10; refine (laws_big a n c _).mono ?_; rw [decide_eq_false (by omega)]; rintro e w0 ⟨rfl, rfl⟩) | (go_at_call 42; refine (spec_DrawPutFrame a n c l _ r p).mono ?_; rintro e w1 ⟨v1, F, rfl, R1, hF, g1⟩; obtain ⟨kind, id, l1, l2, tick, l3, l4, epoch, seq, l5, l6⟩ := F; obtain ⟨a1, n1, c1, a2, n2, c2, a3, n3, c3, a4, n4, c4, a5, n5, c5, a6, n6, c6, rfl⟩ := R1.shape; simp only at R1))
  obtain ⟨P, hP⟩ : ∃ P, Hid (putM (⟨kind, id, l1, l2, tick, l3, l4, epoch, seq, l5, l6⟩ : FrameM) = P) := ⟨_, rfl⟩
  obtain ⟨ok, hok⟩ : ∃ ok, Hid (frOk (⟨kind, id, l1, l2, tick, l3, l4, epoch, seq, l5, l6⟩ : FrameM) = ok) := ⟨_, rfl⟩
  cases ok
  · have hPz := Lib.hid (show P = [] by rw [← hP.out]; exact putM_no hok.out)
    go_wp2_with (first | (go_at_call 43; refine (impl_PutFrame _ (⟨kind, id, l1, l2, tick, l3, l4, epoch, seq, l5, l6⟩ : FrameM) _ (R1.keep0 (gb_alloc (gb_refl _) _))).mono ?_; rintro e w2 ⟨b, m, d, rfl, o2, g2⟩; rw [hP.out] at o2; have R2 := R1.keep0 (gb_trans (gb_alloc (gb_refl _) _) g2); have B2 := (Bx.new w1 55 #[.int .i64 kind, .int .i64 id, .slice a1 n1 c1, .slice a2 n2 c2, .int .i64 tick, .slice a3 n3 c3, .slice a4 n4 c4, .int .i64 epoch, .int .i64 seq, .slice a5 n5 c5, .slice a6 n6 c6]).keep0 g2; have G2 := gb_trans (gb_alloc g1 _) g2; have hlen := Lib.hid (show P.length = m from o2.blen)))
    obtain rfl : m = 0 := by rw [← hlen.out, hPz.out]; rfl
    have KX : Hid (∀ w', w2.grownBy w' none → (w'.cell? ⟨w1.heap.size, 0, none⟩ = some (.int .i64 kind) ∧ w'.cell? ⟨w1.heap.size, 1, none⟩ = some (.int .i64 id) ∧ w'.cell? ⟨w1.heap.size, 2, none⟩ = some (.slice a1 n1 c1) ∧ w'.cell? ⟨w1.heap.size, 3, none⟩ = some (.slice a2 n2 c2) ∧ w'.cell? ⟨w1.heap.size, 4, none⟩ = some (.int .i64 tick) ∧ w'.cell? ⟨w1.heap.size, 5, none⟩ = some (.slice a3 n3 c3) ∧ w'.cell? ⟨w1.heap.size, 6, none⟩ = some (.slice a4 n4 c4) ∧ w'.cell? ⟨w1.heap.size, 7, none⟩ = some (.int .i64 epoch) ∧ w'.cell? ⟨w1.heap.size, 8, none⟩ = some (.int .i64 seq) ∧ w'.cell? ⟨w1.heap.size, 9, none⟩ = some (.slice a5 n5 c5) ∧ w'.cell? ⟨w1.heap.size, 10, none⟩ = some (.slice a6 n6 c6) ∧ w2.grownBy w' none)) := fun w' hg => ⟨(B2.keep0 hg).cell 0, (B2.keep0 hg).cell 1, (B2.keep0 hg).cell 2, (B2.keep0 hg).cell 3, (B2.keep0 hg).cell 4, (B2.keep0 hg).cell 5, (B2.keep0 hg).cell 6, (B2.keep0 hg).cell 7, (B2.keep0 hg).cell 8, (B2.keep0 hg).cell 9, (B2.keep0 hg).cell 10, hg⟩
    go_region_held3 (fun w' => w'.cell? ⟨w1.heap.size, 0, none⟩ = some (.int .i64 kind) ∧ w'.cell? ⟨w1.heap.size, 1, none⟩ = some (.int .i64 id) ∧ w'.cell? ⟨w1.heap.size, 2, none⟩ = some (.slice a1 n1 c1) ∧ w'.cell? ⟨w1.heap.size, 3, none⟩ = some (.slice a2 n2 c2) ∧ w'.cell? ⟨w1.heap.size, 4, none⟩ = some (.int .i64 tick) ∧ w'.cell? ⟨w1.heap.size, 5, none⟩ = some (.slice a3 n3 c3) ∧ w'.cell? ⟨w1.heap.size, 6, none⟩ = some (.slice a4 n4 c4) ∧ w'.cell? ⟨w1.heap.size, 7, none⟩ = some (.int .i64 epoch) ∧ w'.cell? ⟨w1.heap.size, 8, none⟩ = some (.int .i64 seq) ∧ w'.cell? ⟨w1.heap.size, 9, none⟩ = some (.slice a5 n5 c5) ∧ w'.cell? ⟨w1.heap.size, 10, none⟩ = some (.slice a6 n6 c6) ∧ w2.grownBy w' none)
      ((refine KX.out _ ?_; (repeat (first | with_reducible exact gb_refl _ | with_reducible refine gb_alloc ?_ _ | with_reducible refine gb_drewN ?_ _ | with_reducible refine gb_drew ?_ | with_reducible refine gb_trans ?_ g3 | with_reducible refine gb_trans ?_ g4 | with_reducible refine gb_trans ?_ g5))))
      (first
        | (go_at_call 44; refine (impl_FrameOk _ (⟨kind, id, l1, l2, tick, l3, l4, epoch, seq, l5, l6⟩ : FrameM) _ (R2.keep0 (by (repeat (first | with_reducible exact gb_refl _ | with_reducible refine gb_alloc ?_ _ | with_reducible refine gb_drewN ?_ _ | with_reducible refine gb_drew ?_ | with_reducible refine gb_trans ?_ g3 | with_reducible refine gb_trans ?_ g4 | with_reducible refine gb_trans ?_ g5))))).mono ?_; rw [hok.out]; rintro e w3 ⟨rfl, g3⟩; skip)
        | (go_at_call 45; refine (spec_FrameOk _ (⟨kind, id, l1, l2, tick, l3, l4, epoch, seq, l5, l6⟩ : FrameM) _ (R2.keep0 (by (repeat (first | with_reducible exact gb_refl _ | with_reducible refine gb_alloc ?_ _ | with_reducible refine gb_drewN ?_ _ | with_reducible refine gb_drew ?_ | with_reducible refine gb_trans ?_ g3 | with_reducible refine gb_trans ?_ g4 | with_reducible refine gb_trans ?_ g5))))).mono ?_; rw [hok.out]; rintro e w4 ⟨rfl, g4⟩; skip)
        | (go_at_call 46; refine (impl_SizeOf _ (⟨kind, id, l1, l2, tick, l3, l4, epoch, seq, l5, l6⟩ : FrameM) _ (R2.keep0 (by (repeat (first | with_reducible exact gb_refl _ | with_reducible refine gb_alloc ?_ _ | with_reducible refine gb_drewN ?_ _ | with_reducible refine gb_drew ?_ | with_reducible refine gb_trans ?_ g3 | with_reducible refine gb_trans ?_ g4 | with_reducible refine gb_trans ?_ g5))))).mono ?_; rw [hP.out, hlen.out]; rintro e w5 ⟨rfl, g5⟩; skip)
        | fail)
    have G25 : w2.grownBy w5 none := (by (repeat (first | with_reducible exact gb_refl _ | with_reducible refine gb_alloc ?_ _ | with_reducible refine gb_drewN ?_ _ | with_reducible refine gb_drew ?_ | with_reducible refine gb_trans ?_ g3 | with_reducible refine gb_trans ?_ g4 | with_reducible refine gb_trans ?_ g5)))
    have B5 := B2.keep0 G25
    have R5 := R2.keep0 G25
    have o5 := o2.rd.keep0 G25
    have G5 := gb_trans G2 G25
    have k5 := fun o => B5.cell o
    go_wp2_with (first | (go_at_call 44; refine (impl_FrameOk _ (⟨kind, id, l1, l2, tick, l3, l4, epoch, seq, l5, l6⟩ : FrameM) _ R5).mono ?_; rw [hok.out]; rintro e w6 ⟨rfl, g6⟩))
    go_ret
    exact ⟨rfl, gb_below (gb_trans G5 g6)⟩
  · have hb := Lib.hid (show 34 ≤ P.length ∧ P.length ≤ 79 by rw [← hP.out]; exact ⟨putM_pos hok.out, putM_le79 hok.out⟩)
    have hk := Lib.hid (show getM P = ((⟨kind, id, l1, l2, tick, l3, l4, epoch, seq, l5, l6⟩ : FrameM), true) by rw [← hP.out]; exact getM_put hok.out)
    have hc := Lib.hid (show (getM (P.take (P.length - 1))).2 = true → kind = 4 by rw [← hP.out]; exact getM_cut hok.out)
    go_wp2_with (first | (go_at_call 43; refine (impl_PutFrame _ (⟨kind, id, l1, l2, tick, l3, l4, epoch, seq, l5, l6⟩ : FrameM) _ (R1.keep0 (gb_alloc (gb_refl _) _))).mono ?_; rintro e w2 ⟨b, m, d, rfl, o2, g2⟩; rw [hP.out] at o2; have R2 := R1.keep0 (gb_trans (gb_alloc (gb_refl _) _) g2); have B2 := (Bx.new w1 55 #[.int .i64 kind, .int .i64 id, .slice a1 n1 c1, .slice a2 n2 c2, .int .i64 tick, .slice a3 n3 c3, .slice a4 n4 c4, .int .i64 epoch, .int .i64 seq, .slice a5 n5 c5, .slice a6 n6 c6]).keep0 g2; have G2 := gb_trans (gb_alloc g1 _) g2; have hlen := Lib.hid (show P.length = m from o2.blen)))
    obtain ⟨M, rfl⟩ : ∃ M, m = M + 1 := ⟨m - 1, by have := hb.out; have := hlen.out; omega⟩
    have hM1 : ((M : Int) + 1 ≤ 79) := by have := hb.out; have := hlen.out; omega
    have hM2 : M + 1 ≤ 79 := by have := hb.out; have := hlen.out; omega
    have hMd : M ≤ d := by have := o2.rd.le; omega
    rw [hlen.out, Nat.add_sub_cancel] at hc
    obtain ⟨F2, cut, hk2⟩ : ∃ F2 cut, Hid (getM (P.take M) = (F2, cut)) := ⟨_, _, rfl⟩
    rw [hk2.out] at hc
    have KX : Hid (∀ w', w2.grownBy w' none → (w'.cell? ⟨w1.heap.size, 0, none⟩ = some (.int .i64 kind) ∧ w'.cell? ⟨w1.heap.size, 1, none⟩ = some (.int .i64 id) ∧ w'.cell? ⟨w1.heap.size, 2, none⟩ = some (.slice a1 n1 c1) ∧ w'.cell? ⟨w1.heap.size, 3, none⟩ = some (.slice a2 n2 c2) ∧ w'.cell? ⟨w1.heap.size, 4, none⟩ = some (.int .i64 tick) ∧ w'.cell? ⟨w1.heap.size, 5, none⟩ = some (.slice a3 n3 c3) ∧ w'.cell? ⟨w1.heap.size, 6, none⟩ = some (.slice a4 n4 c4) ∧ w'.cell? ⟨w1.heap.size, 7, none⟩ = some (.int .i64 epoch) ∧ w'.cell? ⟨w1.heap.size, 8, none⟩ = some (.int .i64 seq) ∧ w'.cell? ⟨w1.heap.size, 9, none⟩ = some (.slice a5 n5 c5) ∧ w'.cell? ⟨w1.heap.size, 10, none⟩ = some (.slice a6 n6 c6) ∧ w2.grownBy w' none)) := fun w' hg => ⟨(B2.keep0 hg).cell 0, (B2.keep0 hg).cell 1, (B2.keep0 hg).cell 2, (B2.keep0 hg).cell 3, (B2.keep0 hg).cell 4, (B2.keep0 hg).cell 5, (B2.keep0 hg).cell 6, (B2.keep0 hg).cell 7, (B2.keep0 hg).cell 8, (B2.keep0 hg).cell 9, (B2.keep0 hg).cell 10, hg⟩
    go_region_held3 (fun w' => w'.cell? ⟨w1.heap.size, 0, none⟩ = some (.int .i64 kind) ∧ w'.cell? ⟨w1.heap.size, 1, none⟩ = some (.int .i64 id) ∧ w'.cell? ⟨w1.heap.size, 2, none⟩ = some (.slice a1 n1 c1) ∧ w'.cell? ⟨w1.heap.size, 3, none⟩ = some (.slice a2 n2 c2) ∧ w'.cell? ⟨w1.heap.size, 4, none⟩ = some (.int .i64 tick) ∧ w'.cell? ⟨w1.heap.size, 5, none⟩ = some (.slice a3 n3 c3) ∧ w'.cell? ⟨w1.heap.size, 6, none⟩ = some (.slice a4 n4 c4) ∧ w'.cell? ⟨w1.heap.size, 7, none⟩ = some (.int .i64 epoch) ∧ w'.cell? ⟨w1.heap.size, 8, none⟩ = some (.int .i64 seq) ∧ w'.cell? ⟨w1.heap.size, 9, none⟩ = some (.slice a5 n5 c5) ∧ w'.cell? ⟨w1.heap.size, 10, none⟩ = some (.slice a6 n6 c6) ∧ w2.grownBy w' none)
      ((refine KX.out _ ?_; (repeat (first | with_reducible exact gb_refl _ | with_reducible refine gb_alloc ?_ _ | with_reducible refine gb_drewN ?_ _ | with_reducible refine gb_drew ?_ | with_reducible refine gb_trans ?_ g3 | with_reducible refine gb_trans ?_ g4 | with_reducible refine gb_trans ?_ g5))))
      (first
        | (go_at_call 44; refine (impl_FrameOk _ (⟨kind, id, l1, l2, tick, l3, l4, epoch, seq, l5, l6⟩ : FrameM) _ (R2.keep0 (by (repeat (first | with_reducible exact gb_refl _ | with_reducible refine gb_alloc ?_ _ | with_reducible refine gb_drewN ?_ _ | with_reducible refine gb_drew ?_ | with_reducible refine gb_trans ?_ g3 | with_reducible refine gb_trans ?_ g4 | with_reducible refine gb_trans ?_ g5))))).mono ?_; rw [hok.out]; rintro e w3 ⟨rfl, g3⟩; skip)
        | (go_at_call 45; refine (spec_FrameOk _ (⟨kind, id, l1, l2, tick, l3, l4, epoch, seq, l5, l6⟩ : FrameM) _ (R2.keep0 (by (repeat (first | with_reducible exact gb_refl _ | with_reducible refine gb_alloc ?_ _ | with_reducible refine gb_drewN ?_ _ | with_reducible refine gb_drew ?_ | with_reducible refine gb_trans ?_ g3 | with_reducible refine gb_trans ?_ g4 | with_reducible refine gb_trans ?_ g5))))).mono ?_; rw [hok.out]; rintro e w4 ⟨rfl, g4⟩; skip)
        | (go_at_call 46; refine (impl_SizeOf _ (⟨kind, id, l1, l2, tick, l3, l4, epoch, seq, l5, l6⟩ : FrameM) _ (R2.keep0 (by (repeat (first | with_reducible exact gb_refl _ | with_reducible refine gb_alloc ?_ _ | with_reducible refine gb_drewN ?_ _ | with_reducible refine gb_drew ?_ | with_reducible refine gb_trans ?_ g3 | with_reducible refine gb_trans ?_ g4 | with_reducible refine gb_trans ?_ g5))))).mono ?_; rw [hP.out, hlen.out]; rintro e w5 ⟨rfl, g5⟩; skip)
        | fail)
    have G25 : w2.grownBy w5 none := (by (repeat (first | with_reducible exact gb_refl _ | with_reducible refine gb_alloc ?_ _ | with_reducible refine gb_drewN ?_ _ | with_reducible refine gb_drew ?_ | with_reducible refine gb_trans ?_ g3 | with_reducible refine gb_trans ?_ g4 | with_reducible refine gb_trans ?_ g5)))
    have B5 := B2.keep0 G25
    have R5 := R2.keep0 G25
    have o5 := o2.rd.keep0 G25
    have G5 := gb_trans G2 G25
    have k5 := fun o => B5.cell o
    cases cut
    · go_wp2_with (first | (go_at_call 44; refine (impl_FrameOk _ (⟨kind, id, l1, l2, tick, l3, l4, epoch, seq, l5, l6⟩ : FrameM) _ R5).mono ?_; rw [hok.out]; rintro e w6 ⟨rfl, g6⟩) | (go_at_call 47; (with_reducible refine (impl_GetFrame b (M + 1) d P w6 (o5.keep0 g6) ?_).mono ?_); (focus omega); simp only [PGet, hk.out]; rintro e w7 ⟨v7, rfl, o7, g7⟩; have R7 := o7.r; clear o7; obtain ⟨s1, t1, u1, s2, t2, u2, s3, t3, u3, s4, t4, u4, s5, t5, u5, s6, t6, u6, rfl⟩ := R7.shape; simp only at R7; have B7 := (B5.keep0 g6).keep0 g7; replace R5 := (R5.keep0 g6).keep0 g7; replace o5 := (o5.keep0 g6).keep0 g7; have G7 := gb_trans (gb_trans G5 g6) g7; clear k5; have k7 := fun o => B7.cell o; have rT := takeM (o5.keep0 (gb_alloc (gb_refl w7) (.cells #[.int .i64 kind, .int .i64 id, .slice s1 t1 u1, .slice s2 t2 u2, .int .i64 tick, .slice s3 t3 u3, .slice s4 t4 u4, .int .i64 epoch, .int .i64 seq, .slice s5 t5 u5, .slice s6 t6 u6] 55))) M (by omega)) | (go_at_call 47; (with_reducible refine (impl_GetFrame b M d (P.take M) _ rT ?_).mono ?_); (focus omega); simp only [PGet, hk2.out]; rintro e w8 ⟨v8, rfl, o8, g8⟩; have R8 := o8.r; clear o8; obtain ⟨x1, y1, z1, x2, y2, z2, x3, y3, z3, x4, y4, z4, x5, y5, z5, x6, y6, z6, rfl⟩ := R8.shape; have K8 := gb_trans (gb_alloc (gb_refl w7) _) g8; have B8 := B7.keep0 K8; have B8g := (Bx.new w7 55 #[.int .i64 kind, .int .i64 id, .slice s1 t1 u1, .slice s2 t2 u2, .int .i64 tick, .slice s3 t3 u3, .slice s4 t4 u4, .int .i64 epoch, .int .i64 seq, .slice s5 t5 u5, .slice s6 t6 u6]).keep0 g8; replace R5 := R5.keep0 K8; replace R7 := R7.keep0 K8; have G8 := gb_alloc (gb_trans G7 K8) (.cells #[.int .i64 F2.kind, .int .i64 F2.id, .slice x1 y1 z1, .slice x2 y2 z2, .int .i64 F2.tick, .slice x3 y3 z3, .slice x4 y4 z4, .int .i64 F2.epoch, .int .i64 F2.seq, .slice x5 y5 z5, .slice x6 y6 z6] 55); clear k7; have k8 := fun o => B8.cell o; have k9 := fun o => B8g.cell o; have q8 := B8.lt; have q9 := B8g.lt) | (go_at_call 48; refine (laws_sameFrame_t _ _ (⟨kind, id, l1, l2, tick, l3, l4, epoch, seq, l5, l6⟩ : FrameM) _ (R5.keep0 (gb_alloc (gb_refl _) _)) (R7.keep0 (gb_alloc (gb_refl _) _))).mono ?_; rintro e w9 ⟨rfl, g9⟩; have B9 := (B8.keep0 (gb_alloc (gb_refl _) _)).keep0 g9; clear k8 k9; have k8 := fun o => B9.cell o))
      go_ret
      exact ⟨rfl, gb_below (gb_trans G8 g9)⟩
    · have k4 : (kind == 4) = true := by rw [hc.out rfl]; rfl
      go_wp2_with (first | (go_at_call 44; refine (impl_FrameOk _ (⟨kind, id, l1, l2, tick, l3, l4, epoch, seq, l5, l6⟩ : FrameM) _ R5).mono ?_; rw [hok.out]; rintro e w6 ⟨rfl, g6⟩) | (go_at_call 47; (with_reducible refine (impl_GetFrame b (M + 1) d P w6 (o5.keep0 g6) ?_).mono ?_); (focus omega); simp only [PGet, hk.out]; rintro e w7 ⟨v7, rfl, o7, g7⟩; have R7 := o7.r; clear o7; obtain ⟨s1, t1, u1, s2, t2, u2, s3, t3, u3, s4, t4, u4, s5, t5, u5, s6, t6, u6, rfl⟩ := R7.shape; simp only at R7; have B7 := (B5.keep0 g6).keep0 g7; replace R5 := (R5.keep0 g6).keep0 g7; replace o5 := (o5.keep0 g6).keep0 g7; have G7 := gb_trans (gb_trans G5 g6) g7; clear k5; have k7 := fun o => B7.cell o; have rT := takeM (o5.keep0 (gb_alloc (gb_refl w7) (.cells #[.int .i64 kind, .int .i64 id, .slice s1 t1 u1, .slice s2 t2 u2, .int .i64 tick, .slice s3 t3 u3, .slice s4 t4 u4, .int .i64 epoch, .int .i64 seq, .slice s5 t5 u5, .slice s6 t6 u6] 55))) M (by omega)) | (go_at_call 47; (with_reducible refine (impl_GetFrame b M d (P.take M) _ rT ?_).mono ?_); (focus omega); simp only [PGet, hk2.out]; rintro e w8 ⟨v8, rfl, o8, g8⟩; have R8 := o8.r; clear o8; obtain ⟨x1, y1, z1, x2, y2, z2, x3, y3, z3, x4, y4, z4, x5, y5, z5, x6, y6, z6, rfl⟩ := R8.shape; have K8 := gb_trans (gb_alloc (gb_refl w7) _) g8; have B8 := B7.keep0 K8; have B8g := (Bx.new w7 55 #[.int .i64 kind, .int .i64 id, .slice s1 t1 u1, .slice s2 t2 u2, .int .i64 tick, .slice s3 t3 u3, .slice s4 t4 u4, .int .i64 epoch, .int .i64 seq, .slice s5 t5 u5, .slice s6 t6 u6]).keep0 g8; replace R5 := R5.keep0 K8; replace R7 := R7.keep0 K8; have G8 := gb_alloc (gb_trans G7 K8) (.cells #[.int .i64 F2.kind, .int .i64 F2.id, .slice x1 y1 z1, .slice x2 y2 z2, .int .i64 F2.tick, .slice x3 y3 z3, .slice x4 y4 z4, .int .i64 F2.epoch, .int .i64 F2.seq, .slice x5 y5 z5, .slice x6 y6 z6] 55); clear k7; have k8 := fun o => B8.cell o; have k9 := fun o => B8g.cell o; have q8 := B8.lt; have q9 := B8g.lt) | (go_at_call 48; refine (laws_sameFrame_t _ _ (⟨kind, id, l1, l2, tick, l3, l4, epoch, seq, l5, l6⟩ : FrameM) _ (R5.keep0 (gb_alloc (gb_refl _) _)) (R7.keep0 (gb_alloc (gb_refl _) _))).mono ?_; rintro e w9 ⟨rfl, g9⟩; have B9 := (B8.keep0 (gb_alloc (gb_refl _) _)).keep0 g9; clear k8 k9; have k8 := fun o => B9.cell o))
      go_ret
      exact ⟨rfl, gb_below (gb_trans G8 g9)⟩
set_option maxRecDepth 100000 in
theorem lifted (os : Os) (started : os.Started) (H : Type) (enc : TypeId × Value → H) :
    ReturnsInHanded {} Try.checked os 7 .any (Rows.fnFramesSpec.pre6 enc Try.prog Try.f7 Rows.fnFramesRow.domain false) (Rows.fnFramesSpec.post enc Try.prog Try.f7 false true false false) := by
  refine returnsInHanded_of_change (C := Try.checked) own started (by kernel_rfl) Try.func7
    (ChangeSpec.witness6 (enc := enc) (C := Try.checked) false ⟨#[], #[.slice none 0 0], []⟩ 8 (by kernel_rfl) (by kernel_rfl) (by kernel_rfl) (by kernel_rfl)) ?_
  intro W base args ds gs before hval0 hW _ _
  have hval : ∀ (j : Nat) t v, Try.f7.params[j]? = some t → args[j]? = some v → Value.okWide Try.prog W .any base t v := hval0
  have hW2 := hW
  obtain ⟨p, q, hA0, hV, hps, _, _⟩ := hW
  have hA : DataW.TrodAll enc Try.prog W 0 (fun _ => true) true Try.f7.params.toList args.toList ds p := hA0
  rw [Try.params7] at hA hval
  obtain ⟨rfl, rfl⟩ := trodVars_none hV
  obtain ⟨v0, vs0, d0, ds0, p0, q0, hargs, rfl, rfl, h0, r0⟩ := trodAll_cons hA
  obtain ⟨rfl, rfl, rfl⟩ := trodAll_nil r0
  obtain rfl : args = #[v0] := by cases args; simp_all
  have i0 := open_B (hval 0 22 v0 rfl rfl) h0
  clear hA0 hval0
  refine (walk W v0 i0).mono fun e W2 ⟨he, hb⟩ => ?_
  subst he
  exact ⟨_, rfl, law_post (tb := 4) laidOut (by kernel_rfl) (by kernel_rfl) Try.underlying4 rfl ⟨rfl, rfl, rfl⟩ hW2 hb⟩
theorem over : Rows.fnFramesRow.holds Try.pinned (OpenSpec.ofChange Rows.fnFramesSpec) :=
  OpenClaim.holds_of_wide 7 Try.f7 rfl rfl rfl rfl rfl rfl rfl ⟨rfl, rfl, rfl, rfl, rfl⟩ rfl rfl rfl rfl rfl (by kernel_rfl) Try.func7 (by kernel_rfl)
    (of_decide_eq_true (by kernel_rfl)) (by unfold Func.isWrapper; first | (rw [if_pos (by decide +kernel)]; kernel_rfl) | (rw [if_neg (by decide +kernel)]; exact ⟨rfl, rfl⟩))
    (fun os started H enc _ => lifted os started H enc)
theorem proved : Rows.FnFramesSaid :=
  over
#print axioms proved
end Go.Proofs.Ytgeoeacfkacdpaa.lFrames
