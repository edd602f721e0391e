/-
  Contracts of the two functions that lay the input of a tag. Conditions: none beside those that each theorem names.
-/
import Derived.Test.YtpfchphgbhgmmaaGreatPut
import Derived.Deep.RegionHeld3
namespace Go.Proofs.YtpfchphgbhgmmaaGreat
open Go.RowKit
theorem tagInM_len (role : Int) (f : FrameM) : (tagInM role f).length ≤ 65 := by
  unfold tagInM
  split
  · rename_i h
    simp only [Bool.and_eq_true] at h
    have h1 := headM_len role f.sn f.epoch f.seq
    have h2 := (frOk_S h.2 h.1.2).2.2.1
    simp
    omega
  · simp
set_option maxRecDepth 100000 in
set_option maxHeartbeats 4000000 in
theorem impl_TagInput (role : Int) (v : Value) (f : FrameM) (w : World) (h : FrameR w v f) : Calls Tryz.prog 37 #[.int .i64 role, v] w (RetB w (tagInM role f)) := by
  have hR := h
  obtain ⟨a1, n1, c1, a2, n2, c2, a3, n3, c3, a4, n4, c4, a5, n5, c5, a6, n6, c6, rfl, r1, r2, r3, r4, r5, r6⟩ := h
  obtain ⟨kind, id, l1, l2, tick, l3, l4, epoch, seq, l5, l6⟩ := f
  simp only at r1 r2 r3 r4 r5 r6 hR ⊢
  have g0 := gb_alloc (gb_refl w) (.cells #[.int .i64 kind, .int .i64 id, .slice a1 n1 c1, .slice a2 n2 c2, .int .i64 tick, .slice a3 n3 c3, .slice a4 n4 c4, .int .i64 epoch, .int .i64 seq, .slice a5 n5 c5, .slice a6 n6 c6] 32)
  have R := Lib.hid (hR.keep0 g0)
  cases h1 : roleB role
  · have hok : true = true := rfl
    have h2 : true = true := rfl
    have hm : tagInM role ⟨kind, id, l1, l2, tick, l3, l4, epoch, seq, l5, l6⟩ = [] := by simp [tagInM, *]
    rw [hm]
    clear hm hR r1 r2 r3 r4 r5 r6
    go_enter Tryz.func37, Tryz.ntmps37
    go_wp2_with (first | (go_at_call 52; refine (impl_isRole _ _).mono ?_; rintro e w' ⟨rfl, rfl⟩) | (go_at_call 53; refine (impl_Sealed _ _).mono ?_; rintro e w' ⟨rfl, rfl⟩) | (go_at_call 54; (with_reducible refine (impl_FrameOk _ _ _ R.out).mono ?_); rw [hok]; rintro e w1 ⟨rfl, g1⟩; replace g0 := gb_trans g0 g1))
    go_ret
    exact ⟨_, _, _, rfl, Ow.nil _ _ _, g0⟩
  cases h2 : sealedB kind
  · have hok : true = true := rfl
    have hm : tagInM role ⟨kind, id, l1, l2, tick, l3, l4, epoch, seq, l5, l6⟩ = [] := by simp [tagInM, *]
    rw [hm]
    clear hm hR r1 r2 r3 r4 r5 r6
    go_enter Tryz.func37, Tryz.ntmps37
    go_wp2_with (first | (go_at_call 52; refine (impl_isRole _ _).mono ?_; rintro e w' ⟨rfl, rfl⟩) | (go_at_call 53; refine (impl_Sealed _ _).mono ?_; rintro e w' ⟨rfl, rfl⟩) | (go_at_call 54; (with_reducible refine (impl_FrameOk _ _ _ R.out).mono ?_); rw [hok]; rintro e w1 ⟨rfl, g1⟩; replace g0 := gb_trans g0 g1))
    go_ret
    exact ⟨_, _, _, rfl, Ow.nil _ _ _, g0⟩
  cases hok : frOk ⟨kind, id, l1, l2, tick, l3, l4, epoch, seq, l5, l6⟩
  · have hm : tagInM role ⟨kind, id, l1, l2, tick, l3, l4, epoch, seq, l5, l6⟩ = [] := by simp [tagInM, *]
    rw [hm]
    clear hm hR r1 r2 r3 r4 r5 r6
    go_enter Tryz.func37, Tryz.ntmps37
    go_wp2_with (first | (go_at_call 52; refine (impl_isRole _ _).mono ?_; rintro e w' ⟨rfl, rfl⟩) | (go_at_call 53; refine (impl_Sealed _ _).mono ?_; rintro e w' ⟨rfl, rfl⟩) | (go_at_call 54; (with_reducible refine (impl_FrameOk _ _ _ R.out).mono ?_); rw [hok]; rintro e w1 ⟨rfl, g1⟩; replace g0 := gb_trans g0 g1))
    go_ret
    exact ⟨_, _, _, rfl, Ow.nil _ _ _, g0⟩
  have hm : tagInM role ⟨kind, id, l1, l2, tick, l3, l4, epoch, seq, l5, l6⟩ = [116] ++ headM role l2 epoch seq ++ [b8 kind] ++ l5 := by simp [tagInM, *]
  rw [hm]
  have bd := frOk_S hok h2
  simp only at bd
  obtain ⟨q1, q2, q3, q4, q5, q6, q7, q8, q9⟩ := bd
  have b0 := bx1 w #[.int .i64 kind, .int .i64 id, .slice a1 n1 c1, .slice a2 n2 c2, .int .i64 tick, .slice a3 n3 c3, .slice a4 n4 c4, .int .i64 epoch, .int .i64 seq, .slice a5 n5 c5, .slice a6 n6 c6] 32
  clear hm hR
  go_enter Tryz.func37, Tryz.ntmps37
  go_wp2_with (first | (go_at_call 52; refine (impl_isRole _ _).mono ?_; rintro e w' ⟨rfl, rfl⟩) | (go_at_call 53; refine (impl_Sealed _ _).mono ?_; rintro e w' ⟨rfl, rfl⟩) | (go_at_call 54; (with_reducible refine (impl_FrameOk _ _ _ R.out).mono ?_); rw [hok]; rintro e w1 ⟨rfl, g1⟩; have G1 := gb_trans g0 g1; have b1 := b0.keep0 g1; have cc := fun o => b1.cell o; have lb := b1.lt))
  have KX : Hid (∀ w', w1.grownBy w' none → (w'.cell? ⟨w.heap.size, 3, none⟩ = some (.slice a2 n2 c2) ∧ w'.cell? ⟨w.heap.size, 7, none⟩ = some (.int .i64 epoch) ∧ w'.cell? ⟨w.heap.size, 8, none⟩ = some (.int .i64 seq) ∧ w'.cell? ⟨w.heap.size, 0, none⟩ = some (.int .i64 kind) ∧ w'.cell? ⟨w.heap.size, 9, none⟩ = some (.slice a5 n5 c5) ∧ w1.grownBy w' none)) :=
    fun w' hg => ⟨(b1.keep0 hg).cell 3, (b1.keep0 hg).cell 7, (b1.keep0 hg).cell 8, (b1.keep0 hg).cell 0, (b1.keep0 hg).cell 9, hg⟩
  clear g0 b0 g1 b1 cc
  have hl := headM_len role l2 epoch seq
  have hwid := wraps_u8 kind (by omega) (by omega)
  go_region_held3 (fun w' => w'.cell? ⟨w.heap.size, 3, none⟩ = some (.slice a2 n2 c2) ∧ w'.cell? ⟨w.heap.size, 7, none⟩ = some (.int .i64 epoch) ∧ w'.cell? ⟨w.heap.size, 8, none⟩ = some (.int .i64 seq) ∧ w'.cell? ⟨w.heap.size, 0, none⟩ = some (.int .i64 kind) ∧ w'.cell? ⟨w.heap.size, 9, none⟩ = some (.slice a5 n5 c5) ∧ w1.grownBy w' none)
    ((refine KX.out _ ?_; (repeat (first | with_reducible exact gb_refl _ | with_reducible refine gb_alloc ?_ _ | with_reducible refine gb_drewN ?_ _ | with_reducible refine gb_drew ?_ | with_reducible refine gb_trans ?_ g2 | with_reducible refine gb_trans ?_ g4))))
    (first
      | (go_at_call 56; (with_reducible refine (impl_HeadOf role a2 n2 c2 l2 epoch seq _ (r2.keep0 (by (repeat (first | with_reducible exact gb_refl _ | with_reducible exact G1 | with_reducible refine gb_alloc ?_ _ | with_reducible refine gb_drewN ?_ _ | with_reducible refine gb_drew ?_))))).mono ?_); rintro e w2 ⟨b2, m2, d2, rfl, o2, g2⟩)
      | (go_at_call 64; refine Calls.mono (impl_joined _ _ _ [⟨some ⟨w1.heap.size, 0, none⟩, 1, 1, [116]⟩, ⟨b2, m2, d2, headM role l2 epoch seq⟩, ⟨some ⟨w2.heap.size, 0, none⟩, 1, 1, [b8 kind]⟩, ⟨a5, n5, c5, l5⟩] _ ?_ ?_ (by omega) ?_) ?_; (focus (refine Rd.ofBxV (cs := #[.slice (some ⟨w1.heap.size, 0, none⟩) 1 1, .slice b2 m2 d2, .slice (some ⟨w2.heap.size, 0, none⟩) 1 1, .slice a5 n5 c5]) (t := 22) ?_ ?_ ?_; (focus ((repeat (first | (with_reducible refine Bx.newk _ _ _ _ ?_; (first | with_reducible rfl | (simp; done))) | with_reducible refine Bx.old ?_ _ | with_reducible refine Bx.drewN ?_ _ | with_reducible refine Bx.drew ?_ | with_reducible refine Bx.keep0 ?_ g2)); done)); (focus rfl); (focus rfl))); (focus (exact (ok_cons (Rd.ofBx (cs := #[.int .u8 116]) (t := 5) (by (repeat (first | (with_reducible refine Bx.newk _ _ _ _ ?_; (first | with_reducible rfl | (simp; done))) | with_reducible refine Bx.old ?_ _ | with_reducible refine Bx.drewN ?_ _ | with_reducible refine Bx.drew ?_ | with_reducible refine Bx.keep0 ?_ g2))) (by rfl) (by rfl)) (ok_cons (o2.rd.keep0 (by (repeat (first | with_reducible exact gb_refl _ | with_reducible refine gb_alloc ?_ _ | with_reducible refine gb_drewN ?_ _ | with_reducible refine gb_drew ?_)))) (ok_cons (Rd.ofBx (cs := #[.int .u8 kind]) (t := 5) (by (repeat (first | (with_reducible refine Bx.newk _ _ _ _ ?_; (first | with_reducible rfl | (simp; done))) | with_reducible refine Bx.old ?_ _ | with_reducible refine Bx.drewN ?_ _ | with_reducible refine Bx.drew ?_ | with_reducible refine Bx.keep0 ?_ g2))) (one_b8 (by omega) (by omega)) (by rfl)) (ok_cons (r5.keep0 (by (repeat (first | with_reducible exact gb_refl _ | with_reducible exact G1 | with_reducible refine gb_alloc ?_ _ | with_reducible refine gb_drewN ?_ _ | with_reducible refine gb_drew ?_ | with_reducible refine gb_trans ?_ g2)))) ok_nil)))))); (focus (simp [cat]; omega)); rintro e w4 ⟨b4, m4, d4, rfl, o4, g4⟩)
      | (go_at_call 64; refine Calls.mono (impl_joined _ _ _ [⟨some ⟨w1.heap.size, 0, none⟩, 1, 1, [116]⟩, ⟨b2, m2, d2, headM role l2 epoch seq⟩, ⟨some ⟨w1.heap.size + 1, 0, none⟩, 1, 1, [b8 kind]⟩, ⟨a5, n5, c5, l5⟩] _ ?_ ?_ (by omega) ?_) ?_; (focus (refine Rd.ofBxV (cs := #[.slice (some ⟨w1.heap.size, 0, none⟩) 1 1, .slice b2 m2 d2, .slice (some ⟨w1.heap.size + 1, 0, none⟩) 1 1, .slice a5 n5 c5]) (t := 22) ?_ ?_ ?_; (focus ((repeat (first | (with_reducible refine Bx.newk _ _ _ _ ?_; (first | with_reducible rfl | (simp; done))) | with_reducible refine Bx.old ?_ _ | with_reducible refine Bx.drewN ?_ _ | with_reducible refine Bx.drew ?_ | with_reducible refine Bx.keep0 ?_ g2)); done)); (focus rfl); (focus rfl))); (focus (exact (ok_cons (Rd.ofBx (cs := #[.int .u8 116]) (t := 5) (by (repeat (first | (with_reducible refine Bx.newk _ _ _ _ ?_; (first | with_reducible rfl | (simp; done))) | with_reducible refine Bx.old ?_ _ | with_reducible refine Bx.drewN ?_ _ | with_reducible refine Bx.drew ?_ | with_reducible refine Bx.keep0 ?_ g2))) (by rfl) (by rfl)) (ok_cons (o2.rd.keep0 (by (repeat (first | with_reducible exact gb_refl _ | with_reducible refine gb_alloc ?_ _ | with_reducible refine gb_drewN ?_ _ | with_reducible refine gb_drew ?_)))) (ok_cons (Rd.ofBx (cs := #[.int .u8 kind]) (t := 5) (by (repeat (first | (with_reducible refine Bx.newk _ _ _ _ ?_; (first | with_reducible rfl | (simp; done))) | with_reducible refine Bx.old ?_ _ | with_reducible refine Bx.drewN ?_ _ | with_reducible refine Bx.drew ?_ | with_reducible refine Bx.keep0 ?_ g2))) (one_b8 (by omega) (by omega)) (by rfl)) (ok_cons (r5.keep0 (by (repeat (first | with_reducible exact gb_refl _ | with_reducible exact G1 | with_reducible refine gb_alloc ?_ _ | with_reducible refine gb_drewN ?_ _ | with_reducible refine gb_drew ?_ | with_reducible refine gb_trans ?_ g2)))) ok_nil)))))); (focus (simp [cat]; omega)); rintro e w4 ⟨b4, m4, d4, rfl, o4, g4⟩)
      | (go_at_call 64; refine Calls.mono (impl_joined _ _ _ [⟨some ⟨w2.heap.size, 0, none⟩, 1, 1, [116]⟩, ⟨b2, m2, d2, headM role l2 epoch seq⟩, ⟨some ⟨w2.heap.size + 1, 0, none⟩, 1, 1, [b8 kind]⟩, ⟨a5, n5, c5, l5⟩] _ ?_ ?_ (by omega) ?_) ?_; (focus (refine Rd.ofBxV (cs := #[.slice (some ⟨w2.heap.size, 0, none⟩) 1 1, .slice b2 m2 d2, .slice (some ⟨w2.heap.size + 1, 0, none⟩) 1 1, .slice a5 n5 c5]) (t := 22) ?_ ?_ ?_; (focus ((repeat (first | (with_reducible refine Bx.newk _ _ _ _ ?_; (first | with_reducible rfl | (simp; done))) | with_reducible refine Bx.old ?_ _ | with_reducible refine Bx.drewN ?_ _ | with_reducible refine Bx.drew ?_ | with_reducible refine Bx.keep0 ?_ g2)); done)); (focus rfl); (focus rfl))); (focus (exact (ok_cons (Rd.ofBx (cs := #[.int .u8 116]) (t := 5) (by (repeat (first | (with_reducible refine Bx.newk _ _ _ _ ?_; (first | with_reducible rfl | (simp; done))) | with_reducible refine Bx.old ?_ _ | with_reducible refine Bx.drewN ?_ _ | with_reducible refine Bx.drew ?_ | with_reducible refine Bx.keep0 ?_ g2))) (by rfl) (by rfl)) (ok_cons (o2.rd.keep0 (by (repeat (first | with_reducible exact gb_refl _ | with_reducible refine gb_alloc ?_ _ | with_reducible refine gb_drewN ?_ _ | with_reducible refine gb_drew ?_)))) (ok_cons (Rd.ofBx (cs := #[.int .u8 kind]) (t := 5) (by (repeat (first | (with_reducible refine Bx.newk _ _ _ _ ?_; (first | with_reducible rfl | (simp; done))) | with_reducible refine Bx.old ?_ _ | with_reducible refine Bx.drewN ?_ _ | with_reducible refine Bx.drew ?_ | with_reducible refine Bx.keep0 ?_ g2))) (one_b8 (by omega) (by omega)) (by rfl)) (ok_cons (r5.keep0 (by (repeat (first | with_reducible exact gb_refl _ | with_reducible exact G1 | with_reducible refine gb_alloc ?_ _ | with_reducible refine gb_drewN ?_ _ | with_reducible refine gb_drew ?_ | with_reducible refine gb_trans ?_ g2)))) ok_nil)))))); (focus (simp [cat]; omega)); rintro e w4 ⟨b4, m4, d4, rfl, o4, g4⟩)
      | (go_at_call 64; refine Calls.mono (impl_joined _ _ _ [⟨some ⟨w2.heap.size + 1, 0, none⟩, 1, 1, [116]⟩, ⟨b2, m2, d2, headM role l2 epoch seq⟩, ⟨some ⟨w2.heap.size, 0, none⟩, 1, 1, [b8 kind]⟩, ⟨a5, n5, c5, l5⟩] _ ?_ ?_ (by omega) ?_) ?_; (focus (refine Rd.ofBxV (cs := #[.slice (some ⟨w2.heap.size + 1, 0, none⟩) 1 1, .slice b2 m2 d2, .slice (some ⟨w2.heap.size, 0, none⟩) 1 1, .slice a5 n5 c5]) (t := 22) ?_ ?_ ?_; (focus ((repeat (first | (with_reducible refine Bx.newk _ _ _ _ ?_; (first | with_reducible rfl | (simp; done))) | with_reducible refine Bx.old ?_ _ | with_reducible refine Bx.drewN ?_ _ | with_reducible refine Bx.drew ?_ | with_reducible refine Bx.keep0 ?_ g2)); done)); (focus rfl); (focus rfl))); (focus (exact (ok_cons (Rd.ofBx (cs := #[.int .u8 116]) (t := 5) (by (repeat (first | (with_reducible refine Bx.newk _ _ _ _ ?_; (first | with_reducible rfl | (simp; done))) | with_reducible refine Bx.old ?_ _ | with_reducible refine Bx.drewN ?_ _ | with_reducible refine Bx.drew ?_ | with_reducible refine Bx.keep0 ?_ g2))) (by rfl) (by rfl)) (ok_cons (o2.rd.keep0 (by (repeat (first | with_reducible exact gb_refl _ | with_reducible refine gb_alloc ?_ _ | with_reducible refine gb_drewN ?_ _ | with_reducible refine gb_drew ?_)))) (ok_cons (Rd.ofBx (cs := #[.int .u8 kind]) (t := 5) (by (repeat (first | (with_reducible refine Bx.newk _ _ _ _ ?_; (first | with_reducible rfl | (simp; done))) | with_reducible refine Bx.old ?_ _ | with_reducible refine Bx.drewN ?_ _ | with_reducible refine Bx.drew ?_ | with_reducible refine Bx.keep0 ?_ g2))) (one_b8 (by omega) (by omega)) (by rfl)) (ok_cons (r5.keep0 (by (repeat (first | with_reducible exact gb_refl _ | with_reducible exact G1 | with_reducible refine gb_alloc ?_ _ | with_reducible refine gb_drewN ?_ _ | with_reducible refine gb_drew ?_ | with_reducible refine gb_trans ?_ g2)))) ok_nil)))))); (focus (simp [cat]; omega)); rintro e w4 ⟨b4, m4, d4, rfl, o4, g4⟩)
      | (go_at_call 64; refine Calls.mono (impl_joined _ _ _ [⟨some ⟨w1.heap.size + 1, 0, none⟩, 1, 1, [116]⟩, ⟨b2, m2, d2, headM role l2 epoch seq⟩, ⟨some ⟨w1.heap.size, 0, none⟩, 1, 1, [b8 kind]⟩, ⟨a5, n5, c5, l5⟩] _ ?_ ?_ (by omega) ?_) ?_; (focus (refine Rd.ofBxV (cs := #[.slice (some ⟨w1.heap.size + 1, 0, none⟩) 1 1, .slice b2 m2 d2, .slice (some ⟨w1.heap.size, 0, none⟩) 1 1, .slice a5 n5 c5]) (t := 22) ?_ ?_ ?_; (focus ((repeat (first | (with_reducible refine Bx.newk _ _ _ _ ?_; (first | with_reducible rfl | (simp; done))) | with_reducible refine Bx.old ?_ _ | with_reducible refine Bx.drewN ?_ _ | with_reducible refine Bx.drew ?_ | with_reducible refine Bx.keep0 ?_ g2)); done)); (focus rfl); (focus rfl))); (focus (exact (ok_cons (Rd.ofBx (cs := #[.int .u8 116]) (t := 5) (by (repeat (first | (with_reducible refine Bx.newk _ _ _ _ ?_; (first | with_reducible rfl | (simp; done))) | with_reducible refine Bx.old ?_ _ | with_reducible refine Bx.drewN ?_ _ | with_reducible refine Bx.drew ?_ | with_reducible refine Bx.keep0 ?_ g2))) (by rfl) (by rfl)) (ok_cons (o2.rd.keep0 (by (repeat (first | with_reducible exact gb_refl _ | with_reducible refine gb_alloc ?_ _ | with_reducible refine gb_drewN ?_ _ | with_reducible refine gb_drew ?_)))) (ok_cons (Rd.ofBx (cs := #[.int .u8 kind]) (t := 5) (by (repeat (first | (with_reducible refine Bx.newk _ _ _ _ ?_; (first | with_reducible rfl | (simp; done))) | with_reducible refine Bx.old ?_ _ | with_reducible refine Bx.drewN ?_ _ | with_reducible refine Bx.drew ?_ | with_reducible refine Bx.keep0 ?_ g2))) (one_b8 (by omega) (by omega)) (by rfl)) (ok_cons (r5.keep0 (by (repeat (first | with_reducible exact gb_refl _ | with_reducible exact G1 | with_reducible refine gb_alloc ?_ _ | with_reducible refine gb_drewN ?_ _ | with_reducible refine gb_drew ?_ | with_reducible refine gb_trans ?_ g2)))) ok_nil)))))); (focus (simp [cat]; omega)); rintro e w4 ⟨b4, m4, d4, rfl, o4, g4⟩)
      | (go_at_call 64; refine Calls.mono (impl_joined _ _ _ [⟨some ⟨w2.heap.size, 0, none⟩, 1, 1, [116]⟩, ⟨b2, m2, d2, headM role l2 epoch seq⟩, ⟨some ⟨w1.heap.size, 0, none⟩, 1, 1, [b8 kind]⟩, ⟨a5, n5, c5, l5⟩] _ ?_ ?_ (by omega) ?_) ?_; (focus (refine Rd.ofBxV (cs := #[.slice (some ⟨w2.heap.size, 0, none⟩) 1 1, .slice b2 m2 d2, .slice (some ⟨w1.heap.size, 0, none⟩) 1 1, .slice a5 n5 c5]) (t := 22) ?_ ?_ ?_; (focus ((repeat (first | (with_reducible refine Bx.newk _ _ _ _ ?_; (first | with_reducible rfl | (simp; done))) | with_reducible refine Bx.old ?_ _ | with_reducible refine Bx.drewN ?_ _ | with_reducible refine Bx.drew ?_ | with_reducible refine Bx.keep0 ?_ g2)); done)); (focus rfl); (focus rfl))); (focus (exact (ok_cons (Rd.ofBx (cs := #[.int .u8 116]) (t := 5) (by (repeat (first | (with_reducible refine Bx.newk _ _ _ _ ?_; (first | with_reducible rfl | (simp; done))) | with_reducible refine Bx.old ?_ _ | with_reducible refine Bx.drewN ?_ _ | with_reducible refine Bx.drew ?_ | with_reducible refine Bx.keep0 ?_ g2))) (by rfl) (by rfl)) (ok_cons (o2.rd.keep0 (by (repeat (first | with_reducible exact gb_refl _ | with_reducible refine gb_alloc ?_ _ | with_reducible refine gb_drewN ?_ _ | with_reducible refine gb_drew ?_)))) (ok_cons (Rd.ofBx (cs := #[.int .u8 kind]) (t := 5) (by (repeat (first | (with_reducible refine Bx.newk _ _ _ _ ?_; (first | with_reducible rfl | (simp; done))) | with_reducible refine Bx.old ?_ _ | with_reducible refine Bx.drewN ?_ _ | with_reducible refine Bx.drew ?_ | with_reducible refine Bx.keep0 ?_ g2))) (one_b8 (by omega) (by omega)) (by rfl)) (ok_cons (r5.keep0 (by (repeat (first | with_reducible exact gb_refl _ | with_reducible exact G1 | with_reducible refine gb_alloc ?_ _ | with_reducible refine gb_drewN ?_ _ | with_reducible refine gb_drew ?_ | with_reducible refine gb_trans ?_ g2)))) ok_nil)))))); (focus (simp [cat]; omega)); rintro e w4 ⟨b4, m4, d4, rfl, o4, g4⟩)
      | fail)
  all_goals
    go_wp2
    go_ret
    refine retB o4 ?_ ?_ ?_
    · exact World.grownBy.size (row := none) (by (repeat (first | with_reducible exact gb_refl _ | with_reducible exact G1 | with_reducible refine gb_alloc ?_ _ | with_reducible refine gb_drewN ?_ _ | with_reducible refine gb_drew ?_ | with_reducible refine gb_trans ?_ g2)))
    · (repeat (first | with_reducible exact gb_refl _ | with_reducible exact G1 | with_reducible refine gb_alloc ?_ _ | with_reducible refine gb_drewN ?_ _ | with_reducible refine gb_drew ?_ | with_reducible refine gb_trans ?_ g2 | with_reducible refine gb_trans ?_ g4))
    · simp [cat]
set_option maxRecDepth 100000 in
set_option maxHeartbeats 4000000 in
theorem spec_TagInput (role : Int) (v : Value) (f : FrameM) (w : World) (h : FrameR w v f) : Calls Tryz.prog 44 #[.int .i64 role, v] w (RetB w (tagInM role f)) := by
  have hR := h
  obtain ⟨a1, n1, c1, a2, n2, c2, a3, n3, c3, a4, n4, c4, a5, n5, c5, a6, n6, c6, rfl, r1, r2, r3, r4, r5, r6⟩ := h
  obtain ⟨kind, id, l1, l2, tick, l3, l4, epoch, seq, l5, l6⟩ := f
  simp only at r1 r2 r3 r4 r5 r6 hR ⊢
  have g0 := gb_alloc (gb_refl w) (.cells #[.int .i64 kind, .int .i64 id, .slice a1 n1 c1, .slice a2 n2 c2, .int .i64 tick, .slice a3 n3 c3, .slice a4 n4 c4, .int .i64 epoch, .int .i64 seq, .slice a5 n5 c5, .slice a6 n6 c6] 32)
  have R := Lib.hid (hR.keep0 g0)
  have b0 := bx1 w #[.int .i64 kind, .int .i64 id, .slice a1 n1 c1, .slice a2 n2 c2, .int .i64 tick, .slice a3 n3 c3, .slice a4 n4 c4, .int .i64 epoch, .int .i64 seq, .slice a5 n5 c5, .slice a6 n6 c6] 32
  cases h1 : roleB role
  · replace h1 : inB role 0 1 = false := h1
    have hm : tagInM role ⟨kind, id, l1, l2, tick, l3, l4, epoch, seq, l5, l6⟩ = [] := by simp [tagInM, show roleB role = false from h1]
    rw [hm]
    clear hm hR r1 r2 r3 r4 r5 r6 R b0
    go_enter Tryz.func44, Tryz.ntmps44
    go_wp2_with (go_at_call 59; refine (spec_l1In _ _ _ _).mono ?_; rintro e w' ⟨rfl, rfl⟩)
    go_ret
    exact ⟨_, _, _, rfl, (new_ownBk _ #[] [] (w.heap.size + 1) (by simp) rfl (by simp)).mono (by omega), gb_alloc g0 _⟩
  replace h1 : inB role 0 1 = true := h1
  cases hok : frOk ⟨kind, id, l1, l2, tick, l3, l4, epoch, seq, l5, l6⟩
  · have hm : tagInM role ⟨kind, id, l1, l2, tick, l3, l4, epoch, seq, l5, l6⟩ = [] := by simp [tagInM, hok]
    rw [hm]
    clear hm hR r1 r2 r3 r4 r5 r6
    go_enter Tryz.func44, Tryz.ntmps44
    go_wp2_with (first | (go_at_call 59; refine (spec_l1In _ _ _ _).mono ?_; rintro e w' ⟨rfl, rfl⟩) | (go_at_call 70; (with_reducible refine (spec_FrameOk _ _ _ R.out).mono ?_); rw [hok]; rintro e w1 ⟨rfl, g1⟩; have G1 := gb_trans g0 g1; have b1 := b0.keep0 g1; have cc := fun o => b1.cell o; have lb := b1.lt))
    go_ret
    exact ⟨_, _, _, rfl, (new_own _ _).mono G1.size, gb_alloc G1 _⟩
  cases h2 : sealedB kind
  · have hm : tagInM role ⟨kind, id, l1, l2, tick, l3, l4, epoch, seq, l5, l6⟩ = [] := by simp [tagInM, h2]
    rw [hm]
    clear hm hR r1 r2 r3 r4 r5 r6
    go_enter Tryz.func44, Tryz.ntmps44
    go_wp2_with (first | (go_at_call 59; refine (spec_l1In _ _ _ _).mono ?_; rintro e w' ⟨rfl, rfl⟩) | (go_at_call 31; refine (spec_Sealed _ _).mono ?_; rintro e w' ⟨rfl, rfl⟩) | (go_at_call 70; (with_reducible refine (spec_FrameOk _ _ _ R.out).mono ?_); rw [hok]; rintro e w1 ⟨rfl, g1⟩; have G1 := gb_trans g0 g1; have b1 := b0.keep0 g1; have cc := fun o => b1.cell o; have lb := b1.lt))
    go_ret
    exact ⟨_, _, _, rfl, (new_own _ _).mono G1.size, gb_alloc G1 _⟩
  have hm : tagInM role ⟨kind, id, l1, l2, tick, l3, l4, epoch, seq, l5, l6⟩ = [116] ++ headM role l2 epoch seq ++ [b8 kind] ++ l5 := by simp [tagInM, show roleB role = true from h1, h2, hok]
  rw [hm]
  have bd := frOk_S hok h2
  simp only at bd
  obtain ⟨q1, q2, q3, q4, q5, q6, q7, q8, q9⟩ := bd
  clear hm hR
  have hl := headM_len role l2 epoch seq
  have E5 := Lib.hid r5.blen
  have hwid := wraps_u8 kind (by omega) (by omega)
  have o0 := fun w1 : World => new_ownBk w1 #[.int .u8 116] [116] w1.heap.size rfl rfl (by simp)
  have O0 := Lib.hid o0
  clear o0
  go_enter Tryz.func44, Tryz.ntmps44
  go_wp2_with (first
    | (go_at_call 59; refine (spec_l1In _ _ _ _).mono ?_; rintro e w' ⟨rfl, rfl⟩)
    | (go_at_call 31; refine (spec_Sealed _ _).mono ?_; rintro e w' ⟨rfl, rfl⟩)
    | (go_at_call 70; (with_reducible refine (spec_FrameOk _ _ _ R.out).mono ?_); rw [hok]; rintro e w1 ⟨rfl, g1⟩; have G1 := gb_trans g0 g1; have b1 := b0.keep0 g1; have cc := fun o => b1.cell o; have lb := b1.lt)
    | (go_at_call 30; (with_reducible refine (spec_HeadOf role a2 n2 c2 l2 epoch seq _ (r2.keep0 (by (repeat (first | with_reducible exact gb_refl _ | with_reducible exact G1 | with_reducible refine gb_alloc ?_ _ | with_reducible refine gb_drewN ?_ _ | with_reducible refine gb_drew ?_))))).mono ?_); rintro e w2 ⟨b2, m2, d2, rfl, o2, g2⟩)
    | (refine wpList_appB rfl (.tmp 21) (.tmp 29) rfl w1.heap.size _ _ _ [116] rfl ((O0.out w1).keep0 (by (repeat (first | with_reducible exact gb_refl _ | with_reducible refine gb_alloc ?_ _ | with_reducible refine gb_drewN ?_ _ | with_reducible refine gb_drew ?_ | with_reducible refine gb_trans ?_ g2)))) b2 m2 d2 (headM role l2 epoch seq) rfl (o2.rd.keep0 (by (repeat (first | with_reducible exact gb_refl _ | with_reducible refine gb_alloc ?_ _ | with_reducible refine gb_drewN ?_ _ | with_reducible refine gb_drew ?_)))) (by simp; omega) (World.grownBy.size (row := none) (by (repeat (first | with_reducible exact gb_refl _ | with_reducible refine gb_alloc ?_ _ | with_reducible refine gb_drewN ?_ _ | with_reducible refine gb_drew ?_ | with_reducible refine gb_trans ?_ g2)))) ?_; intro b3 m3 d3 w3 o3 g3; have G3 : w1.grownBy w3 none := gb_app (by (repeat (first | with_reducible exact gb_refl _ | with_reducible refine gb_alloc ?_ _ | with_reducible refine gb_drewN ?_ _ | with_reducible refine gb_drew ?_ | with_reducible refine gb_trans ?_ g2))) (Ow.keep0 (O0.out w1) (by (repeat (first | with_reducible exact gb_refl _ | with_reducible refine gb_alloc ?_ _ | with_reducible refine gb_drewN ?_ _ | with_reducible refine gb_drew ?_ | with_reducible refine gb_trans ?_ g2)))) (Nat.le_refl _) g3))
  have KX : Hid (∀ w', w1.grownBy w' none → (w'.cell? ⟨w.heap.size, 0, none⟩ = some (.int .i64 kind) ∧ w'.cell? ⟨w.heap.size, 9, none⟩ = some (.slice a5 n5 c5) ∧ w1.grownBy w' none)) :=
    fun w' hg => ⟨(b1.keep0 hg).cell 0, (b1.keep0 hg).cell 9, hg⟩
  clear g0 b0 g1 b1 cc
  go_region_held3 (fun w' => w'.cell? ⟨w.heap.size, 0, none⟩ = some (.int .i64 kind) ∧ w'.cell? ⟨w.heap.size, 9, none⟩ = some (.slice a5 n5 c5) ∧ w1.grownBy w' none)
    ((refine KX.out _ ?_; (repeat (first | with_reducible exact gb_refl _ | with_reducible exact G3 | with_reducible exact H1 | with_reducible exact H2 | with_reducible refine gb_alloc ?_ _ | with_reducible refine gb_drewN ?_ _ | with_reducible refine gb_drew ?_))))
    (first
      | (refine step_appB rfl (.tmp 31) (.tmp 35) rfl w1 w1.heap.size _ _ _ ([116] ++ headM role l2 epoch seq) rfl (o3.keep0 (by (repeat (first | with_reducible exact gb_refl _ | with_reducible refine gb_alloc ?_ _ | with_reducible refine gb_drewN ?_ _ | with_reducible refine gb_drew ?_)))) _ 1 1 [b8 kind] rfl (Rd.ofBx (cs := #[.int .u8 kind]) (t := 5) (by (repeat (first | (with_reducible refine Bx.newk _ _ _ _ ?_; (first | with_reducible rfl | (simp; done))) | with_reducible refine Bx.old ?_ _ | with_reducible refine Bx.drewN ?_ _ | with_reducible refine Bx.drew ?_))) (one_b8 (by omega) (by omega)) rfl) (by first | (simp; done) | (simp; omega)) (by (repeat (first | with_reducible exact gb_refl _ | with_reducible exact G3 | with_reducible refine gb_alloc ?_ _ | with_reducible refine gb_drewN ?_ _ | with_reducible refine gb_drew ?_))) (Nat.le_refl _) (World.grownBy.size (row := none) (by (repeat (first | with_reducible exact gb_refl _ | with_reducible exact G3 | with_reducible refine gb_alloc ?_ _ | with_reducible refine gb_drewN ?_ _ | with_reducible refine gb_drew ?_)))) ?_; intro b4 m4 d4 w4 o4 H1)
      | (refine step_appB rfl (.tmp 36) (.tmp 38) rfl w1 w1.heap.size _ _ _ ([116] ++ headM role l2 epoch seq ++ [b8 kind]) rfl (o4.keep0 (by (repeat (first | with_reducible exact gb_refl _ | with_reducible refine gb_alloc ?_ _ | with_reducible refine gb_drewN ?_ _ | with_reducible refine gb_drew ?_)))) a5 n5 c5 l5 rfl (r5.keep0 (by (repeat (first | with_reducible exact gb_refl _ | with_reducible exact G1 | with_reducible refine gb_alloc ?_ _ | with_reducible refine gb_drewN ?_ _ | with_reducible refine gb_drew ?_ | with_reducible refine gb_trans ?_ H1)))) (by first | (simp; done) | (simp; omega)) (by (repeat (first | with_reducible exact gb_refl _ | with_reducible exact H1 | with_reducible refine gb_alloc ?_ _ | with_reducible refine gb_drewN ?_ _ | with_reducible refine gb_drew ?_))) (Nat.le_refl _) (World.grownBy.size (row := none) (by (repeat (first | with_reducible exact gb_refl _ | with_reducible exact H1 | with_reducible refine gb_alloc ?_ _ | with_reducible refine gb_drewN ?_ _ | with_reducible refine gb_drew ?_)))) ?_; intro b5 m5 d5 w5 o5 H2)
      | fail)
  go_wp2
  go_ret
  exact retB o5 G1.size (gb_trans G1 H2) (by simp)
end Go.Proofs.YtpfchphgbhgmmaaGreat
