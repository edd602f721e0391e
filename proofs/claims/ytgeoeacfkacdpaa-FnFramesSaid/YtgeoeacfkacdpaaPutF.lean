/-
  Contracts of the two functions that lay frames into bytes. Conditions: none beside those that each theorem names.
-/
import Derived.Test.YtgeoeacfkacdpaaPutS
import Derived.Deep.RegionHeld3
namespace Go.Proofs.Ytgeoeacfkacdpaa
open Go.RowKit
set_option maxRecDepth 100000 in
set_option maxHeartbeats 4000000 in
theorem impl_PutFrame (v : Value) (f : FrameM) (w : World) (h : FrameR w v f) : Calls Try.prog 43 #[v] w (RetB w (putM f)) := by
  have hR := h
  obtain ⟨a1, n1, c1, a2, n2, c2, a3, n3, c3, a4, n4, c4, a5, n5, c5, a6, n6, c6, rfl, r1, r2, r3, r4, r5, r6⟩ := h
  obtain ⟨kind, id, l1, l2, tick, l3, l4, epoch, seq, l5, l6⟩ := f
  simp only at r1 r2 r3 r4 r5 r6 hR ⊢
  by_cases hok : frOk ⟨kind, id, l1, l2, tick, l3, l4, epoch, seq, l5, l6⟩ = true
  · by_cases h1 : kind = 1
    · subst h1
      rw [show putM ⟨1, id, l1, l2, tick, l3, l4, epoch, seq, l5, l6⟩ = _ from (if_pos hok).trans (if_pos rfl)]
      exact impl_PutFrame1 id tick epoch seq a1 n1 c1 l1 a2 n2 c2 l2 a3 n3 c3 l3 a4 n4 c4 l4 a5 n5 c5 l5 a6 n6 c6 l6 w r1 r2 r3 r4 r5 r6 hok
    · by_cases h2 : kind = 2
      · subst h2
        rw [show putM ⟨2, id, l1, l2, tick, l3, l4, epoch, seq, l5, l6⟩ = _ from (if_pos hok).trans ((if_neg h1).trans (if_pos rfl))]
        exact impl_PutFrame2 id tick epoch seq a1 n1 c1 l1 a2 n2 c2 l2 a3 n3 c3 l3 a4 n4 c4 l4 a5 n5 c5 l5 a6 n6 c6 l6 w r1 r2 r3 r4 r5 r6 hok
      · by_cases h3 : kind = 3
        · subst h3
          rw [show putM ⟨3, id, l1, l2, tick, l3, l4, epoch, seq, l5, l6⟩ = _ from (if_pos hok).trans ((if_neg h1).trans ((if_neg h2).trans (if_pos rfl)))]
          exact impl_PutFrame3 id tick epoch seq a1 n1 c1 l1 a2 n2 c2 l2 a3 n3 c3 l3 a4 n4 c4 l4 a5 n5 c5 l5 a6 n6 c6 l6 w r1 r2 r3 r4 r5 r6 hok
        · rw [show putM ⟨kind, id, l1, l2, tick, l3, l4, epoch, seq, l5, l6⟩ = _ from (if_pos hok).trans ((if_neg h1).trans ((if_neg h2).trans (if_neg h3)))]
          exact impl_PutFrameS kind (frOk_O hok h1 h2 h3) id tick epoch seq a1 n1 c1 l1 a2 n2 c2 l2 a3 n3 c3 l3 a4 n4 c4 l4 a5 n5 c5 l5 a6 n6 c6 l6 w r1 r2 r3 r4 r5 r6 hok
  · rw [show putM ⟨kind, id, l1, l2, tick, l3, l4, epoch, seq, l5, l6⟩ = [] from if_neg hok]
    have hok' : frOk ⟨kind, id, l1, l2, tick, l3, l4, epoch, seq, l5, l6⟩ = false := by simpa using hok
    have g0 := gb_alloc (gb_refl w) (.cells #[.int .i64 kind, .int .i64 id, .slice a1 n1 c1, .slice a2 n2 c2, .int .i64 tick, .slice a3 n3 c3, .slice a4 n4 c4, .int .i64 epoch, .int .i64 seq, .slice a5 n5 c5, .slice a6 n6 c6] 55)
    have R := Lib.hid (hR.keep0 g0)
    clear hR hok r1 r2 r3 r4 r5 r6
    · go_enter Try.func43, Try.ntmps43
      go_wp2_with (go_at_call 44; (with_reducible refine (impl_FrameOk _ _ _ R.out).mono ?_); rw [hok']; rintro e w1 ⟨rfl, g1⟩)
      go_ret
      exact ⟨_, _, _, rfl, Ow.nil _ _ _, gb_trans g0 g1⟩
set_option maxRecDepth 100000 in
set_option maxHeartbeats 4000000 in
theorem spec_PutFrame (v : Value) (f : FrameM) (w : World) (h : FrameR w v f) : Calls Try.prog 96 #[v] w (RetB w (putM f)) := by
  have hR := h
  obtain ⟨a1, n1, c1, a2, n2, c2, a3, n3, c3, a4, n4, c4, a5, n5, c5, a6, n6, c6, rfl, r1, r2, r3, r4, r5, r6⟩ := h
  obtain ⟨kind, id, l1, l2, tick, l3, l4, epoch, seq, l5, l6⟩ := f
  simp only at r1 r2 r3 r4 r5 r6 hR ⊢
  by_cases hok : frOk ⟨kind, id, l1, l2, tick, l3, l4, epoch, seq, l5, l6⟩ = true
  · by_cases h1 : kind = 1
    · subst h1
      rw [show putM ⟨1, id, l1, l2, tick, l3, l4, epoch, seq, l5, l6⟩ = _ from (if_pos hok).trans (if_pos rfl)]
      exact spec_PutFrame1 id tick epoch seq a1 n1 c1 l1 a2 n2 c2 l2 a3 n3 c3 l3 a4 n4 c4 l4 a5 n5 c5 l5 a6 n6 c6 l6 w r1 r2 r3 r4 r5 r6 hok
    · by_cases h2 : kind = 2
      · subst h2
        rw [show putM ⟨2, id, l1, l2, tick, l3, l4, epoch, seq, l5, l6⟩ = _ from (if_pos hok).trans ((if_neg h1).trans (if_pos rfl))]
        exact spec_PutFrame2 id tick epoch seq a1 n1 c1 l1 a2 n2 c2 l2 a3 n3 c3 l3 a4 n4 c4 l4 a5 n5 c5 l5 a6 n6 c6 l6 w r1 r2 r3 r4 r5 r6 hok
      · by_cases h3 : kind = 3
        · subst h3
          rw [show putM ⟨3, id, l1, l2, tick, l3, l4, epoch, seq, l5, l6⟩ = _ from (if_pos hok).trans ((if_neg h1).trans ((if_neg h2).trans (if_pos rfl)))]
          exact spec_PutFrame3 id tick epoch seq a1 n1 c1 l1 a2 n2 c2 l2 a3 n3 c3 l3 a4 n4 c4 l4 a5 n5 c5 l5 a6 n6 c6 l6 w r1 r2 r3 r4 r5 r6 hok
        · rw [show putM ⟨kind, id, l1, l2, tick, l3, l4, epoch, seq, l5, l6⟩ = _ from (if_pos hok).trans ((if_neg h1).trans ((if_neg h2).trans (if_neg h3)))]
          exact spec_PutFrameS kind (frOk_O hok h1 h2 h3) id tick epoch seq a1 n1 c1 l1 a2 n2 c2 l2 a3 n3 c3 l3 a4 n4 c4 l4 a5 n5 c5 l5 a6 n6 c6 l6 w r1 r2 r3 r4 r5 r6 hok
  · rw [show putM ⟨kind, id, l1, l2, tick, l3, l4, epoch, seq, l5, l6⟩ = [] from if_neg hok]
    have hok' : frOk ⟨kind, id, l1, l2, tick, l3, l4, epoch, seq, l5, l6⟩ = false := by simpa using hok
    have g0 := gb_alloc (gb_refl w) (.cells #[.int .i64 kind, .int .i64 id, .slice a1 n1 c1, .slice a2 n2 c2, .int .i64 tick, .slice a3 n3 c3, .slice a4 n4 c4, .int .i64 epoch, .int .i64 seq, .slice a5 n5 c5, .slice a6 n6 c6] 55)
    have R := Lib.hid (hR.keep0 g0)
    clear hR hok r1 r2 r3 r4 r5 r6
    · go_enter Try.func96, Try.ntmps96
      go_wp2_with (go_at_call 45; (with_reducible refine (spec_FrameOk _ _ _ R.out).mono ?_); rw [hok']; rintro e w1 ⟨rfl, g1⟩)
      go_ret
      exact ⟨_, _, _, rfl, (new_own _ _).mono (gb_trans g0 g1).size, gb_alloc (gb_trans g0 g1) _⟩
theorem putM_len (f : FrameM) : (putM f).length ≤ 200 := by
  unfold putM
  split
  · rename_i hok
    split
    · rename_i h1
      have := frOk_1 hok h1
      simp
      omega
    · rename_i h1
      split
      · rename_i h2
        have := frOk_2 hok h2
        simp [be_len]
        omega
      · rename_i h2
        split
        · rename_i h3
          have := frOk_3 hok h3
          simp [be_len]
          omega
        · rename_i h3
          have := frOk_S hok (frOk_O hok h1 h2 h3)
          simp [be_len]
          omega
  · simp
set_option maxRecDepth 100000 in
theorem impl_SizeOf (v : Value) (f : FrameM) (w : World) (h : FrameR w v f) : Calls Try.prog 46 #[v] w fun e w' => e = .returned (.int .i64 ((putM f).length : Int)) ∧ w.grownBy w' none := by
  have hR := h
  obtain ⟨a1, n1, c1, a2, n2, c2, a3, n3, c3, a4, n4, c4, a5, n5, c5, a6, n6, c6, rfl, r1, r2, r3, r4, r5, r6⟩ := h
  have g0 := gb_alloc (gb_refl w) (.cells #[.int .i64 f.kind, .int .i64 f.id, .slice a1 n1 c1, .slice a2 n2 c2, .int .i64 f.tick, .slice a3 n3 c3, .slice a4 n4 c4, .int .i64 f.epoch, .int .i64 f.seq, .slice a5 n5 c5, .slice a6 n6 c6] 55)
  have R := Lib.hid (hR.keep0 g0)
  clear hR r1 r2 r3 r4 r5 r6
  go_enter Try.func46, Try.ntmps46
  go_wp2_with (go_at_call 43; (with_reducible refine (impl_PutFrame _ _ _ R.out).mono ?_); rintro e w1 ⟨a9, n9, c9, rfl, o9, g1⟩)
  go_ret
  exact ⟨ret_i (by rw [o9.blen]), gb_trans g0 g1⟩
end Go.Proofs.Ytgeoeacfkacdpaa
