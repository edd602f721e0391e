/-
  Contracts of the two copiers of a window. Conditions: none beside those that each theorem names.
-/
import Derived.Test.YtpfchphgbhgmmaaGreatWinP
import Derived.Deep.RegionHeld3
namespace Go.Proofs.YtpfchphgbhgmmaaGreat
open Go.RowKit
set_option maxRecDepth 100000 in
set_option maxHeartbeats 1000000 in
theorem impl_copyWin (v : Value) (f : WinM) (w : World) (h : WinR w v f) (hn : f.bits.length ≤ 1073741824) :
    Calls Tryz.prog 51 #[v] w fun e w' => ∃ v', e = .returned v' ∧ WinO w.heap.size w'.heap.size w' v' f ∧ w.grownBy w' none := by
  obtain ⟨a1, n1, c1, rfl, h1⟩ := h
  obtain ⟨i0, hi, hz0, hz1, hz2⟩ := info_parts inf_int
  have hn1 : n1 ≤ 1073741824 := by have := h1.ilen; omega
  clear hn
  have g0 := gb_alloc (gb_alloc (gb_refl w) (.cells #[.int .i64 f.top, .slice a1 n1 c1] 26)) (.cells #[.int .i64 0, .slice none 0 0] 26)
  go_enter Tryz.func51, Tryz.ntmps51
  go_wp2_with fail
  go_region_held3 (fun w' => w'.cell? ⟨w.heap.size, 0, none⟩ = some (.int .i64 f.top) ∧ w'.cell? ⟨w.heap.size, 1, none⟩ = some (.slice a1 n1 c1))
    (first | go_keep | exact ⟨q0.cell 0, q0.cell 1⟩)
    (first
      | (refine step_app rfl (.tmp 5) (.tmp 7) 24 24 rfl (w.heap.size + 1 + 1) 3 i0 (.int .i64 0) 8 Tryz.underlying24 hi hz0 hz1 hz2 rfl _ 0 0 [] rfl (new_own' _ _ (w.heap.size + 1 + 1) (by simp)).drew _ rfl n1 (ins f.bits) ((h1.keep0 (gb_drew (gb_alloc g0 _))).src Tryz.underlying24 (ins_one _)) (by unfold maxLen; omega) (by omega) (by simp) ?_; intro a2 c2 w2 o2 g2 h2; have q0 := (bx3 w _ _ _ _ _ _).1.drew.keepRow g2 (by simp <;> omega); have q1 := (bx3 w _ _ _ _ _ _).2.1.drew.keepRow g2 (by simp <;> omega); have cc0 := fun o => q0.cell o; have cc1 := fun o => q1.cell o; have ff1 := fun o => q1.frozen o))
  go_wp2
  have hlt := fun p hp => (o2.lt p hp).2
  have G2 : w.grownBy w2 none := gb_transr (gb_drew (gb_alloc g0 _)) g2 (fun g hg => .inl (by simp at hg; omega))
  rw [Nat.zero_add] at *
  refine bodyPost_ret (v := .agg #[.int .i64 f.top, .slice a2 n1 c2]) (by simp [results, Tryz.results51, go_sem, cc1]) rfl ⟨_, rfl, ⟨_, _, _, rfl, ⟨?_, ?_⟩⟩, ?_⟩
  · refine Ow.mono (B := w.heap.size + 1 + 1) ?_ (by omega)
    rw [List.nil_append] at o2
    repeat (first | with_reducible exact o2 | (refine Ow.keepSet ?_ ?_ _; rotate_left; focus (first | (simp; done) | (simp; omega))))
  · rintro p hp
    simpa using hlt p hp
  · repeat (first | with_reducible exact G2 | (refine gb_set ?_ (.inl ?_) _; rotate_left; focus (first | (simp; done) | (simp; omega))))
set_option maxRecDepth 100000 in
set_option maxHeartbeats 1000000 in
theorem spec_l8Copy (v : Value) (f : WinM) (w : World) (h : WinR w v f) (hn : f.bits.length ≤ 1073741824) :
    Calls Tryz.prog 58 #[v] w fun e w' => ∃ v', e = .returned v' ∧ WinO w.heap.size w'.heap.size w' v' f ∧ w.grownBy w' none := by
  obtain ⟨a1, n1, c1, rfl, h1⟩ := h
  obtain ⟨i0, hi, hz0, hz1, hz2⟩ := info_parts inf_int
  have hn1 : n1 ≤ 1073741824 := by have := h1.ilen; omega
  clear hn
  have g0 := gb_alloc (gb_alloc (gb_refl w) (.cells #[.int .i64 f.top, .slice a1 n1 c1] 26)) (.cells #[.int .i64 0, .slice none 0 0] 26)
  go_enter Tryz.func58, Tryz.ntmps58
  go_wp2_with fail
  go_region_held3 (fun w' => w'.cell? ⟨w.heap.size, 0, none⟩ = some (.int .i64 f.top) ∧ w'.cell? ⟨w.heap.size, 1, none⟩ = some (.slice a1 n1 c1))
    (first | go_keep | exact ⟨q0.cell 0, q0.cell 1⟩)
    (first
      | (refine step_app rfl (.tmp 5) (.tmp 7) 24 24 rfl (w.heap.size + 1 + 1) 3 i0 (.int .i64 0) 8 Tryz.underlying24 hi hz0 hz1 hz2 rfl _ 0 0 [] rfl (new_own' _ _ (w.heap.size + 1 + 1) (by simp)).drew _ rfl n1 (ins f.bits) ((h1.keep0 (gb_drew (gb_alloc g0 _))).src Tryz.underlying24 (ins_one _)) (by unfold maxLen; omega) (by omega) (by simp) ?_; intro a2 c2 w2 o2 g2 h2; have q0 := (bx3 w _ _ _ _ _ _).1.drew.keepRow g2 (by simp <;> omega); have q1 := (bx3 w _ _ _ _ _ _).2.1.drew.keepRow g2 (by simp <;> omega); have cc0 := fun o => q0.cell o; have cc1 := fun o => q1.cell o; have ff1 := fun o => q1.frozen o))
  go_wp2
  have hlt := fun p hp => (o2.lt p hp).2
  have G2 : w.grownBy w2 none := gb_transr (gb_drew (gb_alloc g0 _)) g2 (fun g hg => .inl (by simp at hg; omega))
  rw [Nat.zero_add] at *
  refine bodyPost_ret (v := .agg #[.int .i64 f.top, .slice a2 n1 c2]) (by simp [results, Tryz.results58, go_sem, cc1]) rfl ⟨_, rfl, ⟨_, _, _, rfl, ⟨?_, ?_⟩⟩, ?_⟩
  · refine Ow.mono (B := w.heap.size + 1 + 1) ?_ (by omega)
    rw [List.nil_append] at o2
    repeat (first | with_reducible exact o2 | (refine Ow.keepSet ?_ ?_ _; rotate_left; focus (first | (simp; done) | (simp; omega))))
  · rintro p hp
    simpa using hlt p hp
  · repeat (first | with_reducible exact G2 | (refine gb_set ?_ (.inl ?_) _; rotate_left; focus (first | (simp; done) | (simp; omega))))
end Go.Proofs.YtpfchphgbhgmmaaGreat
