/-
  Contracts of the two makers of an empty window. Conditions: none.
-/
import Derived.Test.YtpfchphgbhgmmaaGreatHelpS
import Derived.Test.YtpfchphgbhgmmaaGreatBitP
namespace Go.Proofs.YtpfchphgbhgmmaaGreat
open Go.RowKit
def winNew : WinM := ⟨-1, List.replicate 32 0⟩
set_option maxRecDepth 1000000 in
set_option maxHeartbeats 400000 in
theorem impl_WinNew (w : World) : Calls Tryz.prog 36 #[] w fun e w' => ∃ v', e = .returned v' ∧ WinO w.heap.size w'.heap.size w' v' winNew ∧ w.grownBy w' none := by
  obtain ⟨i0, hi, hz0, hz1, hz2⟩ := info_parts inf_int
  go_enter Tryz.func36, Tryz.ntmps36
  go_wp2_with (refine wpList_mk rfl (.const (.int .i64 32)) (.const (.int .i64 32)) 24 rfl 3 i0 (.int .i64 0) 8 Tryz.underlying24 hi hz0 hz1 hz2 rfl 32 .i64 .i64 rfl rfl (by unfold maxLen; omega) (by omega) ?_; intro w1 o1 g1; have bb := (bx1 w _ _).keep0 g1; have cc := fun o => bb.cell o; have ff := fun o => bb.frozen o)
  refine bodyPost_ret (v := .agg #[.int .i64 (-1), .slice (some ⟨w.heap.size + 1, 0, none⟩) 32 32]) (by simp [results, Tryz.results36, go_sem, cc]) rfl ⟨_, rfl, ⟨_, _, _, rfl, ⟨?_, ?_⟩⟩, ?_⟩
  · simp only [World.size_alloc] at o1
    refine Ow.mono (B := w.heap.size + 1) ?_ (by omega)
    rw [show ins winNew.bits = List.replicate 32 (.int .i64 0) by simp [ins, winNew]]
    repeat (first | with_reducible exact o1 | (refine Ow.keepSet ?_ ?_ _; rotate_left; focus (first | (simp; done) | (simp; omega))))
  · rintro p hp
    have := (o1.lt p (by simpa using hp)).2
    simpa using this
  · repeat (first | with_reducible exact gb_trans (gb_alloc (gb_refl w) _) g1 | (refine gb_set ?_ (.inl ?_) _; rotate_left; focus (first | (simp; done) | (simp; omega))))
set_option maxRecDepth 1000000 in
set_option maxHeartbeats 1000000 in
theorem spec_WinNew (w : World) : Calls Tryz.prog 86 #[] w fun e w' => ∃ v', e = .returned v' ∧ WinO w.heap.size w'.heap.size w' v' winNew ∧ w.grownBy w' none := by
  obtain ⟨i0, hi, hz0, hz1, hz2⟩ := info_parts inf_int
  go_enter Tryz.func86, Tryz.ntmps86
  go_wp2
  go_loopw [2] (fun i wr => ∃ (k : Nat) (a : Option Addr) (c : Nat), i = .int .i64 k ∧ k ≤ 32 ∧ w.grownBy wr none ∧ Bx wr w.heap.size 26 #[.int .i64 0, .slice none 0 0] ∧ Bx wr (w.heap.size + 1) 26 #[.int .i64 (-1), .slice a k c] ∧ Ow (w.heap.size + 2) wr 3 a k c (List.replicate k (.int .i64 0))) (fun i _ => 32 - (intOf i).toNat)
  case atStart => exact ⟨0, none, 0, rfl, by omega, gb_alloc (gb_alloc (gb_refl _) _) _, (bx2 w _ _ _ _).1, (bx2 w _ _ _ _).2, Ow.nil _ _ _⟩
  case round =>
    obtain ⟨k, a, c, rfl, hk, hg, hb0, hb1, hown⟩ := hrel
    have c0 := fun o => hb0.cell o
    have c1 := fun o => hb1.cell o
    have f0 := fun o => hb0.frozen o
    have f1 := fun o => hb1.frozen o
    have l0 := hb0.lt
    have l1 := hb1.lt
    by_cases hlt : k < 32
    · go_wp2_with (at_builtin; refine wpList_app rfl (.tmp 9) (.tmp 10) 24 24 rfl (w.heap.size + 2) 3 i0 (.int .i64 0) 8 Tryz.underlying24 hi hz0 hz1 hz2 rfl a k c (List.replicate k (.int .i64 0)) rfl (hown.keep0 (gb_alloc (gb_refl _) _)) _ rfl 1 [.int .i64 0] (new_src Tryz.underlying24 wr #[.int .i64 0] _ 1 rfl (by simp [Value.oneCell'])) (by unfold maxLen; omega) (by omega) (by simp; omega) ?_; intro a2 c2 w2 o2 g2 h2; have hb1 := (hb1.old _).keepRow g2 (fun hg => by obtain ⟨p, hp, h9⟩ := row_of hg; have := (hown.lt p hp).1; omega); have hb0 := (hb0.old _).keepRow g2 (fun hg => by obtain ⟨p, hp, h9⟩ := row_of hg; have := (hown.lt p hp).1; omega); clear c0 c1 f0 f1; have c1 := fun o => hb1.cell o; have f1 := fun o => hb1.frozen o)
      have G2 : w.grownBy w2 none := gb_transr (gb_alloc hg _) g2 (fun g hg => by obtain ⟨p, hp, h9⟩ := row_of hg; have := (hown.lt p hp).1; left; omega)
      refine ⟨⟨k + 1, a2, c2, by go_num, by omega, ?_, ?_, ?_, ?_⟩, by simp [intOf]; omega⟩
      · exact gb_set G2 (p := ⟨w.heap.size + 1, 1, none⟩) (.inl (by simp)) _
      · exact hb0.setO _ _ (by simp)
      · exact hb1.set 1 _
      · have := o2.keepSet (q := ⟨w.heap.size + 1, 1, none⟩) (by simp) (.slice a2 (k + 1) c2)
        rwa [show List.replicate k (Value.int .i64 0) ++ [.int .i64 0] = List.replicate (k + 1) (.int .i64 0) from List.replicate_succ'.symm] at this
    · obtain rfl : k = 32 := by omega
      go_wp2
      have hlt := fun p hp => (hown.lt p hp).2
      refine bodyPost_ret (v := .agg #[.int .i64 (-1), .slice a 32 c]) (by simp [results, Tryz.results86, go_sem, c0]) rfl ⟨_, rfl, ⟨_, _, _, rfl, ⟨?_, ?_⟩⟩, ?_⟩
      · rw [show ins winNew.bits = List.replicate 32 (.int .i64 0) by simp [ins, winNew]]
        refine Ow.mono (B := w.heap.size + 2) ?_ (by omega)
        repeat (first | with_reducible exact hown | (refine Ow.keepSet ?_ ?_ _; rotate_left; focus (first | (simp; done) | (simp; omega))))
      · rintro p hp
        simpa using hlt p hp
      · repeat (first | with_reducible exact hg | (refine gb_set ?_ (.inl ?_) _; rotate_left; focus (first | (simp; done) | (simp; omega))))
end Go.Proofs.YtpfchphgbhgmmaaGreat
