/-
  The draw of a window and a number. Conditions: none beside those that each theorem names.
-/
import Derived.Test.YtdfdhijbafalaaaDrV
import Derived.Deep.RegionHeld3
namespace Go.Proofs.Ytdfdhijbafalaaa
open Go.RowKit
theorem Rd.pb3 {a : Option Addr} {n c : Nat} {xs : List Value} {w : World} (r : Rd w a n c xs) : 0 < n → ∀ p, a = some p → p.block < w.heap.size := by
  intro h0 p hp
  obtain ⟨b, off, h1, h2, -⟩ := r.pos h0
  rw [h1] at hp
  cases hp
  exact h2
set_option maxRecDepth 1000000 in
set_option maxHeartbeats 4000000 in
theorem spec_DrawWinAdd (a : Option Addr) (n c : Nat) (l : List UInt8) (w : World) (r : Rd w a n c (bys l)) (hn : n ≤ 1048576) : Calls Try.prog 16 #[.slice a n c] w (PWa w) := by
  have hp := r.pb3
  go_enter Try.func16, Try.ntmps16
  go_wp2_with (first
    | (go_at_call 32; refine (spec_l1New a n c l w.heap.size _ (r.keep0 (gb_alloc (gb_refl _) _)) hn hp (gb_alloc (gb_refl _) _).size).mono ?_; rintro e w1 ⟨cb, rfl, cu, hc, g⟩; have D := DS.init1 (Bx.new w _ _) cu (gb_alloc (gb_refl w) _) (Nat.le_refl _) hc g; have hcb : w.heap.size ≤ cb := Nat.le_trans (gb_alloc (gb_refl w) _).size hc; have hq1 := (D.bx _ (List.mem_cons_self ..)).1.lt; have hcl := D.cur.lt; clear g hc cu)
    | (go_at_call 38; (with_reducible refine (spec_l8Any _ cb _ D.cur).mono ?_); rintro e w2 ⟨t, a2, n2, c2, l2, rfl, r2, hb2, hn2, E⟩; have hs2 := E.dr.size; have hcl2 := E.cur.lt; replace D := D.by E; clear E))
  replace D := D.box #[.int .i64 t, .slice a2 n2 c2] 27
  replace r2 := r2.keep0 (gb_alloc (gb_refl _) (.cells #[.int .i64 t, .slice a2 n2 c2] 27))
  replace D := D.drew
  replace r2 := r2.keep0 (gb_drew (gb_refl _))
  have kS : _ ∧ _ := ⟨DS.cell0 D 0, DS.cell0 D 1⟩
  refine wp_region_held_drew (S := (fun w' => w'.cell? ⟨w2.heap.size, 0, none⟩ = some (.int .i64 t) ∧ w'.cell? ⟨w2.heap.size, 1, none⟩ = some (.slice a2 n2 c2))) (by kernel_rfl) ?_ (fun hHeld => ?_)
  · (try dsimp only)
    exact kS
  refine wpAnyH_takeD (i := 0) (some 10) (v := ?_) rfl rfl (by kernel_rfl) (by kernel_rfl) (by kernel_rfl) (fun _ _ _ h => h) (Or.inl ⟨by rfl, ?_⟩) (by assumption) ?_
  rotate_left
  (focus (intro w hSw; (try dsimp only at hSw); (first | (go_simp; done) | (go_simp; with_reducible rfl) | with_reducible rfl)))
  (try simp only [Act.put]); (try simp only [List.setIfInBounds_toArray]); (try simp only [List.set_cons_succ]); (try simp only [List.set_cons_zero])
  refine wpAnyH_takeD (i := 1) (some 11) (v := ?_) rfl rfl (by kernel_rfl) (by kernel_rfl) (by kernel_rfl) (fun _ _ _ h => h) (Or.inl ⟨by rfl, ?_⟩) (by assumption) ?_
  rotate_left
  (focus (intro w hSw; (try dsimp only at hSw); (first | (go_simp; done) | (go_simp; with_reducible rfl) | with_reducible rfl)))
  (try simp only [Act.put]); (try simp only [List.setIfInBounds_toArray]); (try simp only [List.set_cons_succ]); (try simp only [List.set_cons_zero])
  refine wpAnyH_takeD (i := 2) (some 12) (v := ?_) rfl rfl (by kernel_rfl) (by kernel_rfl) (by kernel_rfl) (fun _ _ _ h => h) (Or.inl ⟨by rfl, ?_⟩) (by assumption) ?_
  rotate_left
  (focus (intro w hSw; (try dsimp only at hSw); (first | (go_simp; done) | (go_simp; with_reducible rfl) | with_reducible rfl)))
  (try simp only [Act.put]); (try simp only [List.setIfInBounds_toArray]); (try simp only [List.set_cons_succ]); (try simp only [List.set_cons_zero])
  refine wpAnyH_ready (rs := [3]) (by kernel_rfl) (by simp) (AllReadyH.cons rfl (fun K hK => ?_) AllReadyH.nil)
  go_simp
  go_at_call 39
  refine (spec_l8Ask _ cb t a2 n2 c2 _ D.cur).mono ?_
  rintro e w4 ⟨x, rfl, E⟩
  replace r2 := r2.keepI E.dr (fun p hp => .inr (by have := hb2 p hp; omega))
  replace D := D.by E
  replace kS := And.intro (DS.cell0 D 0) (DS.cell0 D 1)
  go_wp2_with fail
  refine hK.out _ _ ?_ (fun hHeld2 => ?_)
  · (try dsimp only)
    exact kS
  clear hK K hHeld
  have hHeld := hHeld2
  clear hHeld2
  (try simp only [Act.put]); (try simp only [List.setIfInBounds_toArray]); (try simp only [List.set_cons_succ]); (try simp only [List.set_cons_zero])
  refine wpAnyH_ready (rs := [4]) (by kernel_rfl) (by simp) (AllReadyH.cons rfl (fun K hK => ?_) AllReadyH.nil)
  refine step_stRD rfl rfl 27 (.tmp 2) (.tmp 10) rfl w.heap.size _ _ rfl rfl ((D.bx _ (List.mem_cons_of_mem _ (List.mem_cons_self ..))).1) si_Win rfl (by first | rfl | (simp [Value.oneCell']; done)) ?_
  intro w5 B5 g5
  replace r2 := r2.keep g5 (fun p hp e => by have := hb2 p hp; simp at e; omega)
  replace D := D.row (b1 := [_]) rfl B5 g5
  replace kS := And.intro (DS.cell0 D 0) (DS.cell0 D 1)
  refine hK.out _ _ ?_ (fun hHeld2 => ?_)
  · (try dsimp only)
    exact kS
  clear hK K hHeld
  have hHeld := hHeld2
  clear hHeld2
  (try simp only [Act.put]); (try simp only [List.setIfInBounds_toArray]); (try simp only [List.set_cons_succ]); (try simp only [List.set_cons_zero])
  refine wpAnyH_takeD (i := 5) (some 3) (v := ?_) rfl rfl (by kernel_rfl) (by kernel_rfl) (by kernel_rfl) (fun _ _ _ h => h) (Or.inl ⟨by rfl, ?_⟩) (by assumption) ?_
  rotate_left
  (focus (intro w hSw; (try dsimp only at hSw); (first | (go_simp; done) | (go_simp; with_reducible rfl) | with_reducible rfl)))
  (try simp only [Act.put]); (try simp only [List.setIfInBounds_toArray]); (try simp only [List.set_cons_succ]); (try simp only [List.set_cons_zero])
  refine wpAnyH_done (by kernel_rfl) ?_ _
  (try dsimp only)
  have kd := fun o => DS.cell1 D o
  (try go_wp2)
  refine bodyPost_ret (v := .tuple #[.agg #[.int .i64 t, .slice a2 n2 c2], .int .i64 x]) (by simp [results, Try.results16, go_sem, kd]) rfl ⟨t, a2, n2, c2, l2, x, rfl, r2, hn2, D.gb hcb⟩
end Go.Proofs.Ytdfdhijbafalaaa
