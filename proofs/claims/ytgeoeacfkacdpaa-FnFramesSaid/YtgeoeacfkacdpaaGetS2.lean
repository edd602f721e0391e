/-
  The reference's function that reads a frame, kind by kind. Conditions: none beside those that each theorem names.
-/
import Derived.Test.YtgeoeacfkacdpaaGetS
import Derived.Deep.RegionWith
namespace Go.Proofs.Ytgeoeacfkacdpaa
open Go.RowKit
set_option maxRecDepth 1000000 in
set_option maxHeartbeats 4000000 in
theorem spec_Get1 (b off : Nat) (n c : Nat) (l : List UInt8) (w : World) (r : Rd w (some ⟨b, off, none⟩) n c (bys l)) (hl : n ≤ 1048576) (hb : b < w.heap.size) (hn : n = 34) (c0 : w.cell? ⟨b, off, none⟩ = some (.int .u8 1)) (x : Int) (hx : Hid (x = (tkN (l.drop 1) 1 : Int))) (x0 : 0 ≤ x) (x1 : x < 256) (c1 : w.cell? ⟨b, off + 1, none⟩ = some (.int .u8 x)) (eq : Bool) (h2 : Hid (eqL (putM (fr1 l)) l = eq)) (G : Hid (getM l = chkM (fr1 l) l)) :
    Calls Try.prog 50 #[.slice (some ⟨b, off, none⟩) n c] w (PGet l w) := by
  have V2 := fun cs => VS.box2 w #[.int .i64 0, .int .i64 0, .slice none 0 0, .slice none 0 0, .int .i64 0, .slice none 0 0, .slice none 0 0, .int .i64 0, .int .i64 0, .slice none 0 0, .slice none 0 0] cs 55 55
  have L := Lib.hid r.blen
  unfold PGet
  rw [G.out]
  unfold chkM
  rw [h2.out]
  clear G
  subst hn
  have q2 : ¬ c = 2 := by have := r.le; omega
  have p2 : 14 ≤ c := by have := r.le; omega
  go_enter Try.func50, Try.ntmps50
  go_wp2_with (first | (at_builtin; (first | (with_reducible refine wpList_apV w1.heap.size (V.set0 _ _) (r.cutc 2 12 ?_) ?_ (.tmp 61) (.tmp 63) ?_ ?_ ?_ ?_ ?_ ?_) | (with_reducible refine wpList_apV (w.heap.size + 2) (V2 _) (r.cutc 2 12 ?_) ?_ (.tmp 61) (.tmp 63) ?_ ?_ ?_ ?_ ?_ ?_)); (focus (first | decide | omega)); (focus rfl); (focus rfl); (focus rfl); (focus (first | rfl | (simp; done))); (focus rfl); (focus (first | decide | omega)); (try clear V); intro a1 n1 c1 w1 V; (try clear kc kf); (try simp only [List.setIfInBounds_toArray, List.set_cons_succ, List.set_cons_zero] at V); have kc := fun o => V.cell0 o; have kf := fun o => V.frz0 o))
  have V9 := V.set0 2 (.slice a1 n1 c1)
  obtain ⟨wx, hwx⟩ : ∃ wx, wx = w1.setCell ⟨w.heap.size + 1, 2, none⟩ (.slice a1 n1 c1) := ⟨_, rfl⟩
  rw [← hwx] at V9 ⊢
  clear hwx kc kf V
  simp only [List.setIfInBounds_toArray, List.set_cons_succ, List.set_cons_zero] at V9
  have kc := fun o => V9.cell0 o
  have hR := (gr1_O hx.out V9).r
  have r9 := r.keep0 (gb_drew V9.gb)
  have cB := r9.conv (P := Try.prog) 22 5 9 Try.underlying22 Try.underlying5 Try.underlying9
  have hq : ((str (putM (fr1 l))).toList == (str l).toList) = eq := by rw [str_toList, str_toList]; exact h2.out
  go_region_with (go_at_call 96; refine (spec_PutFrame _ (fr1 l) wx.drew (hR.keep0 (gb_drew (gb_refl wx)))).mono ?_; rintro e w2 ⟨b2, m2, d2, rfl, o2, g2⟩; have cA := o2.rd.conv (P := Try.prog) 22 5 9 Try.underlying22 Try.underlying5 Try.underlying9; have cC := (r9.keep0 g2).conv (P := Try.prog) 22 5 9 Try.underlying22 Try.underlying5 Try.underlying9; have V3 := V9.grow (gb_trans (gb_drew (gb_refl wx)) g2); have kc3 := fun o => V3.cell0 o)
  all_goals cases eq
  all_goals (go_wp2_with (first | ((with_reducible refine wpList_stV1 V3 ?_ (.tmp 2) (.tmp 138) ?_ ?_ ?_ ?_ ?_ ?_ ?_ ?_); (focus rfl); (focus rfl); rotate_left; (focus rfl); (focus rfl); (focus (exact si_Frame)); (focus rfl); (focus (first | rfl | (simp [Value.oneCell']; done))); clear V3; intro w1 V3; (try simp only [Act.put]); (try simp only [List.setIfInBounds_toArray]); (try simp only [List.set_cons_succ]); (try simp only [List.set_cons_zero]); (try clear kc kc3); have kr := fun o => V3.cell1 o) | ((with_reducible refine wpList_stV1 V3 ?_ (.tmp 2) (.tmp 139) ?_ ?_ ?_ ?_ ?_ ?_ ?_ ?_); (focus rfl); (focus rfl); rotate_left; (focus rfl); (focus rfl); (focus (exact si_Frame)); (focus rfl); (focus (first | rfl | (simp [Value.oneCell']; done))); clear V3; intro w1 V3; (try simp only [Act.put]); (try simp only [List.setIfInBounds_toArray]); (try simp only [List.set_cons_succ]); (try simp only [List.set_cons_zero]); (try clear kc kc3); have kr := fun o => V3.cell1 o)))
  all_goals (refine' bodyPost_ret ?_ rfl ?_; rotate_left; (focus (simp [results, Try.results50, go_sem, kr]; rfl)))
  all_goals first | exact ⟨_, rfl, frameO_zero _ _ _, V3.gb⟩ | exact ⟨_, rfl, gr1_O hx.out V3, V3.gb⟩
end Go.Proofs.Ytgeoeacfkacdpaa
