/-
  The reference's function that reads a frame, lengths that do not fit; and all of it. Conditions: none beside those that each theorem names.
-/
import Derived.Test.YtgeoeacfkacdpaaGetS
import Derived.Test.YtgeoeacfkacdpaaGetS2
import Derived.Test.YtgeoeacfkacdpaaGetS3
import Derived.Test.YtgeoeacfkacdpaaGetS4
import Derived.Test.YtgeoeacfkacdpaaGetS5
import Derived.Test.YtgeoeacfkacdpaaGetI2
import Derived.Test.YtgeoeacfkacdpaaGetI3
import Derived.Test.YtgeoeacfkacdpaaGetI4
import Derived.Deep.RegionWith
namespace Go.Proofs.Ytgeoeacfkacdpaa
open Go.RowKit
set_option maxRecDepth 1000000 in
set_option maxHeartbeats 4000000 in
theorem spec_GetN1 (b off : Nat) (n c : Nat) (l : List UInt8) (w : World) (hb : b < w.heap.size) (hn0 : (0 : Int) < (n : Int)) (hn1 : ((n : Int) == 0) = false) (K : Int) (K0 : 0 ≤ K) (K1 : K < 256) (c0 : w.cell? ⟨b, off, none⟩ = some (.int .u8 K)) (k1 : (K == 1) = true) (hl : ((n : Int) != 34) = true) (G : Hid (getM l = (fr0, false))) :
    Calls Try.prog 50 #[.slice (some ⟨b, off, none⟩) n c] w (PGet l w) := by
  have V2 := fun cs => VS.box2 w #[.int .i64 0, .int .i64 0, .slice none 0 0, .slice none 0 0, .int .i64 0, .slice none 0 0, .slice none 0 0, .int .i64 0, .int .i64 0, .slice none 0 0, .slice none 0 0] cs 55 55
  unfold PGet
  rw [G.out]
  clear G
  go_enter Try.func50, Try.ntmps50
  go_wp2_with (((with_reducible refine wpList_stV1 (V2 _) ?_ (.tmp 2) (.tmp 55) ?_ ?_ ?_ ?_ ?_ ?_ ?_ ?_); (focus rfl); (focus rfl); rotate_left; (focus rfl); (focus rfl); (focus (exact si_Frame)); (focus rfl); (focus (first | rfl | (simp [Value.oneCell']; done))); intro w1 V3; (try simp only [Act.put]); (try simp only [List.setIfInBounds_toArray]); (try simp only [List.set_cons_succ]); (try simp only [List.set_cons_zero]); have kr := fun o => V3.cell1 o))
  refine' bodyPost_ret ?_ rfl ?_; rotate_left; (focus (simp [results, Try.results50, go_sem, kr]; rfl))
  exact ⟨_, rfl, frameO_zero _ _ _, V3.gb⟩
set_option maxRecDepth 1000000 in
set_option maxHeartbeats 4000000 in
theorem spec_GetN2 (b off : Nat) (n c : Nat) (l : List UInt8) (w : World) (hb : b < w.heap.size) (hn0 : (0 : Int) < (n : Int)) (hn1 : ((n : Int) == 0) = false) (K : Int) (K0 : 0 ≤ K) (K1 : K < 256) (c0 : w.cell? ⟨b, off, none⟩ = some (.int .u8 K)) (k1 : (K == 1) = false) (k2 : (K == 2) = true) (hl : ((n : Int) != 45) = true) (G : Hid (getM l = (fr0, false))) :
    Calls Try.prog 50 #[.slice (some ⟨b, off, none⟩) n c] w (PGet l w) := by
  have V2 := fun cs => VS.box2 w #[.int .i64 0, .int .i64 0, .slice none 0 0, .slice none 0 0, .int .i64 0, .slice none 0 0, .slice none 0 0, .int .i64 0, .int .i64 0, .slice none 0 0, .slice none 0 0] cs 55 55
  unfold PGet
  rw [G.out]
  clear G
  go_enter Try.func50, Try.ntmps50
  go_wp2_with (((with_reducible refine wpList_stV1 (V2 _) ?_ (.tmp 2) (.tmp 71) ?_ ?_ ?_ ?_ ?_ ?_ ?_ ?_); (focus rfl); (focus rfl); rotate_left; (focus rfl); (focus rfl); (focus (exact si_Frame)); (focus rfl); (focus (first | rfl | (simp [Value.oneCell']; done))); intro w1 V3; (try simp only [Act.put]); (try simp only [List.setIfInBounds_toArray]); (try simp only [List.set_cons_succ]); (try simp only [List.set_cons_zero]); have kr := fun o => V3.cell1 o))
  refine' bodyPost_ret ?_ rfl ?_; rotate_left; (focus (simp [results, Try.results50, go_sem, kr]; rfl))
  exact ⟨_, rfl, frameO_zero _ _ _, V3.gb⟩
set_option maxRecDepth 1000000 in
set_option maxHeartbeats 4000000 in
theorem spec_GetN3 (b off : Nat) (n c : Nat) (l : List UInt8) (w : World) (hb : b < w.heap.size) (hn0 : (0 : Int) < (n : Int)) (hn1 : ((n : Int) == 0) = false) (K : Int) (K0 : 0 ≤ K) (K1 : K < 256) (c0 : w.cell? ⟨b, off, none⟩ = some (.int .u8 K)) (k1 : (K == 1) = false) (k2 : (K == 2) = false) (k3 : (K == 3) = true) (hl : ((n : Int) != 62) = true) (G : Hid (getM l = (fr0, false))) :
    Calls Try.prog 50 #[.slice (some ⟨b, off, none⟩) n c] w (PGet l w) := by
  have V2 := fun cs => VS.box2 w #[.int .i64 0, .int .i64 0, .slice none 0 0, .slice none 0 0, .int .i64 0, .slice none 0 0, .slice none 0 0, .int .i64 0, .int .i64 0, .slice none 0 0, .slice none 0 0] cs 55 55
  unfold PGet
  rw [G.out]
  clear G
  go_enter Try.func50, Try.ntmps50
  go_wp2_with (((with_reducible refine wpList_stV1 (V2 _) ?_ (.tmp 2) (.tmp 99) ?_ ?_ ?_ ?_ ?_ ?_ ?_ ?_); (focus rfl); (focus rfl); rotate_left; (focus rfl); (focus rfl); (focus (exact si_Frame)); (focus rfl); (focus (first | rfl | (simp [Value.oneCell']; done))); intro w1 V3; (try simp only [Act.put]); (try simp only [List.setIfInBounds_toArray]); (try simp only [List.set_cons_succ]); (try simp only [List.set_cons_zero]); have kr := fun o => V3.cell1 o))
  refine' bodyPost_ret ?_ rfl ?_; rotate_left; (focus (simp [results, Try.results50, go_sem, kr]; rfl))
  exact ⟨_, rfl, frameO_zero _ _ _, V3.gb⟩
set_option maxRecDepth 1000000 in
set_option maxHeartbeats 4000000 in
theorem spec_GetNT (b off : Nat) (n c : Nat) (l : List UInt8) (w : World) (hb : b < w.heap.size) (hn0 : (0 : Int) < (n : Int)) (hn1 : ((n : Int) == 0) = false) (K : Int) (K0 : 0 ≤ K) (K1 : K < 256) (c0 : w.cell? ⟨b, off, none⟩ = some (.int .u8 K)) (k1 : (K == 1) = false) (k2 : (K == 2) = false) (k3 : (K == 3) = false) (hl : (n : Int) < 39) (G : Hid (getM l = (fr0, false))) :
    Calls Try.prog 50 #[.slice (some ⟨b, off, none⟩) n c] w (PGet l w) := by
  have V2 := fun cs => VS.box2 w #[.int .i64 0, .int .i64 0, .slice none 0 0, .slice none 0 0, .int .i64 0, .slice none 0 0, .slice none 0 0, .int .i64 0, .int .i64 0, .slice none 0 0, .slice none 0 0] cs 55 55
  unfold PGet
  rw [G.out]
  clear G
  go_enter Try.func50, Try.ntmps50
  go_wp2_with (((with_reducible refine wpList_stV1 (V2 _) ?_ (.tmp 2) (.tmp 20) ?_ ?_ ?_ ?_ ?_ ?_ ?_ ?_); (focus rfl); (focus rfl); rotate_left; (focus rfl); (focus rfl); (focus (exact si_Frame)); (focus rfl); (focus (first | rfl | (simp [Value.oneCell']; done))); intro w1 V3; (try simp only [Act.put]); (try simp only [List.setIfInBounds_toArray]); (try simp only [List.set_cons_succ]); (try simp only [List.set_cons_zero]); have kr := fun o => V3.cell1 o))
  refine' bodyPost_ret ?_ rfl ?_; rotate_left; (focus (simp [results, Try.results50, go_sem, kr]; rfl))
  exact ⟨_, rfl, frameO_zero _ _ _, V3.gb⟩
set_option maxRecDepth 1000000 in
set_option maxHeartbeats 4000000 in
theorem spec_GetN0 (a : Option Addr) (c : Nat) (w : World) : Calls Try.prog 50 #[.slice a 0 c] w (PGet [] w) := by
  have V2 := fun cs => VS.box2 w #[.int .i64 0, .int .i64 0, .slice none 0 0, .slice none 0 0, .int .i64 0, .slice none 0 0, .slice none 0 0, .int .i64 0, .int .i64 0, .slice none 0 0, .slice none 0 0] cs 55 55
  unfold PGet
  rw [getM_nil]
  go_enter Try.func50, Try.ntmps50
  go_wp2_with (((with_reducible refine wpList_stV1 (V2 _) ?_ (.tmp 2) (.tmp 9) ?_ ?_ ?_ ?_ ?_ ?_ ?_ ?_); (focus rfl); (focus rfl); rotate_left; (focus rfl); (focus rfl); (focus (exact si_Frame)); (focus rfl); (focus (first | rfl | (simp [Value.oneCell']; done))); intro w1 V3; (try simp only [Act.put]); (try simp only [List.setIfInBounds_toArray]); (try simp only [List.set_cons_succ]); (try simp only [List.set_cons_zero]); have kr := fun o => V3.cell1 o))
  refine' bodyPost_ret ?_ rfl ?_; rotate_left; (focus (simp [results, Try.results50, go_sem, kr]; rfl))
  exact ⟨_, rfl, frameO_zero _ _ _, V3.gb⟩
theorem kdB_at0 {l : List UInt8} {x : UInt8} (h : l[0]? = some x) : kdB l = (x.toNat : Int) := by
  cases l with
  | nil => cases h
  | cons y r =>
    simp only [List.getElem?_cons_zero, Option.some.injEq] at h
    subst h
    simp [kdB, tkN, num]
theorem tkN_at1 {l : List UInt8} {x : UInt8} (h : l[1]? = some x) : tkN (l.drop 1) 1 = x.toNat := by
  cases l with
  | nil => cases h
  | cons y r =>
    cases r with
    | nil => cases h
    | cons z r =>
      simp only [List.getElem?_cons_succ, List.getElem?_cons_zero, Option.some.injEq] at h
      subst h
      simp [tkN, num]
theorem spec_GetFrame (a : Option Addr) (n c : Nat) (l : List UInt8) (w : World) (r : Rd w a n c (bys l)) (hl : n ≤ 1048576) : Calls Try.prog 50 #[.slice a n c] w (PGet l w) := by
  have L := r.blen
  rcases Nat.eq_zero_or_pos n with h0 | h0
  · subst h0
    obtain rfl := List.eq_nil_of_length_eq_zero L
    exact spec_GetN0 a c w
  obtain ⟨b, off, x, rfl, hx, c0⟩ := r.byte 0 h0
  rw [Nat.add_zero] at c0
  have hb : b < w.heap.size := block_lt_of_cell (a := ⟨b, off, none⟩) c0
  have hx := kdB_at0 hx.out
  have t := x.toNat_lt
  have hl0 : l ≠ [] := by intro e; subst e; simp at L; omega
  have z1 : (0 : Int) < (n : Int) := by omega
  have z2 : ((n : Int) == 0) = false := by rw [beq_eq_false_iff_ne]; omega
  by_cases k1 : kdB l = 1
  · by_cases hn : n = 34
    · obtain ⟨b', off', y, e, hy, c1⟩ := r.byte 1 (by omega)
      cases e
      have ty := y.toNat_lt
      exact spec_Get1 b off n c l w r hl hb hn (by rw [c0, ← hx, k1]) _ (tkN_at1 hy.out ▸ rfl) (by omega) (by omega) c1 _ rfl (by rw [← chk_get hl0, parI_1 k1]; rfl)
    · exact spec_GetN1 b off n c l w hb z1 z2 _ (by omega) (by omega) c0 (by rw [← hx, k1]; rfl) (by rw [bne_iff_ne]; omega) (getM_1 k1 (by omega))
  by_cases k2 : kdB l = 2
  · by_cases hn : n = 45
    · exact spec_Get2 b off n c l w r hl hb hn (by rw [c0, ← hx, k2]) _ rfl (by rw [← chk_get hl0, parI_2 k2]; rfl)
    · exact spec_GetN2 b off n c l w hb z1 z2 _ (by omega) (by omega) c0 (by rw [← hx, k2]; rfl) (by rw [← hx, k2]; rfl) (by rw [bne_iff_ne]; omega) (getM_2 k2 (by omega))
  by_cases k3 : kdB l = 3
  · by_cases hn : n = 62
    · obtain ⟨b', off', y, e, hy, c1⟩ := r.byte 1 (by omega)
      cases e
      have ty := y.toNat_lt
      exact spec_Get3 b off n c l w r hl hb hn (by rw [c0, ← hx, k3]) _ (tkN_at1 hy.out ▸ rfl) (by omega) (by omega) c1 _ rfl (by rw [← chk_get hl0, parI_3 k3]; rfl)
    · exact spec_GetN3 b off n c l w hb z1 z2 _ (by omega) (by omega) c0 (by rw [← hx, k3]; rfl) (by rw [← hx, k3]; rfl) (by rw [← hx, k3]; rfl) (by rw [bne_iff_ne]; omega) (getM_3 k3 (by omega))
  have q1 : ((x.toNat : Int) == 1) = false := by rw [beq_eq_false_iff_ne, ← hx]; exact k1
  have q2 : ((x.toNat : Int) == 2) = false := by rw [beq_eq_false_iff_ne, ← hx]; exact k2
  have q3 : ((x.toNat : Int) == 3) = false := by rw [beq_eq_false_iff_ne, ← hx]; exact k3
  by_cases hn : 39 ≤ n
  · have G : Hid (getM l = chkM (frT (x.toNat : Int) l) l) := by rw [← hx]; exact (chk_T k1 k2 k3 (by omega)).symm
    by_cases hc : c = 39
    · exact spec_GetTz b off n c l w r hl hb (by have := r.le; omega) hc _ (by omega) (by omega) q1 q2 q3 c0 _ rfl G
    · exact spec_GetT b off n c l w r hl hb hn _ (by omega) (by omega) q1 q2 q3 c0 hc _ rfl G
  · exact spec_GetNT b off n c l w hb z1 z2 _ (by omega) (by omega) c0 q1 q2 q3 (by omega) (by
      cases hs : sealedB (kdB l) with
      | true => exact getM_S hs (by omega)
      | false => exact getM_X k1 k2 k3 hs)
theorem impl_GetFrame (a : Option Addr) (n c : Nat) (l : List UInt8) (w : World) (r : Rd w a n c (bys l)) (hl : n ≤ 1048576) : Calls Try.prog 47 #[.slice a n c] w (PGet l w) := by
  have L := r.blen
  have hl' : l.length ≤ 1048576 := by omega
  have e0 : (tkN (dropI l 0) 1 : Int) = kdB l := by rw [dropI, List.drop_zero]; rfl
  have G : getM l = if (frOk (parI l) && eqL (putM (parI l)) l) = true then (parI l, true) else (fr0, false) := rfl
  by_cases k1 : kdB l = 1
  · rw [parI_1 k1] at G
    exact impl_Get1 a n c l w r hl' (by rw [Hid, e0, k1]) _ _ rfl rfl G
  by_cases k2 : kdB l = 2
  · rw [parI_2 k2] at G
    exact impl_Get2 a n c l w r hl' (by rw [Hid, e0, k2]) _ _ rfl rfl G
  by_cases k3 : kdB l = 3
  · rw [parI_3 k3] at G
    exact impl_Get3 a n c l w r hl' (by rw [Hid, e0, k3]) _ _ rfl rfl G
  have q1 : (kdB l == 1) = false := by rw [beq_eq_false_iff_ne]; exact k1
  have q2 : (kdB l == 2) = false := by rw [beq_eq_false_iff_ne]; exact k2
  have q3 : (kdB l == 3) = false := by rw [beq_eq_false_iff_ne]; exact k3
  cases hs : sealedB (kdB l) with
  | true =>
    rw [parI_S hs] at G
    exact impl_GetS a n c l w r hl' _ e0 q1 q2 q3 hs _ _ rfl rfl G
  | false =>
    rw [parI_X k1 k2 k3 hs] at G
    exact impl_GetX a n c l w r hl' _ e0 q1 q2 q3 hs _ _ rfl rfl G
end Go.Proofs.Ytgeoeacfkacdpaa
