/-
  The walk of the check of frames, kind 3. Conditions: none beside those that each theorem names.
-/
import Derived.Test.YtpfchphgbhgmmaaGreatFrOkP
import Derived.Test.YtpfchphgbhgmmaaGreatSet1
import Derived.Deep.RegionHeld3
namespace Go.Proofs.YtpfchphgbhgmmaaGreat
open Go.RowKit
set_option maxRecDepth 100000 in
set_option maxHeartbeats 20000000 in
theorem impl_FrameOk3 (id tick epoch seq : Int) (a1 : Option Addr) (n1 c1 : Nat) (l1 : List UInt8) (a2 : Option Addr) (n2 c2 : Nat) (l2 : List UInt8) (a3 : Option Addr) (n3 c3 : Nat) (l3 : List UInt8) (a4 : Option Addr) (n4 c4 : Nat) (l4 : List UInt8) (a5 : Option Addr) (n5 c5 : Nat) (l5 : List UInt8) (a6 : Option Addr) (n6 c6 : Nat) (l6 : List UInt8) (w : World)
    (r1 : Rd w a1 n1 c1 (bys l1)) (r2 : Rd w a2 n2 c2 (bys l2)) (r3 : Rd w a3 n3 c3 (bys l3)) (r4 : Rd w a4 n4 c4 (bys l4)) (r5 : Rd w a5 n5 c5 (bys l5)) (r6 : Rd w a6 n6 c6 (bys l6)) :
    Calls Tryz.prog 54 #[.agg #[.int .i64 3, .int .i64 id, .slice a1 n1 c1, .slice a2 n2 c2, .int .i64 tick, .slice a3 n3 c3, .slice a4 n4 c4, .int .i64 epoch, .int .i64 seq, .slice a5 n5 c5, .slice a6 n6 c6]] w fun e w' => e = .returned (.bool (frOkN 3 id n1 n2 tick n3 n4 epoch seq n5 n6)) ∧ w.grownBy w' none := by
  have E := Lib.hid (show frEq ⟨3, id, l1, l2, tick, l3, l4, epoch, seq, l5, l6⟩ ⟨3, id, l1, l2, tick, l3, l4, 0, 0, [], []⟩ = (eqI epoch 0 && eqI seq 0 && eqN n5 0 && eqN n6 0) by simp [frEq, eqI_self, eqL_self, nilN r5.blen, nilN r6.blen, Bool.and_assoc])
  have m1 : ((n1 : Int) == 12) = eqN n1 12 := rfl
  have m2 : ((n2 : Int) == 12) = eqN n2 12 := rfl
  have m3 : ((n3 : Int) == 16) = eqN n3 16 := rfl
  have m4 : ((n4 : Int) == 16) = eqN n4 16 := rfl
  go_enter Tryz.func54, Tryz.ntmps54
  go_wp2_with (first | (go_at_call 34; refine (impl_within _ _ _ _).mono ?_; rintro e w' ⟨rfl, rfl⟩) | (go_at_call 76; refine (impl_isNonce _ _ _ _).mono ?_; rintro e w' ⟨rfl, rfl⟩) | (go_at_call 53; refine (impl_Sealed _ _).mono ?_; rintro e w' ⟨rfl, rfl⟩) | (go_at_call 77; refine (impl_bodyOk _ _ _).mono ?_; rintro e w' ⟨rfl, rfl⟩))
  obtain ⟨bf, bq⟩ := bx2 w #[.int .i64 3, .int .i64 id, .slice a1 n1 c1, .slice a2 n2 c2, .int .i64 tick, .slice a3 n3 c3, .slice a4 n4 c4, .int .i64 epoch, .int .i64 seq, .slice a5 n5 c5, .slice a6 n6 c6] #[.int .i64 3, .int .i64 0, .slice none 0 0, .slice none 0 0, .int .i64 0, .slice none 0 0, .slice none 0 0, .int .i64 0, .int .i64 0, .slice none 0 0, .slice none 0 0] 32 32
  have KX : Hid (∀ w', gbI (w.heap.size + 1) (w.heap.size + 2) ((w.alloc (.cells #[.int .i64 3, .int .i64 id, .slice a1 n1 c1, .slice a2 n2 c2, .int .i64 tick, .slice a3 n3 c3, .slice a4 n4 c4, .int .i64 epoch, .int .i64 seq, .slice a5 n5 c5, .slice a6 n6 c6] 32)).alloc (.cells #[.int .i64 3, .int .i64 0, .slice none 0 0, .slice none 0 0, .int .i64 0, .slice none 0 0, .slice none 0 0, .int .i64 0, .int .i64 0, .slice none 0 0, .slice none 0 0] 32)) w' → (w'.cell? ⟨w.heap.size, 0, none⟩ = some (.int .i64 3) ∧ w'.cell? ⟨w.heap.size, 1, none⟩ = some (.int .i64 id) ∧ w'.cell? ⟨w.heap.size, 2, none⟩ = some (.slice a1 n1 c1) ∧ w'.cell? ⟨w.heap.size, 3, none⟩ = some (.slice a2 n2 c2) ∧ w'.cell? ⟨w.heap.size, 4, none⟩ = some (.int .i64 tick) ∧ w'.cell? ⟨w.heap.size, 5, none⟩ = some (.slice a3 n3 c3) ∧ w'.cell? ⟨w.heap.size, 6, none⟩ = some (.slice a4 n4 c4) ∧ w'.cell? ⟨w.heap.size, 7, none⟩ = some (.int .i64 epoch) ∧ w'.cell? ⟨w.heap.size, 8, none⟩ = some (.int .i64 seq) ∧ w'.cell? ⟨w.heap.size, 9, none⟩ = some (.slice a5 n5 c5) ∧ w'.cell? ⟨w.heap.size, 10, none⟩ = some (.slice a6 n6 c6) ∧ gbI (w.heap.size + 1) (w.heap.size + 2) ((w.alloc (.cells #[.int .i64 3, .int .i64 id, .slice a1 n1 c1, .slice a2 n2 c2, .int .i64 tick, .slice a3 n3 c3, .slice a4 n4 c4, .int .i64 epoch, .int .i64 seq, .slice a5 n5 c5, .slice a6 n6 c6] 32)).alloc (.cells #[.int .i64 3, .int .i64 0, .slice none 0 0, .slice none 0 0, .int .i64 0, .slice none 0 0, .slice none 0 0, .int .i64 0, .int .i64 0, .slice none 0 0, .slice none 0 0] 32)) w')) := fun w' hg => ⟨(bf.keepI hg (.inl (Nat.lt_succ_self _))).cell 0, (bf.keepI hg (.inl (Nat.lt_succ_self _))).cell 1, (bf.keepI hg (.inl (Nat.lt_succ_self _))).cell 2, (bf.keepI hg (.inl (Nat.lt_succ_self _))).cell 3, (bf.keepI hg (.inl (Nat.lt_succ_self _))).cell 4, (bf.keepI hg (.inl (Nat.lt_succ_self _))).cell 5, (bf.keepI hg (.inl (Nat.lt_succ_self _))).cell 6, (bf.keepI hg (.inl (Nat.lt_succ_self _))).cell 7, (bf.keepI hg (.inl (Nat.lt_succ_self _))).cell 8, (bf.keepI hg (.inl (Nat.lt_succ_self _))).cell 9, (bf.keepI hg (.inl (Nat.lt_succ_self _))).cell 10, hg⟩
  have G0 := gb_alloc (gb_alloc (gb_refl w) (.cells #[.int .i64 3, .int .i64 id, .slice a1 n1 c1, .slice a2 n2 c2, .int .i64 tick, .slice a3 n3 c3, .slice a4 n4 c4, .int .i64 epoch, .int .i64 seq, .slice a5 n5 c5, .slice a6 n6 c6] 32)) (.cells #[.int .i64 3, .int .i64 0, .slice none 0 0, .slice none 0 0, .int .i64 0, .slice none 0 0, .slice none 0 0, .int .i64 0, .int .i64 0, .slice none 0 0, .slice none 0 0] 32)
  have gc := gbI_drew (gbI.refl (w.heap.size + 1) (w.heap.size + 2) ((w.alloc (.cells #[.int .i64 3, .int .i64 id, .slice a1 n1 c1, .slice a2 n2 c2, .int .i64 tick, .slice a3 n3 c3, .slice a4 n4 c4, .int .i64 epoch, .int .i64 seq, .slice a5 n5 c5, .slice a6 n6 c6] 32)).alloc (.cells #[.int .i64 3, .int .i64 0, .slice none 0 0, .slice none 0 0, .int .i64 0, .slice none 0 0, .slice none 0 0, .int .i64 0, .int .i64 0, .slice none 0 0, .slice none 0 0] 32)))
  replace bq := bq.drew
  refine wp_region_held_drew (S := (fun w' => w'.cell? ⟨w.heap.size, 0, none⟩ = some (.int .i64 3) ∧ w'.cell? ⟨w.heap.size, 1, none⟩ = some (.int .i64 id) ∧ w'.cell? ⟨w.heap.size, 2, none⟩ = some (.slice a1 n1 c1) ∧ w'.cell? ⟨w.heap.size, 3, none⟩ = some (.slice a2 n2 c2) ∧ w'.cell? ⟨w.heap.size, 4, none⟩ = some (.int .i64 tick) ∧ w'.cell? ⟨w.heap.size, 5, none⟩ = some (.slice a3 n3 c3) ∧ w'.cell? ⟨w.heap.size, 6, none⟩ = some (.slice a4 n4 c4) ∧ w'.cell? ⟨w.heap.size, 7, none⟩ = some (.int .i64 epoch) ∧ w'.cell? ⟨w.heap.size, 8, none⟩ = some (.int .i64 seq) ∧ w'.cell? ⟨w.heap.size, 9, none⟩ = some (.slice a5 n5 c5) ∧ w'.cell? ⟨w.heap.size, 10, none⟩ = some (.slice a6 n6 c6) ∧ gbI (w.heap.size + 1) (w.heap.size + 2) ((w.alloc (.cells #[.int .i64 3, .int .i64 id, .slice a1 n1 c1, .slice a2 n2 c2, .int .i64 tick, .slice a3 n3 c3, .slice a4 n4 c4, .int .i64 epoch, .int .i64 seq, .slice a5 n5 c5, .slice a6 n6 c6] 32)).alloc (.cells #[.int .i64 3, .int .i64 0, .slice none 0 0, .slice none 0 0, .int .i64 0, .slice none 0 0, .slice none 0 0, .int .i64 0, .int .i64 0, .slice none 0 0, .slice none 0 0] 32)) w')) (by kernel_rfl) ?_ (fun hHeld => ?_)
  · (try dsimp only)
    refine KX.out _ ?_; exact gc
  refine wpAnyH_takeD (i := 0) (some 65) (v := ?_) rfl rfl (by kernel_rfl) (by kernel_rfl) (by kernel_rfl) (fun _ _ _ h => h) (Or.inl ⟨by rfl, ?_⟩) (by assumption) ?_
  rotate_left
  (focus (intro w hSw; (try dsimp only at hSw); (first | (go_simp; done) | (go_simp; with_reducible rfl) | with_reducible rfl)))
  (try simp only [Act.put]); (try simp only [List.setIfInBounds_toArray]); (try simp only [List.set_cons_succ]); (try simp only [List.set_cons_zero])
  refine wpAnyH_takeD (i := 1) (some 66) (v := ?_) rfl rfl (by kernel_rfl) (by kernel_rfl) (by kernel_rfl) (fun _ _ _ h => h) (Or.inl ⟨by rfl, ?_⟩) (by assumption) ?_
  rotate_left
  (focus (intro w hSw; (try dsimp only at hSw); (first | (go_simp; done) | (go_simp; with_reducible rfl) | with_reducible rfl)))
  (try simp only [Act.put]); (try simp only [List.setIfInBounds_toArray]); (try simp only [List.set_cons_succ]); (try simp only [List.set_cons_zero])
  refine wpAnyH_takeD (i := 2) (some 67) (v := ?_) rfl rfl (by kernel_rfl) (by kernel_rfl) (by kernel_rfl) (fun _ _ _ h => h) (Or.inl ⟨by rfl, ?_⟩) (by assumption) ?_
  rotate_left
  (focus (intro w hSw; (try dsimp only at hSw); (first | (go_simp; done) | (go_simp; with_reducible rfl) | with_reducible rfl)))
  (try simp only [Act.put]); (try simp only [List.setIfInBounds_toArray]); (try simp only [List.set_cons_succ]); (try simp only [List.set_cons_zero])
  refine wpAnyH_takeD (i := 3) (some 68) (v := ?_) rfl rfl (by kernel_rfl) (by kernel_rfl) (by kernel_rfl) (fun _ _ _ h => h) (Or.inl ⟨by rfl, ?_⟩) (by assumption) ?_
  rotate_left
  (focus (intro w hSw; (try dsimp only at hSw); (first | (go_simp; done) | (go_simp; with_reducible rfl) | with_reducible rfl)))
  (try simp only [Act.put]); (try simp only [List.setIfInBounds_toArray]); (try simp only [List.set_cons_succ]); (try simp only [List.set_cons_zero])
  refine wpAnyH_takeD (i := 4) (some 69) (v := ?_) rfl rfl (by kernel_rfl) (by kernel_rfl) (by kernel_rfl) (fun _ _ _ h => h) (Or.inl ⟨by rfl, ?_⟩) (by assumption) ?_
  rotate_left
  (focus (intro w hSw; (try dsimp only at hSw); (first | (go_simp; done) | (go_simp; with_reducible rfl) | with_reducible rfl)))
  (try simp only [Act.put]); (try simp only [List.setIfInBounds_toArray]); (try simp only [List.set_cons_succ]); (try simp only [List.set_cons_zero])
  refine wpAnyH_takeD (i := 5) (some 70) (v := ?_) rfl rfl (by kernel_rfl) (by kernel_rfl) (by kernel_rfl) (fun _ _ _ h => h) (Or.inl ⟨by rfl, ?_⟩) (by assumption) ?_
  rotate_left
  (focus (intro w hSw; (try dsimp only at hSw); (first | (go_simp; done) | (go_simp; with_reducible rfl) | with_reducible rfl)))
  (try simp only [Act.put]); (try simp only [List.setIfInBounds_toArray]); (try simp only [List.set_cons_succ]); (try simp only [List.set_cons_zero])
  refine wpAnyH_takeD (i := 6) (some 71) (v := ?_) rfl rfl (by kernel_rfl) (by kernel_rfl) (by kernel_rfl) (fun _ _ _ h => h) (Or.inl ⟨by rfl, ?_⟩) (by assumption) ?_
  rotate_left
  (focus (intro w hSw; (try dsimp only at hSw); (first | (go_simp; done) | (go_simp; with_reducible rfl) | with_reducible rfl)))
  (try simp only [Act.put]); (try simp only [List.setIfInBounds_toArray]); (try simp only [List.set_cons_succ]); (try simp only [List.set_cons_zero])
  refine wpAnyH_takeD (i := 7) (some 72) (v := ?_) rfl rfl (by kernel_rfl) (by kernel_rfl) (by kernel_rfl) (fun _ _ _ h => h) (Or.inl ⟨by rfl, ?_⟩) (by assumption) ?_
  rotate_left
  (focus (intro w hSw; (try dsimp only at hSw); (first | (go_simp; done) | (go_simp; with_reducible rfl) | with_reducible rfl)))
  (try simp only [Act.put]); (try simp only [List.setIfInBounds_toArray]); (try simp only [List.set_cons_succ]); (try simp only [List.set_cons_zero])
  refine wpAnyH_takeD (i := 8) (some 73) (v := ?_) rfl rfl (by kernel_rfl) (by kernel_rfl) (by kernel_rfl) (fun _ _ _ h => h) (Or.inl ⟨by rfl, ?_⟩) (by assumption) ?_
  rotate_left
  (focus (intro w hSw; (try dsimp only at hSw); (first | (go_simp; done) | (go_simp; with_reducible rfl) | with_reducible rfl)))
  (try simp only [Act.put]); (try simp only [List.setIfInBounds_toArray]); (try simp only [List.set_cons_succ]); (try simp only [List.set_cons_zero])
  refine wpAnyH_takeD (i := 9) (some 74) (v := ?_) rfl rfl (by kernel_rfl) (by kernel_rfl) (by kernel_rfl) (fun _ _ _ h => h) (Or.inl ⟨by rfl, ?_⟩) (by assumption) ?_
  rotate_left
  (focus (intro w hSw; (try dsimp only at hSw); (first | (go_simp; done) | (go_simp; with_reducible rfl) | with_reducible rfl)))
  (try simp only [Act.put]); (try simp only [List.setIfInBounds_toArray]); (try simp only [List.set_cons_succ]); (try simp only [List.set_cons_zero])
  refine wpAnyH_takeD (i := 10) (some 75) (v := ?_) rfl rfl (by kernel_rfl) (by kernel_rfl) (by kernel_rfl) (fun _ _ _ h => h) (Or.inl ⟨by rfl, ?_⟩) (by assumption) ?_
  rotate_left
  (focus (intro w hSw; (try dsimp only at hSw); (first | (go_simp; done) | (go_simp; with_reducible rfl) | with_reducible rfl)))
  (try simp only [Act.put]); (try simp only [List.setIfInBounds_toArray]); (try simp only [List.set_cons_succ]); (try simp only [List.set_cons_zero])
  refine wpAnyH_takeD (i := 11) (some 76) (v := ?_) rfl rfl (by kernel_rfl) (by kernel_rfl) (by kernel_rfl) (fun _ _ _ h => h) (Or.inl ⟨by rfl, ?_⟩) (by assumption) ?_
  rotate_left
  (focus (intro w hSw; (try dsimp only at hSw); (first | (go_simp; done) | (go_simp; with_reducible rfl) | with_reducible rfl)))
  (try simp only [Act.put]); (try simp only [List.setIfInBounds_toArray]); (try simp only [List.set_cons_succ]); (try simp only [List.set_cons_zero])
  refine wpAnyH_takeD (i := 12) (some 77) (v := ?_) rfl rfl (by kernel_rfl) (by kernel_rfl) (by kernel_rfl) (fun _ _ _ h => h) (Or.inl ⟨by rfl, ?_⟩) (by assumption) ?_
  rotate_left
  (focus (intro w hSw; (try dsimp only at hSw); (first | (go_simp; done) | (go_simp; with_reducible rfl) | with_reducible rfl)))
  (try simp only [Act.put]); (try simp only [List.setIfInBounds_toArray]); (try simp only [List.set_cons_succ]); (try simp only [List.set_cons_zero])
  refine wpAnyH_ready (rs := [13]) (by kernel_rfl) (by simp) (AllReadyH.cons rfl (fun K hK => ?_) AllReadyH.nil)
  refine step_set1 rfl rfl 3 _ _ rfl (w.heap.size + 1) 1 (.int .i64 id) rfl rfl 32 _ bq (by simp) si_int rfl rfl ?_
  intro w13 b13 g13
  replace gc := gbI_row gc g13 (Nat.le_refl _) (Nat.lt_succ_self _)
  clear bq
  have bq := b13
  clear b13
  refine hK.out _ _ ?_ (fun hHeld2 => ?_)
  · (try dsimp only)
    refine KX.out _ ?_; exact gc
  clear hK K hHeld
  have hHeld := hHeld2
  clear hHeld2
  (try simp only [Act.put]); (try simp only [List.setIfInBounds_toArray]); (try simp only [List.set_cons_succ]); (try simp only [List.set_cons_zero])
  refine wpAnyH_takeD (i := 14) (some 78) (v := ?_) rfl rfl (by kernel_rfl) (by kernel_rfl) (by kernel_rfl) (fun _ _ _ h => h) (Or.inl ⟨by rfl, ?_⟩) (by assumption) ?_
  rotate_left
  (focus (intro w hSw; (try dsimp only at hSw); (first | (go_simp; done) | (go_simp; with_reducible rfl) | with_reducible rfl)))
  (try simp only [Act.put]); (try simp only [List.setIfInBounds_toArray]); (try simp only [List.set_cons_succ]); (try simp only [List.set_cons_zero])
  refine wpAnyH_ready (rs := [15]) (by kernel_rfl) (by simp) (AllReadyH.cons rfl (fun K hK => ?_) AllReadyH.nil)
  refine step_set1 rfl rfl 22 _ _ rfl (w.heap.size + 1) 2 (.slice a1 n1 c1) rfl rfl 32 _ bq (by simp) si_bytes rfl rfl ?_
  intro w15 b15 g15
  replace gc := gbI_row gc g15 (Nat.le_refl _) (Nat.lt_succ_self _)
  clear bq
  have bq := b15
  clear b15
  refine hK.out _ _ ?_ (fun hHeld2 => ?_)
  · (try dsimp only)
    refine KX.out _ ?_; exact gc
  clear hK K hHeld
  have hHeld := hHeld2
  clear hHeld2
  (try simp only [Act.put]); (try simp only [List.setIfInBounds_toArray]); (try simp only [List.set_cons_succ]); (try simp only [List.set_cons_zero])
  refine wpAnyH_takeD (i := 16) (some 79) (v := ?_) rfl rfl (by kernel_rfl) (by kernel_rfl) (by kernel_rfl) (fun _ _ _ h => h) (Or.inl ⟨by rfl, ?_⟩) (by assumption) ?_
  rotate_left
  (focus (intro w hSw; (try dsimp only at hSw); (first | (go_simp; done) | (go_simp; with_reducible rfl) | with_reducible rfl)))
  (try simp only [Act.put]); (try simp only [List.setIfInBounds_toArray]); (try simp only [List.set_cons_succ]); (try simp only [List.set_cons_zero])
  refine wpAnyH_ready (rs := [17]) (by kernel_rfl) (by simp) (AllReadyH.cons rfl (fun K hK => ?_) AllReadyH.nil)
  refine step_set1 rfl rfl 22 _ _ rfl (w.heap.size + 1) 3 (.slice a2 n2 c2) rfl rfl 32 _ bq (by simp) si_bytes rfl rfl ?_
  intro w17 b17 g17
  replace gc := gbI_row gc g17 (Nat.le_refl _) (Nat.lt_succ_self _)
  clear bq
  have bq := b17
  clear b17
  refine hK.out _ _ ?_ (fun hHeld2 => ?_)
  · (try dsimp only)
    refine KX.out _ ?_; exact gc
  clear hK K hHeld
  have hHeld := hHeld2
  clear hHeld2
  (try simp only [Act.put]); (try simp only [List.setIfInBounds_toArray]); (try simp only [List.set_cons_succ]); (try simp only [List.set_cons_zero])
  refine wpAnyH_takeD (i := 18) (some 80) (v := ?_) rfl rfl (by kernel_rfl) (by kernel_rfl) (by kernel_rfl) (fun _ _ _ h => h) (Or.inl ⟨by rfl, ?_⟩) (by assumption) ?_
  rotate_left
  (focus (intro w hSw; (try dsimp only at hSw); (first | (go_simp; done) | (go_simp; with_reducible rfl) | with_reducible rfl)))
  (try simp only [Act.put]); (try simp only [List.setIfInBounds_toArray]); (try simp only [List.set_cons_succ]); (try simp only [List.set_cons_zero])
  refine wpAnyH_ready (rs := [19]) (by kernel_rfl) (by simp) (AllReadyH.cons rfl (fun K hK => ?_) AllReadyH.nil)
  refine step_set1 rfl rfl 3 _ _ rfl (w.heap.size + 1) 4 (.int .i64 tick) rfl rfl 32 _ bq (by simp) si_int rfl rfl ?_
  intro w19 b19 g19
  replace gc := gbI_row gc g19 (Nat.le_refl _) (Nat.lt_succ_self _)
  clear bq
  have bq := b19
  clear b19
  refine hK.out _ _ ?_ (fun hHeld2 => ?_)
  · (try dsimp only)
    refine KX.out _ ?_; exact gc
  clear hK K hHeld
  have hHeld := hHeld2
  clear hHeld2
  (try simp only [Act.put]); (try simp only [List.setIfInBounds_toArray]); (try simp only [List.set_cons_succ]); (try simp only [List.set_cons_zero])
  refine wpAnyH_takeD (i := 20) (some 81) (v := ?_) rfl rfl (by kernel_rfl) (by kernel_rfl) (by kernel_rfl) (fun _ _ _ h => h) (Or.inl ⟨by rfl, ?_⟩) (by assumption) ?_
  rotate_left
  (focus (intro w hSw; (try dsimp only at hSw); (first | (go_simp; done) | (go_simp; with_reducible rfl) | with_reducible rfl)))
  (try simp only [Act.put]); (try simp only [List.setIfInBounds_toArray]); (try simp only [List.set_cons_succ]); (try simp only [List.set_cons_zero])
  refine wpAnyH_ready (rs := [21]) (by kernel_rfl) (by simp) (AllReadyH.cons rfl (fun K hK => ?_) AllReadyH.nil)
  refine step_set1 rfl rfl 22 _ _ rfl (w.heap.size + 1) 5 (.slice a3 n3 c3) rfl rfl 32 _ bq (by simp) si_bytes rfl rfl ?_
  intro w21 b21 g21
  replace gc := gbI_row gc g21 (Nat.le_refl _) (Nat.lt_succ_self _)
  clear bq
  have bq := b21
  clear b21
  refine hK.out _ _ ?_ (fun hHeld2 => ?_)
  · (try dsimp only)
    refine KX.out _ ?_; exact gc
  clear hK K hHeld
  have hHeld := hHeld2
  clear hHeld2
  (try simp only [Act.put]); (try simp only [List.setIfInBounds_toArray]); (try simp only [List.set_cons_succ]); (try simp only [List.set_cons_zero])
  refine wpAnyH_takeD (i := 22) (some 82) (v := ?_) rfl rfl (by kernel_rfl) (by kernel_rfl) (by kernel_rfl) (fun _ _ _ h => h) (Or.inl ⟨by rfl, ?_⟩) (by assumption) ?_
  rotate_left
  (focus (intro w hSw; (try dsimp only at hSw); (first | (go_simp; done) | (go_simp; with_reducible rfl) | with_reducible rfl)))
  (try simp only [Act.put]); (try simp only [List.setIfInBounds_toArray]); (try simp only [List.set_cons_succ]); (try simp only [List.set_cons_zero])
  refine wpAnyH_ready (rs := [23]) (by kernel_rfl) (by simp) (AllReadyH.cons rfl (fun K hK => ?_) AllReadyH.nil)
  refine step_set1 rfl rfl 22 _ _ rfl (w.heap.size + 1) 6 (.slice a4 n4 c4) rfl rfl 32 _ bq (by simp) si_bytes rfl rfl ?_
  intro w23 b23 g23
  replace gc := gbI_row gc g23 (Nat.le_refl _) (Nat.lt_succ_self _)
  clear bq
  have bq := b23
  clear b23
  refine hK.out _ _ ?_ (fun hHeld2 => ?_)
  · (try dsimp only)
    refine KX.out _ ?_; exact gc
  clear hK K hHeld
  have hHeld := hHeld2
  clear hHeld2
  (try simp only [Act.put]); (try simp only [List.setIfInBounds_toArray]); (try simp only [List.set_cons_succ]); (try simp only [List.set_cons_zero])
  refine wpAnyH_done (by kernel_rfl) ?_ _
  (try dsimp only)
  skip
  have bq' : Bx w23 (w.heap.size + 1) 32 #[.int .i64 3, .int .i64 id, .slice a1 n1 c1, .slice a2 n2 c2, .int .i64 tick, .slice a3 n3 c3, .slice a4 n4 c4, .int .i64 0, .int .i64 0, .slice none 0 0, .slice none 0 0] := bq
  have bf' := bf.keepI gc (.inl (Nat.lt_succ_self _))
  have cf := fun o => bf'.cell o
  have cq := fun o => bq'.cell o
  have zW : ((w.alloc (.cells #[.int .i64 3, .int .i64 id, .slice a1 n1 c1, .slice a2 n2 c2, .int .i64 tick, .slice a3 n3 c3, .slice a4 n4 c4, .int .i64 epoch, .int .i64 seq, .slice a5 n5 c5, .slice a6 n6 c6] 32)).alloc (.cells #[.int .i64 3, .int .i64 0, .slice none 0 0, .slice none 0 0, .int .i64 0, .slice none 0 0, .slice none 0 0, .int .i64 0, .int .i64 0, .slice none 0 0, .slice none 0 0] 32)).heap.size = w.heap.size + 2 := by first | rfl | (simp; done)
  have g0 : w.grownBy w23 none := ⟨gc.os.trans G0.os, gc.tape.trans G0.tape, gc.output.trans G0.output, Nat.le_trans G0.size gc.size, fun k hk hn => (gc.block k (by omega) (.inl (by omega))).trans (G0.block k hk hn)⟩
  have G := Lib.hid g0
  have R := Lib.hid (frameR_mk (kind := 3) (id := id) (tick := tick) (epoch := epoch) (seq := seq) (r1.keep0 g0) (r2.keep0 g0) (r3.keep0 g0) (r4.keep0 g0) (r5.keep0 g0) (r6.keep0 g0))
  have R' := Lib.hid (frameR_mk (kind := 3) (id := id) (tick := tick) (epoch := 0) (seq := 0) (r1.keep0 g0) (r2.keep0 g0) (r3.keep0 g0) (r4.keep0 g0) (rd_nilB _) (rd_nilB _))
  clear g0 r1 r2 r3 r4 r5 r6 gc bq bq' bf bf' KX G0 zW hHeld
  go_wp2_with (first | (go_at_call 34; refine (impl_within _ _ _ _).mono ?_; rintro e w' ⟨rfl, rfl⟩) | (go_at_call 76; refine (impl_isNonce _ _ _ _).mono ?_; rintro e w' ⟨rfl, rfl⟩) | (go_at_call 53; refine (impl_Sealed _ _).mono ?_; rintro e w' ⟨rfl, rfl⟩) | (go_at_call 77; refine (impl_bodyOk _ _ _).mono ?_; rintro e w' ⟨rfl, rfl⟩) | (go_at_call 78; (with_reducible refine (impl_sameFrame _ _ _ _ _ R.out R'.out).mono ?_); rintro e w9 ⟨rfl, g9⟩))
  all_goals
    go_ret
    first
      | (refine ⟨ret_b ?_, gb_trans G.out g9⟩; rw [E.out]; first | (simp [frOkN, not_neN, not_neI, sealed_3, *]; done) | (simp [frOkN, not_neN, not_neI, sealed_3, *]; ac_rfl))
      | (refine ⟨ret_b ?_, G.out⟩; simp [frOkN, not_neN, not_neI, sealed_3, *])
end Go.Proofs.YtpfchphgbhgmmaaGreat
