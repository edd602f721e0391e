/-
  Contracts of the functions that check proofs and cookies. Conditions: none beside those that each theorem names.
-/
import Derived.Test.YtfjbfgonkimboaaKeys4
import Derived.Test.YtfjbfgonkimboaaTagS
import Derived.Test.YtfjbfgonkimboaaFrOk
import Derived.Test.YtfjbfgonkimboaaCell
import Derived.Deep.RegionHeld3
namespace Go.Proofs.Ytfjbfgonkimboaa
open Go.RowKit
def proofOkM (l : List UInt8) (f : FrameM) : Bool := eqI f.kind 3 && (frOk f && sameT f.proof (proofM l f.id f.cn f.sn f.tick f.cookie))
def judgeM (l : List UInt8) (now h p : Int) (f : FrameM) : Int :=
  if ((l.length : Int) == 32) && inB now 0 1000000 && addrOkB h p && eqI f.kind 3 && frOk f then (if freshM now f.tick then (if sameT f.cookie (cookM l h p f.id f.cn f.sn f.tick) then 0 else 2) else 9) else 1
set_option maxRecDepth 1000000 in
set_option maxHeartbeats 4000000 in
theorem impl_ProofOk (a : Option Addr) (n c : Nat) (l : List UInt8) (v : Value) (f : FrameM) (w : World) (r : Rd w a n c (bys l)) (h : FrameR w v f) :
    Calls Try.prog 20 #[.slice a n c, v] w fun e w' => e = .returned (.bool (proofOkM l f)) ∧ w.grownBy w' none := by
  have hR := h
  obtain ⟨a1, n1, c1, a2, n2, c2, a3, n3, c3, a4, n4, c4, a5, n5, c5, a6, n6, c6, rfl, r1, r2, r3, r4, r5, r6⟩ := h
  obtain ⟨kind, id, l1, l2, tick, l3, l4, epoch, seq, l5, l6⟩ := f
  simp only at r1 r2 r3 r4 r5 r6 hR
  have G := gb_alloc (gb_refl w) (.cells #[.int .i64 kind, .int .i64 id, .slice a1 n1 c1, .slice a2 n2 c2, .int .i64 tick, .slice a3 n3 c3, .slice a4 n4 c4, .int .i64 epoch, .int .i64 seq, .slice a5 n5 c5, .slice a6 n6 c6] 24)
  have b0 := bx1 w #[.int .i64 kind, .int .i64 id, .slice a1 n1 c1, .slice a2 n2 c2, .int .i64 tick, .slice a3 n3 c3, .slice a4 n4 c4, .int .i64 epoch, .int .i64 seq, .slice a5 n5 c5, .slice a6 n6 c6] 24
  have R := Lib.hid (hR.keep0 G)
  have KX : Hid (∀ w', (w.alloc (.cells #[.int .i64 kind, .int .i64 id, .slice a1 n1 c1, .slice a2 n2 c2, .int .i64 tick, .slice a3 n3 c3, .slice a4 n4 c4, .int .i64 epoch, .int .i64 seq, .slice a5 n5 c5, .slice a6 n6 c6] 24)).grownBy w' none → (w'.cell? ⟨w.heap.size, 0, none⟩ = some (.int .i64 kind) ∧ w'.cell? ⟨w.heap.size, 1, none⟩ = some (.int .i64 id) ∧ w'.cell? ⟨w.heap.size, 2, none⟩ = some (.slice a1 n1 c1) ∧ w'.cell? ⟨w.heap.size, 3, none⟩ = some (.slice a2 n2 c2) ∧ w'.cell? ⟨w.heap.size, 4, none⟩ = some (.int .i64 tick) ∧ w'.cell? ⟨w.heap.size, 5, none⟩ = some (.slice a3 n3 c3) ∧ w'.cell? ⟨w.heap.size, 6, none⟩ = some (.slice a4 n4 c4) ∧ w'.cell? ⟨w.heap.size, 7, none⟩ = some (.int .i64 epoch) ∧ w'.cell? ⟨w.heap.size, 8, none⟩ = some (.int .i64 seq) ∧ w'.cell? ⟨w.heap.size, 9, none⟩ = some (.slice a5 n5 c5) ∧ w'.cell? ⟨w.heap.size, 10, none⟩ = some (.slice a6 n6 c6) ∧ (w.alloc (.cells #[.int .i64 kind, .int .i64 id, .slice a1 n1 c1, .slice a2 n2 c2, .int .i64 tick, .slice a3 n3 c3, .slice a4 n4 c4, .int .i64 epoch, .int .i64 seq, .slice a5 n5 c5, .slice a6 n6 c6] 24)).grownBy w' none)) := fun w' hg => ⟨(b0.keep0 hg).cell 0, (b0.keep0 hg).cell 1, (b0.keep0 hg).cell 2, (b0.keep0 hg).cell 3, (b0.keep0 hg).cell 4, (b0.keep0 hg).cell 5, (b0.keep0 hg).cell 6, (b0.keep0 hg).cell 7, (b0.keep0 hg).cell 8, (b0.keep0 hg).cell 9, (b0.keep0 hg).cell 10, hg⟩
  clear hR b0
  cases hk : (kind == 3)
  · have E := Lib.hid (show proofOkM l ⟨kind, id, l1, l2, tick, l3, l4, epoch, seq, l5, l6⟩ = false by simp [proofOkM, eqI, hk])
    clear r1 r2 r3 r4 r5 r6 r KX R
    go_enter Try.func20, Try.ntmps20
    go_wp2
    go_quiet (fail)
    go_wp2
    go_ret
    exact ⟨ret_b E.out.symm, gb_drewN G _⟩
  cases hok : frOk ⟨kind, id, l1, l2, tick, l3, l4, epoch, seq, l5, l6⟩
  · have E := Lib.hid (show proofOkM l ⟨kind, id, l1, l2, tick, l3, l4, epoch, seq, l5, l6⟩ = false by simp [proofOkM, hok])
    clear r1 r2 r3 r4 r5 r6 r
    go_enter Try.func20, Try.ntmps20
    go_wp2
    refine wp_region_held_drew (S := (fun w' => w'.cell? ⟨w.heap.size, 0, none⟩ = some (.int .i64 kind) ∧ w'.cell? ⟨w.heap.size, 1, none⟩ = some (.int .i64 id) ∧ w'.cell? ⟨w.heap.size, 2, none⟩ = some (.slice a1 n1 c1) ∧ w'.cell? ⟨w.heap.size, 3, none⟩ = some (.slice a2 n2 c2) ∧ w'.cell? ⟨w.heap.size, 4, none⟩ = some (.int .i64 tick) ∧ w'.cell? ⟨w.heap.size, 5, none⟩ = some (.slice a3 n3 c3) ∧ w'.cell? ⟨w.heap.size, 6, none⟩ = some (.slice a4 n4 c4) ∧ w'.cell? ⟨w.heap.size, 7, none⟩ = some (.int .i64 epoch) ∧ w'.cell? ⟨w.heap.size, 8, none⟩ = some (.int .i64 seq) ∧ w'.cell? ⟨w.heap.size, 9, none⟩ = some (.slice a5 n5 c5) ∧ w'.cell? ⟨w.heap.size, 10, none⟩ = some (.slice a6 n6 c6) ∧ (w.alloc (.cells #[.int .i64 kind, .int .i64 id, .slice a1 n1 c1, .slice a2 n2 c2, .int .i64 tick, .slice a3 n3 c3, .slice a4 n4 c4, .int .i64 epoch, .int .i64 seq, .slice a5 n5 c5, .slice a6 n6 c6] 24)).grownBy w' none)) (by kernel_rfl) ?_ (fun hHeld => ?_)
    · (try dsimp only)
      (refine KX.out _ ?_; (repeat (first | with_reducible exact gb_refl _ | with_reducible refine gb_alloc ?_ _ | with_reducible refine gb_drewN ?_ _ | with_reducible refine gb_drew ?_)))
    refine wpAnyH_takeD (i := 0) (some 5) (v := ?_) rfl rfl (by kernel_rfl) (by kernel_rfl) (by kernel_rfl) (fun _ _ _ h => h) (Or.inl ⟨by rfl, ?_⟩) (by assumption) ?_
    rotate_left
    (focus (intro w hSw; (try dsimp only at hSw); (first | (go_simp; done) | (go_simp; with_reducible rfl) | with_reducible rfl)))
    (try simp only [Act.put]); (try simp only [List.setIfInBounds_toArray]); (try simp only [List.set_cons_succ]); (try simp only [List.set_cons_zero])
    refine wpAnyH_takeD (i := 1) (some 6) (v := ?_) rfl rfl (by kernel_rfl) (by kernel_rfl) (by kernel_rfl) (fun _ _ _ h => h) (Or.inl ⟨by rfl, ?_⟩) (by assumption) ?_
    rotate_left
    (focus (intro w hSw; (try dsimp only at hSw); (first | (go_simp; done) | (go_simp; with_reducible rfl) | with_reducible rfl)))
    (try simp only [Act.put]); (try simp only [List.setIfInBounds_toArray]); (try simp only [List.set_cons_succ]); (try simp only [List.set_cons_zero])
    refine wpAnyH_takeD (i := 2) (some 7) (v := ?_) rfl rfl (by kernel_rfl) (by kernel_rfl) (by kernel_rfl) (fun _ _ _ h => h) (Or.inl ⟨by rfl, ?_⟩) (by assumption) ?_
    rotate_left
    (focus (intro w hSw; (try dsimp only at hSw); (first | (go_simp; done) | (go_simp; with_reducible rfl) | with_reducible rfl)))
    (try simp only [Act.put]); (try simp only [List.setIfInBounds_toArray]); (try simp only [List.set_cons_succ]); (try simp only [List.set_cons_zero])
    refine wpAnyH_takeD (i := 3) (some 8) (v := ?_) rfl rfl (by kernel_rfl) (by kernel_rfl) (by kernel_rfl) (fun _ _ _ h => h) (Or.inl ⟨by rfl, ?_⟩) (by assumption) ?_
    rotate_left
    (focus (intro w hSw; (try dsimp only at hSw); (first | (go_simp; done) | (go_simp; with_reducible rfl) | with_reducible rfl)))
    (try simp only [Act.put]); (try simp only [List.setIfInBounds_toArray]); (try simp only [List.set_cons_succ]); (try simp only [List.set_cons_zero])
    refine wpAnyH_takeD (i := 4) (some 9) (v := ?_) rfl rfl (by kernel_rfl) (by kernel_rfl) (by kernel_rfl) (fun _ _ _ h => h) (Or.inl ⟨by rfl, ?_⟩) (by assumption) ?_
    rotate_left
    (focus (intro w hSw; (try dsimp only at hSw); (first | (go_simp; done) | (go_simp; with_reducible rfl) | with_reducible rfl)))
    (try simp only [Act.put]); (try simp only [List.setIfInBounds_toArray]); (try simp only [List.set_cons_succ]); (try simp only [List.set_cons_zero])
    refine wpAnyH_ready (rs := [5]) (by kernel_rfl) (by simp) (AllReadyH.cons rfl (fun K hK => ?_) AllReadyH.nil)
    go_simp
    (go_at_call 48; refine (impl_FrameOk _ _ _ (FrameR.keep0 R.out (by (repeat (first | with_reducible exact gb_refl _ | with_reducible exact G | with_reducible refine gb_alloc ?_ _ | with_reducible refine gb_drewN ?_ _ | with_reducible refine gb_drew ?_))))).mono ?_; rw [hok]; rintro e w1 ⟨rfl, g1⟩; skip)
    go_wp2_with fail
    refine hK.out _ _ ?_ (fun hHeld2 => ?_)
    · (try dsimp only)
      (refine KX.out _ ?_; (repeat (first | with_reducible exact gb_refl _ | with_reducible refine gb_alloc ?_ _ | with_reducible refine gb_drewN ?_ _ | with_reducible refine gb_drew ?_ | with_reducible refine gb_trans ?_ g1)))
    clear hK K hHeld
    have hHeld := hHeld2
    clear hHeld2
    (try simp only [Act.put]); (try simp only [List.setIfInBounds_toArray]); (try simp only [List.set_cons_succ]); (try simp only [List.set_cons_zero])
    refine wpAnyH_takeD (i := 6) (some 11) (v := ?_) rfl rfl (by kernel_rfl) (by kernel_rfl) (by kernel_rfl) (fun _ _ _ h => h) (Or.inl ⟨by rfl, ?_⟩) (by assumption) ?_
    rotate_left
    (focus (intro w hSw; (try dsimp only at hSw); (first | (go_simp; done) | (go_simp; with_reducible rfl) | with_reducible rfl)))
    (try simp only [Act.put]); (try simp only [List.setIfInBounds_toArray]); (try simp only [List.set_cons_succ]); (try simp only [List.set_cons_zero])
    refine wpAnyH_takeD (i := 7) (some 12) (v := ?_) rfl rfl (by kernel_rfl) (by kernel_rfl) (by kernel_rfl) (fun _ _ _ h => h) (Or.inl ⟨by rfl, ?_⟩) (by assumption) ?_
    rotate_left
    (focus (intro w hSw; (try dsimp only at hSw); (first | (go_simp; done) | (go_simp; with_reducible rfl) | with_reducible rfl)))
    (try simp only [Act.put]); (try simp only [List.setIfInBounds_toArray]); (try simp only [List.set_cons_succ]); (try simp only [List.set_cons_zero])
    refine wpAnyH_skips' 7 true [8, 9, 10, 11, 12, 13, 14, 15, 16, 17, 18, 19, 20, 21, 22] 15 _ rfl (by kernel_rfl) (fun _ _ _ _ h => h) (by rfl) (by assumption) (by kernel_rfl) (by repeat (first | exact trivial | refine ⟨by rfl, ?_⟩)) (L := #[true, true, true, true, true, true, true, true, true, true, true, true, true, true, true, true, true, true, true, true, true, true, true, false, false]) (by kernel_rfl) ?_
    refine wpAnyH_takeD (i := 23) (some 28) (v := ?_) rfl rfl (by kernel_rfl) (by kernel_rfl) (by kernel_rfl) (fun _ _ _ h => h) (Or.inl ⟨by rfl, ?_⟩) (by assumption) ?_
    rotate_left
    (focus (intro w hSw; (try dsimp only at hSw); (first | (go_simp; done) | (go_simp; with_reducible rfl) | with_reducible rfl)))
    (try simp only [Act.put]); (try simp only [List.setIfInBounds_toArray]); (try simp only [List.set_cons_succ]); (try simp only [List.set_cons_zero])
    refine wpAnyH_takeD (i := 24) (some 4) (v := ?_) rfl rfl (by kernel_rfl) (by kernel_rfl) (by kernel_rfl) (fun _ _ _ h => h) (Or.inl ⟨by rfl, ?_⟩) (by assumption) ?_
    rotate_left
    (focus (intro w hSw; (try dsimp only at hSw); (first | (go_simp; done) | (go_simp; with_reducible rfl) | with_reducible rfl)))
    (try simp only [Act.put]); (try simp only [List.setIfInBounds_toArray]); (try simp only [List.set_cons_succ]); (try simp only [List.set_cons_zero])
    refine wpAnyH_done (by kernel_rfl) ?_ _
    go_wp2
    go_ret
    exact ⟨ret_b E.out.symm, by (repeat (first | with_reducible exact gb_refl _ | with_reducible exact G | with_reducible refine gb_alloc ?_ _ | with_reducible refine gb_drewN ?_ _ | with_reducible refine gb_drew ?_ | with_reducible refine gb_trans ?_ g1))⟩
  obtain rfl : kind = 3 := by simpa using hk
  have E := Lib.hid (show proofOkM l ⟨3, id, l1, l2, tick, l3, l4, epoch, seq, l5, l6⟩ = sameT l4 (proofM l id l1 l2 tick l3) by simp [proofOkM, hok, eqI])
  clear hk
  go_enter Try.func20, Try.ntmps20
  go_wp2
  go_region_held3 (fun w' => w'.cell? ⟨w.heap.size, 0, none⟩ = some (.int .i64 3) ∧ w'.cell? ⟨w.heap.size, 1, none⟩ = some (.int .i64 id) ∧ w'.cell? ⟨w.heap.size, 2, none⟩ = some (.slice a1 n1 c1) ∧ w'.cell? ⟨w.heap.size, 3, none⟩ = some (.slice a2 n2 c2) ∧ w'.cell? ⟨w.heap.size, 4, none⟩ = some (.int .i64 tick) ∧ w'.cell? ⟨w.heap.size, 5, none⟩ = some (.slice a3 n3 c3) ∧ w'.cell? ⟨w.heap.size, 6, none⟩ = some (.slice a4 n4 c4) ∧ w'.cell? ⟨w.heap.size, 7, none⟩ = some (.int .i64 epoch) ∧ w'.cell? ⟨w.heap.size, 8, none⟩ = some (.int .i64 seq) ∧ w'.cell? ⟨w.heap.size, 9, none⟩ = some (.slice a5 n5 c5) ∧ w'.cell? ⟨w.heap.size, 10, none⟩ = some (.slice a6 n6 c6) ∧ (w.alloc (.cells #[.int .i64 3, .int .i64 id, .slice a1 n1 c1, .slice a2 n2 c2, .int .i64 tick, .slice a3 n3 c3, .slice a4 n4 c4, .int .i64 epoch, .int .i64 seq, .slice a5 n5 c5, .slice a6 n6 c6] 24)).grownBy w' none)
    ((refine KX.out _ ?_; (repeat (first | with_reducible exact gb_refl _ | with_reducible refine gb_alloc ?_ _ | with_reducible refine gb_drewN ?_ _ | with_reducible refine gb_drew ?_ | with_reducible refine gb_trans ?_ g1 | with_reducible refine gb_trans ?_ g2 | with_reducible refine gb_trans ?_ g3))))
    (first
      | (go_at_call 48; refine (impl_FrameOk _ _ _ (FrameR.keep0 R.out (by (repeat (first | with_reducible exact gb_refl _ | with_reducible exact G | with_reducible refine gb_alloc ?_ _ | with_reducible refine gb_drewN ?_ _ | with_reducible refine gb_drew ?_))))).mono ?_; rw [hok]; rintro e w1 ⟨rfl, g1⟩; skip)
      | (go_at_call 58; refine (impl_Proof a n c l id a1 n1 c1 l1 a2 n2 c2 l2 tick a3 n3 c3 l3 _ (r.keep0 (by (repeat (first | with_reducible exact gb_refl _ | with_reducible exact G | with_reducible refine gb_alloc ?_ _ | with_reducible refine gb_drewN ?_ _ | with_reducible refine gb_drew ?_ | with_reducible refine gb_trans ?_ g1)))) (r1.keep0 (by (repeat (first | with_reducible exact gb_refl _ | with_reducible exact G | with_reducible refine gb_alloc ?_ _ | with_reducible refine gb_drewN ?_ _ | with_reducible refine gb_drew ?_ | with_reducible refine gb_trans ?_ g1)))) (r2.keep0 (by (repeat (first | with_reducible exact gb_refl _ | with_reducible exact G | with_reducible refine gb_alloc ?_ _ | with_reducible refine gb_drewN ?_ _ | with_reducible refine gb_drew ?_ | with_reducible refine gb_trans ?_ g1)))) (r3.keep0 (by (repeat (first | with_reducible exact gb_refl _ | with_reducible exact G | with_reducible refine gb_alloc ?_ _ | with_reducible refine gb_drewN ?_ _ | with_reducible refine gb_drew ?_ | with_reducible refine gb_trans ?_ g1))))).mono ?_; rintro e w2 ⟨b2, m2, d2, rfl, o2, g2⟩; skip)
      | (go_at_call 57; refine (impl_SameTag a4 n4 c4 l4 b2 m2 d2 _ _ (r4.keep0 (by (repeat (first | with_reducible exact gb_refl _ | with_reducible exact G | with_reducible refine gb_alloc ?_ _ | with_reducible refine gb_drewN ?_ _ | with_reducible refine gb_drew ?_ | with_reducible refine gb_trans ?_ g1 | with_reducible refine gb_trans ?_ g2)))) (o2.rd.keep0 (by (repeat (first | with_reducible exact gb_refl _ | with_reducible refine gb_alloc ?_ _ | with_reducible refine gb_drewN ?_ _ | with_reducible refine gb_drew ?_))))).mono ?_; rintro e w3 ⟨rfl, g3⟩; skip)
      | fail)
  go_wp2
  go_ret
  exact ⟨ret_b E.out.symm, by (repeat (first | with_reducible exact gb_refl _ | with_reducible exact G | with_reducible refine gb_alloc ?_ _ | with_reducible refine gb_drewN ?_ _ | with_reducible refine gb_drew ?_ | with_reducible refine gb_trans ?_ g1 | with_reducible refine gb_trans ?_ g2 | with_reducible refine gb_trans ?_ g3))⟩
set_option maxRecDepth 1000000 in
set_option maxHeartbeats 4000000 in
theorem spec_ProofOk (a : Option Addr) (n c : Nat) (l : List UInt8) (v : Value) (f : FrameM) (w : World) (r : Rd w a n c (bys l)) (h : FrameR w v f) :
    Calls Try.prog 18 #[.slice a n c, v] w fun e w' => e = .returned (.bool (proofOkM l f)) ∧ w.grownBy w' none := by
  have hR := h
  obtain ⟨a1, n1, c1, a2, n2, c2, a3, n3, c3, a4, n4, c4, a5, n5, c5, a6, n6, c6, rfl, r1, r2, r3, r4, r5, r6⟩ := h
  obtain ⟨kind, id, l1, l2, tick, l3, l4, epoch, seq, l5, l6⟩ := f
  simp only at r1 r2 r3 r4 r5 r6 hR
  have G := gb_alloc (gb_refl w) (.cells #[.int .i64 kind, .int .i64 id, .slice a1 n1 c1, .slice a2 n2 c2, .int .i64 tick, .slice a3 n3 c3, .slice a4 n4 c4, .int .i64 epoch, .int .i64 seq, .slice a5 n5 c5, .slice a6 n6 c6] 24)
  have b0 := bx1 w #[.int .i64 kind, .int .i64 id, .slice a1 n1 c1, .slice a2 n2 c2, .int .i64 tick, .slice a3 n3 c3, .slice a4 n4 c4, .int .i64 epoch, .int .i64 seq, .slice a5 n5 c5, .slice a6 n6 c6] 24
  have R := Lib.hid (hR.keep0 G)
  have KX : Hid (∀ w', (w.alloc (.cells #[.int .i64 kind, .int .i64 id, .slice a1 n1 c1, .slice a2 n2 c2, .int .i64 tick, .slice a3 n3 c3, .slice a4 n4 c4, .int .i64 epoch, .int .i64 seq, .slice a5 n5 c5, .slice a6 n6 c6] 24)).grownBy w' none → (w'.cell? ⟨w.heap.size, 0, none⟩ = some (.int .i64 kind) ∧ w'.cell? ⟨w.heap.size, 1, none⟩ = some (.int .i64 id) ∧ w'.cell? ⟨w.heap.size, 2, none⟩ = some (.slice a1 n1 c1) ∧ w'.cell? ⟨w.heap.size, 3, none⟩ = some (.slice a2 n2 c2) ∧ w'.cell? ⟨w.heap.size, 4, none⟩ = some (.int .i64 tick) ∧ w'.cell? ⟨w.heap.size, 5, none⟩ = some (.slice a3 n3 c3) ∧ w'.cell? ⟨w.heap.size, 6, none⟩ = some (.slice a4 n4 c4) ∧ w'.cell? ⟨w.heap.size, 7, none⟩ = some (.int .i64 epoch) ∧ w'.cell? ⟨w.heap.size, 8, none⟩ = some (.int .i64 seq) ∧ w'.cell? ⟨w.heap.size, 9, none⟩ = some (.slice a5 n5 c5) ∧ w'.cell? ⟨w.heap.size, 10, none⟩ = some (.slice a6 n6 c6) ∧ (w.alloc (.cells #[.int .i64 kind, .int .i64 id, .slice a1 n1 c1, .slice a2 n2 c2, .int .i64 tick, .slice a3 n3 c3, .slice a4 n4 c4, .int .i64 epoch, .int .i64 seq, .slice a5 n5 c5, .slice a6 n6 c6] 24)).grownBy w' none)) := fun w' hg => ⟨(b0.keep0 hg).cell 0, (b0.keep0 hg).cell 1, (b0.keep0 hg).cell 2, (b0.keep0 hg).cell 3, (b0.keep0 hg).cell 4, (b0.keep0 hg).cell 5, (b0.keep0 hg).cell 6, (b0.keep0 hg).cell 7, (b0.keep0 hg).cell 8, (b0.keep0 hg).cell 9, (b0.keep0 hg).cell 10, hg⟩
  clear hR b0
  cases hok : frOk ⟨kind, id, l1, l2, tick, l3, l4, epoch, seq, l5, l6⟩
  · have E := Lib.hid (show proofOkM l ⟨kind, id, l1, l2, tick, l3, l4, epoch, seq, l5, l6⟩ = false by simp [proofOkM, hok])
    clear r1 r2 r3 r4 r5 r6 r
    go_enter Try.func18, Try.ntmps18
    go_wp2
    refine wp_region_held_drew (S := (fun w' => w'.cell? ⟨w.heap.size, 0, none⟩ = some (.int .i64 kind) ∧ w'.cell? ⟨w.heap.size, 1, none⟩ = some (.int .i64 id) ∧ w'.cell? ⟨w.heap.size, 2, none⟩ = some (.slice a1 n1 c1) ∧ w'.cell? ⟨w.heap.size, 3, none⟩ = some (.slice a2 n2 c2) ∧ w'.cell? ⟨w.heap.size, 4, none⟩ = some (.int .i64 tick) ∧ w'.cell? ⟨w.heap.size, 5, none⟩ = some (.slice a3 n3 c3) ∧ w'.cell? ⟨w.heap.size, 6, none⟩ = some (.slice a4 n4 c4) ∧ w'.cell? ⟨w.heap.size, 7, none⟩ = some (.int .i64 epoch) ∧ w'.cell? ⟨w.heap.size, 8, none⟩ = some (.int .i64 seq) ∧ w'.cell? ⟨w.heap.size, 9, none⟩ = some (.slice a5 n5 c5) ∧ w'.cell? ⟨w.heap.size, 10, none⟩ = some (.slice a6 n6 c6) ∧ (w.alloc (.cells #[.int .i64 kind, .int .i64 id, .slice a1 n1 c1, .slice a2 n2 c2, .int .i64 tick, .slice a3 n3 c3, .slice a4 n4 c4, .int .i64 epoch, .int .i64 seq, .slice a5 n5 c5, .slice a6 n6 c6] 24)).grownBy w' none)) (by kernel_rfl) ?_ (fun hHeld => ?_)
    · (try dsimp only)
      (refine KX.out _ ?_; (repeat (first | with_reducible exact gb_refl _ | with_reducible refine gb_alloc ?_ _ | with_reducible refine gb_drewN ?_ _ | with_reducible refine gb_drew ?_)))
    refine wpAnyH_takeD (i := 0) (some 5) (v := ?_) rfl rfl (by kernel_rfl) (by kernel_rfl) (by kernel_rfl) (fun _ _ _ h => h) (Or.inl ⟨by rfl, ?_⟩) (by assumption) ?_
    rotate_left
    (focus (intro w hSw; (try dsimp only at hSw); (first | (go_simp; done) | (go_simp; with_reducible rfl) | with_reducible rfl)))
    (try simp only [Act.put]); (try simp only [List.setIfInBounds_toArray]); (try simp only [List.set_cons_succ]); (try simp only [List.set_cons_zero])
    refine wpAnyH_ready (rs := [1]) (by kernel_rfl) (by simp) (AllReadyH.cons rfl (fun K hK => ?_) AllReadyH.nil)
    go_simp
    (go_at_call 54; refine (spec_FrameOk _ _ _ (FrameR.keep0 R.out (by (repeat (first | with_reducible exact gb_refl _ | with_reducible exact G | with_reducible refine gb_alloc ?_ _ | with_reducible refine gb_drewN ?_ _ | with_reducible refine gb_drew ?_))))).mono ?_; rw [hok]; rintro e w1 ⟨rfl, g1⟩; skip)
    go_wp2_with fail
    refine hK.out _ _ ?_ (fun hHeld2 => ?_)
    · (try dsimp only)
      (refine KX.out _ ?_; (repeat (first | with_reducible exact gb_refl _ | with_reducible refine gb_alloc ?_ _ | with_reducible refine gb_drewN ?_ _ | with_reducible refine gb_drew ?_ | with_reducible refine gb_trans ?_ g1)))
    clear hK K hHeld
    have hHeld := hHeld2
    clear hHeld2
    (try simp only [Act.put]); (try simp only [List.setIfInBounds_toArray]); (try simp only [List.set_cons_succ]); (try simp only [List.set_cons_zero])
    refine wpAnyH_takeD (i := 2) (some 7) (v := ?_) rfl rfl (by kernel_rfl) (by kernel_rfl) (by kernel_rfl) (fun _ _ _ h => h) (Or.inl ⟨by rfl, ?_⟩) (by assumption) ?_
    rotate_left
    (focus (intro w hSw; (try dsimp only at hSw); (first | (go_simp; done) | (go_simp; with_reducible rfl) | with_reducible rfl)))
    (try simp only [Act.put]); (try simp only [List.setIfInBounds_toArray]); (try simp only [List.set_cons_succ]); (try simp only [List.set_cons_zero])
    refine wpAnyH_skips' 2 true [3, 4, 5] 3 _ rfl (by kernel_rfl) (fun _ _ _ _ h => h) (by rfl) (by assumption) (by kernel_rfl) (by repeat (first | exact trivial | refine ⟨by rfl, ?_⟩)) (L := #[true, true, true, true, true, true, false, false, false, false, false, false, false, false, false, false, false, false, false, false, false, false, false, false, false]) (by kernel_rfl) ?_
    refine wpAnyH_takeD (i := 6) (some 11) (v := ?_) rfl rfl (by kernel_rfl) (by kernel_rfl) (by kernel_rfl) (fun _ _ _ h => h) (Or.inl ⟨by rfl, ?_⟩) (by assumption) ?_
    rotate_left
    (focus (intro w hSw; (try dsimp only at hSw); (first | (go_simp; done) | (go_simp; with_reducible rfl) | with_reducible rfl)))
    (try simp only [Act.put]); (try simp only [List.setIfInBounds_toArray]); (try simp only [List.set_cons_succ]); (try simp only [List.set_cons_zero])
    refine wpAnyH_takeD (i := 7) (some 12) (v := ?_) rfl rfl (by kernel_rfl) (by kernel_rfl) (by kernel_rfl) (fun _ _ _ h => h) (Or.inl ⟨by rfl, ?_⟩) (by assumption) ?_
    rotate_left
    (focus (intro w hSw; (try dsimp only at hSw); (first | (go_simp; done) | (go_simp; with_reducible rfl) | with_reducible rfl)))
    (try simp only [Act.put]); (try simp only [List.setIfInBounds_toArray]); (try simp only [List.set_cons_succ]); (try simp only [List.set_cons_zero])
    refine wpAnyH_skips' 7 true [8, 9, 10, 11, 12, 13, 14, 15, 16, 17, 18, 19, 20, 21, 22] 15 _ rfl (by kernel_rfl) (fun _ _ _ _ h => h) (by rfl) (by assumption) (by kernel_rfl) (by repeat (first | exact trivial | refine ⟨by rfl, ?_⟩)) (L := #[true, true, true, true, true, true, true, true, true, true, true, true, true, true, true, true, true, true, true, true, true, true, true, false, false]) (by kernel_rfl) ?_
    refine wpAnyH_takeD (i := 23) (some 28) (v := ?_) rfl rfl (by kernel_rfl) (by kernel_rfl) (by kernel_rfl) (fun _ _ _ h => h) (Or.inl ⟨by rfl, ?_⟩) (by assumption) ?_
    rotate_left
    (focus (intro w hSw; (try dsimp only at hSw); (first | (go_simp; done) | (go_simp; with_reducible rfl) | with_reducible rfl)))
    (try simp only [Act.put]); (try simp only [List.setIfInBounds_toArray]); (try simp only [List.set_cons_succ]); (try simp only [List.set_cons_zero])
    refine wpAnyH_takeD (i := 24) (some 4) (v := ?_) rfl rfl (by kernel_rfl) (by kernel_rfl) (by kernel_rfl) (fun _ _ _ h => h) (Or.inl ⟨by rfl, ?_⟩) (by assumption) ?_
    rotate_left
    (focus (intro w hSw; (try dsimp only at hSw); (first | (go_simp; done) | (go_simp; with_reducible rfl) | with_reducible rfl)))
    (try simp only [Act.put]); (try simp only [List.setIfInBounds_toArray]); (try simp only [List.set_cons_succ]); (try simp only [List.set_cons_zero])
    refine wpAnyH_done (by kernel_rfl) ?_ _
    go_wp2
    go_ret
    exact ⟨ret_b E.out.symm, by (repeat (first | with_reducible exact gb_refl _ | with_reducible exact G | with_reducible refine gb_alloc ?_ _ | with_reducible refine gb_drewN ?_ _ | with_reducible refine gb_drew ?_ | with_reducible refine gb_trans ?_ g1))⟩
  cases hk : (kind == 3)
  · have E := Lib.hid (show proofOkM l ⟨kind, id, l1, l2, tick, l3, l4, epoch, seq, l5, l6⟩ = false by simp [proofOkM, eqI, hk])
    clear r1 r2 r3 r4 r5 r6 r
    go_enter Try.func18, Try.ntmps18
    go_wp2
    refine wp_region_held_drew (S := (fun w' => w'.cell? ⟨w.heap.size, 0, none⟩ = some (.int .i64 kind) ∧ w'.cell? ⟨w.heap.size, 1, none⟩ = some (.int .i64 id) ∧ w'.cell? ⟨w.heap.size, 2, none⟩ = some (.slice a1 n1 c1) ∧ w'.cell? ⟨w.heap.size, 3, none⟩ = some (.slice a2 n2 c2) ∧ w'.cell? ⟨w.heap.size, 4, none⟩ = some (.int .i64 tick) ∧ w'.cell? ⟨w.heap.size, 5, none⟩ = some (.slice a3 n3 c3) ∧ w'.cell? ⟨w.heap.size, 6, none⟩ = some (.slice a4 n4 c4) ∧ w'.cell? ⟨w.heap.size, 7, none⟩ = some (.int .i64 epoch) ∧ w'.cell? ⟨w.heap.size, 8, none⟩ = some (.int .i64 seq) ∧ w'.cell? ⟨w.heap.size, 9, none⟩ = some (.slice a5 n5 c5) ∧ w'.cell? ⟨w.heap.size, 10, none⟩ = some (.slice a6 n6 c6) ∧ (w.alloc (.cells #[.int .i64 kind, .int .i64 id, .slice a1 n1 c1, .slice a2 n2 c2, .int .i64 tick, .slice a3 n3 c3, .slice a4 n4 c4, .int .i64 epoch, .int .i64 seq, .slice a5 n5 c5, .slice a6 n6 c6] 24)).grownBy w' none)) (by kernel_rfl) ?_ (fun hHeld => ?_)
    · (try dsimp only)
      (refine KX.out _ ?_; (repeat (first | with_reducible exact gb_refl _ | with_reducible refine gb_alloc ?_ _ | with_reducible refine gb_drewN ?_ _ | with_reducible refine gb_drew ?_)))
    refine wpAnyH_takeD (i := 0) (some 5) (v := ?_) rfl rfl (by kernel_rfl) (by kernel_rfl) (by kernel_rfl) (fun _ _ _ h => h) (Or.inl ⟨by rfl, ?_⟩) (by assumption) ?_
    rotate_left
    (focus (intro w hSw; (try dsimp only at hSw); (first | (go_simp; done) | (go_simp; with_reducible rfl) | with_reducible rfl)))
    (try simp only [Act.put]); (try simp only [List.setIfInBounds_toArray]); (try simp only [List.set_cons_succ]); (try simp only [List.set_cons_zero])
    refine wpAnyH_ready (rs := [1]) (by kernel_rfl) (by simp) (AllReadyH.cons rfl (fun K hK => ?_) AllReadyH.nil)
    go_simp
    (go_at_call 54; refine (spec_FrameOk _ _ _ (FrameR.keep0 R.out (by (repeat (first | with_reducible exact gb_refl _ | with_reducible exact G | with_reducible refine gb_alloc ?_ _ | with_reducible refine gb_drewN ?_ _ | with_reducible refine gb_drew ?_))))).mono ?_; rw [hok]; rintro e w1 ⟨rfl, g1⟩; skip)
    go_wp2_with fail
    refine hK.out _ _ ?_ (fun hHeld2 => ?_)
    · (try dsimp only)
      (refine KX.out _ ?_; (repeat (first | with_reducible exact gb_refl _ | with_reducible refine gb_alloc ?_ _ | with_reducible refine gb_drewN ?_ _ | with_reducible refine gb_drew ?_ | with_reducible refine gb_trans ?_ g1)))
    clear hK K hHeld
    have hHeld := hHeld2
    clear hHeld2
    (try simp only [Act.put]); (try simp only [List.setIfInBounds_toArray]); (try simp only [List.set_cons_succ]); (try simp only [List.set_cons_zero])
    refine wpAnyH_takeD (i := 2) (some 7) (v := ?_) rfl rfl (by kernel_rfl) (by kernel_rfl) (by kernel_rfl) (fun _ _ _ h => h) (Or.inl ⟨by rfl, ?_⟩) (by assumption) ?_
    rotate_left
    (focus (intro w hSw; (try dsimp only at hSw); (first | (go_simp; done) | (go_simp; with_reducible rfl) | with_reducible rfl)))
    (try simp only [Act.put]); (try simp only [List.setIfInBounds_toArray]); (try simp only [List.set_cons_succ]); (try simp only [List.set_cons_zero])
    refine wpAnyH_takeD (i := 3) (some 8) (v := ?_) rfl rfl (by kernel_rfl) (by kernel_rfl) (by kernel_rfl) (fun _ _ _ h => h) (Or.inl ⟨by rfl, ?_⟩) (by assumption) ?_
    rotate_left
    (focus (intro w hSw; (try dsimp only at hSw); (first | (go_simp; done) | (go_simp; with_reducible rfl) | with_reducible rfl)))
    (try simp only [Act.put]); (try simp only [List.setIfInBounds_toArray]); (try simp only [List.set_cons_succ]); (try simp only [List.set_cons_zero])
    refine wpAnyH_takeD (i := 4) (some 9) (v := ?_) rfl rfl (by kernel_rfl) (by kernel_rfl) (by kernel_rfl) (fun _ _ _ h => h) (Or.inl ⟨by rfl, ?_⟩) (by assumption) ?_
    rotate_left
    (focus (intro w hSw; (try dsimp only at hSw); (first | (go_simp; done) | (go_simp; with_reducible rfl) | with_reducible rfl)))
    (try simp only [Act.put]); (try simp only [List.setIfInBounds_toArray]); (try simp only [List.set_cons_succ]); (try simp only [List.set_cons_zero])
    refine wpAnyH_takeD (i := 5) (some 10) (v := ?_) rfl rfl (by kernel_rfl) (by kernel_rfl) (by kernel_rfl) (fun _ _ _ h => h) (Or.inl ⟨by rfl, ?_⟩) (by assumption) ?_
    rotate_left
    (focus (intro w hSw; (try dsimp only at hSw); (first | (go_simp; done) | (go_simp; with_reducible rfl) | with_reducible rfl)))
    (try simp only [Act.put]); (try simp only [List.setIfInBounds_toArray]); (try simp only [List.set_cons_succ]); (try simp only [List.set_cons_zero])
    refine wpAnyH_takeD (i := 6) (some 11) (v := ?_) rfl rfl (by kernel_rfl) (by kernel_rfl) (by kernel_rfl) (fun _ _ _ h => h) (Or.inl ⟨by rfl, ?_⟩) (by assumption) ?_
    rotate_left
    (focus (intro w hSw; (try dsimp only at hSw); (first | (go_simp; done) | (go_simp; with_reducible rfl) | with_reducible rfl)))
    (try simp only [Act.put]); (try simp only [List.setIfInBounds_toArray]); (try simp only [List.set_cons_succ]); (try simp only [List.set_cons_zero])
    refine wpAnyH_takeD (i := 7) (some 12) (v := ?_) rfl rfl (by kernel_rfl) (by kernel_rfl) (by kernel_rfl) (fun _ _ _ h => h) (Or.inl ⟨by rfl, ?_⟩) (by assumption) ?_
    rotate_left
    (focus (intro w hSw; (try dsimp only at hSw); (first | (go_simp; done) | (go_simp; with_reducible rfl) | with_reducible rfl)))
    (try simp only [Act.put]); (try simp only [List.setIfInBounds_toArray]); (try simp only [List.set_cons_succ]); (try simp only [List.set_cons_zero])
    refine wpAnyH_skips' 7 true [8, 9, 10, 11, 12, 13, 14, 15, 16, 17, 18, 19, 20, 21, 22] 15 _ rfl (by kernel_rfl) (fun _ _ _ _ h => h) (by rfl) (by assumption) (by kernel_rfl) (by repeat (first | exact trivial | refine ⟨by rfl, ?_⟩)) (L := #[true, true, true, true, true, true, true, true, true, true, true, true, true, true, true, true, true, true, true, true, true, true, true, false, false]) (by kernel_rfl) ?_
    refine wpAnyH_takeD (i := 23) (some 28) (v := ?_) rfl rfl (by kernel_rfl) (by kernel_rfl) (by kernel_rfl) (fun _ _ _ h => h) (Or.inl ⟨by rfl, ?_⟩) (by assumption) ?_
    rotate_left
    (focus (intro w hSw; (try dsimp only at hSw); (first | (go_simp; done) | (go_simp; with_reducible rfl) | with_reducible rfl)))
    (try simp only [Act.put]); (try simp only [List.setIfInBounds_toArray]); (try simp only [List.set_cons_succ]); (try simp only [List.set_cons_zero])
    refine wpAnyH_takeD (i := 24) (some 4) (v := ?_) rfl rfl (by kernel_rfl) (by kernel_rfl) (by kernel_rfl) (fun _ _ _ h => h) (Or.inl ⟨by rfl, ?_⟩) (by assumption) ?_
    rotate_left
    (focus (intro w hSw; (try dsimp only at hSw); (first | (go_simp; done) | (go_simp; with_reducible rfl) | with_reducible rfl)))
    (try simp only [Act.put]); (try simp only [List.setIfInBounds_toArray]); (try simp only [List.set_cons_succ]); (try simp only [List.set_cons_zero])
    refine wpAnyH_done (by kernel_rfl) ?_ _
    go_wp2
    go_ret
    exact ⟨ret_b E.out.symm, by (repeat (first | with_reducible exact gb_refl _ | with_reducible exact G | with_reducible refine gb_alloc ?_ _ | with_reducible refine gb_drewN ?_ _ | with_reducible refine gb_drew ?_ | with_reducible refine gb_trans ?_ g1))⟩
  obtain rfl : kind = 3 := by simpa using hk
  have E := Lib.hid (show proofOkM l ⟨3, id, l1, l2, tick, l3, l4, epoch, seq, l5, l6⟩ = sameT l4 (proofM l id l1 l2 tick l3) by simp [proofOkM, hok, eqI])
  clear hk
  go_enter Try.func18, Try.ntmps18
  go_wp2
  go_region_held3 (fun w' => w'.cell? ⟨w.heap.size, 0, none⟩ = some (.int .i64 3) ∧ w'.cell? ⟨w.heap.size, 1, none⟩ = some (.int .i64 id) ∧ w'.cell? ⟨w.heap.size, 2, none⟩ = some (.slice a1 n1 c1) ∧ w'.cell? ⟨w.heap.size, 3, none⟩ = some (.slice a2 n2 c2) ∧ w'.cell? ⟨w.heap.size, 4, none⟩ = some (.int .i64 tick) ∧ w'.cell? ⟨w.heap.size, 5, none⟩ = some (.slice a3 n3 c3) ∧ w'.cell? ⟨w.heap.size, 6, none⟩ = some (.slice a4 n4 c4) ∧ w'.cell? ⟨w.heap.size, 7, none⟩ = some (.int .i64 epoch) ∧ w'.cell? ⟨w.heap.size, 8, none⟩ = some (.int .i64 seq) ∧ w'.cell? ⟨w.heap.size, 9, none⟩ = some (.slice a5 n5 c5) ∧ w'.cell? ⟨w.heap.size, 10, none⟩ = some (.slice a6 n6 c6) ∧ (w.alloc (.cells #[.int .i64 3, .int .i64 id, .slice a1 n1 c1, .slice a2 n2 c2, .int .i64 tick, .slice a3 n3 c3, .slice a4 n4 c4, .int .i64 epoch, .int .i64 seq, .slice a5 n5 c5, .slice a6 n6 c6] 24)).grownBy w' none)
    ((refine KX.out _ ?_; (repeat (first | with_reducible exact gb_refl _ | with_reducible refine gb_alloc ?_ _ | with_reducible refine gb_drewN ?_ _ | with_reducible refine gb_drew ?_ | with_reducible refine gb_trans ?_ g1 | with_reducible refine gb_trans ?_ g2 | with_reducible refine gb_trans ?_ g3))))
    (first
      | (go_at_call 54; refine (spec_FrameOk _ _ _ (FrameR.keep0 R.out (by (repeat (first | with_reducible exact gb_refl _ | with_reducible exact G | with_reducible refine gb_alloc ?_ _ | with_reducible refine gb_drewN ?_ _ | with_reducible refine gb_drew ?_))))).mono ?_; rw [hok]; rintro e w1 ⟨rfl, g1⟩; skip)
      | (go_at_call 56; refine (spec_Proof a n c l id a1 n1 c1 l1 a2 n2 c2 l2 tick a3 n3 c3 l3 _ (r.keep0 (by (repeat (first | with_reducible exact gb_refl _ | with_reducible exact G | with_reducible refine gb_alloc ?_ _ | with_reducible refine gb_drewN ?_ _ | with_reducible refine gb_drew ?_ | with_reducible refine gb_trans ?_ g1)))) (r1.keep0 (by (repeat (first | with_reducible exact gb_refl _ | with_reducible exact G | with_reducible refine gb_alloc ?_ _ | with_reducible refine gb_drewN ?_ _ | with_reducible refine gb_drew ?_ | with_reducible refine gb_trans ?_ g1)))) (r2.keep0 (by (repeat (first | with_reducible exact gb_refl _ | with_reducible exact G | with_reducible refine gb_alloc ?_ _ | with_reducible refine gb_drewN ?_ _ | with_reducible refine gb_drew ?_ | with_reducible refine gb_trans ?_ g1)))) (r3.keep0 (by (repeat (first | with_reducible exact gb_refl _ | with_reducible exact G | with_reducible refine gb_alloc ?_ _ | with_reducible refine gb_drewN ?_ _ | with_reducible refine gb_drew ?_ | with_reducible refine gb_trans ?_ g1))))).mono ?_; rintro e w2 ⟨b2, m2, d2, rfl, o2, g2⟩; skip)
      | (go_at_call 55; refine (spec_SameTag a4 n4 c4 l4 b2 m2 d2 _ _ (r4.keep0 (by (repeat (first | with_reducible exact gb_refl _ | with_reducible exact G | with_reducible refine gb_alloc ?_ _ | with_reducible refine gb_drewN ?_ _ | with_reducible refine gb_drew ?_ | with_reducible refine gb_trans ?_ g1 | with_reducible refine gb_trans ?_ g2)))) (o2.rd.keep0 (by (repeat (first | with_reducible exact gb_refl _ | with_reducible refine gb_alloc ?_ _ | with_reducible refine gb_drewN ?_ _ | with_reducible refine gb_drew ?_))))).mono ?_; rintro e w3 ⟨rfl, g3⟩; skip)
      | fail)
  go_wp2
  go_ret
  exact ⟨ret_b E.out.symm, by (repeat (first | with_reducible exact gb_refl _ | with_reducible exact G | with_reducible refine gb_alloc ?_ _ | with_reducible refine gb_drewN ?_ _ | with_reducible refine gb_drew ?_ | with_reducible refine gb_trans ?_ g1 | with_reducible refine gb_trans ?_ g2 | with_reducible refine gb_trans ?_ g3))⟩
set_option maxRecDepth 1000000 in
set_option maxHeartbeats 4000000 in
theorem impl_Judge (a : Option Addr) (n c : Nat) (l : List UInt8) (now h p : Int) (v : Value) (f : FrameM) (w : World) (r : Rd w a n c (bys l)) (hf : FrameR w v f) :
    Calls Try.prog 25 #[.agg #[.slice a n c], .int .i64 now, .agg #[.int .i64 h, .int .i64 p], v] w fun e w' => e = .returned (.int .i64 (judgeM l now h p f)) ∧ w.grownBy w' none := by
  have hR := hf
  obtain ⟨a1, n1, c1, a2, n2, c2, a3, n3, c3, a4, n4, c4, a5, n5, c5, a6, n6, c6, rfl, r1, r2, r3, r4, r5, r6⟩ := hf
  obtain ⟨kind, id, l1, l2, tick, l3, l4, epoch, seq, l5, l6⟩ := f
  simp only at r1 r2 r3 r4 r5 r6 hR
  have L := Lib.hid r.blen
  have g0 := gb_alloc (gb_alloc (gb_alloc (gb_refl w) (.cells #[.slice a n c] 44)) (.cells #[.int .i64 h, .int .i64 p] 46)) (.cells #[.int .i64 kind, .int .i64 id, .slice a1 n1 c1, .slice a2 n2 c2, .int .i64 tick, .slice a3 n3 c3, .slice a4 n4 c4, .int .i64 epoch, .int .i64 seq, .slice a5 n5 c5, .slice a6 n6 c6] 24)
  have bb := bx3 w #[.slice a n c] #[.int .i64 h, .int .i64 p] #[.int .i64 kind, .int .i64 id, .slice a1 n1 c1, .slice a2 n2 c2, .int .i64 tick, .slice a3 n3 c3, .slice a4 n4 c4, .int .i64 epoch, .int .i64 seq, .slice a5 n5 c5, .slice a6 n6 c6] 44 46 24
  have R := Lib.hid (hR.keep0 g0)
  clear hR
  cases e1 : ((n : Int) == 32)
  · have e2 : True := trivial
    have e3 : True := trivial
    have hk : True := trivial
    have hok : True := trivial
    have E := Lib.hid (show judgeM l now h p ⟨kind, id, l1, l2, tick, l3, l4, epoch, seq, l5, l6⟩ = 1 by simp [judgeM, eqI, L.out, e1])
    have G := g0
    clear g0
    go_enter Try.func25, Try.ntmps25
    go_wp2_with (first
      | (go_at_call 64; refine (impl_JarOk a n c _).mono ?_; rw [e1]; rintro e w1 ⟨rfl, g1⟩; have q0 := bb.1.keep0 g1; have q1 := bb.2.1.keep0 g1; have q2 := bb.2.2.keep0 g1; have cc0 := fun o => q0.cell o; have cc1 := fun o => q1.cell o; have cc2 := fun o => q2.cell o; have ll := q2.lt; replace G := gb_trans G g1)
      | (go_at_call 65; refine (impl_within _ _ _ _).mono ?_; rintro e w' ⟨rfl, rfl⟩)
      | (go_at_call 66; refine (impl_AddrOk h p _).mono ?_; rintro e w2 ⟨rfl, g2⟩; replace q0 := q0.keep0 g2; replace q1 := q1.keep0 g2; replace q2 := q2.keep0 g2; clear cc0 cc1 cc2 ll; have cc0 := fun o => q0.cell o; have cc1 := fun o => q1.cell o; have cc2 := fun o => q2.cell o; have ll := q2.lt; replace G := gb_trans G g2)
      | (go_at_call 48; refine (impl_FrameOk _ _ _ (FrameR.keep0 R.out (gb_trans g1 g2))).mono ?_; rw [hok]; rintro e w3 ⟨rfl, g3⟩; replace q0 := q0.keep0 g3; replace q1 := q1.keep0 g3; replace q2 := q2.keep0 g3; clear cc0 cc1 cc2 ll; have cc0 := fun o => q0.cell o; have cc1 := fun o => q1.cell o; have cc2 := fun o => q2.cell o; have ll := q2.lt; replace G := gb_trans G g3))
    go_ret
    exact ⟨ret_i E.out.symm, G⟩
  cases e2 : inB now 0 1000000
  · have e3 : True := trivial
    have hk : True := trivial
    have hok : True := trivial
    have E := Lib.hid (show judgeM l now h p ⟨kind, id, l1, l2, tick, l3, l4, epoch, seq, l5, l6⟩ = 1 by simp [judgeM, eqI, L.out, e1, e2])
    have G := g0
    clear g0
    go_enter Try.func25, Try.ntmps25
    go_wp2_with (first
      | (go_at_call 64; refine (impl_JarOk a n c _).mono ?_; rw [e1]; rintro e w1 ⟨rfl, g1⟩; have q0 := bb.1.keep0 g1; have q1 := bb.2.1.keep0 g1; have q2 := bb.2.2.keep0 g1; have cc0 := fun o => q0.cell o; have cc1 := fun o => q1.cell o; have cc2 := fun o => q2.cell o; have ll := q2.lt; replace G := gb_trans G g1)
      | (go_at_call 65; refine (impl_within _ _ _ _).mono ?_; rintro e w' ⟨rfl, rfl⟩)
      | (go_at_call 66; refine (impl_AddrOk h p _).mono ?_; rintro e w2 ⟨rfl, g2⟩; replace q0 := q0.keep0 g2; replace q1 := q1.keep0 g2; replace q2 := q2.keep0 g2; clear cc0 cc1 cc2 ll; have cc0 := fun o => q0.cell o; have cc1 := fun o => q1.cell o; have cc2 := fun o => q2.cell o; have ll := q2.lt; replace G := gb_trans G g2)
      | (go_at_call 48; refine (impl_FrameOk _ _ _ (FrameR.keep0 R.out (gb_trans g1 g2))).mono ?_; rw [hok]; rintro e w3 ⟨rfl, g3⟩; replace q0 := q0.keep0 g3; replace q1 := q1.keep0 g3; replace q2 := q2.keep0 g3; clear cc0 cc1 cc2 ll; have cc0 := fun o => q0.cell o; have cc1 := fun o => q1.cell o; have cc2 := fun o => q2.cell o; have ll := q2.lt; replace G := gb_trans G g3))
    go_ret
    exact ⟨ret_i E.out.symm, G⟩
  cases e3 : addrOkB h p
  · have hk : True := trivial
    have hok : True := trivial
    have E := Lib.hid (show judgeM l now h p ⟨kind, id, l1, l2, tick, l3, l4, epoch, seq, l5, l6⟩ = 1 by simp [judgeM, eqI, L.out, e1, e2, e3])
    have G := g0
    clear g0
    go_enter Try.func25, Try.ntmps25
    go_wp2_with (first
      | (go_at_call 64; refine (impl_JarOk a n c _).mono ?_; rw [e1]; rintro e w1 ⟨rfl, g1⟩; have q0 := bb.1.keep0 g1; have q1 := bb.2.1.keep0 g1; have q2 := bb.2.2.keep0 g1; have cc0 := fun o => q0.cell o; have cc1 := fun o => q1.cell o; have cc2 := fun o => q2.cell o; have ll := q2.lt; replace G := gb_trans G g1)
      | (go_at_call 65; refine (impl_within _ _ _ _).mono ?_; rintro e w' ⟨rfl, rfl⟩)
      | (go_at_call 66; refine (impl_AddrOk h p _).mono ?_; rintro e w2 ⟨rfl, g2⟩; replace q0 := q0.keep0 g2; replace q1 := q1.keep0 g2; replace q2 := q2.keep0 g2; clear cc0 cc1 cc2 ll; have cc0 := fun o => q0.cell o; have cc1 := fun o => q1.cell o; have cc2 := fun o => q2.cell o; have ll := q2.lt; replace G := gb_trans G g2)
      | (go_at_call 48; refine (impl_FrameOk _ _ _ (FrameR.keep0 R.out (gb_trans g1 g2))).mono ?_; rw [hok]; rintro e w3 ⟨rfl, g3⟩; replace q0 := q0.keep0 g3; replace q1 := q1.keep0 g3; replace q2 := q2.keep0 g3; clear cc0 cc1 cc2 ll; have cc0 := fun o => q0.cell o; have cc1 := fun o => q1.cell o; have cc2 := fun o => q2.cell o; have ll := q2.lt; replace G := gb_trans G g3))
    go_ret
    exact ⟨ret_i E.out.symm, G⟩
  cases hk : (kind == 3)
  · have hk2 : (kind != 3) = true := by simpa using hk
    cases hok : frOk ⟨kind, id, l1, l2, tick, l3, l4, epoch, seq, l5, l6⟩
    · have E := Lib.hid (show judgeM l now h p ⟨kind, id, l1, l2, tick, l3, l4, epoch, seq, l5, l6⟩ = 1 by simp [judgeM, eqI, L.out, e1, e2, e3, hk])
      have G := g0
      clear g0
      go_enter Try.func25, Try.ntmps25
      go_wp2_with (first
        | (go_at_call 64; refine (impl_JarOk a n c _).mono ?_; rw [e1]; rintro e w1 ⟨rfl, g1⟩; have q0 := bb.1.keep0 g1; have q1 := bb.2.1.keep0 g1; have q2 := bb.2.2.keep0 g1; have cc0 := fun o => q0.cell o; have cc1 := fun o => q1.cell o; have cc2 := fun o => q2.cell o; have ll := q2.lt; replace G := gb_trans G g1)
        | (go_at_call 65; refine (impl_within _ _ _ _).mono ?_; rintro e w' ⟨rfl, rfl⟩)
        | (go_at_call 66; refine (impl_AddrOk h p _).mono ?_; rintro e w2 ⟨rfl, g2⟩; replace q0 := q0.keep0 g2; replace q1 := q1.keep0 g2; replace q2 := q2.keep0 g2; clear cc0 cc1 cc2 ll; have cc0 := fun o => q0.cell o; have cc1 := fun o => q1.cell o; have cc2 := fun o => q2.cell o; have ll := q2.lt; replace G := gb_trans G g2)
        | (go_at_call 48; refine (impl_FrameOk _ _ _ (FrameR.keep0 R.out (gb_trans g1 g2))).mono ?_; rw [hok]; rintro e w3 ⟨rfl, g3⟩; replace q0 := q0.keep0 g3; replace q1 := q1.keep0 g3; replace q2 := q2.keep0 g3; clear cc0 cc1 cc2 ll; have cc0 := fun o => q0.cell o; have cc1 := fun o => q1.cell o; have cc2 := fun o => q2.cell o; have ll := q2.lt; replace G := gb_trans G g3))
      go_ret
      exact ⟨ret_i E.out.symm, G⟩
    · have E := Lib.hid (show judgeM l now h p ⟨kind, id, l1, l2, tick, l3, l4, epoch, seq, l5, l6⟩ = 1 by simp [judgeM, eqI, L.out, e1, e2, e3, hk])
      have G := g0
      clear g0
      go_enter Try.func25, Try.ntmps25
      go_wp2_with (first
        | (go_at_call 64; refine (impl_JarOk a n c _).mono ?_; rw [e1]; rintro e w1 ⟨rfl, g1⟩; have q0 := bb.1.keep0 g1; have q1 := bb.2.1.keep0 g1; have q2 := bb.2.2.keep0 g1; have cc0 := fun o => q0.cell o; have cc1 := fun o => q1.cell o; have cc2 := fun o => q2.cell o; have ll := q2.lt; replace G := gb_trans G g1)
        | (go_at_call 65; refine (impl_within _ _ _ _).mono ?_; rintro e w' ⟨rfl, rfl⟩)
        | (go_at_call 66; refine (impl_AddrOk h p _).mono ?_; rintro e w2 ⟨rfl, g2⟩; replace q0 := q0.keep0 g2; replace q1 := q1.keep0 g2; replace q2 := q2.keep0 g2; clear cc0 cc1 cc2 ll; have cc0 := fun o => q0.cell o; have cc1 := fun o => q1.cell o; have cc2 := fun o => q2.cell o; have ll := q2.lt; replace G := gb_trans G g2)
        | (go_at_call 48; refine (impl_FrameOk _ _ _ (FrameR.keep0 R.out (gb_trans g1 g2))).mono ?_; rw [hok]; rintro e w3 ⟨rfl, g3⟩; replace q0 := q0.keep0 g3; replace q1 := q1.keep0 g3; replace q2 := q2.keep0 g3; clear cc0 cc1 cc2 ll; have cc0 := fun o => q0.cell o; have cc1 := fun o => q1.cell o; have cc2 := fun o => q2.cell o; have ll := q2.lt; replace G := gb_trans G g3))
      go_ret
      exact ⟨ret_i E.out.symm, G⟩
  cases hok : frOk ⟨kind, id, l1, l2, tick, l3, l4, epoch, seq, l5, l6⟩
  · have hk2 : (kind != 3) = false := by simpa using hk
    have E := Lib.hid (show judgeM l now h p ⟨kind, id, l1, l2, tick, l3, l4, epoch, seq, l5, l6⟩ = 1 by simp [judgeM, eqI, L.out, e1, e2, e3, hok])
    have G := g0
    clear g0
    go_enter Try.func25, Try.ntmps25
    go_wp2_with (first
      | (go_at_call 64; refine (impl_JarOk a n c _).mono ?_; rw [e1]; rintro e w1 ⟨rfl, g1⟩; have q0 := bb.1.keep0 g1; have q1 := bb.2.1.keep0 g1; have q2 := bb.2.2.keep0 g1; have cc0 := fun o => q0.cell o; have cc1 := fun o => q1.cell o; have cc2 := fun o => q2.cell o; have ll := q2.lt; replace G := gb_trans G g1)
      | (go_at_call 65; refine (impl_within _ _ _ _).mono ?_; rintro e w' ⟨rfl, rfl⟩)
      | (go_at_call 66; refine (impl_AddrOk h p _).mono ?_; rintro e w2 ⟨rfl, g2⟩; replace q0 := q0.keep0 g2; replace q1 := q1.keep0 g2; replace q2 := q2.keep0 g2; clear cc0 cc1 cc2 ll; have cc0 := fun o => q0.cell o; have cc1 := fun o => q1.cell o; have cc2 := fun o => q2.cell o; have ll := q2.lt; replace G := gb_trans G g2)
      | (go_at_call 48; refine (impl_FrameOk _ _ _ (FrameR.keep0 R.out (gb_trans g1 g2))).mono ?_; rw [hok]; rintro e w3 ⟨rfl, g3⟩; replace q0 := q0.keep0 g3; replace q1 := q1.keep0 g3; replace q2 := q2.keep0 g3; clear cc0 cc1 cc2 ll; have cc0 := fun o => q0.cell o; have cc1 := fun o => q1.cell o; have cc2 := fun o => q2.cell o; have ll := q2.lt; replace G := gb_trans G g3))
    go_ret
    exact ⟨ret_i E.out.symm, G⟩
  obtain rfl : kind = 3 := by simpa using hk
  clear hk
  cases hf : freshM now tick
  · have E := Lib.hid (show judgeM l now h p ⟨3, id, l1, l2, tick, l3, l4, epoch, seq, l5, l6⟩ = 9 by simp [judgeM, eqI, L.out, e1, e2, e3, hok, hf])
    have G := g0
    clear g0
    go_enter Try.func25, Try.ntmps25
    go_wp2_with (first
      | (go_at_call 64; refine (impl_JarOk a n c _).mono ?_; rw [e1]; rintro e w1 ⟨rfl, g1⟩; have q0 := bb.1.keep0 g1; have q1 := bb.2.1.keep0 g1; have q2 := bb.2.2.keep0 g1; have cc0 := fun o => q0.cell o; have cc1 := fun o => q1.cell o; have cc2 := fun o => q2.cell o; have ll := q2.lt; replace G := gb_trans G g1)
      | (go_at_call 65; refine (impl_within _ _ _ _).mono ?_; rintro e w' ⟨rfl, rfl⟩)
      | (go_at_call 66; refine (impl_AddrOk h p _).mono ?_; rintro e w2 ⟨rfl, g2⟩; replace q0 := q0.keep0 g2; replace q1 := q1.keep0 g2; replace q2 := q2.keep0 g2; clear cc0 cc1 cc2 ll; have cc0 := fun o => q0.cell o; have cc1 := fun o => q1.cell o; have cc2 := fun o => q2.cell o; have ll := q2.lt; replace G := gb_trans G g2)
      | (go_at_call 48; refine (impl_FrameOk _ _ _ (FrameR.keep0 R.out (gb_trans g1 g2))).mono ?_; rw [hok]; rintro e w3 ⟨rfl, g3⟩; replace q0 := q0.keep0 g3; replace q1 := q1.keep0 g3; replace q2 := q2.keep0 g3; clear cc0 cc1 cc2 ll; have cc0 := fun o => q0.cell o; have cc1 := fun o => q1.cell o; have cc2 := fun o => q2.cell o; have ll := q2.lt; replace G := gb_trans G g3)
      | (go_at_call 67; refine (impl_Fresh _ _ _).mono ?_; rintro e w' ⟨rfl, rfl⟩))
    go_ret
    exact ⟨ret_i E.out.symm, G⟩
  have E := Lib.hid (show judgeM l now h p ⟨3, id, l1, l2, tick, l3, l4, epoch, seq, l5, l6⟩ = if sameT l3 (cookM l h p id l1 l2 tick) then 0 else 2 by simp [judgeM, eqI, L.out, e1, e2, e3, hok, hf])
  have G := g0
  clear g0
  go_enter Try.func25, Try.ntmps25
  go_wp2_with (first
    | (go_at_call 64; refine (impl_JarOk a n c _).mono ?_; rw [e1]; rintro e w1 ⟨rfl, g1⟩; have q0 := bb.1.keep0 g1; have q1 := bb.2.1.keep0 g1; have q2 := bb.2.2.keep0 g1; have cc0 := fun o => q0.cell o; have cc1 := fun o => q1.cell o; have cc2 := fun o => q2.cell o; have ll := q2.lt; replace G := gb_trans G g1)
    | (go_at_call 65; refine (impl_within _ _ _ _).mono ?_; rintro e w' ⟨rfl, rfl⟩)
    | (go_at_call 66; refine (impl_AddrOk h p _).mono ?_; rintro e w2 ⟨rfl, g2⟩; replace q0 := q0.keep0 g2; replace q1 := q1.keep0 g2; replace q2 := q2.keep0 g2; clear cc0 cc1 cc2 ll; have cc0 := fun o => q0.cell o; have cc1 := fun o => q1.cell o; have cc2 := fun o => q2.cell o; have ll := q2.lt; replace G := gb_trans G g2)
    | (go_at_call 48; refine (impl_FrameOk _ _ _ (FrameR.keep0 R.out (gb_trans g1 g2))).mono ?_; rw [hok]; rintro e w3 ⟨rfl, g3⟩; replace q0 := q0.keep0 g3; replace q1 := q1.keep0 g3; replace q2 := q2.keep0 g3; clear cc0 cc1 cc2 ll; have cc0 := fun o => q0.cell o; have cc1 := fun o => q1.cell o; have cc2 := fun o => q2.cell o; have ll := q2.lt; replace G := gb_trans G g3)
    | (go_at_call 67; refine (impl_Fresh _ _ _).mono ?_; rintro e w' ⟨rfl, rfl⟩))
  have KX : Hid (∀ w', w3.grownBy w' none → (w'.cell? ⟨w.heap.size, 0, none⟩ = some (.slice a n c) ∧ w'.cell? ⟨w.heap.size + 1, 0, none⟩ = some (.int .i64 h) ∧ w'.cell? ⟨w.heap.size + 1, 1, none⟩ = some (.int .i64 p) ∧ w'.cell? ⟨w.heap.size + 1 + 1, 0, none⟩ = some (.int .i64 3) ∧ w'.cell? ⟨w.heap.size + 1 + 1, 1, none⟩ = some (.int .i64 id) ∧ w'.cell? ⟨w.heap.size + 1 + 1, 2, none⟩ = some (.slice a1 n1 c1) ∧ w'.cell? ⟨w.heap.size + 1 + 1, 3, none⟩ = some (.slice a2 n2 c2) ∧ w'.cell? ⟨w.heap.size + 1 + 1, 4, none⟩ = some (.int .i64 tick) ∧ w'.cell? ⟨w.heap.size + 1 + 1, 5, none⟩ = some (.slice a3 n3 c3) ∧ w'.cell? ⟨w.heap.size + 1 + 1, 6, none⟩ = some (.slice a4 n4 c4) ∧ w'.cell? ⟨w.heap.size + 1 + 1, 7, none⟩ = some (.int .i64 epoch) ∧ w'.cell? ⟨w.heap.size + 1 + 1, 8, none⟩ = some (.int .i64 seq) ∧ w'.cell? ⟨w.heap.size + 1 + 1, 9, none⟩ = some (.slice a5 n5 c5) ∧ w'.cell? ⟨w.heap.size + 1 + 1, 10, none⟩ = some (.slice a6 n6 c6) ∧ w3.grownBy w' none)) := fun w' hg => ⟨(q0.keep0 hg).cell 0, (q1.keep0 hg).cell 0, (q1.keep0 hg).cell 1, (q2.keep0 hg).cell 0, (q2.keep0 hg).cell 1, (q2.keep0 hg).cell 2, (q2.keep0 hg).cell 3, (q2.keep0 hg).cell 4, (q2.keep0 hg).cell 5, (q2.keep0 hg).cell 6, (q2.keep0 hg).cell 7, (q2.keep0 hg).cell 8, (q2.keep0 hg).cell 9, (q2.keep0 hg).cell 10, hg⟩
  clear cc0 cc1 cc2 q0 q1 q2 bb
  have GH := Lib.hid G
  clear g1 g2 g3
  go_region_held3 (fun w' => w'.cell? ⟨w.heap.size, 0, none⟩ = some (.slice a n c) ∧ w'.cell? ⟨w.heap.size + 1, 0, none⟩ = some (.int .i64 h) ∧ w'.cell? ⟨w.heap.size + 1, 1, none⟩ = some (.int .i64 p) ∧ w'.cell? ⟨w.heap.size + 1 + 1, 0, none⟩ = some (.int .i64 3) ∧ w'.cell? ⟨w.heap.size + 1 + 1, 1, none⟩ = some (.int .i64 id) ∧ w'.cell? ⟨w.heap.size + 1 + 1, 2, none⟩ = some (.slice a1 n1 c1) ∧ w'.cell? ⟨w.heap.size + 1 + 1, 3, none⟩ = some (.slice a2 n2 c2) ∧ w'.cell? ⟨w.heap.size + 1 + 1, 4, none⟩ = some (.int .i64 tick) ∧ w'.cell? ⟨w.heap.size + 1 + 1, 5, none⟩ = some (.slice a3 n3 c3) ∧ w'.cell? ⟨w.heap.size + 1 + 1, 6, none⟩ = some (.slice a4 n4 c4) ∧ w'.cell? ⟨w.heap.size + 1 + 1, 7, none⟩ = some (.int .i64 epoch) ∧ w'.cell? ⟨w.heap.size + 1 + 1, 8, none⟩ = some (.int .i64 seq) ∧ w'.cell? ⟨w.heap.size + 1 + 1, 9, none⟩ = some (.slice a5 n5 c5) ∧ w'.cell? ⟨w.heap.size + 1 + 1, 10, none⟩ = some (.slice a6 n6 c6) ∧ w3.grownBy w' none)
    ((refine KX.out _ ?_; (repeat (first | with_reducible exact gb_refl _ | with_reducible refine gb_alloc ?_ _ | with_reducible refine gb_drewN ?_ _ | with_reducible refine gb_drew ?_ | with_reducible refine gb_trans ?_ g4 | with_reducible refine gb_trans ?_ g5))))
    (first
      | (go_at_call 68; refine (impl_Mint a n c l h p id a1 n1 c1 l1 a2 n2 c2 l2 tick _ (r.keep0 (by (repeat (first | with_reducible exact gb_refl _ | with_reducible exact G | with_reducible refine gb_alloc ?_ _ | with_reducible refine gb_drewN ?_ _ | with_reducible refine gb_drew ?_)))) (r1.keep0 (by (repeat (first | with_reducible exact gb_refl _ | with_reducible exact G | with_reducible refine gb_alloc ?_ _ | with_reducible refine gb_drewN ?_ _ | with_reducible refine gb_drew ?_)))) (r2.keep0 (by (repeat (first | with_reducible exact gb_refl _ | with_reducible exact G | with_reducible refine gb_alloc ?_ _ | with_reducible refine gb_drewN ?_ _ | with_reducible refine gb_drew ?_))))).mono ?_; rintro e w4 ⟨b4, m4, d4, rfl, o4, g4⟩; skip)
      | (go_at_call 57; refine (impl_SameTag a3 n3 c3 l3 b4 m4 d4 _ _ (r3.keep0 (by (repeat (first | with_reducible exact gb_refl _ | with_reducible exact G | with_reducible refine gb_alloc ?_ _ | with_reducible refine gb_drewN ?_ _ | with_reducible refine gb_drew ?_ | with_reducible refine gb_trans ?_ g4)))) (o4.rd.keep0 (by (repeat (first | with_reducible exact gb_refl _ | with_reducible refine gb_alloc ?_ _ | with_reducible refine gb_drewN ?_ _ | with_reducible refine gb_drew ?_))))).mono ?_; rintro e w5 ⟨rfl, g5⟩; skip)
      | fail)
  cases hs : sameT l3 (cookM l h p id l1 l2 tick)
  · go_wp2
    go_ret
    exact ⟨ret_i (by rw [E.out, hs]; rfl), by (repeat (first | with_reducible exact gb_refl _ | with_reducible exact G | with_reducible refine gb_alloc ?_ _ | with_reducible refine gb_drewN ?_ _ | with_reducible refine gb_drew ?_ | with_reducible refine gb_trans ?_ g4 | with_reducible refine gb_trans ?_ g5))⟩
  · go_wp2
    go_ret
    exact ⟨ret_i (by rw [E.out, hs]; rfl), by (repeat (first | with_reducible exact gb_refl _ | with_reducible exact G | with_reducible refine gb_alloc ?_ _ | with_reducible refine gb_drewN ?_ _ | with_reducible refine gb_drew ?_ | with_reducible refine gb_trans ?_ g4 | with_reducible refine gb_trans ?_ g5))⟩
set_option maxRecDepth 1000000 in
set_option maxHeartbeats 4000000 in
theorem spec_Judge (a : Option Addr) (n c : Nat) (l : List UInt8) (now h p : Int) (v : Value) (f : FrameM) (w : World) (r : Rd w a n c (bys l)) (hf : FrameR w v f) :
    Calls Try.prog 22 #[.agg #[.slice a n c], .int .i64 now, .agg #[.int .i64 h, .int .i64 p], v] w fun e w' => e = .returned (.int .i64 (judgeM l now h p f)) ∧ w.grownBy w' none := by
  have hR := hf
  obtain ⟨a1, n1, c1, a2, n2, c2, a3, n3, c3, a4, n4, c4, a5, n5, c5, a6, n6, c6, rfl, r1, r2, r3, r4, r5, r6⟩ := hf
  obtain ⟨kind, id, l1, l2, tick, l3, l4, epoch, seq, l5, l6⟩ := f
  simp only at r1 r2 r3 r4 r5 r6 hR
  have L := Lib.hid r.blen
  have g0 := gb_alloc (gb_alloc (gb_alloc (gb_refl w) (.cells #[.slice a n c] 44)) (.cells #[.int .i64 h, .int .i64 p] 46)) (.cells #[.int .i64 kind, .int .i64 id, .slice a1 n1 c1, .slice a2 n2 c2, .int .i64 tick, .slice a3 n3 c3, .slice a4 n4 c4, .int .i64 epoch, .int .i64 seq, .slice a5 n5 c5, .slice a6 n6 c6] 24)
  have bb := bx3 w #[.slice a n c] #[.int .i64 h, .int .i64 p] #[.int .i64 kind, .int .i64 id, .slice a1 n1 c1, .slice a2 n2 c2, .int .i64 tick, .slice a3 n3 c3, .slice a4 n4 c4, .int .i64 epoch, .int .i64 seq, .slice a5 n5 c5, .slice a6 n6 c6] 44 46 24
  have R := Lib.hid (hR.keep0 g0)
  clear hR
  cases e1 : ((n : Int) == 32)
  · have e2 : True := trivial
    have e3 : True := trivial
    have hk : True := trivial
    have hok : True := trivial
    have E := Lib.hid (show judgeM l now h p ⟨kind, id, l1, l2, tick, l3, l4, epoch, seq, l5, l6⟩ = 1 by simp [judgeM, eqI, L.out, e1])
    have G := g0
    clear g0
    go_enter Try.func22, Try.ntmps22
    go_wp2_with (first
      | (go_at_call 59; refine (spec_JarOk a n c _).mono ?_; rw [e1]; rintro e w1 ⟨rfl, g1⟩; have q0 := bb.1.keep0 g1; have q1 := bb.2.1.keep0 g1; have q2 := bb.2.2.keep0 g1; have cc0 := fun o => q0.cell o; have cc1 := fun o => q1.cell o; have cc2 := fun o => q2.cell o; have ll := q2.lt; replace G := gb_trans G g1)
      | (go_at_call 60; refine (spec_l1In _ _ _ _).mono ?_; rintro e w' ⟨rfl, rfl⟩)
      | (go_at_call 61; refine (spec_AddrOk h p _).mono ?_; rintro e w2 ⟨rfl, g2⟩; replace q0 := q0.keep0 g2; replace q1 := q1.keep0 g2; replace q2 := q2.keep0 g2; clear cc0 cc1 cc2 ll; have cc0 := fun o => q0.cell o; have cc1 := fun o => q1.cell o; have cc2 := fun o => q2.cell o; have ll := q2.lt; replace G := gb_trans G g2)
      | (go_at_call 54; refine (spec_FrameOk _ _ _ (FrameR.keep0 R.out (gb_trans g1 g2))).mono ?_; rw [hok]; rintro e w3 ⟨rfl, g3⟩; replace q0 := q0.keep0 g3; replace q1 := q1.keep0 g3; replace q2 := q2.keep0 g3; clear cc0 cc1 cc2 ll; have cc0 := fun o => q0.cell o; have cc1 := fun o => q1.cell o; have cc2 := fun o => q2.cell o; have ll := q2.lt; replace G := gb_trans G g3))
    go_ret
    exact ⟨ret_i E.out.symm, G⟩
  cases e2 : inB now 0 1000000
  · have e3 : True := trivial
    have hk : True := trivial
    have hok : True := trivial
    have E := Lib.hid (show judgeM l now h p ⟨kind, id, l1, l2, tick, l3, l4, epoch, seq, l5, l6⟩ = 1 by simp [judgeM, eqI, L.out, e1, e2])
    have G := g0
    clear g0
    go_enter Try.func22, Try.ntmps22
    go_wp2_with (first
      | (go_at_call 59; refine (spec_JarOk a n c _).mono ?_; rw [e1]; rintro e w1 ⟨rfl, g1⟩; have q0 := bb.1.keep0 g1; have q1 := bb.2.1.keep0 g1; have q2 := bb.2.2.keep0 g1; have cc0 := fun o => q0.cell o; have cc1 := fun o => q1.cell o; have cc2 := fun o => q2.cell o; have ll := q2.lt; replace G := gb_trans G g1)
      | (go_at_call 60; refine (spec_l1In _ _ _ _).mono ?_; rintro e w' ⟨rfl, rfl⟩)
      | (go_at_call 61; refine (spec_AddrOk h p _).mono ?_; rintro e w2 ⟨rfl, g2⟩; replace q0 := q0.keep0 g2; replace q1 := q1.keep0 g2; replace q2 := q2.keep0 g2; clear cc0 cc1 cc2 ll; have cc0 := fun o => q0.cell o; have cc1 := fun o => q1.cell o; have cc2 := fun o => q2.cell o; have ll := q2.lt; replace G := gb_trans G g2)
      | (go_at_call 54; refine (spec_FrameOk _ _ _ (FrameR.keep0 R.out (gb_trans g1 g2))).mono ?_; rw [hok]; rintro e w3 ⟨rfl, g3⟩; replace q0 := q0.keep0 g3; replace q1 := q1.keep0 g3; replace q2 := q2.keep0 g3; clear cc0 cc1 cc2 ll; have cc0 := fun o => q0.cell o; have cc1 := fun o => q1.cell o; have cc2 := fun o => q2.cell o; have ll := q2.lt; replace G := gb_trans G g3))
    go_ret
    exact ⟨ret_i E.out.symm, G⟩
  cases e3 : addrOkB h p
  · have hk : True := trivial
    have hok : True := trivial
    have E := Lib.hid (show judgeM l now h p ⟨kind, id, l1, l2, tick, l3, l4, epoch, seq, l5, l6⟩ = 1 by simp [judgeM, eqI, L.out, e1, e2, e3])
    have G := g0
    clear g0
    go_enter Try.func22, Try.ntmps22
    go_wp2_with (first
      | (go_at_call 59; refine (spec_JarOk a n c _).mono ?_; rw [e1]; rintro e w1 ⟨rfl, g1⟩; have q0 := bb.1.keep0 g1; have q1 := bb.2.1.keep0 g1; have q2 := bb.2.2.keep0 g1; have cc0 := fun o => q0.cell o; have cc1 := fun o => q1.cell o; have cc2 := fun o => q2.cell o; have ll := q2.lt; replace G := gb_trans G g1)
      | (go_at_call 60; refine (spec_l1In _ _ _ _).mono ?_; rintro e w' ⟨rfl, rfl⟩)
      | (go_at_call 61; refine (spec_AddrOk h p _).mono ?_; rintro e w2 ⟨rfl, g2⟩; replace q0 := q0.keep0 g2; replace q1 := q1.keep0 g2; replace q2 := q2.keep0 g2; clear cc0 cc1 cc2 ll; have cc0 := fun o => q0.cell o; have cc1 := fun o => q1.cell o; have cc2 := fun o => q2.cell o; have ll := q2.lt; replace G := gb_trans G g2)
      | (go_at_call 54; refine (spec_FrameOk _ _ _ (FrameR.keep0 R.out (gb_trans g1 g2))).mono ?_; rw [hok]; rintro e w3 ⟨rfl, g3⟩; replace q0 := q0.keep0 g3; replace q1 := q1.keep0 g3; replace q2 := q2.keep0 g3; clear cc0 cc1 cc2 ll; have cc0 := fun o => q0.cell o; have cc1 := fun o => q1.cell o; have cc2 := fun o => q2.cell o; have ll := q2.lt; replace G := gb_trans G g3))
    go_ret
    exact ⟨ret_i E.out.symm, G⟩
  cases hk : (kind == 3)
  · have hk2 : (kind != 3) = true := by simpa using hk
    cases hok : frOk ⟨kind, id, l1, l2, tick, l3, l4, epoch, seq, l5, l6⟩
    · have E := Lib.hid (show judgeM l now h p ⟨kind, id, l1, l2, tick, l3, l4, epoch, seq, l5, l6⟩ = 1 by simp [judgeM, eqI, L.out, e1, e2, e3, hk])
      have G := g0
      clear g0
      go_enter Try.func22, Try.ntmps22
      go_wp2_with (first
        | (go_at_call 59; refine (spec_JarOk a n c _).mono ?_; rw [e1]; rintro e w1 ⟨rfl, g1⟩; have q0 := bb.1.keep0 g1; have q1 := bb.2.1.keep0 g1; have q2 := bb.2.2.keep0 g1; have cc0 := fun o => q0.cell o; have cc1 := fun o => q1.cell o; have cc2 := fun o => q2.cell o; have ll := q2.lt; replace G := gb_trans G g1)
        | (go_at_call 60; refine (spec_l1In _ _ _ _).mono ?_; rintro e w' ⟨rfl, rfl⟩)
        | (go_at_call 61; refine (spec_AddrOk h p _).mono ?_; rintro e w2 ⟨rfl, g2⟩; replace q0 := q0.keep0 g2; replace q1 := q1.keep0 g2; replace q2 := q2.keep0 g2; clear cc0 cc1 cc2 ll; have cc0 := fun o => q0.cell o; have cc1 := fun o => q1.cell o; have cc2 := fun o => q2.cell o; have ll := q2.lt; replace G := gb_trans G g2)
        | (go_at_call 54; refine (spec_FrameOk _ _ _ (FrameR.keep0 R.out (gb_trans g1 g2))).mono ?_; rw [hok]; rintro e w3 ⟨rfl, g3⟩; replace q0 := q0.keep0 g3; replace q1 := q1.keep0 g3; replace q2 := q2.keep0 g3; clear cc0 cc1 cc2 ll; have cc0 := fun o => q0.cell o; have cc1 := fun o => q1.cell o; have cc2 := fun o => q2.cell o; have ll := q2.lt; replace G := gb_trans G g3))
      go_ret
      exact ⟨ret_i E.out.symm, G⟩
    · have E := Lib.hid (show judgeM l now h p ⟨kind, id, l1, l2, tick, l3, l4, epoch, seq, l5, l6⟩ = 1 by simp [judgeM, eqI, L.out, e1, e2, e3, hk])
      have G := g0
      clear g0
      go_enter Try.func22, Try.ntmps22
      go_wp2_with (first
        | (go_at_call 59; refine (spec_JarOk a n c _).mono ?_; rw [e1]; rintro e w1 ⟨rfl, g1⟩; have q0 := bb.1.keep0 g1; have q1 := bb.2.1.keep0 g1; have q2 := bb.2.2.keep0 g1; have cc0 := fun o => q0.cell o; have cc1 := fun o => q1.cell o; have cc2 := fun o => q2.cell o; have ll := q2.lt; replace G := gb_trans G g1)
        | (go_at_call 60; refine (spec_l1In _ _ _ _).mono ?_; rintro e w' ⟨rfl, rfl⟩)
        | (go_at_call 61; refine (spec_AddrOk h p _).mono ?_; rintro e w2 ⟨rfl, g2⟩; replace q0 := q0.keep0 g2; replace q1 := q1.keep0 g2; replace q2 := q2.keep0 g2; clear cc0 cc1 cc2 ll; have cc0 := fun o => q0.cell o; have cc1 := fun o => q1.cell o; have cc2 := fun o => q2.cell o; have ll := q2.lt; replace G := gb_trans G g2)
        | (go_at_call 54; refine (spec_FrameOk _ _ _ (FrameR.keep0 R.out (gb_trans g1 g2))).mono ?_; rw [hok]; rintro e w3 ⟨rfl, g3⟩; replace q0 := q0.keep0 g3; replace q1 := q1.keep0 g3; replace q2 := q2.keep0 g3; clear cc0 cc1 cc2 ll; have cc0 := fun o => q0.cell o; have cc1 := fun o => q1.cell o; have cc2 := fun o => q2.cell o; have ll := q2.lt; replace G := gb_trans G g3))
      go_ret
      exact ⟨ret_i E.out.symm, G⟩
  cases hok : frOk ⟨kind, id, l1, l2, tick, l3, l4, epoch, seq, l5, l6⟩
  · have hk2 : (kind != 3) = false := by simpa using hk
    have E := Lib.hid (show judgeM l now h p ⟨kind, id, l1, l2, tick, l3, l4, epoch, seq, l5, l6⟩ = 1 by simp [judgeM, eqI, L.out, e1, e2, e3, hok])
    have G := g0
    clear g0
    go_enter Try.func22, Try.ntmps22
    go_wp2_with (first
      | (go_at_call 59; refine (spec_JarOk a n c _).mono ?_; rw [e1]; rintro e w1 ⟨rfl, g1⟩; have q0 := bb.1.keep0 g1; have q1 := bb.2.1.keep0 g1; have q2 := bb.2.2.keep0 g1; have cc0 := fun o => q0.cell o; have cc1 := fun o => q1.cell o; have cc2 := fun o => q2.cell o; have ll := q2.lt; replace G := gb_trans G g1)
      | (go_at_call 60; refine (spec_l1In _ _ _ _).mono ?_; rintro e w' ⟨rfl, rfl⟩)
      | (go_at_call 61; refine (spec_AddrOk h p _).mono ?_; rintro e w2 ⟨rfl, g2⟩; replace q0 := q0.keep0 g2; replace q1 := q1.keep0 g2; replace q2 := q2.keep0 g2; clear cc0 cc1 cc2 ll; have cc0 := fun o => q0.cell o; have cc1 := fun o => q1.cell o; have cc2 := fun o => q2.cell o; have ll := q2.lt; replace G := gb_trans G g2)
      | (go_at_call 54; refine (spec_FrameOk _ _ _ (FrameR.keep0 R.out (gb_trans g1 g2))).mono ?_; rw [hok]; rintro e w3 ⟨rfl, g3⟩; replace q0 := q0.keep0 g3; replace q1 := q1.keep0 g3; replace q2 := q2.keep0 g3; clear cc0 cc1 cc2 ll; have cc0 := fun o => q0.cell o; have cc1 := fun o => q1.cell o; have cc2 := fun o => q2.cell o; have ll := q2.lt; replace G := gb_trans G g3))
    go_ret
    exact ⟨ret_i E.out.symm, G⟩
  obtain rfl : kind = 3 := by simpa using hk
  clear hk
  cases hf : freshM now tick
  · have E := Lib.hid (show judgeM l now h p ⟨3, id, l1, l2, tick, l3, l4, epoch, seq, l5, l6⟩ = 9 by simp [judgeM, eqI, L.out, e1, e2, e3, hok, hf])
    have G := g0
    clear g0
    go_enter Try.func22, Try.ntmps22
    go_wp2_with (first
      | (go_at_call 59; refine (spec_JarOk a n c _).mono ?_; rw [e1]; rintro e w1 ⟨rfl, g1⟩; have q0 := bb.1.keep0 g1; have q1 := bb.2.1.keep0 g1; have q2 := bb.2.2.keep0 g1; have cc0 := fun o => q0.cell o; have cc1 := fun o => q1.cell o; have cc2 := fun o => q2.cell o; have ll := q2.lt; replace G := gb_trans G g1)
      | (go_at_call 60; refine (spec_l1In _ _ _ _).mono ?_; rintro e w' ⟨rfl, rfl⟩)
      | (go_at_call 61; refine (spec_AddrOk h p _).mono ?_; rintro e w2 ⟨rfl, g2⟩; replace q0 := q0.keep0 g2; replace q1 := q1.keep0 g2; replace q2 := q2.keep0 g2; clear cc0 cc1 cc2 ll; have cc0 := fun o => q0.cell o; have cc1 := fun o => q1.cell o; have cc2 := fun o => q2.cell o; have ll := q2.lt; replace G := gb_trans G g2)
      | (go_at_call 54; refine (spec_FrameOk _ _ _ (FrameR.keep0 R.out (gb_trans g1 g2))).mono ?_; rw [hok]; rintro e w3 ⟨rfl, g3⟩; replace q0 := q0.keep0 g3; replace q1 := q1.keep0 g3; replace q2 := q2.keep0 g3; clear cc0 cc1 cc2 ll; have cc0 := fun o => q0.cell o; have cc1 := fun o => q1.cell o; have cc2 := fun o => q2.cell o; have ll := q2.lt; replace G := gb_trans G g3)
      | (go_at_call 62; refine (spec_Fresh _ _ _).mono ?_; rintro e w' ⟨rfl, rfl⟩))
    go_ret
    exact ⟨ret_i E.out.symm, G⟩
  have E := Lib.hid (show judgeM l now h p ⟨3, id, l1, l2, tick, l3, l4, epoch, seq, l5, l6⟩ = if sameT l3 (cookM l h p id l1 l2 tick) then 0 else 2 by simp [judgeM, eqI, L.out, e1, e2, e3, hok, hf])
  have G := g0
  clear g0
  go_enter Try.func22, Try.ntmps22
  go_wp2_with (first
    | (go_at_call 59; refine (spec_JarOk a n c _).mono ?_; rw [e1]; rintro e w1 ⟨rfl, g1⟩; have q0 := bb.1.keep0 g1; have q1 := bb.2.1.keep0 g1; have q2 := bb.2.2.keep0 g1; have cc0 := fun o => q0.cell o; have cc1 := fun o => q1.cell o; have cc2 := fun o => q2.cell o; have ll := q2.lt; replace G := gb_trans G g1)
    | (go_at_call 60; refine (spec_l1In _ _ _ _).mono ?_; rintro e w' ⟨rfl, rfl⟩)
    | (go_at_call 61; refine (spec_AddrOk h p _).mono ?_; rintro e w2 ⟨rfl, g2⟩; replace q0 := q0.keep0 g2; replace q1 := q1.keep0 g2; replace q2 := q2.keep0 g2; clear cc0 cc1 cc2 ll; have cc0 := fun o => q0.cell o; have cc1 := fun o => q1.cell o; have cc2 := fun o => q2.cell o; have ll := q2.lt; replace G := gb_trans G g2)
    | (go_at_call 54; refine (spec_FrameOk _ _ _ (FrameR.keep0 R.out (gb_trans g1 g2))).mono ?_; rw [hok]; rintro e w3 ⟨rfl, g3⟩; replace q0 := q0.keep0 g3; replace q1 := q1.keep0 g3; replace q2 := q2.keep0 g3; clear cc0 cc1 cc2 ll; have cc0 := fun o => q0.cell o; have cc1 := fun o => q1.cell o; have cc2 := fun o => q2.cell o; have ll := q2.lt; replace G := gb_trans G g3)
    | (go_at_call 62; refine (spec_Fresh _ _ _).mono ?_; rintro e w' ⟨rfl, rfl⟩))
  have KX : Hid (∀ w', w3.grownBy w' none → (w'.cell? ⟨w.heap.size, 0, none⟩ = some (.slice a n c) ∧ w'.cell? ⟨w.heap.size + 1, 0, none⟩ = some (.int .i64 h) ∧ w'.cell? ⟨w.heap.size + 1, 1, none⟩ = some (.int .i64 p) ∧ w'.cell? ⟨w.heap.size + 1 + 1, 0, none⟩ = some (.int .i64 3) ∧ w'.cell? ⟨w.heap.size + 1 + 1, 1, none⟩ = some (.int .i64 id) ∧ w'.cell? ⟨w.heap.size + 1 + 1, 2, none⟩ = some (.slice a1 n1 c1) ∧ w'.cell? ⟨w.heap.size + 1 + 1, 3, none⟩ = some (.slice a2 n2 c2) ∧ w'.cell? ⟨w.heap.size + 1 + 1, 4, none⟩ = some (.int .i64 tick) ∧ w'.cell? ⟨w.heap.size + 1 + 1, 5, none⟩ = some (.slice a3 n3 c3) ∧ w'.cell? ⟨w.heap.size + 1 + 1, 6, none⟩ = some (.slice a4 n4 c4) ∧ w'.cell? ⟨w.heap.size + 1 + 1, 7, none⟩ = some (.int .i64 epoch) ∧ w'.cell? ⟨w.heap.size + 1 + 1, 8, none⟩ = some (.int .i64 seq) ∧ w'.cell? ⟨w.heap.size + 1 + 1, 9, none⟩ = some (.slice a5 n5 c5) ∧ w'.cell? ⟨w.heap.size + 1 + 1, 10, none⟩ = some (.slice a6 n6 c6) ∧ w3.grownBy w' none)) := fun w' hg => ⟨(q0.keep0 hg).cell 0, (q1.keep0 hg).cell 0, (q1.keep0 hg).cell 1, (q2.keep0 hg).cell 0, (q2.keep0 hg).cell 1, (q2.keep0 hg).cell 2, (q2.keep0 hg).cell 3, (q2.keep0 hg).cell 4, (q2.keep0 hg).cell 5, (q2.keep0 hg).cell 6, (q2.keep0 hg).cell 7, (q2.keep0 hg).cell 8, (q2.keep0 hg).cell 9, (q2.keep0 hg).cell 10, hg⟩
  clear cc0 cc1 cc2 q0 q1 q2 bb
  have GH := Lib.hid G
  clear g1 g2 g3
  go_region_held3 (fun w' => w'.cell? ⟨w.heap.size, 0, none⟩ = some (.slice a n c) ∧ w'.cell? ⟨w.heap.size + 1, 0, none⟩ = some (.int .i64 h) ∧ w'.cell? ⟨w.heap.size + 1, 1, none⟩ = some (.int .i64 p) ∧ w'.cell? ⟨w.heap.size + 1 + 1, 0, none⟩ = some (.int .i64 3) ∧ w'.cell? ⟨w.heap.size + 1 + 1, 1, none⟩ = some (.int .i64 id) ∧ w'.cell? ⟨w.heap.size + 1 + 1, 2, none⟩ = some (.slice a1 n1 c1) ∧ w'.cell? ⟨w.heap.size + 1 + 1, 3, none⟩ = some (.slice a2 n2 c2) ∧ w'.cell? ⟨w.heap.size + 1 + 1, 4, none⟩ = some (.int .i64 tick) ∧ w'.cell? ⟨w.heap.size + 1 + 1, 5, none⟩ = some (.slice a3 n3 c3) ∧ w'.cell? ⟨w.heap.size + 1 + 1, 6, none⟩ = some (.slice a4 n4 c4) ∧ w'.cell? ⟨w.heap.size + 1 + 1, 7, none⟩ = some (.int .i64 epoch) ∧ w'.cell? ⟨w.heap.size + 1 + 1, 8, none⟩ = some (.int .i64 seq) ∧ w'.cell? ⟨w.heap.size + 1 + 1, 9, none⟩ = some (.slice a5 n5 c5) ∧ w'.cell? ⟨w.heap.size + 1 + 1, 10, none⟩ = some (.slice a6 n6 c6) ∧ w3.grownBy w' none)
    ((refine KX.out _ ?_; (repeat (first | with_reducible exact gb_refl _ | with_reducible refine gb_alloc ?_ _ | with_reducible refine gb_drewN ?_ _ | with_reducible refine gb_drew ?_ | with_reducible refine gb_trans ?_ g4 | with_reducible refine gb_trans ?_ g5))))
    (first
      | (go_at_call 63; refine (spec_Mint a n c l h p id a1 n1 c1 l1 a2 n2 c2 l2 tick _ (r.keep0 (by (repeat (first | with_reducible exact gb_refl _ | with_reducible exact G | with_reducible refine gb_alloc ?_ _ | with_reducible refine gb_drewN ?_ _ | with_reducible refine gb_drew ?_)))) (r1.keep0 (by (repeat (first | with_reducible exact gb_refl _ | with_reducible exact G | with_reducible refine gb_alloc ?_ _ | with_reducible refine gb_drewN ?_ _ | with_reducible refine gb_drew ?_)))) (r2.keep0 (by (repeat (first | with_reducible exact gb_refl _ | with_reducible exact G | with_reducible refine gb_alloc ?_ _ | with_reducible refine gb_drewN ?_ _ | with_reducible refine gb_drew ?_))))).mono ?_; rintro e w4 ⟨b4, m4, d4, rfl, o4, g4⟩; skip)
      | (go_at_call 55; refine (spec_SameTag a3 n3 c3 l3 b4 m4 d4 _ _ (r3.keep0 (by (repeat (first | with_reducible exact gb_refl _ | with_reducible exact G | with_reducible refine gb_alloc ?_ _ | with_reducible refine gb_drewN ?_ _ | with_reducible refine gb_drew ?_ | with_reducible refine gb_trans ?_ g4)))) (o4.rd.keep0 (by (repeat (first | with_reducible exact gb_refl _ | with_reducible refine gb_alloc ?_ _ | with_reducible refine gb_drewN ?_ _ | with_reducible refine gb_drew ?_))))).mono ?_; rintro e w5 ⟨rfl, g5⟩; skip)
      | fail)
  cases hs : sameT l3 (cookM l h p id l1 l2 tick)
  · go_wp2
    go_ret
    exact ⟨ret_i (by rw [E.out, hs]; rfl), by (repeat (first | with_reducible exact gb_refl _ | with_reducible exact G | with_reducible refine gb_alloc ?_ _ | with_reducible refine gb_drewN ?_ _ | with_reducible refine gb_drew ?_ | with_reducible refine gb_trans ?_ g4 | with_reducible refine gb_trans ?_ g5))⟩
  · go_wp2
    go_ret
    exact ⟨ret_i (by rw [E.out, hs]; rfl), by (repeat (first | with_reducible exact gb_refl _ | with_reducible exact G | with_reducible refine gb_alloc ?_ _ | with_reducible refine gb_drewN ?_ _ | with_reducible refine gb_drew ?_ | with_reducible refine gb_trans ?_ g4 | with_reducible refine gb_trans ?_ g5))⟩
end Go.Proofs.Ytfjbfgonkimboaa
