/-
  Contracts of the functions that open a sealed frame. Conditions: none beside those that each theorem names.
-/
import Derived.Test.YteoglfclliclbaaGreatKeys3
import Derived.Test.YteoglfclliclbaaGreatTagS
import Derived.Test.YteoglfclliclbaaGreatTagI
import Derived.Test.YteoglfclliclbaaGreatStrm
import Derived.Deep.RegionHeld3
namespace Go.Proofs.YteoglfclliclbaaGreat
open Go.RowKit
def unsealB (l : List UInt8) (x : Int) (f : FrameM) : Bool := ((l.length : Int) == 32) && (!(((tagInM x f).length : Int) == 0) && sameT f.tag (tagM l (tagInM x f)))
def unsealM (l : List UInt8) (x : Int) (f : FrameM) : List UInt8 := if unsealB l x f = true then mixM l (headM x f.sn f.epoch f.seq) f.body else []
theorem tagIn_ne {x : Int} {f : FrameM} (h : tagInM x f ≠ []) : roleB x = true ∧ sealedB f.kind = true ∧ frOk f = true := by
  unfold tagInM at h
  split at h
  · rename_i h2
    simp only [Bool.and_eq_true] at h2
    exact ⟨h2.1.1, h2.1.2, h2.2⟩
  · exact absurd rfl h
theorem unseal_len {l : List UInt8} {x : Int} {f : FrameM} (h : unsealB l x f = true) : l.length = 32 ∧ f.body.length ≤ 40 := by
  simp only [unsealB, Bool.and_eq_true, Bool.not_eq_true', beq_eq_false_iff_ne, beq_iff_eq] at h
  obtain ⟨h1, h2, -⟩ := h
  have h3 : tagInM x f ≠ [] := fun e => h2 (by rw [e]; rfl)
  obtain ⟨-, h4, h5⟩ := tagIn_ne h3
  exact ⟨by omega, (frOk_S h5 h4).2.2.1⟩
theorem unsealM_le (l : List UInt8) (x : Int) (f : FrameM) : (unsealM l x f).length ≤ 40 := by
  unfold unsealM
  split
  · rename_i h
    obtain ⟨h1, h2⟩ := unseal_len h
    rw [mixM_len (by omega) (Nat.le_trans (headM_len _ _ _ _) (by decide)) (by omega)]
    exact h2
  · simp
set_option maxRecDepth 1000000 in
set_option maxHeartbeats 4000000 in
theorem impl_Unseal (a : Option Addr) (n c : Nat) (l : List UInt8) (x : Int) (v : Value) (f : FrameM) (w : World) (r : Rd w a n c (bys l)) (h : FrameR w v f) :
    Calls Tryz.prog 32 #[.slice a n c, .int .i64 x, v] w fun e w' => ∃ a n c, e = .returned (.tuple #[.slice a n c, .bool (unsealB l x f)]) ∧ Ow w.heap.size w' 5 a n c (bys (unsealM l x f)) ∧ w.grownBy w' none := by
  have hR := h
  obtain ⟨a1, n1, c1, a2, n2, c2, a3, n3, c3, a4, n4, c4, a5, n5, c5, a6, n6, c6, rfl, r1, r2, r3, r4, r5, r6⟩ := h
  obtain ⟨kind, id, l1, l2, tick, l3, l4, epoch, seq, l5, l6⟩ := f
  simp only at r1 r2 r3 r4 r5 r6 hR
  obtain ⟨I, hI⟩ : ∃ I, I = tagInM x ⟨kind, id, l1, l2, tick, l3, l4, epoch, seq, l5, l6⟩ := ⟨_, rfl⟩
  have IL : I.length ≤ 65 := by rw [hI]; exact tagInM_len _ _
  have L := Lib.hid r.blen
  have G := gb_alloc (gb_refl w) (.cells #[.int .i64 kind, .int .i64 id, .slice a1 n1 c1, .slice a2 n2 c2, .int .i64 tick, .slice a3 n3 c3, .slice a4 n4 c4, .int .i64 epoch, .int .i64 seq, .slice a5 n5 c5, .slice a6 n6 c6] 38)
  have b0 := bx1 w #[.int .i64 kind, .int .i64 id, .slice a1 n1 c1, .slice a2 n2 c2, .int .i64 tick, .slice a3 n3 c3, .slice a4 n4 c4, .int .i64 epoch, .int .i64 seq, .slice a5 n5 c5, .slice a6 n6 c6] 38
  have C := Lib.hid (impl_TagInput x _ _ _ (hR.keep0 G))
  rw [← hI] at C
  have E := Lib.hid (show unsealB l x ⟨kind, id, l1, l2, tick, l3, l4, epoch, seq, l5, l6⟩ = (((n : Int) == 32) && (!((I.length : Int) == 0) && sameT l6 (tagM l I))) by rw [unsealB, ← hI, L.out])
  clear hR hI
  cases h1 : ((n : Int) == 32)
  · have E2 : unsealB l x ⟨kind, id, l1, l2, tick, l3, l4, epoch, seq, l5, l6⟩ = false := by rw [E.out, h1]; rfl
    rw [unsealM, E2]
    have h2 : ((n : Int) != 32) = true := by rw [bne, h1]; rfl
    clear r r1 r2 r3 r4 r5 r6 E2
    go_enter Tryz.func32, Tryz.ntmps32
    go_wp2_with (go_at_call 30; refine C.out.mono ?_; rintro e w1 ⟨b1, m1, d1, rfl, o1, g1⟩; have e1 := o1.blen; have q1 := b0.keep0 g1; have cc := fun o => q1.cell o; skip)
    go_quiet (fail)
    go_wp2
    go_ret2
    first | exact ⟨_, _, _, rfl, Ow.nil _ _ _, gb_drewN (gb_trans G g1) _⟩ | exact ⟨_, _, _, rfl, (new_own _ _).mono (gb_trans G g1).size, gb_alloc (gb_drewN (gb_trans G g1) _) _⟩
  obtain rfl : n = 32 := by simp at h1; omega
  clear h1
  by_cases hz : I.length = 0
  · have E2 : unsealB l x ⟨kind, id, l1, l2, tick, l3, l4, epoch, seq, l5, l6⟩ = false := by rw [E.out, hz]; rfl
    rw [unsealM, E2]
    obtain rfl := List.eq_nil_of_length_eq_zero hz
    clear r r1 r2 r3 r4 r5 r6 E2 E hz IL
    go_enter Tryz.func32, Tryz.ntmps32
    go_wp2_with (go_at_call 30; refine C.out.mono ?_; rintro e w1 ⟨b1, m1, d1, rfl, o1, g1⟩; have e1 := o1.blen; have q1 := b0.keep0 g1; have cc := fun o => q1.cell o; skip)
    obtain rfl : m1 = 0 := e1.symm
    go_quiet (fail)
    go_wp2
    go_ret2
    first | exact ⟨_, _, _, rfl, Ow.nil _ _ _, gb_drewN (gb_trans G g1) _⟩ | exact ⟨_, _, _, rfl, (new_own _ _).mono (gb_trans G g1).size, gb_alloc (gb_drewN (gb_trans G g1) _) _⟩
  have hz2 : ((I.length : Int) == 0) = false := by rw [beq_eq_false_iff_ne]; omega
  cases hs : sameT l6 (tagM l I)
  · have E2 : unsealB l x ⟨kind, id, l1, l2, tick, l3, l4, epoch, seq, l5, l6⟩ = false := by rw [E.out, hz2, hs]; rfl
    rw [unsealM, E2]
    clear r1 r2 r3 r4 r5 E2 E hz2
    go_enter Tryz.func32, Tryz.ntmps32
    go_wp2_with (go_at_call 30; refine C.out.mono ?_; rintro e w1 ⟨b1, m1, d1, rfl, o1, g1⟩; have e1 := o1.blen; have q1 := b0.keep0 g1; have cc := fun o => q1.cell o; skip)
    have hm : ((m1 : Int) == 0) = false := by rw [beq_eq_false_iff_ne]; omega
    have KX : Hid (∀ w', w1.grownBy w' none → (w'.cell? ⟨w.heap.size, 0, none⟩ = some (.int .i64 kind) ∧ w'.cell? ⟨w.heap.size, 1, none⟩ = some (.int .i64 id) ∧ w'.cell? ⟨w.heap.size, 2, none⟩ = some (.slice a1 n1 c1) ∧ w'.cell? ⟨w.heap.size, 3, none⟩ = some (.slice a2 n2 c2) ∧ w'.cell? ⟨w.heap.size, 4, none⟩ = some (.int .i64 tick) ∧ w'.cell? ⟨w.heap.size, 5, none⟩ = some (.slice a3 n3 c3) ∧ w'.cell? ⟨w.heap.size, 6, none⟩ = some (.slice a4 n4 c4) ∧ w'.cell? ⟨w.heap.size, 7, none⟩ = some (.int .i64 epoch) ∧ w'.cell? ⟨w.heap.size, 8, none⟩ = some (.int .i64 seq) ∧ w'.cell? ⟨w.heap.size, 9, none⟩ = some (.slice a5 n5 c5) ∧ w'.cell? ⟨w.heap.size, 10, none⟩ = some (.slice a6 n6 c6) ∧ w1.grownBy w' none)) := fun w' hg => ⟨(q1.keep0 hg).cell 0, (q1.keep0 hg).cell 1, (q1.keep0 hg).cell 2, (q1.keep0 hg).cell 3, (q1.keep0 hg).cell 4, (q1.keep0 hg).cell 5, (q1.keep0 hg).cell 6, (q1.keep0 hg).cell 7, (q1.keep0 hg).cell 8, (q1.keep0 hg).cell 9, (q1.keep0 hg).cell 10, hg⟩
    clear cc q1
    go_region_held3 (fun w' => w'.cell? ⟨w.heap.size, 0, none⟩ = some (.int .i64 kind) ∧ w'.cell? ⟨w.heap.size, 1, none⟩ = some (.int .i64 id) ∧ w'.cell? ⟨w.heap.size, 2, none⟩ = some (.slice a1 n1 c1) ∧ w'.cell? ⟨w.heap.size, 3, none⟩ = some (.slice a2 n2 c2) ∧ w'.cell? ⟨w.heap.size, 4, none⟩ = some (.int .i64 tick) ∧ w'.cell? ⟨w.heap.size, 5, none⟩ = some (.slice a3 n3 c3) ∧ w'.cell? ⟨w.heap.size, 6, none⟩ = some (.slice a4 n4 c4) ∧ w'.cell? ⟨w.heap.size, 7, none⟩ = some (.int .i64 epoch) ∧ w'.cell? ⟨w.heap.size, 8, none⟩ = some (.int .i64 seq) ∧ w'.cell? ⟨w.heap.size, 9, none⟩ = some (.slice a5 n5 c5) ∧ w'.cell? ⟨w.heap.size, 10, none⟩ = some (.slice a6 n6 c6) ∧ w1.grownBy w' none)
      ((refine KX.out _ ?_; (repeat (first | with_reducible exact gb_refl _ | with_reducible refine gb_alloc ?_ _ | with_reducible refine gb_drewN ?_ _ | with_reducible refine gb_drew ?_ | with_reducible refine gb_trans ?_ g2 | with_reducible refine gb_trans ?_ g3))))
      (first
        | (go_at_call 60; refine (impl_Tag a 32 c l b1 m1 d1 I _ (r.keep0 (by (repeat (first | with_reducible exact gb_refl _ | with_reducible exact G | with_reducible refine gb_alloc ?_ _ | with_reducible refine gb_drewN ?_ _ | with_reducible refine gb_drew ?_ | with_reducible refine gb_trans ?_ g1)))) (o1.rd.keep0 (by (repeat (first | with_reducible exact gb_refl _ | with_reducible refine gb_alloc ?_ _ | with_reducible refine gb_drewN ?_ _ | with_reducible refine gb_drew ?_)))) (by omega) (by omega)).mono ?_; rintro e w2 ⟨b2, m2, d2, rfl, o2, g2⟩; skip)
        | (go_at_call 59; refine (impl_SameTag a6 n6 c6 l6 b2 m2 d2 _ _ (r6.keep0 (by (repeat (first | with_reducible exact gb_refl _ | with_reducible exact G | with_reducible refine gb_alloc ?_ _ | with_reducible refine gb_drewN ?_ _ | with_reducible refine gb_drew ?_ | with_reducible refine gb_trans ?_ g1 | with_reducible refine gb_trans ?_ g2)))) (o2.rd.keep0 (by (repeat (first | with_reducible exact gb_refl _ | with_reducible refine gb_alloc ?_ _ | with_reducible refine gb_drewN ?_ _ | with_reducible refine gb_drew ?_))))).mono ?_; rw [hs]; rintro e w3 ⟨rfl, g3⟩; skip)
        | fail)
    go_wp2
    go_ret2
    first | exact ⟨_, _, _, rfl, Ow.nil _ _ _, by (repeat (first | with_reducible exact gb_refl _ | with_reducible exact G | with_reducible refine gb_alloc ?_ _ | with_reducible refine gb_drewN ?_ _ | with_reducible refine gb_drew ?_ | with_reducible refine gb_trans ?_ g1 | with_reducible refine gb_trans ?_ g2 | with_reducible refine gb_trans ?_ g3))⟩ | exact ⟨_, _, _, rfl, (new_own _ _).mono (World.grownBy.size (row := none) (by (repeat (first | with_reducible exact gb_refl _ | with_reducible exact G | with_reducible refine gb_alloc ?_ _ | with_reducible refine gb_drewN ?_ _ | with_reducible refine gb_drew ?_ | with_reducible refine gb_trans ?_ g1 | with_reducible refine gb_trans ?_ g2 | with_reducible refine gb_trans ?_ g3)))), by (repeat (first | with_reducible exact gb_refl _ | with_reducible exact G | with_reducible refine gb_alloc ?_ _ | with_reducible refine gb_drewN ?_ _ | with_reducible refine gb_drew ?_ | with_reducible refine gb_trans ?_ g1 | with_reducible refine gb_trans ?_ g2 | with_reducible refine gb_trans ?_ g3))⟩
  · have E2 : unsealB l x ⟨kind, id, l1, l2, tick, l3, l4, epoch, seq, l5, l6⟩ = true := by rw [E.out, hz2, hs]; rfl
    have bl := (unseal_len E2).2
    simp only at bl
    have hl := headM_len x l2 epoch seq
    have e5 := r5.blen
    rw [unsealM, E2, if_pos rfl]
    clear r1 r3 r4 E2 E hz2
    go_enter Tryz.func32, Tryz.ntmps32
    go_wp2_with (go_at_call 30; refine C.out.mono ?_; rintro e w1 ⟨b1, m1, d1, rfl, o1, g1⟩; have e1 := o1.blen; have q1 := b0.keep0 g1; have cc := fun o => q1.cell o; skip)
    have hm : ((m1 : Int) == 0) = false := by rw [beq_eq_false_iff_ne]; omega
    have KX : Hid (∀ w', w1.grownBy w' none → (w'.cell? ⟨w.heap.size, 0, none⟩ = some (.int .i64 kind) ∧ w'.cell? ⟨w.heap.size, 1, none⟩ = some (.int .i64 id) ∧ w'.cell? ⟨w.heap.size, 2, none⟩ = some (.slice a1 n1 c1) ∧ w'.cell? ⟨w.heap.size, 3, none⟩ = some (.slice a2 n2 c2) ∧ w'.cell? ⟨w.heap.size, 4, none⟩ = some (.int .i64 tick) ∧ w'.cell? ⟨w.heap.size, 5, none⟩ = some (.slice a3 n3 c3) ∧ w'.cell? ⟨w.heap.size, 6, none⟩ = some (.slice a4 n4 c4) ∧ w'.cell? ⟨w.heap.size, 7, none⟩ = some (.int .i64 epoch) ∧ w'.cell? ⟨w.heap.size, 8, none⟩ = some (.int .i64 seq) ∧ w'.cell? ⟨w.heap.size, 9, none⟩ = some (.slice a5 n5 c5) ∧ w'.cell? ⟨w.heap.size, 10, none⟩ = some (.slice a6 n6 c6) ∧ w1.grownBy w' none)) := fun w' hg => ⟨(q1.keep0 hg).cell 0, (q1.keep0 hg).cell 1, (q1.keep0 hg).cell 2, (q1.keep0 hg).cell 3, (q1.keep0 hg).cell 4, (q1.keep0 hg).cell 5, (q1.keep0 hg).cell 6, (q1.keep0 hg).cell 7, (q1.keep0 hg).cell 8, (q1.keep0 hg).cell 9, (q1.keep0 hg).cell 10, hg⟩
    clear cc q1
    go_region_held3 (fun w' => w'.cell? ⟨w.heap.size, 0, none⟩ = some (.int .i64 kind) ∧ w'.cell? ⟨w.heap.size, 1, none⟩ = some (.int .i64 id) ∧ w'.cell? ⟨w.heap.size, 2, none⟩ = some (.slice a1 n1 c1) ∧ w'.cell? ⟨w.heap.size, 3, none⟩ = some (.slice a2 n2 c2) ∧ w'.cell? ⟨w.heap.size, 4, none⟩ = some (.int .i64 tick) ∧ w'.cell? ⟨w.heap.size, 5, none⟩ = some (.slice a3 n3 c3) ∧ w'.cell? ⟨w.heap.size, 6, none⟩ = some (.slice a4 n4 c4) ∧ w'.cell? ⟨w.heap.size, 7, none⟩ = some (.int .i64 epoch) ∧ w'.cell? ⟨w.heap.size, 8, none⟩ = some (.int .i64 seq) ∧ w'.cell? ⟨w.heap.size, 9, none⟩ = some (.slice a5 n5 c5) ∧ w'.cell? ⟨w.heap.size, 10, none⟩ = some (.slice a6 n6 c6) ∧ w1.grownBy w' none)
      ((refine KX.out _ ?_; (repeat (first | with_reducible exact gb_refl _ | with_reducible refine gb_alloc ?_ _ | with_reducible refine gb_drewN ?_ _ | with_reducible refine gb_drew ?_ | with_reducible refine gb_trans ?_ g2 | with_reducible refine gb_trans ?_ g3))))
      (first
        | (go_at_call 60; refine (impl_Tag a 32 c l b1 m1 d1 I _ (r.keep0 (by (repeat (first | with_reducible exact gb_refl _ | with_reducible exact G | with_reducible refine gb_alloc ?_ _ | with_reducible refine gb_drewN ?_ _ | with_reducible refine gb_drew ?_ | with_reducible refine gb_trans ?_ g1)))) (o1.rd.keep0 (by (repeat (first | with_reducible exact gb_refl _ | with_reducible refine gb_alloc ?_ _ | with_reducible refine gb_drewN ?_ _ | with_reducible refine gb_drew ?_)))) (by omega) (by omega)).mono ?_; rintro e w2 ⟨b2, m2, d2, rfl, o2, g2⟩; skip)
        | (go_at_call 59; refine (impl_SameTag a6 n6 c6 l6 b2 m2 d2 _ _ (r6.keep0 (by (repeat (first | with_reducible exact gb_refl _ | with_reducible exact G | with_reducible refine gb_alloc ?_ _ | with_reducible refine gb_drewN ?_ _ | with_reducible refine gb_drew ?_ | with_reducible refine gb_trans ?_ g1 | with_reducible refine gb_trans ?_ g2)))) (o2.rd.keep0 (by (repeat (first | with_reducible exact gb_refl _ | with_reducible refine gb_alloc ?_ _ | with_reducible refine gb_drewN ?_ _ | with_reducible refine gb_drew ?_))))).mono ?_; rw [hs]; rintro e w3 ⟨rfl, g3⟩; skip)
        | fail)
    go_wp2
    go_region_held3 (fun w' => w'.cell? ⟨w.heap.size, 0, none⟩ = some (.int .i64 kind) ∧ w'.cell? ⟨w.heap.size, 1, none⟩ = some (.int .i64 id) ∧ w'.cell? ⟨w.heap.size, 2, none⟩ = some (.slice a1 n1 c1) ∧ w'.cell? ⟨w.heap.size, 3, none⟩ = some (.slice a2 n2 c2) ∧ w'.cell? ⟨w.heap.size, 4, none⟩ = some (.int .i64 tick) ∧ w'.cell? ⟨w.heap.size, 5, none⟩ = some (.slice a3 n3 c3) ∧ w'.cell? ⟨w.heap.size, 6, none⟩ = some (.slice a4 n4 c4) ∧ w'.cell? ⟨w.heap.size, 7, none⟩ = some (.int .i64 epoch) ∧ w'.cell? ⟨w.heap.size, 8, none⟩ = some (.int .i64 seq) ∧ w'.cell? ⟨w.heap.size, 9, none⟩ = some (.slice a5 n5 c5) ∧ w'.cell? ⟨w.heap.size, 10, none⟩ = some (.slice a6 n6 c6) ∧ w1.grownBy w' none)
      ((refine KX.out _ ?_; (repeat (first | with_reducible exact gb_refl _ | with_reducible refine gb_alloc ?_ _ | with_reducible refine gb_drewN ?_ _ | with_reducible refine gb_drew ?_ | with_reducible refine gb_trans ?_ g2 | with_reducible refine gb_trans ?_ g3 | with_reducible refine gb_trans ?_ g4 | with_reducible refine gb_trans ?_ g5))))
      (first
        | (go_at_call 57; refine (impl_HeadOf x a2 n2 c2 l2 epoch seq _ (r2.keep0 (by (repeat (first | with_reducible exact gb_refl _ | with_reducible exact G | with_reducible refine gb_alloc ?_ _ | with_reducible refine gb_drewN ?_ _ | with_reducible refine gb_drew ?_ | with_reducible refine gb_trans ?_ g1 | with_reducible refine gb_trans ?_ g2 | with_reducible refine gb_trans ?_ g3))))).mono ?_; rintro e w4 ⟨b4, m4, d4, rfl, o4, g4⟩; have e4 := o4.blen; skip)
        | (go_at_call 61; refine (impl_Mix a 32 c l b4 m4 d4 _ a5 n5 c5 l5 _ (r.keep0 (by (repeat (first | with_reducible exact gb_refl _ | with_reducible exact G | with_reducible refine gb_alloc ?_ _ | with_reducible refine gb_drewN ?_ _ | with_reducible refine gb_drew ?_ | with_reducible refine gb_trans ?_ g1 | with_reducible refine gb_trans ?_ g2 | with_reducible refine gb_trans ?_ g3 | with_reducible refine gb_trans ?_ g4)))) (o4.rd.keep0 (by (repeat (first | with_reducible exact gb_refl _ | with_reducible refine gb_alloc ?_ _ | with_reducible refine gb_drewN ?_ _ | with_reducible refine gb_drew ?_)))) (r5.keep0 (by (repeat (first | with_reducible exact gb_refl _ | with_reducible exact G | with_reducible refine gb_alloc ?_ _ | with_reducible refine gb_drewN ?_ _ | with_reducible refine gb_drew ?_ | with_reducible refine gb_trans ?_ g1 | with_reducible refine gb_trans ?_ g2 | with_reducible refine gb_trans ?_ g3 | with_reducible refine gb_trans ?_ g4)))) (by omega) (by omega) (by omega)).mono ?_; rintro e w5 ⟨b5, m5, d5, rfl, o5, g5⟩; skip)
        | fail)
    go_wp2
    go_ret2
    exact ⟨_, _, _, rfl, o5.mono (World.grownBy.size (row := none) (by (repeat (first | with_reducible exact gb_refl _ | with_reducible exact G | with_reducible refine gb_alloc ?_ _ | with_reducible refine gb_drewN ?_ _ | with_reducible refine gb_drew ?_ | with_reducible refine gb_trans ?_ g1 | with_reducible refine gb_trans ?_ g2 | with_reducible refine gb_trans ?_ g3 | with_reducible refine gb_trans ?_ g4)))), by (repeat (first | with_reducible exact gb_refl _ | with_reducible exact G | with_reducible refine gb_alloc ?_ _ | with_reducible refine gb_drewN ?_ _ | with_reducible refine gb_drew ?_ | with_reducible refine gb_trans ?_ g1 | with_reducible refine gb_trans ?_ g2 | with_reducible refine gb_trans ?_ g3 | with_reducible refine gb_trans ?_ g4 | with_reducible refine gb_trans ?_ g5))⟩
set_option maxRecDepth 1000000 in
set_option maxHeartbeats 4000000 in
theorem spec_Unseal (a : Option Addr) (n c : Nat) (l : List UInt8) (x : Int) (v : Value) (f : FrameM) (w : World) (r : Rd w a n c (bys l)) (h : FrameR w v f) :
    Calls Tryz.prog 24 #[.slice a n c, .int .i64 x, v] w fun e w' => ∃ a n c, e = .returned (.tuple #[.slice a n c, .bool (unsealB l x f)]) ∧ Ow w.heap.size w' 5 a n c (bys (unsealM l x f)) ∧ w.grownBy w' none := by
  have hR := h
  obtain ⟨a1, n1, c1, a2, n2, c2, a3, n3, c3, a4, n4, c4, a5, n5, c5, a6, n6, c6, rfl, r1, r2, r3, r4, r5, r6⟩ := h
  obtain ⟨kind, id, l1, l2, tick, l3, l4, epoch, seq, l5, l6⟩ := f
  simp only at r1 r2 r3 r4 r5 r6 hR
  obtain ⟨I, hI⟩ : ∃ I, I = tagInM x ⟨kind, id, l1, l2, tick, l3, l4, epoch, seq, l5, l6⟩ := ⟨_, rfl⟩
  have IL : I.length ≤ 65 := by rw [hI]; exact tagInM_len _ _
  have L := Lib.hid r.blen
  have G := gb_alloc (gb_refl w) (.cells #[.int .i64 kind, .int .i64 id, .slice a1 n1 c1, .slice a2 n2 c2, .int .i64 tick, .slice a3 n3 c3, .slice a4 n4 c4, .int .i64 epoch, .int .i64 seq, .slice a5 n5 c5, .slice a6 n6 c6] 38)
  have b0 := bx1 w #[.int .i64 kind, .int .i64 id, .slice a1 n1 c1, .slice a2 n2 c2, .int .i64 tick, .slice a3 n3 c3, .slice a4 n4 c4, .int .i64 epoch, .int .i64 seq, .slice a5 n5 c5, .slice a6 n6 c6] 38
  have C := Lib.hid (spec_TagInput x _ _ _ (hR.keep0 G))
  rw [← hI] at C
  have E := Lib.hid (show unsealB l x ⟨kind, id, l1, l2, tick, l3, l4, epoch, seq, l5, l6⟩ = (((n : Int) == 32) && (!((I.length : Int) == 0) && sameT l6 (tagM l I))) by rw [unsealB, ← hI, L.out])
  clear hR hI
  cases h1 : ((n : Int) == 32)
  · have E2 : unsealB l x ⟨kind, id, l1, l2, tick, l3, l4, epoch, seq, l5, l6⟩ = false := by rw [E.out, h1]; rfl
    rw [unsealM, E2]
    have h2 : ((n : Int) != 32) = true := by rw [bne, h1]; rfl
    clear r r1 r2 r3 r4 r5 r6 E2
    go_enter Tryz.func24, Tryz.ntmps24
    go_wp2_with (go_at_call 22; refine C.out.mono ?_; rintro e w1 ⟨b1, m1, d1, rfl, o1, g1⟩; have e1 := o1.blen; have q1 := b0.keep0 g1; have cc := fun o => q1.cell o; skip)
    go_quiet (fail)
    go_wp2
    go_ret2
    first | exact ⟨_, _, _, rfl, Ow.nil _ _ _, gb_drewN (gb_trans G g1) _⟩ | exact ⟨_, _, _, rfl, (new_own _ _).mono (gb_trans G g1).size, gb_alloc (gb_drewN (gb_trans G g1) _) _⟩
  obtain rfl : n = 32 := by simp at h1; omega
  clear h1
  by_cases hz : I.length = 0
  · have E2 : unsealB l x ⟨kind, id, l1, l2, tick, l3, l4, epoch, seq, l5, l6⟩ = false := by rw [E.out, hz]; rfl
    rw [unsealM, E2]
    obtain rfl := List.eq_nil_of_length_eq_zero hz
    clear r r1 r2 r3 r4 r5 r6 E2 E hz IL
    go_enter Tryz.func24, Tryz.ntmps24
    go_wp2_with (go_at_call 22; refine C.out.mono ?_; rintro e w1 ⟨b1, m1, d1, rfl, o1, g1⟩; have e1 := o1.blen; have q1 := b0.keep0 g1; have cc := fun o => q1.cell o; skip)
    obtain rfl : m1 = 0 := e1.symm
    go_quiet (fail)
    go_wp2
    go_ret2
    first | exact ⟨_, _, _, rfl, Ow.nil _ _ _, gb_drewN (gb_trans G g1) _⟩ | exact ⟨_, _, _, rfl, (new_own _ _).mono (gb_trans G g1).size, gb_alloc (gb_drewN (gb_trans G g1) _) _⟩
  have hz2 : ((I.length : Int) == 0) = false := by rw [beq_eq_false_iff_ne]; omega
  cases hs : sameT l6 (tagM l I)
  · have E2 : unsealB l x ⟨kind, id, l1, l2, tick, l3, l4, epoch, seq, l5, l6⟩ = false := by rw [E.out, hz2, hs]; rfl
    rw [unsealM, E2]
    clear r1 r2 r3 r4 r5 E2 E hz2
    go_enter Tryz.func24, Tryz.ntmps24
    go_wp2_with (go_at_call 22; refine C.out.mono ?_; rintro e w1 ⟨b1, m1, d1, rfl, o1, g1⟩; have e1 := o1.blen; have q1 := b0.keep0 g1; have cc := fun o => q1.cell o; skip)
    have hm : ((m1 : Int) == 0) = false := by rw [beq_eq_false_iff_ne]; omega
    have KX : Hid (∀ w', w1.grownBy w' none → (w'.cell? ⟨w.heap.size, 0, none⟩ = some (.int .i64 kind) ∧ w'.cell? ⟨w.heap.size, 1, none⟩ = some (.int .i64 id) ∧ w'.cell? ⟨w.heap.size, 2, none⟩ = some (.slice a1 n1 c1) ∧ w'.cell? ⟨w.heap.size, 3, none⟩ = some (.slice a2 n2 c2) ∧ w'.cell? ⟨w.heap.size, 4, none⟩ = some (.int .i64 tick) ∧ w'.cell? ⟨w.heap.size, 5, none⟩ = some (.slice a3 n3 c3) ∧ w'.cell? ⟨w.heap.size, 6, none⟩ = some (.slice a4 n4 c4) ∧ w'.cell? ⟨w.heap.size, 7, none⟩ = some (.int .i64 epoch) ∧ w'.cell? ⟨w.heap.size, 8, none⟩ = some (.int .i64 seq) ∧ w'.cell? ⟨w.heap.size, 9, none⟩ = some (.slice a5 n5 c5) ∧ w'.cell? ⟨w.heap.size, 10, none⟩ = some (.slice a6 n6 c6) ∧ w1.grownBy w' none)) := fun w' hg => ⟨(q1.keep0 hg).cell 0, (q1.keep0 hg).cell 1, (q1.keep0 hg).cell 2, (q1.keep0 hg).cell 3, (q1.keep0 hg).cell 4, (q1.keep0 hg).cell 5, (q1.keep0 hg).cell 6, (q1.keep0 hg).cell 7, (q1.keep0 hg).cell 8, (q1.keep0 hg).cell 9, (q1.keep0 hg).cell 10, hg⟩
    clear cc q1
    go_region_held3 (fun w' => w'.cell? ⟨w.heap.size, 0, none⟩ = some (.int .i64 kind) ∧ w'.cell? ⟨w.heap.size, 1, none⟩ = some (.int .i64 id) ∧ w'.cell? ⟨w.heap.size, 2, none⟩ = some (.slice a1 n1 c1) ∧ w'.cell? ⟨w.heap.size, 3, none⟩ = some (.slice a2 n2 c2) ∧ w'.cell? ⟨w.heap.size, 4, none⟩ = some (.int .i64 tick) ∧ w'.cell? ⟨w.heap.size, 5, none⟩ = some (.slice a3 n3 c3) ∧ w'.cell? ⟨w.heap.size, 6, none⟩ = some (.slice a4 n4 c4) ∧ w'.cell? ⟨w.heap.size, 7, none⟩ = some (.int .i64 epoch) ∧ w'.cell? ⟨w.heap.size, 8, none⟩ = some (.int .i64 seq) ∧ w'.cell? ⟨w.heap.size, 9, none⟩ = some (.slice a5 n5 c5) ∧ w'.cell? ⟨w.heap.size, 10, none⟩ = some (.slice a6 n6 c6) ∧ w1.grownBy w' none)
      ((refine KX.out _ ?_; (repeat (first | with_reducible exact gb_refl _ | with_reducible refine gb_alloc ?_ _ | with_reducible refine gb_drewN ?_ _ | with_reducible refine gb_drew ?_ | with_reducible refine gb_trans ?_ g2 | with_reducible refine gb_trans ?_ g3))))
      (first
        | (go_at_call 46; refine (spec_Tag a 32 c l b1 m1 d1 I _ (r.keep0 (by (repeat (first | with_reducible exact gb_refl _ | with_reducible exact G | with_reducible refine gb_alloc ?_ _ | with_reducible refine gb_drewN ?_ _ | with_reducible refine gb_drew ?_ | with_reducible refine gb_trans ?_ g1)))) (o1.rd.keep0 (by (repeat (first | with_reducible exact gb_refl _ | with_reducible refine gb_alloc ?_ _ | with_reducible refine gb_drewN ?_ _ | with_reducible refine gb_drew ?_)))) (by omega) (by omega)).mono ?_; rintro e w2 ⟨b2, m2, d2, rfl, o2, g2⟩; skip)
        | (go_at_call 45; refine (spec_SameTag a6 n6 c6 l6 b2 m2 d2 _ _ (r6.keep0 (by (repeat (first | with_reducible exact gb_refl _ | with_reducible exact G | with_reducible refine gb_alloc ?_ _ | with_reducible refine gb_drewN ?_ _ | with_reducible refine gb_drew ?_ | with_reducible refine gb_trans ?_ g1 | with_reducible refine gb_trans ?_ g2)))) (o2.rd.keep0 (by (repeat (first | with_reducible exact gb_refl _ | with_reducible refine gb_alloc ?_ _ | with_reducible refine gb_drewN ?_ _ | with_reducible refine gb_drew ?_))))).mono ?_; rw [hs]; rintro e w3 ⟨rfl, g3⟩; skip)
        | fail)
    go_wp2
    go_ret2
    first | exact ⟨_, _, _, rfl, Ow.nil _ _ _, by (repeat (first | with_reducible exact gb_refl _ | with_reducible exact G | with_reducible refine gb_alloc ?_ _ | with_reducible refine gb_drewN ?_ _ | with_reducible refine gb_drew ?_ | with_reducible refine gb_trans ?_ g1 | with_reducible refine gb_trans ?_ g2 | with_reducible refine gb_trans ?_ g3))⟩ | exact ⟨_, _, _, rfl, (new_own _ _).mono (World.grownBy.size (row := none) (by (repeat (first | with_reducible exact gb_refl _ | with_reducible exact G | with_reducible refine gb_alloc ?_ _ | with_reducible refine gb_drewN ?_ _ | with_reducible refine gb_drew ?_ | with_reducible refine gb_trans ?_ g1 | with_reducible refine gb_trans ?_ g2 | with_reducible refine gb_trans ?_ g3)))), by (repeat (first | with_reducible exact gb_refl _ | with_reducible exact G | with_reducible refine gb_alloc ?_ _ | with_reducible refine gb_drewN ?_ _ | with_reducible refine gb_drew ?_ | with_reducible refine gb_trans ?_ g1 | with_reducible refine gb_trans ?_ g2 | with_reducible refine gb_trans ?_ g3))⟩
  · have E2 : unsealB l x ⟨kind, id, l1, l2, tick, l3, l4, epoch, seq, l5, l6⟩ = true := by rw [E.out, hz2, hs]; rfl
    have bl := (unseal_len E2).2
    simp only at bl
    have hl := headM_len x l2 epoch seq
    have e5 := r5.blen
    rw [unsealM, E2, if_pos rfl]
    clear r1 r3 r4 E2 E hz2
    go_enter Tryz.func24, Tryz.ntmps24
    go_wp2_with (go_at_call 22; refine C.out.mono ?_; rintro e w1 ⟨b1, m1, d1, rfl, o1, g1⟩; have e1 := o1.blen; have q1 := b0.keep0 g1; have cc := fun o => q1.cell o; skip)
    have hm : ((m1 : Int) == 0) = false := by rw [beq_eq_false_iff_ne]; omega
    have KX : Hid (∀ w', w1.grownBy w' none → (w'.cell? ⟨w.heap.size, 0, none⟩ = some (.int .i64 kind) ∧ w'.cell? ⟨w.heap.size, 1, none⟩ = some (.int .i64 id) ∧ w'.cell? ⟨w.heap.size, 2, none⟩ = some (.slice a1 n1 c1) ∧ w'.cell? ⟨w.heap.size, 3, none⟩ = some (.slice a2 n2 c2) ∧ w'.cell? ⟨w.heap.size, 4, none⟩ = some (.int .i64 tick) ∧ w'.cell? ⟨w.heap.size, 5, none⟩ = some (.slice a3 n3 c3) ∧ w'.cell? ⟨w.heap.size, 6, none⟩ = some (.slice a4 n4 c4) ∧ w'.cell? ⟨w.heap.size, 7, none⟩ = some (.int .i64 epoch) ∧ w'.cell? ⟨w.heap.size, 8, none⟩ = some (.int .i64 seq) ∧ w'.cell? ⟨w.heap.size, 9, none⟩ = some (.slice a5 n5 c5) ∧ w'.cell? ⟨w.heap.size, 10, none⟩ = some (.slice a6 n6 c6) ∧ w1.grownBy w' none)) := fun w' hg => ⟨(q1.keep0 hg).cell 0, (q1.keep0 hg).cell 1, (q1.keep0 hg).cell 2, (q1.keep0 hg).cell 3, (q1.keep0 hg).cell 4, (q1.keep0 hg).cell 5, (q1.keep0 hg).cell 6, (q1.keep0 hg).cell 7, (q1.keep0 hg).cell 8, (q1.keep0 hg).cell 9, (q1.keep0 hg).cell 10, hg⟩
    clear cc q1
    go_region_held3 (fun w' => w'.cell? ⟨w.heap.size, 0, none⟩ = some (.int .i64 kind) ∧ w'.cell? ⟨w.heap.size, 1, none⟩ = some (.int .i64 id) ∧ w'.cell? ⟨w.heap.size, 2, none⟩ = some (.slice a1 n1 c1) ∧ w'.cell? ⟨w.heap.size, 3, none⟩ = some (.slice a2 n2 c2) ∧ w'.cell? ⟨w.heap.size, 4, none⟩ = some (.int .i64 tick) ∧ w'.cell? ⟨w.heap.size, 5, none⟩ = some (.slice a3 n3 c3) ∧ w'.cell? ⟨w.heap.size, 6, none⟩ = some (.slice a4 n4 c4) ∧ w'.cell? ⟨w.heap.size, 7, none⟩ = some (.int .i64 epoch) ∧ w'.cell? ⟨w.heap.size, 8, none⟩ = some (.int .i64 seq) ∧ w'.cell? ⟨w.heap.size, 9, none⟩ = some (.slice a5 n5 c5) ∧ w'.cell? ⟨w.heap.size, 10, none⟩ = some (.slice a6 n6 c6) ∧ w1.grownBy w' none)
      ((refine KX.out _ ?_; (repeat (first | with_reducible exact gb_refl _ | with_reducible refine gb_alloc ?_ _ | with_reducible refine gb_drewN ?_ _ | with_reducible refine gb_drew ?_ | with_reducible refine gb_trans ?_ g2 | with_reducible refine gb_trans ?_ g3))))
      (first
        | (go_at_call 46; refine (spec_Tag a 32 c l b1 m1 d1 I _ (r.keep0 (by (repeat (first | with_reducible exact gb_refl _ | with_reducible exact G | with_reducible refine gb_alloc ?_ _ | with_reducible refine gb_drewN ?_ _ | with_reducible refine gb_drew ?_ | with_reducible refine gb_trans ?_ g1)))) (o1.rd.keep0 (by (repeat (first | with_reducible exact gb_refl _ | with_reducible refine gb_alloc ?_ _ | with_reducible refine gb_drewN ?_ _ | with_reducible refine gb_drew ?_)))) (by omega) (by omega)).mono ?_; rintro e w2 ⟨b2, m2, d2, rfl, o2, g2⟩; skip)
        | (go_at_call 45; refine (spec_SameTag a6 n6 c6 l6 b2 m2 d2 _ _ (r6.keep0 (by (repeat (first | with_reducible exact gb_refl _ | with_reducible exact G | with_reducible refine gb_alloc ?_ _ | with_reducible refine gb_drewN ?_ _ | with_reducible refine gb_drew ?_ | with_reducible refine gb_trans ?_ g1 | with_reducible refine gb_trans ?_ g2)))) (o2.rd.keep0 (by (repeat (first | with_reducible exact gb_refl _ | with_reducible refine gb_alloc ?_ _ | with_reducible refine gb_drewN ?_ _ | with_reducible refine gb_drew ?_))))).mono ?_; rw [hs]; rintro e w3 ⟨rfl, g3⟩; skip)
        | fail)
    go_wp2
    go_region_held3 (fun w' => w'.cell? ⟨w.heap.size, 0, none⟩ = some (.int .i64 kind) ∧ w'.cell? ⟨w.heap.size, 1, none⟩ = some (.int .i64 id) ∧ w'.cell? ⟨w.heap.size, 2, none⟩ = some (.slice a1 n1 c1) ∧ w'.cell? ⟨w.heap.size, 3, none⟩ = some (.slice a2 n2 c2) ∧ w'.cell? ⟨w.heap.size, 4, none⟩ = some (.int .i64 tick) ∧ w'.cell? ⟨w.heap.size, 5, none⟩ = some (.slice a3 n3 c3) ∧ w'.cell? ⟨w.heap.size, 6, none⟩ = some (.slice a4 n4 c4) ∧ w'.cell? ⟨w.heap.size, 7, none⟩ = some (.int .i64 epoch) ∧ w'.cell? ⟨w.heap.size, 8, none⟩ = some (.int .i64 seq) ∧ w'.cell? ⟨w.heap.size, 9, none⟩ = some (.slice a5 n5 c5) ∧ w'.cell? ⟨w.heap.size, 10, none⟩ = some (.slice a6 n6 c6) ∧ w1.grownBy w' none)
      ((refine KX.out _ ?_; (repeat (first | with_reducible exact gb_refl _ | with_reducible refine gb_alloc ?_ _ | with_reducible refine gb_drewN ?_ _ | with_reducible refine gb_drew ?_ | with_reducible refine gb_trans ?_ g2 | with_reducible refine gb_trans ?_ g3 | with_reducible refine gb_trans ?_ g4 | with_reducible refine gb_trans ?_ g5))))
      (first
        | (go_at_call 42; refine (spec_HeadOf x a2 n2 c2 l2 epoch seq _ (r2.keep0 (by (repeat (first | with_reducible exact gb_refl _ | with_reducible exact G | with_reducible refine gb_alloc ?_ _ | with_reducible refine gb_drewN ?_ _ | with_reducible refine gb_drew ?_ | with_reducible refine gb_trans ?_ g1 | with_reducible refine gb_trans ?_ g2 | with_reducible refine gb_trans ?_ g3))))).mono ?_; rintro e w4 ⟨b4, m4, d4, rfl, o4, g4⟩; have e4 := o4.blen; skip)
        | (go_at_call 47; refine (spec_Mix a 32 c l b4 m4 d4 _ a5 n5 c5 l5 _ (r.keep0 (by (repeat (first | with_reducible exact gb_refl _ | with_reducible exact G | with_reducible refine gb_alloc ?_ _ | with_reducible refine gb_drewN ?_ _ | with_reducible refine gb_drew ?_ | with_reducible refine gb_trans ?_ g1 | with_reducible refine gb_trans ?_ g2 | with_reducible refine gb_trans ?_ g3 | with_reducible refine gb_trans ?_ g4)))) (o4.rd.keep0 (by (repeat (first | with_reducible exact gb_refl _ | with_reducible refine gb_alloc ?_ _ | with_reducible refine gb_drewN ?_ _ | with_reducible refine gb_drew ?_)))) (r5.keep0 (by (repeat (first | with_reducible exact gb_refl _ | with_reducible exact G | with_reducible refine gb_alloc ?_ _ | with_reducible refine gb_drewN ?_ _ | with_reducible refine gb_drew ?_ | with_reducible refine gb_trans ?_ g1 | with_reducible refine gb_trans ?_ g2 | with_reducible refine gb_trans ?_ g3 | with_reducible refine gb_trans ?_ g4)))) (by omega) (by omega) (by omega)).mono ?_; rintro e w5 ⟨b5, m5, d5, rfl, o5, g5⟩; skip)
        | fail)
    go_wp2
    go_ret2
    exact ⟨_, _, _, rfl, o5.mono (World.grownBy.size (row := none) (by (repeat (first | with_reducible exact gb_refl _ | with_reducible exact G | with_reducible refine gb_alloc ?_ _ | with_reducible refine gb_drewN ?_ _ | with_reducible refine gb_drew ?_ | with_reducible refine gb_trans ?_ g1 | with_reducible refine gb_trans ?_ g2 | with_reducible refine gb_trans ?_ g3 | with_reducible refine gb_trans ?_ g4)))), by (repeat (first | with_reducible exact gb_refl _ | with_reducible exact G | with_reducible refine gb_alloc ?_ _ | with_reducible refine gb_drewN ?_ _ | with_reducible refine gb_drew ?_ | with_reducible refine gb_trans ?_ g1 | with_reducible refine gb_trans ?_ g2 | with_reducible refine gb_trans ?_ g3 | with_reducible refine gb_trans ?_ g4 | with_reducible refine gb_trans ?_ g5))⟩
end Go.Proofs.YteoglfclliclbaaGreat
