/-
  Contracts of the functions that make a finish. Conditions: none beside those that each theorem names.
-/
import Derived.Test.YtfjbfgonkimboaaKeys4
import Derived.Test.YtfjbfgonkimboaaFrOk
import Derived.Test.YtfjbfgonkimboaaPut
import Derived.Test.YtfjbfgonkimboaaCell
import Derived.Test.YtfjbfgonkimboaaFrC
import Derived.Deep.RegionHeld3
namespace Go.Proofs.Ytfjbfgonkimboaa
open Go.RowKit
def finPr (l : List UInt8) (x : Int) (f : FrameM) : List UInt8 := proofM l x f.cn f.sn f.tick f.cookie
def finB (l : List UInt8) (x : Int) (f : FrameM) : Bool := eqI f.kind 2 && (frOk f && !(((finPr l x f).length : Int) == 0))
def finOfM (l : List UInt8) (x : Int) (f : FrameM) : FrameM :=
  if finB l x f = true then ⟨3, x, f.cn, f.sn, f.tick, f.cookie, finPr l x f, 0, 0, [], []⟩ else zeroF
theorem finOfM_tot (l : List UInt8) (x : Int) (f : FrameM) : (finOfM l x f).tot ≤ 100 := by
  unfold finOfM
  split
  · rename_i h
    simp only [finB, Bool.and_eq_true, eqI_iff] at h
    obtain ⟨h1, h2, -⟩ := h
    obtain ⟨h3, h4, -, -, h5⟩ := frOk_2 h2 h1
    have h6 := proofM_le l x f.cn f.sn f.tick f.cookie
    simp only [FrameM.tot, finPr, List.length_nil]
    omega
  · simp [FrameM.tot, zeroF]
theorem frOk_2z {f : FrameM} (h : frOk f = true) (hk : f.kind = 2) : f.epoch = 0 ∧ f.seq = 0 ∧ f.body = [] ∧ f.tag = [] := by
  simp only [frOk, frOkN, hk, sealed_2, Bool.and_eq_true, not_neN, not_neI, Bool.false_eq_true, if_false] at h
  obtain ⟨⟨⟨⟨⟨h1, h2⟩, h3⟩, h4⟩, -⟩, -⟩ := h
  refine ⟨eqI_iff.1 h1, eqI_iff.1 h2, List.eq_nil_of_length_eq_zero ?_, List.eq_nil_of_length_eq_zero ?_⟩
  · have := eqN_le (m := 0) h3
    omega
  · have := eqN_le (m := 0) h4
    omega
theorem frOk_2p {f : FrameM} (h : frOk f = true) (hk : f.kind = 2) : f.proof.length = 0 := by
  simp only [frOk, frOkN, hk, sealed_2, Bool.and_eq_true, inB_iff, not_neN, not_neI, Bool.false_eq_true, if_false, if_true, show ¬ (2 : Int) = 1 by decide] at h
  obtain ⟨-, -, h5⟩ := h
  have := eqN_le (m := 0) h5
  omega
theorem finOfM_f {l : List UInt8} {x : Int} {f : FrameM} (h : finB l x f = false) : finOfM l x f = zeroF := by rw [finOfM, h]; rfl
set_option maxRecDepth 1000000 in
set_option maxHeartbeats 4000000 in
theorem impl_FinishOf (a : Option Addr) (n c : Nat) (l : List UInt8) (x : Int) (v : Value) (f : FrameM) (w : World) (r : Rd w a n c (bys l)) (h : FrameR w v f) :
    Calls Try.prog 31 #[.slice a n c, .int .i64 x, v] w fun e w' => ∃ v', e = .returned (.tuple #[v', .bool (finB l x f)]) ∧ FrameO w.heap.size w'.heap.size w' v' (finOfM l x f) ∧ w.grownBy w' none := by
  have hR := h
  obtain ⟨a1, n1, c1, a2, n2, c2, a3, n3, c3, a4, n4, c4, a5, n5, c5, a6, n6, c6, rfl, r1, r2, r3, r4, r5, r6⟩ := h
  obtain ⟨kind, id, l1, l2, tick, l3, l4, epoch, seq, l5, l6⟩ := f
  simp only at r1 r2 r3 r4 r5 r6 hR
  have G := gb_alloc (gb_alloc (gb_refl w) (.cells #[.int .i64 kind, .int .i64 id, .slice a1 n1 c1, .slice a2 n2 c2, .int .i64 tick, .slice a3 n3 c3, .slice a4 n4 c4, .int .i64 epoch, .int .i64 seq, .slice a5 n5 c5, .slice a6 n6 c6] 24)) (.cells #[.int .i64 0, .int .i64 0, .slice none 0 0, .slice none 0 0, .int .i64 0, .slice none 0 0, .slice none 0 0, .int .i64 0, .int .i64 0, .slice none 0 0, .slice none 0 0] 24)
  have bb := bx2 w #[.int .i64 kind, .int .i64 id, .slice a1 n1 c1, .slice a2 n2 c2, .int .i64 tick, .slice a3 n3 c3, .slice a4 n4 c4, .int .i64 epoch, .int .i64 seq, .slice a5 n5 c5, .slice a6 n6 c6] #[.int .i64 0, .int .i64 0, .slice none 0 0, .slice none 0 0, .int .i64 0, .slice none 0 0, .slice none 0 0, .int .i64 0, .int .i64 0, .slice none 0 0, .slice none 0 0] 24 24
  have R := Lib.hid (hR.keep0 G)
  clear hR
  cases hk : (kind == 2)
  · have E2 : finB l x ⟨kind, id, l1, l2, tick, l3, l4, epoch, seq, l5, l6⟩ = false := by simp [finB, eqI, hk]
    have hk2 : (kind != 2) = true := by simpa using hk
    rw [finOfM_f E2, E2]
    clear E2
    go_enter Try.func31, Try.ntmps31
    go_wp2
    have ez := World.grownBy.size G
    refine bodyPost_ret (v := .tuple #[.agg #[.int .i64 0, .int .i64 0, .slice none 0 0, .slice none 0 0, .int .i64 0, .slice none 0 0, .slice none 0 0, .int .i64 0, .int .i64 0, .slice none 0 0, .slice none 0 0], .bool false]) (by simp [results, Try.results31, go_sem]) rfl ⟨_, rfl, frameO_zero _ _ _, ?_⟩
    repeat (first | with_reducible exact G | (refine gb_set ?_ (.inl ?_) _; rotate_left; focus (first | (simp; done) | (simp; omega))))
  cases hok : frOk ⟨kind, id, l1, l2, tick, l3, l4, epoch, seq, l5, l6⟩
  · have hk2 : (kind != 2) = false := by simpa using hk
    have E2 : finB l x ⟨kind, id, l1, l2, tick, l3, l4, epoch, seq, l5, l6⟩ = false := by simp [finB, hok]
    rw [finOfM_f E2, E2]
    clear E2
    go_enter Try.func31, Try.ntmps31
    go_wp2_with (go_at_call 48; refine (impl_FrameOk _ _ _ R.out).mono ?_; rw [hok]; rintro e w1 ⟨rfl, g1⟩; have q0 := bb.1.keep0 g1; have q1 := bb.2.keep0 g1; have cc := fun o => q0.cell o; have cr := fun o => q1.cell o; have fr := fun o => q1.frozen o; have lr := q1.lt)
    have G1 := gb_trans G g1
    have ez := World.grownBy.size G
    refine bodyPost_ret (v := .tuple #[.agg #[.int .i64 0, .int .i64 0, .slice none 0 0, .slice none 0 0, .int .i64 0, .slice none 0 0, .slice none 0 0, .int .i64 0, .int .i64 0, .slice none 0 0, .slice none 0 0], .bool false]) (by simp [results, Try.results31, go_sem, cr]) rfl ⟨_, rfl, frameO_zero _ _ _, ?_⟩
    repeat (first | with_reducible exact G1 | (refine gb_set ?_ (.inl ?_) _; rotate_left; focus (first | (simp; done) | (simp; omega))))
  obtain rfl : kind = 2 := by simpa using hk
  clear hk
  have ZZ := Lib.hid (frOk_2z hok rfl)
  obtain ⟨Pr, hP⟩ : ∃ Pr, proofM l x l1 l2 tick l3 = Pr := ⟨_, rfl⟩
  have HP := Lib.hid hP
  have bd := frOk_2 hok rfl
  simp only at bd
  have E := Lib.hid (show finB l x ⟨2, id, l1, l2, tick, l3, l4, epoch, seq, l5, l6⟩ = !((Pr.length : Int) == 0) by simp [finB, eqI, hok, finPr, hP])
  have E0 := Lib.hid (show finB l x ⟨2, id, l1, l2, tick, l3, l4, epoch, seq, l5, l6⟩ = true → finOfM l x ⟨2, id, l1, l2, tick, l3, l4, epoch, seq, l5, l6⟩ = ⟨3, x, l1, l2, tick, l3, Pr, 0, 0, [], []⟩ from fun h => by rw [finOfM, h]; simp [finPr, hP])
  clear hP
  by_cases hz : Pr.length = 0
  · have E2 : finB l x ⟨2, id, l1, l2, tick, l3, l4, epoch, seq, l5, l6⟩ = false := by rw [E.out, hz]; rfl
    rw [finOfM_f E2, E2]
    clear E2 E E0
    go_enter Try.func31, Try.ntmps31
    obtain rfl := List.eq_nil_of_length_eq_zero hz
    clear hz
    go_wp2_with (first | (go_at_call 48; refine (impl_FrameOk _ _ _ R.out).mono ?_; rw [hok]; rintro e w1 ⟨rfl, g1⟩; have q0 := bb.1.keep0 g1; have q1 := bb.2.keep0 g1; have cc := fun o => q0.cell o; have cr := fun o => q1.cell o; have fr := fun o => q1.frozen o; have lr := q1.lt) | (go_at_call 58; refine (impl_Proof a n c l x a1 n1 c1 l1 a2 n2 c2 l2 tick a3 n3 c3 l3 _ (r.keep0 (by (repeat (first | with_reducible exact gb_refl _ | with_reducible exact G | with_reducible refine gb_alloc ?_ _ | with_reducible refine gb_drewN ?_ _ | with_reducible refine gb_drew ?_ | with_reducible refine gb_trans ?_ g1)))) (r1.keep0 (by (repeat (first | with_reducible exact gb_refl _ | with_reducible exact G | with_reducible refine gb_alloc ?_ _ | with_reducible refine gb_drewN ?_ _ | with_reducible refine gb_drew ?_ | with_reducible refine gb_trans ?_ g1)))) (r2.keep0 (by (repeat (first | with_reducible exact gb_refl _ | with_reducible exact G | with_reducible refine gb_alloc ?_ _ | with_reducible refine gb_drewN ?_ _ | with_reducible refine gb_drew ?_ | with_reducible refine gb_trans ?_ g1)))) (r3.keep0 (by (repeat (first | with_reducible exact gb_refl _ | with_reducible exact G | with_reducible refine gb_alloc ?_ _ | with_reducible refine gb_drewN ?_ _ | with_reducible refine gb_drew ?_ | with_reducible refine gb_trans ?_ g1))))).mono ?_; rw [HP.out]; rintro e w4 ⟨b4, m4, d4, rfl, o4, g4⟩; have e4 := o4.blen; obtain rfl : m4 = 0 := e4.symm; replace q0 := q0.keep0 g4; replace q1 := q1.keep0 g4; clear cc cr fr lr; have cc := fun o => q0.cell o; have cr := fun o => q1.cell o; have fr := fun o => q1.frozen o; have lr := q1.lt))
    have G1 := gb_trans (gb_trans G g1) g4
    have ez := World.grownBy.size G
    refine bodyPost_ret (v := .tuple #[.agg #[.int .i64 0, .int .i64 0, .slice none 0 0, .slice none 0 0, .int .i64 0, .slice none 0 0, .slice none 0 0, .int .i64 0, .int .i64 0, .slice none 0 0, .slice none 0 0], .bool false]) (by simp [results, Try.results31, go_sem, cr]) rfl ⟨_, rfl, frameO_zero _ _ _, ?_⟩
    repeat (first | with_reducible exact G1 | (refine gb_set ?_ (.inl ?_) _; rotate_left; focus (first | (simp; done) | (simp; omega))))
  have E2 : finB l x ⟨2, id, l1, l2, tick, l3, l4, epoch, seq, l5, l6⟩ = true := by rw [E.out, Bool.not_eq_true', beq_eq_false_iff_ne]; omega
  rw [E0.out E2, E2]
  clear E2 E E0
  have y1 := r1.blen
  have y2 := r2.blen
  have y3 := r3.blen
  go_enter Try.func31, Try.ntmps31
  go_wp2_with (first | (go_at_call 48; refine (impl_FrameOk _ _ _ R.out).mono ?_; rw [hok]; rintro e w1 ⟨rfl, g1⟩; have q0 := bb.1.keep0 g1; have q1 := bb.2.keep0 g1; have cc := fun o => q0.cell o; have cr := fun o => q1.cell o; have fr := fun o => q1.frozen o; have lr := q1.lt) | (go_at_call 58; refine (impl_Proof a n c l x a1 n1 c1 l1 a2 n2 c2 l2 tick a3 n3 c3 l3 _ (r.keep0 (by (repeat (first | with_reducible exact gb_refl _ | with_reducible exact G | with_reducible refine gb_alloc ?_ _ | with_reducible refine gb_drewN ?_ _ | with_reducible refine gb_drew ?_ | with_reducible refine gb_trans ?_ g1)))) (r1.keep0 (by (repeat (first | with_reducible exact gb_refl _ | with_reducible exact G | with_reducible refine gb_alloc ?_ _ | with_reducible refine gb_drewN ?_ _ | with_reducible refine gb_drew ?_ | with_reducible refine gb_trans ?_ g1)))) (r2.keep0 (by (repeat (first | with_reducible exact gb_refl _ | with_reducible exact G | with_reducible refine gb_alloc ?_ _ | with_reducible refine gb_drewN ?_ _ | with_reducible refine gb_drew ?_ | with_reducible refine gb_trans ?_ g1)))) (r3.keep0 (by (repeat (first | with_reducible exact gb_refl _ | with_reducible exact G | with_reducible refine gb_alloc ?_ _ | with_reducible refine gb_drewN ?_ _ | with_reducible refine gb_drew ?_ | with_reducible refine gb_trans ?_ g1))))).mono ?_; rw [HP.out]; rintro e w4 ⟨b4, m4, d4, rfl, o4, g4⟩; have e4 := o4.blen; have ne4 : ((m4 : Int) == 0) = false := (by rw [beq_eq_false_iff_ne]; omega); replace q0 := q0.keep0 g4; replace q1 := q1.keep0 g4; clear cc cr fr lr; have cc := fun o => q0.cell o; have cr := fun o => q1.cell o; have fr := fun o => q1.frozen o; have lr := q1.lt))
  have G4 := gb_trans (gb_trans G g1) g4
  have KX : Hid (∀ w', gbI (w.heap.size + 1) (w.heap.size + 2) w4 w' → (w'.cell? ⟨w.heap.size, 0, none⟩ = some (.int .i64 2) ∧ w'.cell? ⟨w.heap.size, 1, none⟩ = some (.int .i64 id) ∧ w'.cell? ⟨w.heap.size, 2, none⟩ = some (.slice a1 n1 c1) ∧ w'.cell? ⟨w.heap.size, 3, none⟩ = some (.slice a2 n2 c2) ∧ w'.cell? ⟨w.heap.size, 4, none⟩ = some (.int .i64 tick) ∧ w'.cell? ⟨w.heap.size, 5, none⟩ = some (.slice a3 n3 c3) ∧ w'.cell? ⟨w.heap.size, 6, none⟩ = some (.slice a4 n4 c4) ∧ w'.cell? ⟨w.heap.size, 7, none⟩ = some (.int .i64 epoch) ∧ w'.cell? ⟨w.heap.size, 8, none⟩ = some (.int .i64 seq) ∧ w'.cell? ⟨w.heap.size, 9, none⟩ = some (.slice a5 n5 c5) ∧ w'.cell? ⟨w.heap.size, 10, none⟩ = some (.slice a6 n6 c6) ∧ gbI (w.heap.size + 1) (w.heap.size + 2) w4 w')) := fun w' hg => ⟨(q0.keepI hg (.inl (Nat.lt_succ_self _))).cell 0, (q0.keepI hg (.inl (Nat.lt_succ_self _))).cell 1, (q0.keepI hg (.inl (Nat.lt_succ_self _))).cell 2, (q0.keepI hg (.inl (Nat.lt_succ_self _))).cell 3, (q0.keepI hg (.inl (Nat.lt_succ_self _))).cell 4, (q0.keepI hg (.inl (Nat.lt_succ_self _))).cell 5, (q0.keepI hg (.inl (Nat.lt_succ_self _))).cell 6, (q0.keepI hg (.inl (Nat.lt_succ_self _))).cell 7, (q0.keepI hg (.inl (Nat.lt_succ_self _))).cell 8, (q0.keepI hg (.inl (Nat.lt_succ_self _))).cell 9, (q0.keepI hg (.inl (Nat.lt_succ_self _))).cell 10, hg⟩
  clear cc
  go_region_held3 (fun w' => w'.cell? ⟨w.heap.size, 0, none⟩ = some (.int .i64 2) ∧ w'.cell? ⟨w.heap.size, 1, none⟩ = some (.int .i64 id) ∧ w'.cell? ⟨w.heap.size, 2, none⟩ = some (.slice a1 n1 c1) ∧ w'.cell? ⟨w.heap.size, 3, none⟩ = some (.slice a2 n2 c2) ∧ w'.cell? ⟨w.heap.size, 4, none⟩ = some (.int .i64 tick) ∧ w'.cell? ⟨w.heap.size, 5, none⟩ = some (.slice a3 n3 c3) ∧ w'.cell? ⟨w.heap.size, 6, none⟩ = some (.slice a4 n4 c4) ∧ w'.cell? ⟨w.heap.size, 7, none⟩ = some (.int .i64 epoch) ∧ w'.cell? ⟨w.heap.size, 8, none⟩ = some (.int .i64 seq) ∧ w'.cell? ⟨w.heap.size, 9, none⟩ = some (.slice a5 n5 c5) ∧ w'.cell? ⟨w.heap.size, 10, none⟩ = some (.slice a6 n6 c6) ∧ gbI (w.heap.size + 1) (w.heap.size + 2) w4 w')
    ((refine KX.out _ ?_; (repeat (first | with_reducible exact gbI.refl _ _ _ | with_reducible refine gbI_drewN ?_ _ | with_reducible refine gbI_drew ?_ | with_reducible exact gbI.of0 H5 | with_reducible exact gbI.of0 H6 | with_reducible exact gbI.of0 H7 | (refine gbI_setR ?_ ?_ ?_; (focus (simp; done)); (focus (simp; done)))))))
    (first
      | (go_at_call 45; (with_reducible refine (impl_clone a1 n1 c1 l1 _ (r1.keep0 (gb_drew G4)) (by omega)).mono ?_); rintro e w5 ⟨b1, m1, d1, rfl, o1', g5⟩; have o1 : Ow w4.heap.size w5 5 b1 m1 d1 (bys l1) := o1'; have H5 := gb_trans (gb_drew (gb_refl w4)) g5; skip)
      | (go_at_call 45; (with_reducible refine (impl_clone a2 n2 c2 l2 w5 (r2.keep0 (gb_trans G4 H5)) (by omega)).mono ?_); rintro e w6 ⟨b2, m2, d2, rfl, o2, g6⟩; have H6 := gb_trans H5 g6; skip)
      | (go_at_call 45; (with_reducible refine (impl_clone a3 n3 c3 l3 w6 (r3.keep0 (gb_trans G4 H6)) (by omega)).mono ?_); rintro e w7 ⟨b3, m3, d3, rfl, o3, g7⟩; have H7 := gb_trans H6 g7; have q7 := q1.keep0 H7; clear cr fr lr; have cr := fun o => q7.cell o; have fr := fun o => q7.frozen o; have lr := q7.lt; skip)
      | fail)
  go_wp2
  have z5 := H5.size
  have z6 := g6.size
  have z7 := g7.size
  have z4 := g4.size
  have z1 := World.grownBy.size (gb_trans G g1)
  have zG := World.grownBy.size G
  have O1 := (o1.keep0 g6).keep0 g7
  have O2 := o2.keep0 g7
  have O4 := o4.keep0 H7
  have l1' := fun p hp => o1.lt p hp
  have l2' := fun p hp => o2.lt p hp
  have l3' := fun p hp => o3.lt p hp
  have l4' := fun p hp => o4.lt p hp
  have lq := q0.lt
  have lr1 : w.heap.size + 1 < w1.heap.size := by have := g1.size; simp at this; omega
  refine bodyPost_ret (v := .tuple #[.agg #[.int .i64 3, .int .i64 x, .slice b1 m1 d1, .slice b2 m2 d2, .int .i64 tick, .slice b3 m3 d3, .slice b4 m4 d4, .int .i64 0, .int .i64 0, .slice none 0 0, .slice none 0 0], .bool true]) (by simp [results, Try.results31, go_sem, cr]) rfl ⟨_, rfl, frameO_mk ?_ ?_ ?_ ?_ (Ow.nil _ _ _) (Ow.nil _ _ _) (Nat.le_refl _) ?_ ?_ ?_ (dj_nil _) (dj_nil _) ?_ ?_ (dj_nil _) (dj_nil _) ?_ (dj_nil _) (dj_nil _) (dj_nil _) (dj_nil _) (dj_nil _), ?_⟩
  · exact Ow.mono (B := w4.heap.size) (by repeat (first | with_reducible exact O1 | (refine Ow.keepSet ?_ ?_ _; rotate_left; focus (first | (simp; done) | (simp; omega))))) (by omega)
  · exact Ow.mono (B := w5.heap.size) (by repeat (first | with_reducible exact O2 | (refine Ow.keepSet ?_ ?_ _; rotate_left; focus (first | (simp; done) | (simp; omega))))) (by omega)
  · exact Ow.mono (B := w6.heap.size) (by repeat (first | with_reducible exact o3 | (refine Ow.keepSet ?_ ?_ _; rotate_left; focus (first | (simp; done) | (simp; omega))))) (by omega)
  · exact Ow.mono (B := w1.heap.size) (by repeat (first | with_reducible exact O4 | (refine Ow.keepSet ?_ ?_ _; rotate_left; focus (first | (simp; done) | (simp; omega))))) (by omega)
  · intro p q hp hq; have := l1' p hp; have := l2' q hq; omega
  · intro p q hp hq; have := l1' p hp; have := l3' q hq; omega
  · intro p q hp hq; have := l1' p hp; have := l4' q hq; omega
  · intro p q hp hq; have := l2' p hp; have := l3' q hq; omega
  · intro p q hp hq; have := l2' p hp; have := l4' q hq; omega
  · intro p q hp hq; have := l3' p hp; have := l4' q hq; omega
  · have G7 := gb_trans G4 H7
    repeat (first | with_reducible exact G7 | (refine gb_set ?_ (.inl ?_) _; rotate_left; focus (first | (simp; done) | (simp; omega))))
set_option maxRecDepth 1000000 in
set_option maxHeartbeats 4000000 in
theorem spec_FinishOf (a : Option Addr) (n c : Nat) (l : List UInt8) (x : Int) (v : Value) (f : FrameM) (w : World) (r : Rd w a n c (bys l)) (h : FrameR w v f) :
    Calls Try.prog 30 #[.slice a n c, .int .i64 x, v] w fun e w' => ∃ v', e = .returned (.tuple #[v', .bool (finB l x f)]) ∧ FrameO w.heap.size w'.heap.size w' v' (finOfM l x f) ∧ w.grownBy w' none := by
  have hR := h
  obtain ⟨a1, n1, c1, a2, n2, c2, a3, n3, c3, a4, n4, c4, a5, n5, c5, a6, n6, c6, rfl, r1, r2, r3, r4, r5, r6⟩ := h
  obtain ⟨kind, id, l1, l2, tick, l3, l4, epoch, seq, l5, l6⟩ := f
  simp only at r1 r2 r3 r4 r5 r6 hR
  have G := gb_alloc (gb_alloc (gb_refl w) (.cells #[.int .i64 kind, .int .i64 id, .slice a1 n1 c1, .slice a2 n2 c2, .int .i64 tick, .slice a3 n3 c3, .slice a4 n4 c4, .int .i64 epoch, .int .i64 seq, .slice a5 n5 c5, .slice a6 n6 c6] 24)) (.cells #[.int .i64 0, .int .i64 0, .slice none 0 0, .slice none 0 0, .int .i64 0, .slice none 0 0, .slice none 0 0, .int .i64 0, .int .i64 0, .slice none 0 0, .slice none 0 0] 24)
  have bb := bx2 w #[.int .i64 kind, .int .i64 id, .slice a1 n1 c1, .slice a2 n2 c2, .int .i64 tick, .slice a3 n3 c3, .slice a4 n4 c4, .int .i64 epoch, .int .i64 seq, .slice a5 n5 c5, .slice a6 n6 c6] #[.int .i64 0, .int .i64 0, .slice none 0 0, .slice none 0 0, .int .i64 0, .slice none 0 0, .slice none 0 0, .int .i64 0, .int .i64 0, .slice none 0 0, .slice none 0 0] 24 24
  have R := Lib.hid (hR.keep0 G)
  clear hR
  cases hok : frOk ⟨kind, id, l1, l2, tick, l3, l4, epoch, seq, l5, l6⟩
  · have E2 : finB l x ⟨kind, id, l1, l2, tick, l3, l4, epoch, seq, l5, l6⟩ = false := by simp [finB, hok]
    rw [finOfM_f E2, E2]
    clear E2
    go_enter Try.func30, Try.ntmps30
    go_wp2_with (go_at_call 54; refine (spec_FrameOk _ _ _ R.out).mono ?_; rw [hok]; rintro e w1 ⟨rfl, g1⟩; have q0 := bb.1.keep0 g1; have q1 := bb.2.keep0 g1; have cc := fun o => q0.cell o; have cr := fun o => q1.cell o; have fr := fun o => q1.frozen o; have lr := q1.lt)
    have G1 := gb_trans G g1
    have ez := World.grownBy.size G
    refine bodyPost_ret (v := .tuple #[.agg #[.int .i64 0, .int .i64 0, .slice none 0 0, .slice none 0 0, .int .i64 0, .slice none 0 0, .slice none 0 0, .int .i64 0, .int .i64 0, .slice none 0 0, .slice none 0 0], .bool false]) (by simp [results, Try.results30, go_sem, cr]) rfl ⟨_, rfl, frameO_zero _ _ _, ?_⟩
    repeat (first | with_reducible exact G1 | (refine gb_set ?_ (.inl ?_) _; rotate_left; focus (first | (simp; done) | (simp; omega))))
  cases hk : (kind == 2)
  · have E2 : finB l x ⟨kind, id, l1, l2, tick, l3, l4, epoch, seq, l5, l6⟩ = false := by simp [finB, eqI, hk]
    have hk2 : (kind != 2) = true := by simpa using hk
    rw [finOfM_f E2, E2]
    clear E2
    go_enter Try.func30, Try.ntmps30
    go_wp2_with (go_at_call 54; refine (spec_FrameOk _ _ _ R.out).mono ?_; rw [hok]; rintro e w1 ⟨rfl, g1⟩; have q0 := bb.1.keep0 g1; have q1 := bb.2.keep0 g1; have cc := fun o => q0.cell o; have cr := fun o => q1.cell o; have fr := fun o => q1.frozen o; have lr := q1.lt)
    have G1 := gb_trans G g1
    have ez := World.grownBy.size G
    refine bodyPost_ret (v := .tuple #[.agg #[.int .i64 0, .int .i64 0, .slice none 0 0, .slice none 0 0, .int .i64 0, .slice none 0 0, .slice none 0 0, .int .i64 0, .int .i64 0, .slice none 0 0, .slice none 0 0], .bool false]) (by simp [results, Try.results30, go_sem, cr]) rfl ⟨_, rfl, frameO_zero _ _ _, ?_⟩
    repeat (first | with_reducible exact G1 | (refine gb_set ?_ (.inl ?_) _; rotate_left; focus (first | (simp; done) | (simp; omega))))
  have hk2 : (kind != 2) = false := by simpa using hk
  obtain rfl : kind = 2 := by simpa using hk
  clear hk
  have ZZ := Lib.hid (frOk_2z hok rfl)
  obtain ⟨Pr, hP⟩ : ∃ Pr, proofM l x l1 l2 tick l3 = Pr := ⟨_, rfl⟩
  have HP := Lib.hid hP
  have bd := frOk_2 hok rfl
  simp only at bd
  have E := Lib.hid (show finB l x ⟨2, id, l1, l2, tick, l3, l4, epoch, seq, l5, l6⟩ = !((Pr.length : Int) == 0) by simp [finB, eqI, hok, finPr, hP])
  have E0 := Lib.hid (show finB l x ⟨2, id, l1, l2, tick, l3, l4, epoch, seq, l5, l6⟩ = true → finOfM l x ⟨2, id, l1, l2, tick, l3, l4, epoch, seq, l5, l6⟩ = ⟨3, x, l1, l2, tick, l3, Pr, 0, 0, [], []⟩ from fun h => by rw [finOfM, h]; simp [finPr, hP])
  clear hP
  by_cases hz : Pr.length = 0
  · have E2 : finB l x ⟨2, id, l1, l2, tick, l3, l4, epoch, seq, l5, l6⟩ = false := by rw [E.out, hz]; rfl
    rw [finOfM_f E2, E2]
    clear E2 E E0
    go_enter Try.func30, Try.ntmps30
    obtain rfl := List.eq_nil_of_length_eq_zero hz
    clear hz
    go_wp2_with (first | (go_at_call 54; refine (spec_FrameOk _ _ _ R.out).mono ?_; rw [hok]; rintro e w1 ⟨rfl, g1⟩; have q0 := bb.1.keep0 g1; have q1 := bb.2.keep0 g1; have cc := fun o => q0.cell o; have cr := fun o => q1.cell o; have fr := fun o => q1.frozen o; have lr := q1.lt) | (go_at_call 56; refine (spec_Proof a n c l x a1 n1 c1 l1 a2 n2 c2 l2 tick a3 n3 c3 l3 _ (r.keep0 (by (repeat (first | with_reducible exact gb_refl _ | with_reducible exact G | with_reducible refine gb_alloc ?_ _ | with_reducible refine gb_drewN ?_ _ | with_reducible refine gb_drew ?_ | with_reducible refine gb_trans ?_ g1)))) (r1.keep0 (by (repeat (first | with_reducible exact gb_refl _ | with_reducible exact G | with_reducible refine gb_alloc ?_ _ | with_reducible refine gb_drewN ?_ _ | with_reducible refine gb_drew ?_ | with_reducible refine gb_trans ?_ g1)))) (r2.keep0 (by (repeat (first | with_reducible exact gb_refl _ | with_reducible exact G | with_reducible refine gb_alloc ?_ _ | with_reducible refine gb_drewN ?_ _ | with_reducible refine gb_drew ?_ | with_reducible refine gb_trans ?_ g1)))) (r3.keep0 (by (repeat (first | with_reducible exact gb_refl _ | with_reducible exact G | with_reducible refine gb_alloc ?_ _ | with_reducible refine gb_drewN ?_ _ | with_reducible refine gb_drew ?_ | with_reducible refine gb_trans ?_ g1))))).mono ?_; rw [HP.out]; rintro e w4 ⟨b4, m4, d4, rfl, o4, g4⟩; have e4 := o4.blen; obtain rfl : m4 = 0 := e4.symm; replace q0 := q0.keep0 g4; replace q1 := q1.keep0 g4; clear cc cr fr lr; have cc := fun o => q0.cell o; have cr := fun o => q1.cell o; have fr := fun o => q1.frozen o; have lr := q1.lt))
    have G1 := gb_trans (gb_trans G g1) g4
    have ez := World.grownBy.size G
    refine bodyPost_ret (v := .tuple #[.agg #[.int .i64 0, .int .i64 0, .slice none 0 0, .slice none 0 0, .int .i64 0, .slice none 0 0, .slice none 0 0, .int .i64 0, .int .i64 0, .slice none 0 0, .slice none 0 0], .bool false]) (by simp [results, Try.results30, go_sem, cr]) rfl ⟨_, rfl, frameO_zero _ _ _, ?_⟩
    repeat (first | with_reducible exact G1 | (refine gb_set ?_ (.inl ?_) _; rotate_left; focus (first | (simp; done) | (simp; omega))))
  have E2 : finB l x ⟨2, id, l1, l2, tick, l3, l4, epoch, seq, l5, l6⟩ = true := by rw [E.out, Bool.not_eq_true', beq_eq_false_iff_ne]; omega
  rw [E0.out E2, E2]
  clear E2 E E0
  have y1 := r1.blen
  have y2 := r2.blen
  have y3 := r3.blen
  have t5 : l5 = [] := ZZ.out.2.2.1
  have t6 : l6 = [] := ZZ.out.2.2.2
  have t7 : epoch = 0 := ZZ.out.1
  have t8 : seq = 0 := ZZ.out.2.1
  have TT := Lib.hid (show l1.length + l2.length + l3.length + l4.length + l5.length + l6.length ≤ 1048576 by rw [t5, t6]; have := bd; have h4 : l4.length = 0 := (frOk_2p hok rfl); simp only [List.length_nil]; omega)
  replace t5 := Lib.hid t5
  replace t6 := Lib.hid t6
  replace t7 := Lib.hid t7
  replace t8 := Lib.hid t8
  have lr1 : Hid (∀ w1 : World, ((w.alloc (.cells #[.int .i64 2, .int .i64 id, .slice a1 n1 c1, .slice a2 n2 c2, .int .i64 tick, .slice a3 n3 c3, .slice a4 n4 c4, .int .i64 epoch, .int .i64 seq, .slice a5 n5 c5, .slice a6 n6 c6] 24)).alloc (.cells #[.int .i64 0, .int .i64 0, .slice none 0 0, .slice none 0 0, .int .i64 0, .slice none 0 0, .slice none 0 0, .int .i64 0, .int .i64 0, .slice none 0 0, .slice none 0 0] 24)).grownBy w1 none → w.heap.size + 1 < w1.heap.size) := fun w1 g1 => by have := g1.size; simp at this; omega
  go_enter Try.func30, Try.ntmps30
  go_wp2_with (first
    | (go_at_call 54; refine (spec_FrameOk _ _ _ R.out).mono ?_; rw [hok]; rintro e w1 ⟨rfl, g1⟩; have q0 := bb.1.keep0 g1; have q1 := bb.2.keep0 g1; have cc := fun o => q0.cell o; have cr := fun o => q1.cell o; have fr := fun o => q1.frozen o; have lr := q1.lt)
    | (go_at_call 56; refine (spec_Proof a n c l x a1 n1 c1 l1 a2 n2 c2 l2 tick a3 n3 c3 l3 _ (r.keep0 (by (repeat (first | with_reducible exact gb_refl _ | with_reducible exact G | with_reducible refine gb_alloc ?_ _ | with_reducible refine gb_drewN ?_ _ | with_reducible refine gb_drew ?_ | with_reducible refine gb_trans ?_ g1)))) (r1.keep0 (by (repeat (first | with_reducible exact gb_refl _ | with_reducible exact G | with_reducible refine gb_alloc ?_ _ | with_reducible refine gb_drewN ?_ _ | with_reducible refine gb_drew ?_ | with_reducible refine gb_trans ?_ g1)))) (r2.keep0 (by (repeat (first | with_reducible exact gb_refl _ | with_reducible exact G | with_reducible refine gb_alloc ?_ _ | with_reducible refine gb_drewN ?_ _ | with_reducible refine gb_drew ?_ | with_reducible refine gb_trans ?_ g1)))) (r3.keep0 (by (repeat (first | with_reducible exact gb_refl _ | with_reducible exact G | with_reducible refine gb_alloc ?_ _ | with_reducible refine gb_drewN ?_ _ | with_reducible refine gb_drew ?_ | with_reducible refine gb_trans ?_ g1))))).mono ?_; rw [HP.out]; rintro e w4 ⟨b4, m4, d4, rfl, o4, g4⟩; have e4 := o4.blen; have ne4 : ((m4 : Int) == 0) = false := (by rw [beq_eq_false_iff_ne]; omega); replace q0 := q0.keep0 g4; replace q1 := q1.keep0 g4; clear cc cr fr lr; have cc := fun o => q0.cell o; have cr := fun o => q1.cell o; have fr := fun o => q1.frozen o; have lr := q1.lt)
    | (go_at_call 69; refine (spec_l7Copy _ _ _ ((FrameR.keep0 R.out g1).keep0 g4) TT.out).mono ?_; rintro e w5 ⟨v', rfl, o5, g5⟩; obtain ⟨b1, m1, d1, b2, m2, d2, b3, m3, d3, b9, m9, d9, b5, m5, d5, b6, m6, d6, rfl, ⟨o1, u1⟩, ⟨o2, u2⟩, ⟨o3, u3⟩, ⟨o9, u9⟩, ⟨o5, u5⟩, ⟨o6, u6⟩, d12, d13, d19, d15, d16, d23, d29, d25, d26, d39, d35, d36, d95, d96, d56⟩ := o5; replace q1 := q1.keep0 g5; clear cc cr fr lr q0; have lr := q1.lt)
    | ((with_reducible refine wpList_al ?hg1 24 _ ?ho1 al_Frame ?hh1); (case ho1 => rfl); (case hg1 => rfl); intro q9 w6 hq9 B9 g6; replace q1 := q1.keep0 g6; clear lr; have nq : w.heap.size + 1 < q9 := Nat.lt_of_lt_of_le (by have := q1.lt; have := lr1.out w1 g1; have := g4.size; have := g5.size; omega) hq9; (try simp only [Act.put]); (try simp only [List.setIfInBounds_toArray]); (try simp only [List.set_cons_succ]); (try simp only [List.set_cons_zero]))
    | ((with_reducible refine wpList_stR ?hg2 24 (.tmp 9) (.tmp 35) ?ho2 q9 ?cs2 ?old2 ?hx2 ?hy2 ?hb2 ?hi2 ?hs2 ?hc2 ?hh2); (case ho2 => rfl); (case hg2 => rfl); (case hx2 => rfl); (case hy2 => rfl); (case hb2 => exact B9); (case hi2 => exact si_Frame); (case hs2 => rfl); (case hc2 => (first | rfl | (simp [Value.oneCell']; done))); intro w8 B8 g8; replace q1 := q1.keepRow g8 (by intro e; cases e; omega); have c8 := fun o => B8.cell o; have f8 := fun o => B8.frozen o; have l8 := B8.lt; (try simp only [Act.put]); (try simp only [List.setIfInBounds_toArray]); (try simp only [List.set_cons_succ]); (try simp only [List.set_cons_zero]))
    | ((with_reducible refine wpList_stR ?hg3 24 (.tmp 6) (.tmp 41) ?ho3 (w.heap.size + 1) ?cs3 ?old3 ?hx3 ?hy3 ?hb3 ?hi3 ?hs3 ?hc3 ?hh3); (case ho3 => rfl); (case hg3 => rfl); (case hx3 => rfl); (case hy3 => rfl); (case hb3 => exact (((q1.setO ⟨q9, 0, none⟩ (.int .i64 3) (by simp; omega)).setO ⟨q9, 1, none⟩ (.int .i64 x) (by simp; omega)).setO ⟨q9, 6, none⟩ (.slice b4 m4 d4) (by simp; omega))); (case hi3 => exact si_Frame); (case hs3 => rfl); (case hc3 => (first | rfl | (simp [Value.oneCell']; done))); intro w9 B7 g9; clear c8 f8; have cr := fun o => B7.cell o; (try simp only [Act.put]); (try simp only [List.setIfInBounds_toArray]); (try simp only [List.set_cons_succ]); (try simp only [List.set_cons_zero])))
  have z5 := g5.size
  have z4 := g4.size
  have z1 := World.grownBy.size (gb_trans G g1)
  have O4 := o4.keep0 g5
  have lr1 : w.heap.size + 1 < w1.heap.size := lr1.out w1 g1
  have KE : ∀ {a : Option Addr} {n c : Nat} {l : List UInt8}, Ow w1.heap.size w5 5 a n c (bys l) → Ow w.heap.size w9 5 a n c (bys l) := by
    intro a n c l h
    have N1 : ∀ p, a = some p → p.block ≠ q9 := fun p hp => by have := h.lt p hp; omega
    have N2 : ∀ p, a = some p → p.block ≠ w.heap.size + 1 := fun p hp => by have := h.lt p hp; omega
    exact (((((((h.keep0 g6).row g8 N1).setO ⟨q9, 0, none⟩ (.int .i64 3) N1).setO ⟨q9, 1, none⟩ (.int .i64 x) N1).setO ⟨q9, 6, none⟩ (.slice b4 m4 d4) N1).row g9 N2).mono (by omega))
  have l4' := fun p hp => o4.lt p hp
  have l1' := fun p hp => o1.lt p hp
  have l2' := fun p hp => o2.lt p hp
  have l3' := fun p hp => o3.lt p hp
  have l5' := fun p hp => o5.lt p hp
  have l6' := fun p hp => o6.lt p hp
  refine bodyPost_ret (v := .tuple #[.agg #[.int .i64 3, .int .i64 x, .slice b1 m1 d1, .slice b2 m2 d2, .int .i64 tick, .slice b3 m3 d3, .slice b4 m4 d4, .int .i64 epoch, .int .i64 seq, .slice b5 m5 d5, .slice b6 m6 d6], .bool true]) (by simp [results, Try.results30, go_sem, cr]) rfl ⟨_, rfl, ?_, ?_⟩
  · rw [show (⟨3, x, l1, l2, tick, l3, Pr, 0, 0, [], []⟩ : FrameM) = ⟨3, x, l1, l2, tick, l3, Pr, epoch, seq, l5, l6⟩ by rw [t5.out, t6.out, t7.out, t8.out]]
    refine frameO_mk (KE (o1.mono z4)) (KE (o2.mono z4)) (KE (o3.mono z4)) (KE O4) (KE (o5.mono z4)) (KE (o6.mono z4)) (Nat.le_refl _) d12 d13 ?_ d15 d16 d23 ?_ d25 d26 ?_ d35 d36 ?_ ?_ d56
    · intro p q hp hq; have := l1' p hp; have := l4' q hq; omega
    · intro p q hp hq; have := l2' p hp; have := l4' q hq; omega
    · intro p q hp hq; have := l3' p hp; have := l4' q hq; omega
    · intro p q hp hq; have := l4' p hp; have := l5' q hq; omega
    · intro p q hp hq; have := l4' p hp; have := l6' q hq; omega
  · have G7 := gb_trans (gb_trans (gb_trans (gb_trans G g1) g4) g5) g6
    exact gb_row (gb_set (gb_set (gb_set (gb_row G7 g8 (by omega)) (.inl (by simp; omega)) _) (.inl (by simp; omega)) _) (.inl (by simp; omega)) _) g9 (by omega)
end Go.Proofs.Ytfjbfgonkimboaa
