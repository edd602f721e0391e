/-
  Contracts of the functions that lay frames into bytes. Conditions: none beside those that each theorem names.
-/
import Derived.Test.YtgeoeacfkacdpaaFrOk
import Derived.Test.YtgeoeacfkacdpaaGb
import Derived.Deep.RegionHeld3
namespace Go.Proofs.Ytgeoeacfkacdpaa
open Go.RowKit
def putM (f : FrameM) : List UInt8 :=
  if frOk f = true then
    (if f.kind = 1 then [1, b8 f.id] ++ f.cn ++ List.replicate 20 0
     else if f.kind = 2 then [2] ++ f.cn ++ f.sn ++ be f.tick.toNat 4 ++ f.cookie
     else if f.kind = 3 then [3, b8 f.id] ++ f.cn ++ f.sn ++ be f.tick.toNat 4 ++ f.cookie ++ f.proof
     else [b8 f.kind] ++ f.sn ++ be f.epoch.toNat 4 ++ be f.seq.toNat 6 ++ f.tag ++ f.body)
  else []
def tagInM (role : Int) (f : FrameM) : List UInt8 :=
  if roleB role && sealedB f.kind && frOk f then [116] ++ headM role f.sn f.epoch f.seq ++ [b8 f.kind] ++ f.body else []
theorem bodyB_le {k : Int} {n : Nat} (h : bodyB k n = true) : n ≤ 40 := by
  unfold bodyB at h
  split at h
  · simpa using h
  · split at h <;> simp at h <;> omega
theorem eqN_le {n : Nat} {m : Nat} (h : eqN n (m : Int) = true) : n ≤ m := by rw [eqN_iff] at h; omega
/-- what a frame that is right is bounded by -/
theorem frOk_S {f : FrameM} (h : frOk f = true) (hk : sealedB f.kind = true) : f.sn.length ≤ 12 ∧ f.tag.length ≤ 16 ∧ f.body.length ≤ 40 ∧ 0 ≤ f.epoch ∧ f.epoch ≤ 4294967295 ∧ 0 ≤ f.seq ∧ f.seq ≤ 281474976710655 ∧ 4 ≤ f.kind ∧ f.kind ≤ 8 := by
  have hk2 := inB_iff.1 hk
  simp only [frOk, frOkN, hk, if_true, Bool.and_eq_true, inB_iff] at h
  obtain ⟨⟨⟨⟨⟨⟨⟨⟨⟨-, -⟩, h2⟩, -⟩, -⟩, -⟩, h6⟩, h7⟩, h8⟩, h9⟩ := h
  exact ⟨eqN_le (m := 12) h2, eqN_le (m := 16) h9, bodyB_le h8, h6.1, h6.2, h7.1, h7.2, hk2.1, hk2.2⟩
theorem frOk_1 {f : FrameM} (h : frOk f = true) (hk : f.kind = 1) : f.cn.length ≤ 12 ∧ 1 ≤ f.id ∧ f.id ≤ 9 := by
  simp only [frOk, frOkN, hk, sealed_1, if_true, Bool.and_eq_true, inB_iff, not_neN, not_neI, Bool.false_eq_true, if_false] at h
  obtain ⟨⟨-, h1⟩, ⟨⟨⟨h2, -⟩, -⟩, -⟩, -⟩ := h
  exact ⟨eqN_le (m := 12) h1, h2.1, h2.2⟩
theorem frOk_2 {f : FrameM} (h : frOk f = true) (hk : f.kind = 2) : f.cn.length ≤ 12 ∧ f.sn.length ≤ 12 ∧ 0 ≤ f.tick ∧ f.tick ≤ 1000000 ∧ f.cookie.length ≤ 16 := by
  simp only [frOk, frOkN, hk, sealed_2, if_true, Bool.and_eq_true, inB_iff, not_neN, not_neI, Bool.false_eq_true, if_false, show ¬ (2 : Int) = 1 by decide] at h
  obtain ⟨⟨-, h1⟩, ⟨⟨⟨-, h2⟩, h3⟩, h4⟩, -⟩ := h
  exact ⟨eqN_le (m := 12) h1, eqN_le (m := 12) h2, h3.1, h3.2, eqN_le (m := 16) h4⟩
theorem frOk_3 {f : FrameM} (h : frOk f = true) (hk : f.kind = 3) : f.cn.length ≤ 12 ∧ f.sn.length ≤ 12 ∧ 0 ≤ f.tick ∧ f.tick ≤ 1000000 ∧ f.cookie.length ≤ 16 ∧ f.proof.length ≤ 16 ∧ 1 ≤ f.id ∧ f.id ≤ 9 := by
  simp only [frOk, frOkN, hk, sealed_3, if_true, Bool.and_eq_true, inB_iff, not_neN, not_neI, Bool.false_eq_true, if_false, show ¬ (3 : Int) = 1 by decide, show ¬ (3 : Int) = 2 by decide] at h
  obtain ⟨⟨-, h1⟩, ⟨⟨⟨h0, h2⟩, h3⟩, h4⟩, h5⟩ := h
  exact ⟨eqN_le (m := 12) h1, eqN_le (m := 12) h2, h3.1, h3.2, eqN_le (m := 16) h4, eqN_le (m := 16) h5, h0.1, h0.2⟩
theorem frOk_O {f : FrameM} (h : frOk f = true) (h1 : f.kind ≠ 1) (h2 : f.kind ≠ 2) (h3 : f.kind ≠ 3) : sealedB f.kind = true := by
  by_cases hs : sealedB f.kind = true
  · exact hs
  · simp [frOk, frOkN, hs, h1, h2, h3] at h
set_option maxRecDepth 100000 in
set_option maxHeartbeats 4000000 in
theorem impl_PutFrame1 (id tick epoch seq : Int) (a1 : Option Addr) (n1 c1 : Nat) (l1 : List UInt8) (a2 : Option Addr) (n2 c2 : Nat) (l2 : List UInt8) (a3 : Option Addr) (n3 c3 : Nat) (l3 : List UInt8) (a4 : Option Addr) (n4 c4 : Nat) (l4 : List UInt8) (a5 : Option Addr) (n5 c5 : Nat) (l5 : List UInt8) (a6 : Option Addr) (n6 c6 : Nat) (l6 : List UInt8) (w : World)
    (r1 : Rd w a1 n1 c1 (bys l1)) (r2 : Rd w a2 n2 c2 (bys l2)) (r3 : Rd w a3 n3 c3 (bys l3)) (r4 : Rd w a4 n4 c4 (bys l4)) (r5 : Rd w a5 n5 c5 (bys l5)) (r6 : Rd w a6 n6 c6 (bys l6)) (hok : frOk ⟨1, id, l1, l2, tick, l3, l4, epoch, seq, l5, l6⟩ = true) :
    Calls Try.prog 43 #[.agg #[.int .i64 1, .int .i64 id, .slice a1 n1 c1, .slice a2 n2 c2, .int .i64 tick, .slice a3 n3 c3, .slice a4 n4 c4, .int .i64 epoch, .int .i64 seq, .slice a5 n5 c5, .slice a6 n6 c6]] w (RetB w ([1, b8 id] ++ l1 ++ List.replicate 20 0)) := by
  have bd := frOk_1 hok rfl
  simp only at bd
  obtain ⟨q1, q2, q3⟩ := bd
  have g0 := gb_alloc (gb_refl w) (.cells #[.int .i64 1, .int .i64 id, .slice a1 n1 c1, .slice a2 n2 c2, .int .i64 tick, .slice a3 n3 c3, .slice a4 n4 c4, .int .i64 epoch, .int .i64 seq, .slice a5 n5 c5, .slice a6 n6 c6] 55)
  have b0 := bx1 w #[.int .i64 1, .int .i64 id, .slice a1 n1 c1, .slice a2 n2 c2, .int .i64 tick, .slice a3 n3 c3, .slice a4 n4 c4, .int .i64 epoch, .int .i64 seq, .slice a5 n5 c5, .slice a6 n6 c6] 55
  have R := Lib.hid (frameR_mk (kind := 1) (id := id) (tick := tick) (epoch := epoch) (seq := seq) (r1.keep0 g0) (r2.keep0 g0) (r3.keep0 g0) (r4.keep0 g0) (r5.keep0 g0) (r6.keep0 g0))
  have hmk : ∀ w : World, (Instr.makeSlice 22 (.int .i64 20) (.int .i64 20)).run Try.prog w = .ok (.slice (some ⟨w.heap.size, 0, none⟩) 20 20) (w.alloc (.cells #[.int .u8 0, .int .u8 0, .int .u8 0, .int .u8 0, .int .u8 0, .int .u8 0, .int .u8 0, .int .u8 0, .int .u8 0, .int .u8 0, .int .u8 0, .int .u8 0, .int .u8 0, .int .u8 0, .int .u8 0, .int .u8 0, .int .u8 0, .int .u8 0, .int .u8 0, .int .u8 0] 5)) := fun _ => by kernel_rfl
  go_enter Try.func43, Try.ntmps43
  go_wp2_with (go_at_call 44; (with_reducible refine (impl_FrameOk _ _ _ R.out).mono ?_); rw [hok]; rintro e w1 ⟨rfl, g1⟩; have G1 := gb_trans g0 g1; have b1 := b0.keep0 g1; have cc := fun o => b1.cell o; have lb := b1.lt)
  have KX : Hid (∀ w', w1.grownBy w' none → (w'.cell? ⟨w.heap.size, 2, none⟩ = some (.slice a1 n1 c1) ∧ w1.grownBy w' none)) :=
    fun w' hg => ⟨(b1.keep0 hg).cell 2, hg⟩
  clear g0 b0 g1 b1 cc
  go_region_held3 (fun w' => w'.cell? ⟨w.heap.size, 2, none⟩ = some (.slice a1 n1 c1) ∧ w1.grownBy w' none)
    ((refine KX.out _ ?_; (repeat (first | with_reducible exact gb_refl _ | with_reducible refine gb_alloc ?_ _ | with_reducible refine gb_drewN ?_ _ | with_reducible refine gb_drew ?_ | with_reducible refine gb_trans ?_ g2 | with_reducible refine gb_trans ?_ g3 | with_reducible refine gb_trans ?_ g4))))
    (first
      | (go_at_call 87; refine Calls.mono (impl_joined _ _ _ [⟨some ⟨w1.heap.size, 0, none⟩, 1, 1, [1]⟩, ⟨some ⟨w1.heap.size + 1, 0, none⟩, 1, 1, [b8 id]⟩, ⟨a1, n1, c1, l1⟩, ⟨some ⟨w1.heap.size + 1 + 1, 0, none⟩, 20, 20, List.replicate 20 0⟩] _ ?_ ?_ (by omega) ?_) ?_; (focus (refine Rd.ofBxV (cs := #[.slice (some ⟨w1.heap.size, 0, none⟩) 1 1, .slice (some ⟨w1.heap.size + 1, 0, none⟩) 1 1, .slice a1 n1 c1, .slice (some ⟨w1.heap.size + 1 + 1, 0, none⟩) 20 20]) (t := 22) ?_ ?_ ?_; (focus ((repeat (first | (with_reducible refine Bx.newk _ _ _ _ ?_; (first | with_reducible rfl | (simp; done))) | with_reducible refine Bx.old ?_ _ | with_reducible refine Bx.drewN ?_ _ | with_reducible refine Bx.drew ?_ | with_reducible refine Bx.keep0 ?_ g2 | with_reducible refine Bx.keep0 ?_ g3)))); (focus rfl); (focus rfl))); (focus (exact (ok_cons (Rd.ofBx (cs := #[.int .u8 1]) (t := 5) (by (repeat (first | (with_reducible refine Bx.newk _ _ _ _ ?_; (first | with_reducible rfl | (simp; done))) | with_reducible refine Bx.old ?_ _ | with_reducible refine Bx.drewN ?_ _ | with_reducible refine Bx.drew ?_ | with_reducible refine Bx.keep0 ?_ g2 | with_reducible refine Bx.keep0 ?_ g3))) (by rfl) (by rfl)) (ok_cons (Rd.ofBx (cs := #[.int .u8 id]) (t := 5) (by (repeat (first | (with_reducible refine Bx.newk _ _ _ _ ?_; (first | with_reducible rfl | (simp; done))) | with_reducible refine Bx.old ?_ _ | with_reducible refine Bx.drewN ?_ _ | with_reducible refine Bx.drew ?_ | with_reducible refine Bx.keep0 ?_ g2 | with_reducible refine Bx.keep0 ?_ g3))) (one_b8 (by omega) (by omega)) (by rfl)) (ok_cons (r1.keep0 (by (repeat (first | with_reducible exact gb_refl _ | with_reducible exact G1 | with_reducible refine gb_alloc ?_ _ | with_reducible refine gb_drewN ?_ _ | with_reducible refine gb_drew ?_ | with_reducible refine gb_trans ?_ g2 | with_reducible refine gb_trans ?_ g3)))) (ok_cons (Rd.ofBx (cs := #[.int .u8 0, .int .u8 0, .int .u8 0, .int .u8 0, .int .u8 0, .int .u8 0, .int .u8 0, .int .u8 0, .int .u8 0, .int .u8 0, .int .u8 0, .int .u8 0, .int .u8 0, .int .u8 0, .int .u8 0, .int .u8 0, .int .u8 0, .int .u8 0, .int .u8 0, .int .u8 0]) (t := 5) (by (repeat (first | (with_reducible refine Bx.newk _ _ _ _ ?_; (first | with_reducible rfl | (simp; done))) | with_reducible refine Bx.old ?_ _ | with_reducible refine Bx.drewN ?_ _ | with_reducible refine Bx.drew ?_ | with_reducible refine Bx.keep0 ?_ g2 | with_reducible refine Bx.keep0 ?_ g3))) (by rfl) (by rfl)) ok_nil)))))); (focus (simp [cat]; omega)); rintro e w4 ⟨b4, m4, d4, rfl, o4, g4⟩))
  go_wp2
  go_ret
  refine retB o4 ?_ ?_ ?_
  · exact World.grownBy.size (row := none) (by (repeat (first | with_reducible exact gb_refl _ | with_reducible exact G1 | with_reducible refine gb_alloc ?_ _ | with_reducible refine gb_drewN ?_ _ | with_reducible refine gb_drew ?_ | with_reducible refine gb_trans ?_ g2 | with_reducible refine gb_trans ?_ g3)))
  · (repeat (first | with_reducible exact gb_refl _ | with_reducible exact G1 | with_reducible refine gb_alloc ?_ _ | with_reducible refine gb_drewN ?_ _ | with_reducible refine gb_drew ?_ | with_reducible refine gb_trans ?_ g2 | with_reducible refine gb_trans ?_ g3 | with_reducible refine gb_trans ?_ g4))
  · simp [cat]
set_option maxRecDepth 100000 in
set_option maxHeartbeats 4000000 in
theorem impl_PutFrame2 (id tick epoch seq : Int) (a1 : Option Addr) (n1 c1 : Nat) (l1 : List UInt8) (a2 : Option Addr) (n2 c2 : Nat) (l2 : List UInt8) (a3 : Option Addr) (n3 c3 : Nat) (l3 : List UInt8) (a4 : Option Addr) (n4 c4 : Nat) (l4 : List UInt8) (a5 : Option Addr) (n5 c5 : Nat) (l5 : List UInt8) (a6 : Option Addr) (n6 c6 : Nat) (l6 : List UInt8) (w : World)
    (r1 : Rd w a1 n1 c1 (bys l1)) (r2 : Rd w a2 n2 c2 (bys l2)) (r3 : Rd w a3 n3 c3 (bys l3)) (r4 : Rd w a4 n4 c4 (bys l4)) (r5 : Rd w a5 n5 c5 (bys l5)) (r6 : Rd w a6 n6 c6 (bys l6)) (hok : frOk ⟨2, id, l1, l2, tick, l3, l4, epoch, seq, l5, l6⟩ = true) :
    Calls Try.prog 43 #[.agg #[.int .i64 2, .int .i64 id, .slice a1 n1 c1, .slice a2 n2 c2, .int .i64 tick, .slice a3 n3 c3, .slice a4 n4 c4, .int .i64 epoch, .int .i64 seq, .slice a5 n5 c5, .slice a6 n6 c6]] w (RetB w ([2] ++ l1 ++ l2 ++ be tick.toNat 4 ++ l3)) := by
  have bd := frOk_2 hok rfl
  simp only at bd
  obtain ⟨q1, q2, q3, q4, q5⟩ := bd
  have g0 := gb_alloc (gb_refl w) (.cells #[.int .i64 2, .int .i64 id, .slice a1 n1 c1, .slice a2 n2 c2, .int .i64 tick, .slice a3 n3 c3, .slice a4 n4 c4, .int .i64 epoch, .int .i64 seq, .slice a5 n5 c5, .slice a6 n6 c6] 55)
  have b0 := bx1 w #[.int .i64 2, .int .i64 id, .slice a1 n1 c1, .slice a2 n2 c2, .int .i64 tick, .slice a3 n3 c3, .slice a4 n4 c4, .int .i64 epoch, .int .i64 seq, .slice a5 n5 c5, .slice a6 n6 c6] 55
  have R := Lib.hid (frameR_mk (kind := 2) (id := id) (tick := tick) (epoch := epoch) (seq := seq) (r1.keep0 g0) (r2.keep0 g0) (r3.keep0 g0) (r4.keep0 g0) (r5.keep0 g0) (r6.keep0 g0))
  go_enter Try.func43, Try.ntmps43
  go_wp2_with (go_at_call 44; (with_reducible refine (impl_FrameOk _ _ _ R.out).mono ?_); rw [hok]; rintro e w1 ⟨rfl, g1⟩; have G1 := gb_trans g0 g1; have b1 := b0.keep0 g1; have cc := fun o => b1.cell o; have lb := b1.lt)
  have KX : Hid (∀ w', w1.grownBy w' none → (w'.cell? ⟨w.heap.size, 2, none⟩ = some (.slice a1 n1 c1) ∧ w'.cell? ⟨w.heap.size, 3, none⟩ = some (.slice a2 n2 c2) ∧ w'.cell? ⟨w.heap.size, 4, none⟩ = some (.int .i64 tick) ∧ w'.cell? ⟨w.heap.size, 5, none⟩ = some (.slice a3 n3 c3) ∧ w1.grownBy w' none)) :=
    fun w' hg => ⟨(b1.keep0 hg).cell 2, (b1.keep0 hg).cell 3, (b1.keep0 hg).cell 4, (b1.keep0 hg).cell 5, hg⟩
  clear g0 b0 g1 b1 cc
  go_region_held3 (fun w' => w'.cell? ⟨w.heap.size, 2, none⟩ = some (.slice a1 n1 c1) ∧ w'.cell? ⟨w.heap.size, 3, none⟩ = some (.slice a2 n2 c2) ∧ w'.cell? ⟨w.heap.size, 4, none⟩ = some (.int .i64 tick) ∧ w'.cell? ⟨w.heap.size, 5, none⟩ = some (.slice a3 n3 c3) ∧ w1.grownBy w' none)
    ((refine KX.out _ ?_; (repeat (first | with_reducible exact gb_refl _ | with_reducible refine gb_alloc ?_ _ | with_reducible refine gb_drewN ?_ _ | with_reducible refine gb_drew ?_ | with_reducible refine gb_trans ?_ g2 | with_reducible refine gb_trans ?_ g3 | with_reducible refine gb_trans ?_ g4))))
    (first
      | (go_at_call 39; (with_reducible refine (impl_PutN none 0 0 [] tick 4 _ (rd_nilB _) (by omega) (by omega) (by omega) (by omega) (by omega)).mono ?_); rintro e w2 ⟨b2, m2, d2, rfl, o2, g2⟩)
      | (go_at_call 87; refine Calls.mono (impl_joined _ _ _ [⟨some ⟨w1.heap.size, 0, none⟩, 1, 1, [2]⟩, ⟨a1, n1, c1, l1⟩, ⟨a2, n2, c2, l2⟩, ⟨b2, m2, d2, be tick.toNat 4⟩, ⟨a3, n3, c3, l3⟩] _ ?_ ?_ (by omega) ?_) ?_; (focus (refine Rd.ofBxV (cs := #[.slice (some ⟨w1.heap.size, 0, none⟩) 1 1, .slice a1 n1 c1, .slice a2 n2 c2, .slice b2 m2 d2, .slice a3 n3 c3]) (t := 22) ?_ ?_ ?_; (focus ((repeat (first | (with_reducible refine Bx.newk _ _ _ _ ?_; (first | with_reducible rfl | (simp; done))) | with_reducible refine Bx.old ?_ _ | with_reducible refine Bx.drewN ?_ _ | with_reducible refine Bx.drew ?_ | with_reducible refine Bx.keep0 ?_ g2 | with_reducible refine Bx.keep0 ?_ g3)))); (focus rfl); (focus rfl))); (focus (exact (ok_cons (Rd.ofBx (cs := #[.int .u8 2]) (t := 5) (by (repeat (first | (with_reducible refine Bx.newk _ _ _ _ ?_; (first | with_reducible rfl | (simp; done))) | with_reducible refine Bx.old ?_ _ | with_reducible refine Bx.drewN ?_ _ | with_reducible refine Bx.drew ?_ | with_reducible refine Bx.keep0 ?_ g2 | with_reducible refine Bx.keep0 ?_ g3))) (by rfl) (by rfl)) (ok_cons (r1.keep0 (by (repeat (first | with_reducible exact gb_refl _ | with_reducible exact G1 | with_reducible refine gb_alloc ?_ _ | with_reducible refine gb_drewN ?_ _ | with_reducible refine gb_drew ?_ | with_reducible refine gb_trans ?_ g2 | with_reducible refine gb_trans ?_ g3)))) (ok_cons (r2.keep0 (by (repeat (first | with_reducible exact gb_refl _ | with_reducible exact G1 | with_reducible refine gb_alloc ?_ _ | with_reducible refine gb_drewN ?_ _ | with_reducible refine gb_drew ?_ | with_reducible refine gb_trans ?_ g2 | with_reducible refine gb_trans ?_ g3)))) (ok_cons (o2.rd.keep0 (by (repeat (first | with_reducible exact gb_refl _ | with_reducible refine gb_alloc ?_ _ | with_reducible refine gb_drewN ?_ _ | with_reducible refine gb_drew ?_ | with_reducible refine gb_trans ?_ g3)))) (ok_cons (r3.keep0 (by (repeat (first | with_reducible exact gb_refl _ | with_reducible exact G1 | with_reducible refine gb_alloc ?_ _ | with_reducible refine gb_drewN ?_ _ | with_reducible refine gb_drew ?_ | with_reducible refine gb_trans ?_ g2 | with_reducible refine gb_trans ?_ g3)))) ok_nil))))))); (focus (simp [cat, be_len]; omega)); rintro e w4 ⟨b4, m4, d4, rfl, o4, g4⟩))
  go_wp2
  go_ret
  refine retB o4 ?_ ?_ ?_
  · exact World.grownBy.size (row := none) (by (repeat (first | with_reducible exact gb_refl _ | with_reducible exact G1 | with_reducible refine gb_alloc ?_ _ | with_reducible refine gb_drewN ?_ _ | with_reducible refine gb_drew ?_ | with_reducible refine gb_trans ?_ g2 | with_reducible refine gb_trans ?_ g3)))
  · (repeat (first | with_reducible exact gb_refl _ | with_reducible exact G1 | with_reducible refine gb_alloc ?_ _ | with_reducible refine gb_drewN ?_ _ | with_reducible refine gb_drew ?_ | with_reducible refine gb_trans ?_ g2 | with_reducible refine gb_trans ?_ g3 | with_reducible refine gb_trans ?_ g4))
  · simp [cat]
set_option maxRecDepth 100000 in
set_option maxHeartbeats 4000000 in
theorem impl_PutFrame3 (id tick epoch seq : Int) (a1 : Option Addr) (n1 c1 : Nat) (l1 : List UInt8) (a2 : Option Addr) (n2 c2 : Nat) (l2 : List UInt8) (a3 : Option Addr) (n3 c3 : Nat) (l3 : List UInt8) (a4 : Option Addr) (n4 c4 : Nat) (l4 : List UInt8) (a5 : Option Addr) (n5 c5 : Nat) (l5 : List UInt8) (a6 : Option Addr) (n6 c6 : Nat) (l6 : List UInt8) (w : World)
    (r1 : Rd w a1 n1 c1 (bys l1)) (r2 : Rd w a2 n2 c2 (bys l2)) (r3 : Rd w a3 n3 c3 (bys l3)) (r4 : Rd w a4 n4 c4 (bys l4)) (r5 : Rd w a5 n5 c5 (bys l5)) (r6 : Rd w a6 n6 c6 (bys l6)) (hok : frOk ⟨3, id, l1, l2, tick, l3, l4, epoch, seq, l5, l6⟩ = true) :
    Calls Try.prog 43 #[.agg #[.int .i64 3, .int .i64 id, .slice a1 n1 c1, .slice a2 n2 c2, .int .i64 tick, .slice a3 n3 c3, .slice a4 n4 c4, .int .i64 epoch, .int .i64 seq, .slice a5 n5 c5, .slice a6 n6 c6]] w (RetB w ([3, b8 id] ++ l1 ++ l2 ++ be tick.toNat 4 ++ l3 ++ l4)) := by
  have bd := frOk_3 hok rfl
  simp only at bd
  obtain ⟨q1, q2, q3, q4, q5, q6, q7, q8⟩ := bd
  have g0 := gb_alloc (gb_refl w) (.cells #[.int .i64 3, .int .i64 id, .slice a1 n1 c1, .slice a2 n2 c2, .int .i64 tick, .slice a3 n3 c3, .slice a4 n4 c4, .int .i64 epoch, .int .i64 seq, .slice a5 n5 c5, .slice a6 n6 c6] 55)
  have b0 := bx1 w #[.int .i64 3, .int .i64 id, .slice a1 n1 c1, .slice a2 n2 c2, .int .i64 tick, .slice a3 n3 c3, .slice a4 n4 c4, .int .i64 epoch, .int .i64 seq, .slice a5 n5 c5, .slice a6 n6 c6] 55
  have R := Lib.hid (frameR_mk (kind := 3) (id := id) (tick := tick) (epoch := epoch) (seq := seq) (r1.keep0 g0) (r2.keep0 g0) (r3.keep0 g0) (r4.keep0 g0) (r5.keep0 g0) (r6.keep0 g0))
  go_enter Try.func43, Try.ntmps43
  go_wp2_with (go_at_call 44; (with_reducible refine (impl_FrameOk _ _ _ R.out).mono ?_); rw [hok]; rintro e w1 ⟨rfl, g1⟩; have G1 := gb_trans g0 g1; have b1 := b0.keep0 g1; have cc := fun o => b1.cell o; have lb := b1.lt)
  have KX : Hid (∀ w', w1.grownBy w' none → (w'.cell? ⟨w.heap.size, 2, none⟩ = some (.slice a1 n1 c1) ∧ w'.cell? ⟨w.heap.size, 3, none⟩ = some (.slice a2 n2 c2) ∧ w'.cell? ⟨w.heap.size, 4, none⟩ = some (.int .i64 tick) ∧ w'.cell? ⟨w.heap.size, 5, none⟩ = some (.slice a3 n3 c3) ∧ w'.cell? ⟨w.heap.size, 6, none⟩ = some (.slice a4 n4 c4) ∧ w1.grownBy w' none)) :=
    fun w' hg => ⟨(b1.keep0 hg).cell 2, (b1.keep0 hg).cell 3, (b1.keep0 hg).cell 4, (b1.keep0 hg).cell 5, (b1.keep0 hg).cell 6, hg⟩
  clear g0 b0 g1 b1 cc
  go_region_held3 (fun w' => w'.cell? ⟨w.heap.size, 2, none⟩ = some (.slice a1 n1 c1) ∧ w'.cell? ⟨w.heap.size, 3, none⟩ = some (.slice a2 n2 c2) ∧ w'.cell? ⟨w.heap.size, 4, none⟩ = some (.int .i64 tick) ∧ w'.cell? ⟨w.heap.size, 5, none⟩ = some (.slice a3 n3 c3) ∧ w'.cell? ⟨w.heap.size, 6, none⟩ = some (.slice a4 n4 c4) ∧ w1.grownBy w' none)
    ((refine KX.out _ ?_; (repeat (first | with_reducible exact gb_refl _ | with_reducible refine gb_alloc ?_ _ | with_reducible refine gb_drewN ?_ _ | with_reducible refine gb_drew ?_ | with_reducible refine gb_trans ?_ g2 | with_reducible refine gb_trans ?_ g3 | with_reducible refine gb_trans ?_ g4))))
    (first
      | (go_at_call 39; (with_reducible refine (impl_PutN none 0 0 [] tick 4 _ (rd_nilB _) (by omega) (by omega) (by omega) (by omega) (by omega)).mono ?_); rintro e w2 ⟨b2, m2, d2, rfl, o2, g2⟩)
      | (go_at_call 87; refine Calls.mono (impl_joined _ _ _ [⟨some ⟨w1.heap.size, 0, none⟩, 1, 1, [3]⟩, ⟨some ⟨w1.heap.size + 1, 0, none⟩, 1, 1, [b8 id]⟩, ⟨a1, n1, c1, l1⟩, ⟨a2, n2, c2, l2⟩, ⟨b2, m2, d2, be tick.toNat 4⟩, ⟨a3, n3, c3, l3⟩, ⟨a4, n4, c4, l4⟩] _ ?_ ?_ (by omega) ?_) ?_; (focus (refine Rd.ofBxV (cs := #[.slice (some ⟨w1.heap.size, 0, none⟩) 1 1, .slice (some ⟨w1.heap.size + 1, 0, none⟩) 1 1, .slice a1 n1 c1, .slice a2 n2 c2, .slice b2 m2 d2, .slice a3 n3 c3, .slice a4 n4 c4]) (t := 22) ?_ ?_ ?_; (focus ((repeat (first | (with_reducible refine Bx.newk _ _ _ _ ?_; (first | with_reducible rfl | (simp; done))) | with_reducible refine Bx.old ?_ _ | with_reducible refine Bx.drewN ?_ _ | with_reducible refine Bx.drew ?_ | with_reducible refine Bx.keep0 ?_ g2 | with_reducible refine Bx.keep0 ?_ g3)))); (focus rfl); (focus rfl))); (focus (exact (ok_cons (Rd.ofBx (cs := #[.int .u8 3]) (t := 5) (by (repeat (first | (with_reducible refine Bx.newk _ _ _ _ ?_; (first | with_reducible rfl | (simp; done))) | with_reducible refine Bx.old ?_ _ | with_reducible refine Bx.drewN ?_ _ | with_reducible refine Bx.drew ?_ | with_reducible refine Bx.keep0 ?_ g2 | with_reducible refine Bx.keep0 ?_ g3))) (by rfl) (by rfl)) (ok_cons (Rd.ofBx (cs := #[.int .u8 id]) (t := 5) (by (repeat (first | (with_reducible refine Bx.newk _ _ _ _ ?_; (first | with_reducible rfl | (simp; done))) | with_reducible refine Bx.old ?_ _ | with_reducible refine Bx.drewN ?_ _ | with_reducible refine Bx.drew ?_ | with_reducible refine Bx.keep0 ?_ g2 | with_reducible refine Bx.keep0 ?_ g3))) (one_b8 (by omega) (by omega)) (by rfl)) (ok_cons (r1.keep0 (by (repeat (first | with_reducible exact gb_refl _ | with_reducible exact G1 | with_reducible refine gb_alloc ?_ _ | with_reducible refine gb_drewN ?_ _ | with_reducible refine gb_drew ?_ | with_reducible refine gb_trans ?_ g2 | with_reducible refine gb_trans ?_ g3)))) (ok_cons (r2.keep0 (by (repeat (first | with_reducible exact gb_refl _ | with_reducible exact G1 | with_reducible refine gb_alloc ?_ _ | with_reducible refine gb_drewN ?_ _ | with_reducible refine gb_drew ?_ | with_reducible refine gb_trans ?_ g2 | with_reducible refine gb_trans ?_ g3)))) (ok_cons (o2.rd.keep0 (by (repeat (first | with_reducible exact gb_refl _ | with_reducible refine gb_alloc ?_ _ | with_reducible refine gb_drewN ?_ _ | with_reducible refine gb_drew ?_ | with_reducible refine gb_trans ?_ g3)))) (ok_cons (r3.keep0 (by (repeat (first | with_reducible exact gb_refl _ | with_reducible exact G1 | with_reducible refine gb_alloc ?_ _ | with_reducible refine gb_drewN ?_ _ | with_reducible refine gb_drew ?_ | with_reducible refine gb_trans ?_ g2 | with_reducible refine gb_trans ?_ g3)))) (ok_cons (r4.keep0 (by (repeat (first | with_reducible exact gb_refl _ | with_reducible exact G1 | with_reducible refine gb_alloc ?_ _ | with_reducible refine gb_drewN ?_ _ | with_reducible refine gb_drew ?_ | with_reducible refine gb_trans ?_ g2 | with_reducible refine gb_trans ?_ g3)))) ok_nil))))))))); (focus (simp [cat, be_len]; omega)); rintro e w4 ⟨b4, m4, d4, rfl, o4, g4⟩))
  go_wp2
  go_ret
  refine retB o4 ?_ ?_ ?_
  · exact World.grownBy.size (row := none) (by (repeat (first | with_reducible exact gb_refl _ | with_reducible exact G1 | with_reducible refine gb_alloc ?_ _ | with_reducible refine gb_drewN ?_ _ | with_reducible refine gb_drew ?_ | with_reducible refine gb_trans ?_ g2 | with_reducible refine gb_trans ?_ g3)))
  · (repeat (first | with_reducible exact gb_refl _ | with_reducible exact G1 | with_reducible refine gb_alloc ?_ _ | with_reducible refine gb_drewN ?_ _ | with_reducible refine gb_drew ?_ | with_reducible refine gb_trans ?_ g2 | with_reducible refine gb_trans ?_ g3 | with_reducible refine gb_trans ?_ g4))
  · simp [cat]
set_option maxRecDepth 100000 in
set_option maxHeartbeats 4000000 in
theorem impl_PutFrameS (kind : Int) (hk : sealedB kind = true) (id tick epoch seq : Int) (a1 : Option Addr) (n1 c1 : Nat) (l1 : List UInt8) (a2 : Option Addr) (n2 c2 : Nat) (l2 : List UInt8) (a3 : Option Addr) (n3 c3 : Nat) (l3 : List UInt8) (a4 : Option Addr) (n4 c4 : Nat) (l4 : List UInt8) (a5 : Option Addr) (n5 c5 : Nat) (l5 : List UInt8) (a6 : Option Addr) (n6 c6 : Nat) (l6 : List UInt8) (w : World)
    (r1 : Rd w a1 n1 c1 (bys l1)) (r2 : Rd w a2 n2 c2 (bys l2)) (r3 : Rd w a3 n3 c3 (bys l3)) (r4 : Rd w a4 n4 c4 (bys l4)) (r5 : Rd w a5 n5 c5 (bys l5)) (r6 : Rd w a6 n6 c6 (bys l6)) (hok : frOk ⟨kind, id, l1, l2, tick, l3, l4, epoch, seq, l5, l6⟩ = true) :
    Calls Try.prog 43 #[.agg #[.int .i64 kind, .int .i64 id, .slice a1 n1 c1, .slice a2 n2 c2, .int .i64 tick, .slice a3 n3 c3, .slice a4 n4 c4, .int .i64 epoch, .int .i64 seq, .slice a5 n5 c5, .slice a6 n6 c6]] w (RetB w ([b8 kind] ++ l2 ++ be epoch.toNat 4 ++ be seq.toNat 6 ++ l6 ++ l5)) := by
  have bd := frOk_S hok hk
  simp only at bd
  obtain ⟨q1, q2, q3, q4, q5, q6, q7, q8, q9⟩ := bd
  have k1 : (kind == 1) = false := by rw [beq_eq_false_iff_ne]; omega
  have k2 : (kind == 2) = false := by rw [beq_eq_false_iff_ne]; omega
  have k3 : (kind == 3) = false := by rw [beq_eq_false_iff_ne]; omega
  have g0 := gb_alloc (gb_refl w) (.cells #[.int .i64 kind, .int .i64 id, .slice a1 n1 c1, .slice a2 n2 c2, .int .i64 tick, .slice a3 n3 c3, .slice a4 n4 c4, .int .i64 epoch, .int .i64 seq, .slice a5 n5 c5, .slice a6 n6 c6] 55)
  have b0 := bx1 w #[.int .i64 kind, .int .i64 id, .slice a1 n1 c1, .slice a2 n2 c2, .int .i64 tick, .slice a3 n3 c3, .slice a4 n4 c4, .int .i64 epoch, .int .i64 seq, .slice a5 n5 c5, .slice a6 n6 c6] 55
  have R := Lib.hid (frameR_mk (kind := kind) (id := id) (tick := tick) (epoch := epoch) (seq := seq) (r1.keep0 g0) (r2.keep0 g0) (r3.keep0 g0) (r4.keep0 g0) (r5.keep0 g0) (r6.keep0 g0))
  go_enter Try.func43, Try.ntmps43
  go_wp2_with (go_at_call 44; (with_reducible refine (impl_FrameOk _ _ _ R.out).mono ?_); rw [hok]; rintro e w1 ⟨rfl, g1⟩; have G1 := gb_trans g0 g1; have b1 := b0.keep0 g1; have cc := fun o => b1.cell o; have lb := b1.lt)
  have KX : Hid (∀ w', w1.grownBy w' none → (w'.cell? ⟨w.heap.size, 3, none⟩ = some (.slice a2 n2 c2) ∧ w'.cell? ⟨w.heap.size, 7, none⟩ = some (.int .i64 epoch) ∧ w'.cell? ⟨w.heap.size, 8, none⟩ = some (.int .i64 seq) ∧ w'.cell? ⟨w.heap.size, 10, none⟩ = some (.slice a6 n6 c6) ∧ w'.cell? ⟨w.heap.size, 9, none⟩ = some (.slice a5 n5 c5) ∧ w1.grownBy w' none)) :=
    fun w' hg => ⟨(b1.keep0 hg).cell 3, (b1.keep0 hg).cell 7, (b1.keep0 hg).cell 8, (b1.keep0 hg).cell 10, (b1.keep0 hg).cell 9, hg⟩
  clear g0 b0 g1 b1 cc
  go_region_held3 (fun w' => w'.cell? ⟨w.heap.size, 3, none⟩ = some (.slice a2 n2 c2) ∧ w'.cell? ⟨w.heap.size, 7, none⟩ = some (.int .i64 epoch) ∧ w'.cell? ⟨w.heap.size, 8, none⟩ = some (.int .i64 seq) ∧ w'.cell? ⟨w.heap.size, 10, none⟩ = some (.slice a6 n6 c6) ∧ w'.cell? ⟨w.heap.size, 9, none⟩ = some (.slice a5 n5 c5) ∧ w1.grownBy w' none)
    ((refine KX.out _ ?_; (repeat (first | with_reducible exact gb_refl _ | with_reducible refine gb_alloc ?_ _ | with_reducible refine gb_drewN ?_ _ | with_reducible refine gb_drew ?_ | with_reducible refine gb_trans ?_ g2 | with_reducible refine gb_trans ?_ g3 | with_reducible refine gb_trans ?_ g4))))
    (first
      | (go_at_call 39; (with_reducible refine (impl_PutN none 0 0 [] epoch 4 _ (rd_nilB _) (by omega) (by omega) (by omega) (by omega) (by omega)).mono ?_); rintro e w2 ⟨b2, m2, d2, rfl, o2, g2⟩)
      | (go_at_call 39; (with_reducible refine (impl_PutN none 0 0 [] seq 6 _ (rd_nilB _) (by omega) (by omega) (by omega) (by omega) (by omega)).mono ?_); rintro e w3 ⟨b3, m3, d3, rfl, o3, g3⟩)
      | (go_at_call 87; refine Calls.mono (impl_joined _ _ _ [⟨some ⟨w1.heap.size, 0, none⟩, 1, 1, [b8 kind]⟩, ⟨a2, n2, c2, l2⟩, ⟨b2, m2, d2, be epoch.toNat 4⟩, ⟨b3, m3, d3, be seq.toNat 6⟩, ⟨a6, n6, c6, l6⟩, ⟨a5, n5, c5, l5⟩] _ ?_ ?_ (by omega) ?_) ?_; (focus (refine Rd.ofBxV (cs := #[.slice (some ⟨w1.heap.size, 0, none⟩) 1 1, .slice a2 n2 c2, .slice b2 m2 d2, .slice b3 m3 d3, .slice a6 n6 c6, .slice a5 n5 c5]) (t := 22) ?_ ?_ ?_; (focus ((repeat (first | (with_reducible refine Bx.newk _ _ _ _ ?_; (first | with_reducible rfl | (simp; done))) | with_reducible refine Bx.old ?_ _ | with_reducible refine Bx.drewN ?_ _ | with_reducible refine Bx.drew ?_ | with_reducible refine Bx.keep0 ?_ g2 | with_reducible refine Bx.keep0 ?_ g3)))); (focus rfl); (focus rfl))); (focus (exact (ok_cons (Rd.ofBx (cs := #[.int .u8 kind]) (t := 5) (by (repeat (first | (with_reducible refine Bx.newk _ _ _ _ ?_; (first | with_reducible rfl | (simp; done))) | with_reducible refine Bx.old ?_ _ | with_reducible refine Bx.drewN ?_ _ | with_reducible refine Bx.drew ?_ | with_reducible refine Bx.keep0 ?_ g2 | with_reducible refine Bx.keep0 ?_ g3))) (one_b8 (by omega) (by omega)) (by rfl)) (ok_cons (r2.keep0 (by (repeat (first | with_reducible exact gb_refl _ | with_reducible exact G1 | with_reducible refine gb_alloc ?_ _ | with_reducible refine gb_drewN ?_ _ | with_reducible refine gb_drew ?_ | with_reducible refine gb_trans ?_ g2 | with_reducible refine gb_trans ?_ g3)))) (ok_cons (o2.rd.keep0 (by (repeat (first | with_reducible exact gb_refl _ | with_reducible refine gb_alloc ?_ _ | with_reducible refine gb_drewN ?_ _ | with_reducible refine gb_drew ?_ | with_reducible refine gb_trans ?_ g3)))) (ok_cons (o3.rd.keep0 (by (repeat (first | with_reducible exact gb_refl _ | with_reducible refine gb_alloc ?_ _ | with_reducible refine gb_drewN ?_ _ | with_reducible refine gb_drew ?_)))) (ok_cons (r6.keep0 (by (repeat (first | with_reducible exact gb_refl _ | with_reducible exact G1 | with_reducible refine gb_alloc ?_ _ | with_reducible refine gb_drewN ?_ _ | with_reducible refine gb_drew ?_ | with_reducible refine gb_trans ?_ g2 | with_reducible refine gb_trans ?_ g3)))) (ok_cons (r5.keep0 (by (repeat (first | with_reducible exact gb_refl _ | with_reducible exact G1 | with_reducible refine gb_alloc ?_ _ | with_reducible refine gb_drewN ?_ _ | with_reducible refine gb_drew ?_ | with_reducible refine gb_trans ?_ g2 | with_reducible refine gb_trans ?_ g3)))) ok_nil)))))))); (focus (simp [cat, be_len]; omega)); rintro e w4 ⟨b4, m4, d4, rfl, o4, g4⟩))
  go_wp2
  go_ret
  refine retB o4 ?_ ?_ ?_
  · exact World.grownBy.size (row := none) (by (repeat (first | with_reducible exact gb_refl _ | with_reducible exact G1 | with_reducible refine gb_alloc ?_ _ | with_reducible refine gb_drewN ?_ _ | with_reducible refine gb_drew ?_ | with_reducible refine gb_trans ?_ g2 | with_reducible refine gb_trans ?_ g3)))
  · (repeat (first | with_reducible exact gb_refl _ | with_reducible exact G1 | with_reducible refine gb_alloc ?_ _ | with_reducible refine gb_drewN ?_ _ | with_reducible refine gb_drew ?_ | with_reducible refine gb_trans ?_ g2 | with_reducible refine gb_trans ?_ g3 | with_reducible refine gb_trans ?_ g4))
  · simp [cat]
end Go.Proofs.Ytgeoeacfkacdpaa
