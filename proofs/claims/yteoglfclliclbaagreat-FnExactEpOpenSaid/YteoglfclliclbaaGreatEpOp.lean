/-
  Contracts of the two functions that open a frame in an epoch. Conditions: none beside those that each theorem names.
-/
import Derived.Test.YteoglfclliclbaaGreatEp
import Derived.Test.YteoglfclliclbaaGreatEpC
import Derived.Test.YteoglfclliclbaaGreatRec
import Derived.Test.YteoglfclliclbaaGreatWinB
import Derived.Test.YteoglfclliclbaaGreatSet1
import Derived.Deep.RegionHeld3
namespace Go.Proofs.YteoglfclliclbaaGreat
open Go.RowKit
def epOpenC (e : EpM) (x : Int) (f : FrameM) : Int :=
  if epOkB e = true ∧ (tagInM x f).length ≠ 0 ∧ f.epoch = e.n then (if winMay e.win f.seq = true then (if unsealB e.key x f = true then 0 else 2) else 3) else 1
def epOpenE (e : EpM) (x : Int) (f : FrameM) : EpM := if epOpenC e x f = 0 then { e with win := winAddM e.win f.seq } else e
def epOpenP (e : EpM) (x : Int) (f : FrameM) : List UInt8 := if epOpenC e x f = 0 then unsealM e.key x f else []
theorem epOpenE_tot (e : EpM) (x : Int) (f : FrameM) : (epOpenE e x f).tot = e.tot := by
  unfold epOpenE
  split
  · have := winAddM_tot e.win f.seq
    simp only [EpM.tot, WinM.tot] at this ⊢
    omega
  · rfl
set_option maxRecDepth 1000000 in
set_option maxHeartbeats 8000000 in
theorem impl_EpOpen (v : Value) (f : EpM) (x : Int) (u : Value) (F : FrameM) (w : World) (h : EpR w v f) (hF : FrameR w u F) (hk : f.key.length ≤ 1048576) (hn : f.win.bits.length ≤ 1048576) :
    Calls Tryz.prog 9 #[v, .int .i64 x, u] w fun e w' => ∃ M v1 a n c, e = .returned (.tuple #[v1, .slice a n c, .int .i64 (epOpenC f x F)]) ∧ w.heap.size ≤ M ∧ M ≤ w'.heap.size ∧
      EpO w.heap.size M w' v1 (epOpenE f x F) ∧ Ow M w' 5 a n c (bys (epOpenP f x F)) ∧ w.grownBy w' none := by
  obtain ⟨a1, n1, c1, a7, n7, c7, rfl, r1, r7⟩ := h
  obtain ⟨en, l1, es, ⟨et, l7⟩⟩ := f
  obtain ⟨kind, id, q1, q2, tick, q3, q4, epoch, seq, q5, q6⟩ := F
  obtain ⟨b1, m1, d1, b2, m2, d2, b3, m3, d3, b4, m4, d4, b5, m5, d5, b6, m6, d6, rfl⟩ := hF.shape
  simp only at r1 r7 hk hn hF ⊢
  have G := gb_alloc (gb_alloc (gb_alloc (gb_refl w) (.cells #[.int .i64 en, .slice a1 n1 c1, .int .i64 es, .int .i64 et, .slice a7 n7 c7] 34)) (.cells #[.int .i64 kind, .int .i64 id, .slice b1 m1 d1, .slice b2 m2 d2, .int .i64 tick, .slice b3 m3 d3, .slice b4 m4 d4, .int .i64 epoch, .int .i64 seq, .slice b5 m5 d5, .slice b6 m6 d6] 38)) (.cells #[.int .i64 0, .slice none 0 0, .int .i64 0, .int .i64 0, .slice none 0 0] 34)
  have zW : (((w.alloc (.cells #[.int .i64 en, .slice a1 n1 c1, .int .i64 es, .int .i64 et, .slice a7 n7 c7] 34)).alloc (.cells #[.int .i64 kind, .int .i64 id, .slice b1 m1 d1, .slice b2 m2 d2, .int .i64 tick, .slice b3 m3 d3, .slice b4 m4 d4, .int .i64 epoch, .int .i64 seq, .slice b5 m5 d5, .slice b6 m6 d6] 38)).alloc (.cells #[.int .i64 0, .slice none 0 0, .int .i64 0, .int .i64 0, .slice none 0 0] 34)).heap.size = w.heap.size + 3 := by first | rfl | (simp; done)
  obtain ⟨BE, BF, BR⟩ := bx3 w #[.int .i64 en, .slice a1 n1 c1, .int .i64 es, .int .i64 et, .slice a7 n7 c7] #[.int .i64 kind, .int .i64 id, .slice b1 m1 d1, .slice b2 m2 d2, .int .i64 tick, .slice b3 m3 d3, .slice b4 m4 d4, .int .i64 epoch, .int .i64 seq, .slice b5 m5 d5, .slice b6 m6 d6] #[.int .i64 0, .slice none 0 0, .int .i64 0, .int .i64 0, .slice none 0 0] 34 38 34
  have k3 := fun o => BE.cell o
  have k5 := fun o => BF.cell o
  have f6 := fun o => BR.frozen o
  have lt6 := BR.lt
  obtain ⟨C, hC⟩ : ∃ C, C = epOpenC (⟨en, l1, es, ⟨et, l7⟩⟩ : EpM) x (⟨kind, id, q1, q2, tick, q3, q4, epoch, seq, q5, q6⟩ : FrameM) := ⟨_, rfl⟩
  have HE := Lib.hid (show epOpenE (⟨en, l1, es, ⟨et, l7⟩⟩ : EpM) x (⟨kind, id, q1, q2, tick, q3, q4, epoch, seq, q5, q6⟩ : FrameM) = if C = 0 then ⟨en, l1, es, winAddM ⟨et, l7⟩ seq⟩ else (⟨en, l1, es, ⟨et, l7⟩⟩ : EpM) by rw [epOpenE, ← hC])
  have HP := Lib.hid (show epOpenP (⟨en, l1, es, ⟨et, l7⟩⟩ : EpM) x (⟨kind, id, q1, q2, tick, q3, q4, epoch, seq, q5, q6⟩ : FrameM) = if C = 0 then unsealM l1 x (⟨kind, id, q1, q2, tick, q3, q4, epoch, seq, q5, q6⟩ : FrameM) else [] by rw [epOpenP, ← hC])
  rw [← hC]
  replace hC := Lib.hid hC
  go_enter Tryz.func9, Tryz.ntmps9
  go_wp2_with fail
  refine (impl_copyEp _ (⟨en, l1, es, ⟨et, l7⟩⟩ : EpM) _ (EpR.mk (r1.keep0 G) (r7.keep0 G)) hk hn).mono ?_
  rintro e w1 ⟨v1, rfl, o1, g1⟩
  obtain ⟨x1, y1, z1, x7, y7, z7, rfl, ⟨p1, u1⟩, ⟨p7, u7⟩, d17⟩ := o1
  have gS := g1.size
  rw [zW] at gS
  simp only at p1 p7
  rw [zW] at p1 p7
  have gN := gb_alloc (gb_refl w1) (.cells #[.int .i64 en, .slice x1 y1 z1, .int .i64 es, .int .i64 et, .slice x7 y7 z7] 34)
  have B9 := Bx.new w1 34 #[.int .i64 en, .slice x1 y1 z1, .int .i64 es, .int .i64 et, .slice x7 y7 z7]
  replace BE := BE.keep0 g1
  replace BF := BF.keep0 g1
  replace BR := BR.keep0 g1
  (try clear k3 k5 f6 lt6); have k3 := fun o => BE.cell o; have k5 := fun o => BF.cell o; have f6 := fun o => BR.frozen o; have lt6 := BR.lt
  have lt3 := BE.lt
  go_wp2_with fail
  replace BE := BE.keep0 gN
  replace BF := BF.keep0 gN
  replace BR := BR.keep0 gN
  have gg := gb_trans (gb_trans G g1) gN
  replace p1 := p1.keep0 gN
  replace p7 := p7.keep0 gN
  clear g1 gN k3 k5 f6 lt6 lt3
  cases h1 : epOkB (⟨en, l1, es, ⟨et, l7⟩⟩ : EpM)
  · obtain rfl : C = 1 := by rw [hC.out, epOpenC, if_neg (fun q => by rw [h1] at q; exact absurd q.1 (by decide))]
    refine (impl_EpOk _ (⟨en, l1, es, ⟨et, l7⟩⟩ : EpM) _ (EpR.mk (r1.keep0 gg) (r7.keep0 gg)) (Nat.le_trans hn (by decide))).mono ?_
    rw [h1]
    rintro e w4 ⟨rfl, g4⟩
    replace BE := BE.keep0 g4; replace BF := BF.keep0 g4; replace BR := BR.keep0 g4; replace B9 := B9.keep0 g4; replace p1 := p1.keep0 g4; replace p7 := p7.keep0 g4; replace gg := gb_trans gg g4; (try clear k3 k5 f6 lt6); have k3 := fun o => BE.cell o; have k5 := fun o => BF.cell o; have f6 := fun o => BR.frozen o; have lt6 := BR.lt; (try clear k9 f9 lt9); have k9 := fun o => B9.cell o; have f9 := fun o => B9.frozen o; have lt9 := B9.lt
    go_wp2_with (first | ((with_reducible refine wpList_stR ?hg3x1 34 (.tmp 6) (.tmp 32) ?ho3x1 (w.heap.size + 1 + 1) ?cs3x1 ?old3x1 ?hx3x1 ?hy3x1 ?hb3x1 ?hi3x1 ?hs3x1 ?hc3x1 ?hh3x1); (case ho3x1 => rfl); (case hg3x1 => rfl); (case hx3x1 => rfl); (case hy3x1 => rfl); (case hb3x1 => exact (by first | exact BR | exact BR.old _)); (case hi3x1 => exact si_Ep); (case hs3x1 => rfl); (case hc3x1 => (first | rfl | (simp [Value.oneCell']; done))); intro w8 C8 g8; have k8 := fun o => C8.cell o; (try simp only [Act.put]); (try simp only [List.setIfInBounds_toArray]); (try simp only [List.set_cons_succ]); (try simp only [List.set_cons_zero])))
    have hE1 := HE.out
    have hP1 := HP.out
    rw [if_neg (by decide)] at hE1 hP1
    rw [hE1, hP1]
    have z8 := g8.size
    refine bodyPost_ret (v := .tuple #[.agg #[.int .i64 en, .slice x1 y1 z1, .int .i64 es, .int .i64 et, .slice x7 y7 z7], .slice none 0 0, .int .i64 1]) (by simp [results, Tryz.results9, go_sem, k8]) rfl ⟨w1.heap.size, _, _, _, _, rfl, by omega, by omega, ?_, Ow.nil _ _ _, gb_row gg g8 (by omega)⟩
    refine ⟨_, _, _, _, _, _, rfl, ⟨(p1.row g8 ?_).mono (by omega), u1⟩, ⟨(p7.row g8 ?_).mono (by omega), u7⟩, d17⟩ <;> (intro p hp; first | (have := (p1.lt p hp).1; omega) | (have := (p7.lt p hp).1; omega))
  refine (impl_EpOk _ (⟨en, l1, es, ⟨et, l7⟩⟩ : EpM) _ (EpR.mk (r1.keep0 gg) (r7.keep0 gg)) (Nat.le_trans hn (by decide))).mono ?_
  rw [h1]
  rintro e w4 ⟨rfl, g4⟩
  replace BE := BE.keep0 g4; replace BF := BF.keep0 g4; replace BR := BR.keep0 g4; replace B9 := B9.keep0 g4; replace p1 := p1.keep0 g4; replace p7 := p7.keep0 g4; replace gg := gb_trans gg g4; (try clear k3 k5 f6 lt6); have k3 := fun o => BE.cell o; have k5 := fun o => BF.cell o; have f6 := fun o => BR.frozen o; have lt6 := BR.lt; (try clear k9 f9 lt9); have k9 := fun o => B9.cell o; have f9 := fun o => B9.frozen o; have lt9 := B9.lt
  clear g4
  go_wp2_with fail
  refine (impl_TagInput x _ (⟨kind, id, q1, q2, tick, q3, q4, epoch, seq, q5, q6⟩ : FrameM) _ (hF.keep0 gg)).mono ?_
  rintro e w5 ⟨aT, nT, cT, rfl, oT, g5⟩
  have eT := Lib.hid oT.blen
  clear oT
  replace BE := BE.keep0 g5; replace BF := BF.keep0 g5; replace BR := BR.keep0 g5; replace B9 := B9.keep0 g5; replace p1 := p1.keep0 g5; replace p7 := p7.keep0 g5; replace gg := gb_trans gg g5; (try clear k3 k5 f6 lt6); have k3 := fun o => BE.cell o; have k5 := fun o => BF.cell o; have f6 := fun o => BR.frozen o; have lt6 := BR.lt; (try clear k9 f9 lt9); have k9 := fun o => B9.cell o; have f9 := fun o => B9.frozen o; have lt9 := B9.lt
  clear g5
  cases t0 : ((nT : Int) == 0)
  rotate_left
  · obtain rfl : C = 1 := by rw [hC.out, epOpenC, if_neg (fun q => q.2.1 (by rw [eT.out]; simp at t0; omega))]
    go_wp2_with (first | ((with_reducible refine wpList_stR ?hg3x2 34 (.tmp 6) (.tmp 32) ?ho3x2 (w.heap.size + 1 + 1) ?cs3x2 ?old3x2 ?hx3x2 ?hy3x2 ?hb3x2 ?hi3x2 ?hs3x2 ?hc3x2 ?hh3x2); (case ho3x2 => rfl); (case hg3x2 => rfl); (case hx3x2 => rfl); (case hy3x2 => rfl); (case hb3x2 => exact (by first | exact BR | exact BR.old _)); (case hi3x2 => exact si_Ep); (case hs3x2 => rfl); (case hc3x2 => (first | rfl | (simp [Value.oneCell']; done))); intro w8 C8 g8; have k8 := fun o => C8.cell o; (try simp only [Act.put]); (try simp only [List.setIfInBounds_toArray]); (try simp only [List.set_cons_succ]); (try simp only [List.set_cons_zero])))
    have hE1 := HE.out
    have hP1 := HP.out
    rw [if_neg (by decide)] at hE1 hP1
    rw [hE1, hP1]
    have z8 := g8.size
    refine bodyPost_ret (v := .tuple #[.agg #[.int .i64 en, .slice x1 y1 z1, .int .i64 es, .int .i64 et, .slice x7 y7 z7], .slice none 0 0, .int .i64 1]) (by simp [results, Tryz.results9, go_sem, k8]) rfl ⟨w1.heap.size, _, _, _, _, rfl, by omega, by omega, ?_, Ow.nil _ _ _, gb_row gg g8 (by omega)⟩
    refine ⟨_, _, _, _, _, _, rfl, ⟨(p1.row g8 ?_).mono (by omega), u1⟩, ⟨(p7.row g8 ?_).mono (by omega), u7⟩, d17⟩ <;> (intro p hp; first | (have := (p1.lt p hp).1; omega) | (have := (p7.lt p hp).1; omega))
  cases t1 : (epoch != en)
  rotate_left
  · obtain rfl : C = 1 := by rw [hC.out, epOpenC, if_neg (fun q => by rw [bne_iff_ne] at t1; exact t1 q.2.2)]
    go_wp2_with (first | ((with_reducible refine wpList_stR ?hg3x3 34 (.tmp 6) (.tmp 32) ?ho3x3 (w.heap.size + 1 + 1) ?cs3x3 ?old3x3 ?hx3x3 ?hy3x3 ?hb3x3 ?hi3x3 ?hs3x3 ?hc3x3 ?hh3x3); (case ho3x3 => rfl); (case hg3x3 => rfl); (case hx3x3 => rfl); (case hy3x3 => rfl); (case hb3x3 => exact (by first | exact BR | exact BR.old _)); (case hi3x3 => exact si_Ep); (case hs3x3 => rfl); (case hc3x3 => (first | rfl | (simp [Value.oneCell']; done))); intro w8 C8 g8; have k8 := fun o => C8.cell o; (try simp only [Act.put]); (try simp only [List.setIfInBounds_toArray]); (try simp only [List.set_cons_succ]); (try simp only [List.set_cons_zero])))
    have hE1 := HE.out
    have hP1 := HP.out
    rw [if_neg (by decide)] at hE1 hP1
    rw [hE1, hP1]
    have z8 := g8.size
    refine bodyPost_ret (v := .tuple #[.agg #[.int .i64 en, .slice x1 y1 z1, .int .i64 es, .int .i64 et, .slice x7 y7 z7], .slice none 0 0, .int .i64 1]) (by simp [results, Tryz.results9, go_sem, k8]) rfl ⟨w1.heap.size, _, _, _, _, rfl, by omega, by omega, ?_, Ow.nil _ _ _, gb_row gg g8 (by omega)⟩
    refine ⟨_, _, _, _, _, _, rfl, ⟨(p1.row g8 ?_).mono (by omega), u1⟩, ⟨(p7.row g8 ?_).mono (by omega), u7⟩, d17⟩ <;> (intro p hp; first | (have := (p1.lt p hp).1; omega) | (have := (p7.lt p hp).1; omega))
  have hin := Lib.hid (show epOkB (⟨en, l1, es, ⟨et, l7⟩⟩ : EpM) = true ∧ (tagInM x (⟨kind, id, q1, q2, tick, q3, q4, epoch, seq, q5, q6⟩ : FrameM)).length ≠ 0 ∧ (⟨kind, id, q1, q2, tick, q3, q4, epoch, seq, q5, q6⟩ : FrameM).epoch = (⟨en, l1, es, ⟨et, l7⟩⟩ : EpM).n from ⟨h1, (by rw [eT.out]; simp at t0; omega), (by simpa using t1)⟩)
  clear h1
  go_wp2_with fail
  obtain ⟨⟨et', l7'⟩, hA⟩ : ∃ f', Hid (winAddM ⟨et, l7⟩ seq = f') := ⟨_, rfl⟩
  cases hm : winMay ⟨et, l7⟩ seq
  · obtain rfl : C = 3 := by rw [hC.out, epOpenC, if_pos hin.out, if_neg (by rw [hm]; decide)]
    refine (impl_WinAdd _ ⟨et, l7⟩ seq _ ⟨_, _, _, rfl, r7.keep0 gg⟩ (Nat.le_trans hn (by decide))).mono ?_
    rw [hm, hA.out]
    rintro e w6 ⟨v6, rfl, o6, g6⟩
    obtain ⟨a9, n9, c9, rfl, o9, u9⟩ := o6
    have gX := gb_trans g6 (gb_alloc (gb_refl w6) (.cells #[.int .i64 et', .slice a9 n9 c9] 32))
    replace BE := BE.keep0 gX; replace BF := BF.keep0 gX; replace BR := BR.keep0 gX; replace B9 := B9.keep0 gX; replace p1 := p1.keep0 gX; replace p7 := p7.keep0 gX; replace gg := gb_trans gg gX; (try clear k3 k5 f6 lt6); have k3 := fun o => BE.cell o; have k5 := fun o => BF.cell o; have f6 := fun o => BR.frozen o; have lt6 := BR.lt; (try clear k9 f9 lt9); have k9 := fun o => B9.cell o; have f9 := fun o => B9.frozen o; have lt9 := B9.lt
    go_wp2_with (first | ((with_reducible refine wpList_stR ?hg3x4 34 (.tmp 6) (.tmp 43) ?ho3x4 (w.heap.size + 1 + 1) ?cs3x4 ?old3x4 ?hx3x4 ?hy3x4 ?hb3x4 ?hi3x4 ?hs3x4 ?hc3x4 ?hh3x4); (case ho3x4 => rfl); (case hg3x4 => rfl); (case hx3x4 => rfl); (case hy3x4 => rfl); (case hb3x4 => exact (by first | exact BR | exact BR.old _)); (case hi3x4 => exact si_Ep); (case hs3x4 => rfl); (case hc3x4 => (first | rfl | (simp [Value.oneCell']; done))); intro w8 C8 g8; have k8 := fun o => C8.cell o; (try simp only [Act.put]); (try simp only [List.setIfInBounds_toArray]); (try simp only [List.set_cons_succ]); (try simp only [List.set_cons_zero])))
    have hE1 := HE.out
    have hP1 := HP.out
    rw [if_neg (by decide)] at hE1 hP1
    rw [hE1, hP1]
    have z8 := g8.size
    refine bodyPost_ret (v := .tuple #[.agg #[.int .i64 en, .slice x1 y1 z1, .int .i64 es, .int .i64 et, .slice x7 y7 z7], .slice none 0 0, .int .i64 3]) (by simp [results, Tryz.results9, go_sem, k8]) rfl ⟨w1.heap.size, _, _, _, _, rfl, by omega, by omega, ?_, Ow.nil _ _ _, gb_row gg g8 (by omega)⟩
    refine ⟨_, _, _, _, _, _, rfl, ⟨(p1.row g8 ?_).mono (by omega), u1⟩, ⟨(p7.row g8 ?_).mono (by omega), u7⟩, d17⟩ <;> (intro p hp; first | (have := (p1.lt p hp).1; omega) | (have := (p7.lt p hp).1; omega))
  refine (impl_WinAdd _ ⟨et, l7⟩ seq _ ⟨_, _, _, rfl, r7.keep0 gg⟩ (Nat.le_trans hn (by decide))).mono ?_
  rw [hm, hA.out]
  rintro e w6 ⟨v6, rfl, o6, g6⟩
  obtain ⟨a9, n9, c9, rfl, o9, u9⟩ := o6
  simp only at o9
  have gY := gb_alloc (gb_refl w6) (.cells #[.int .i64 et', .slice a9 n9 c9] 32)
  have BW := Bx.new w6 32 #[.int .i64 et', .slice a9 n9 c9]
  have gX := gb_trans g6 gY
  obtain ⟨B9', hB9⟩ : ∃ B9', B9' = w5.heap.size := ⟨_, rfl⟩
  rw [← hB9] at o9
  have l95 := B9.lt
  rw [← hB9] at l95
  have l65 := g6.size
  rw [← hB9] at l65
  replace o9 := o9.keep0 gY
  replace BE := BE.keep0 g6
  replace BF := BF.keep0 g6
  replace BR := BR.keep0 g6
  replace B9 := B9.keep0 g6
  (try clear k3 k5 f6 lt6); have k3 := fun o => BE.cell o; have k5 := fun o => BF.cell o; have f6 := fun o => BR.frozen o; have lt6 := BR.lt
  have lt3 := BE.lt
  have lt5 := BF.lt
  go_wp2_with fail
  replace BE := BE.keep0 gY
  replace BF := BF.keep0 gY
  replace BR := BR.keep0 gY
  replace B9 := B9.keep0 gY
  replace p1 := p1.keep0 gX
  replace p7 := p7.keep0 gX
  replace gg := gb_trans gg gX
  clear lt3 lt5 k3 k5 f6 lt6
  cases hu : unsealB l1 x (⟨kind, id, q1, q2, tick, q3, q4, epoch, seq, q5, q6⟩ : FrameM)
  · obtain rfl : C = 2 := by rw [hC.out, epOpenC, if_pos hin.out, if_pos hm, if_neg (by rw [hu]; decide)]
    refine (impl_Unseal a1 n1 c1 l1 x _ (⟨kind, id, q1, q2, tick, q3, q4, epoch, seq, q5, q6⟩ : FrameM) _ (r1.keep0 gg) (hF.keep0 gg)).mono ?_
    rw [hu]
    rintro e w7 ⟨a10, n10, c10, rfl, o10, g7⟩
    replace BE := BE.keep0 g7; replace BF := BF.keep0 g7; replace BR := BR.keep0 g7; replace B9 := B9.keep0 g7; replace p1 := p1.keep0 g7; replace p7 := p7.keep0 g7; replace gg := gb_trans gg g7; (try clear k3 k5 f6 lt6); have k3 := fun o => BE.cell o; have k5 := fun o => BF.cell o; have f6 := fun o => BR.frozen o; have lt6 := BR.lt; (try clear k9 f9 lt9); have k9 := fun o => B9.cell o; have f9 := fun o => B9.frozen o; have lt9 := B9.lt
    go_wp2_with (first | ((with_reducible refine wpList_stR ?hg3x5 34 (.tmp 6) (.tmp 54) ?ho3x5 (w.heap.size + 1 + 1) ?cs3x5 ?old3x5 ?hx3x5 ?hy3x5 ?hb3x5 ?hi3x5 ?hs3x5 ?hc3x5 ?hh3x5); (case ho3x5 => rfl); (case hg3x5 => rfl); (case hx3x5 => rfl); (case hy3x5 => rfl); (case hb3x5 => exact (by first | exact BR | exact BR.old _)); (case hi3x5 => exact si_Ep); (case hs3x5 => rfl); (case hc3x5 => (first | rfl | (simp [Value.oneCell']; done))); intro w8 C8 g8; have k8 := fun o => C8.cell o; (try simp only [Act.put]); (try simp only [List.setIfInBounds_toArray]); (try simp only [List.set_cons_succ]); (try simp only [List.set_cons_zero])))
    have hE1 := HE.out
    have hP1 := HP.out
    rw [if_neg (by decide)] at hE1 hP1
    rw [hE1, hP1]
    have z8 := g8.size
    refine bodyPost_ret (v := .tuple #[.agg #[.int .i64 en, .slice x1 y1 z1, .int .i64 es, .int .i64 et, .slice x7 y7 z7], .slice none 0 0, .int .i64 2]) (by simp [results, Tryz.results9, go_sem, k8]) rfl ⟨w1.heap.size, _, _, _, _, rfl, by omega, by omega, ?_, Ow.nil _ _ _, gb_row gg g8 (by omega)⟩
    refine ⟨_, _, _, _, _, _, rfl, ⟨(p1.row g8 ?_).mono (by omega), u1⟩, ⟨(p7.row g8 ?_).mono (by omega), u7⟩, d17⟩ <;> (intro p hp; first | (have := (p1.lt p hp).1; omega) | (have := (p7.lt p hp).1; omega))
  · obtain rfl : C = 0 := by rw [hC.out, epOpenC, if_pos hin.out, if_pos hm, if_pos hu]
    obtain ⟨MM, hMM⟩ : ∃ MM, MM = w6.heap.size + 1 := ⟨_, rfl⟩
    refine (impl_Unseal a1 n1 c1 l1 x _ (⟨kind, id, q1, q2, tick, q3, q4, epoch, seq, q5, q6⟩ : FrameM) _ (r1.keep0 gg) (hF.keep0 gg)).mono ?_
    rw [hu]
    rintro e w7 ⟨a10, n10, c10, rfl, o10, g7⟩
    obtain ⟨B10', hB10⟩ : ∃ B10', B10' = w6.heap.size + 1 := ⟨_, rfl⟩
    simp only [World.size_alloc] at o10
    rw [← hB10] at o10
    have l76 := g7.size
    simp only [World.size_alloc] at l76
    replace o9 := o9.keep0 g7
    replace BW := BW.keep0 g7
    replace BE := BE.keep0 g7; replace BF := BF.keep0 g7; replace BR := BR.keep0 g7; replace B9 := B9.keep0 g7; replace p1 := p1.keep0 g7; replace p7 := p7.keep0 g7; replace gg := gb_trans gg g7; (try clear k3 k5 f6 lt6); have k3 := fun o => BE.cell o; have k5 := fun o => BF.cell o; have f6 := fun o => BR.frozen o; have lt6 := BR.lt; (try clear k9 f9 lt9); have k9 := fun o => B9.cell o; have f9 := fun o => B9.frozen o; have lt9 := B9.lt
    have k6 := fun o => BR.cell o
    have kW := fun o => BW.cell o
    have ltW := BW.lt
    go_wp2
    have hE1 := HE.out
    have hP1 := HP.out
    rw [if_pos (by trivial)] at hE1 hP1
    rw [hE1, hP1, hA.out]
    refine bodyPost_ret (v := .tuple #[.agg #[.int .i64 en, .slice x1 y1 z1, .int .i64 es, .int .i64 et', .slice a9 n9 c9], .slice a10 n10 c10, .int .i64 0]) (by simp [results, Tryz.results9, go_sem, k6]) rfl ⟨MM, _, _, _, _, rfl, by omega, by simp [World.setCell]; omega, ?_, ?_, ?_⟩
    · refine ⟨_, _, _, _, _, _, rfl, ⟨?_, fun p hp => Nat.lt_of_lt_of_le (u1 p hp) (by omega)⟩, ⟨?_, fun p hp => by have := u9 p hp; omega⟩, dj_of (m := w1.heap.size) u1 (fun p hp => by have := (o9.lt p hp).1; omega)⟩
      · refine Ow.mono (B := w.heap.size + 3) ?_ (by omega)
        repeat (first | with_reducible exact p1 | refine Ow.setO ?_ _ _ ?_)
        all_goals (intro p hp; have h8 := u1 p hp; have h9 := (p1.lt p hp).1; simp only; omega)
      · refine Ow.mono (B := B9') ?_ (by omega)
        repeat (first | with_reducible exact o9 | refine Ow.setO ?_ _ _ ?_)
        all_goals (intro p hp; have h9 := (o9.lt p hp).1; simp only; omega)
    · refine Ow.mono (B := B10') ?_ (by omega)
      repeat (first | with_reducible exact o10 | refine Ow.setO ?_ _ _ ?_)
      all_goals (intro p hp; have h9 := (o10.lt p hp).1; simp only; omega)
    · repeat (first | with_reducible exact gg | refine gb_set ?_ (.inl (by simp only; omega)) _)
set_option maxRecDepth 1000000 in
set_option maxHeartbeats 8000000 in
theorem spec_EpOpen (v : Value) (f : EpM) (x : Int) (u : Value) (F : FrameM) (w : World) (h : EpR w v f) (hF : FrameR w u F) (hk : f.key.length ≤ 1048576) (hn : f.win.bits.length ≤ 1048576) :
    Calls Tryz.prog 6 #[v, .int .i64 x, u] w fun e w' => ∃ M v1 a n c, e = .returned (.tuple #[v1, .slice a n c, .int .i64 (epOpenC f x F)]) ∧ w.heap.size ≤ M ∧ M ≤ w'.heap.size ∧
      EpO w.heap.size M w' v1 (epOpenE f x F) ∧ Ow w.heap.size w' 5 a n c (bys (epOpenP f x F)) ∧ w.grownBy w' none := by
  obtain ⟨a1, n1, c1, a7, n7, c7, rfl, r1, r7⟩ := h
  obtain ⟨en, l1, es, ⟨et, l7⟩⟩ := f
  obtain ⟨kind, id, q1, q2, tick, q3, q4, epoch, seq, q5, q6⟩ := F
  obtain ⟨b1, m1, d1, b2, m2, d2, b3, m3, d3, b4, m4, d4, b5, m5, d5, b6, m6, d6, rfl⟩ := hF.shape
  simp only at r1 r7 hk hn hF ⊢
  have G := gb_alloc (gb_alloc (gb_alloc (gb_refl w) (.cells #[.int .i64 en, .slice a1 n1 c1, .int .i64 es, .int .i64 et, .slice a7 n7 c7] 34)) (.cells #[.int .i64 kind, .int .i64 id, .slice b1 m1 d1, .slice b2 m2 d2, .int .i64 tick, .slice b3 m3 d3, .slice b4 m4 d4, .int .i64 epoch, .int .i64 seq, .slice b5 m5 d5, .slice b6 m6 d6] 38)) (.cells #[.int .i64 0, .slice none 0 0, .int .i64 0, .int .i64 0, .slice none 0 0] 34)
  have zW : (((w.alloc (.cells #[.int .i64 en, .slice a1 n1 c1, .int .i64 es, .int .i64 et, .slice a7 n7 c7] 34)).alloc (.cells #[.int .i64 kind, .int .i64 id, .slice b1 m1 d1, .slice b2 m2 d2, .int .i64 tick, .slice b3 m3 d3, .slice b4 m4 d4, .int .i64 epoch, .int .i64 seq, .slice b5 m5 d5, .slice b6 m6 d6] 38)).alloc (.cells #[.int .i64 0, .slice none 0 0, .int .i64 0, .int .i64 0, .slice none 0 0] 34)).heap.size = w.heap.size + 3 := by first | rfl | (simp; done)
  obtain ⟨BE, BF, BR⟩ := bx3 w #[.int .i64 en, .slice a1 n1 c1, .int .i64 es, .int .i64 et, .slice a7 n7 c7] #[.int .i64 kind, .int .i64 id, .slice b1 m1 d1, .slice b2 m2 d2, .int .i64 tick, .slice b3 m3 d3, .slice b4 m4 d4, .int .i64 epoch, .int .i64 seq, .slice b5 m5 d5, .slice b6 m6 d6] #[.int .i64 0, .slice none 0 0, .int .i64 0, .int .i64 0, .slice none 0 0] 34 38 34
  have k3 := fun o => BE.cell o
  have k5 := fun o => BF.cell o
  have f6 := fun o => BR.frozen o
  have lt6 := BR.lt
  obtain ⟨C, hC⟩ : ∃ C, C = epOpenC (⟨en, l1, es, ⟨et, l7⟩⟩ : EpM) x (⟨kind, id, q1, q2, tick, q3, q4, epoch, seq, q5, q6⟩ : FrameM) := ⟨_, rfl⟩
  have HE := Lib.hid (show epOpenE (⟨en, l1, es, ⟨et, l7⟩⟩ : EpM) x (⟨kind, id, q1, q2, tick, q3, q4, epoch, seq, q5, q6⟩ : FrameM) = if C = 0 then ⟨en, l1, es, winAddM ⟨et, l7⟩ seq⟩ else (⟨en, l1, es, ⟨et, l7⟩⟩ : EpM) by rw [epOpenE, ← hC])
  have HP := Lib.hid (show epOpenP (⟨en, l1, es, ⟨et, l7⟩⟩ : EpM) x (⟨kind, id, q1, q2, tick, q3, q4, epoch, seq, q5, q6⟩ : FrameM) = if C = 0 then unsealM l1 x (⟨kind, id, q1, q2, tick, q3, q4, epoch, seq, q5, q6⟩ : FrameM) else [] by rw [epOpenP, ← hC])
  rw [← hC]
  replace hC := Lib.hid hC
  go_enter Tryz.func6, Tryz.ntmps6
  go_wp2_with fail
  refine (spec_l9Copy _ (⟨en, l1, es, ⟨et, l7⟩⟩ : EpM) _ (EpR.mk (r1.keep0 G) (r7.keep0 G)) hk hn).mono ?_
  rintro e w1 ⟨v1, rfl, o1, g1⟩
  obtain ⟨x1, y1, z1, x7, y7, z7, rfl, ⟨p1, u1⟩, ⟨p7, u7⟩, d17⟩ := o1
  have gS := g1.size
  rw [zW] at gS
  simp only at p1 p7
  rw [zW] at p1 p7
  have gN := gb_alloc (gb_refl w1) (.cells #[.int .i64 en, .slice x1 y1 z1, .int .i64 es, .int .i64 et, .slice x7 y7 z7] 34)
  have B9 := Bx.new w1 34 #[.int .i64 en, .slice x1 y1 z1, .int .i64 es, .int .i64 et, .slice x7 y7 z7]
  replace BE := BE.keep0 g1
  replace BF := BF.keep0 g1
  replace BR := BR.keep0 g1
  (try clear k3 k5 f6 lt6); have k3 := fun o => BE.cell o; have k5 := fun o => BF.cell o; have f6 := fun o => BR.frozen o; have lt6 := BR.lt
  have lt3 := BE.lt
  go_wp2_with fail
  replace BE := BE.keep0 gN
  replace BF := BF.keep0 gN
  replace BR := BR.keep0 gN
  have gg := gb_trans (gb_trans G g1) gN
  replace p1 := p1.keep0 gN
  replace p7 := p7.keep0 gN
  clear g1 gN k3 k5 f6 lt6 lt3
  cases h1 : epOkB (⟨en, l1, es, ⟨et, l7⟩⟩ : EpM)
  · obtain rfl : C = 1 := by rw [hC.out, epOpenC, if_neg (fun q => by rw [h1] at q; exact absurd q.1 (by decide))]
    refine (spec_EpOk _ (⟨en, l1, es, ⟨et, l7⟩⟩ : EpM) _ (EpR.mk (r1.keep0 gg) (r7.keep0 gg)) (Nat.le_trans hn (by decide))).mono ?_
    rw [h1]
    rintro e w4 ⟨rfl, g4⟩
    replace BE := BE.keep0 g4; replace BF := BF.keep0 g4; replace BR := BR.keep0 g4; replace B9 := B9.keep0 g4; replace p1 := p1.keep0 g4; replace p7 := p7.keep0 g4; replace gg := gb_trans gg g4; (try clear k3 k5 f6 lt6); have k3 := fun o => BE.cell o; have k5 := fun o => BF.cell o; have f6 := fun o => BR.frozen o; have lt6 := BR.lt; (try clear k9 f9 lt9); have k9 := fun o => B9.cell o; have f9 := fun o => B9.frozen o; have lt9 := B9.lt
    go_wp2_with (first | ((with_reducible refine wpList_stR ?hg3x6 34 (.tmp 6) (.tmp 31) ?ho3x6 (w.heap.size + 1 + 1) ?cs3x6 ?old3x6 ?hx3x6 ?hy3x6 ?hb3x6 ?hi3x6 ?hs3x6 ?hc3x6 ?hh3x6); (case ho3x6 => rfl); (case hg3x6 => rfl); (case hx3x6 => rfl); (case hy3x6 => rfl); (case hb3x6 => exact (by first | exact BR | exact BR.old _)); (case hi3x6 => exact si_Ep); (case hs3x6 => rfl); (case hc3x6 => (first | rfl | (simp [Value.oneCell']; done))); intro w8 C8 g8; have k8 := fun o => C8.cell o; (try simp only [Act.put]); (try simp only [List.setIfInBounds_toArray]); (try simp only [List.set_cons_succ]); (try simp only [List.set_cons_zero])))
    have hE1 := HE.out
    have hP1 := HP.out
    rw [if_neg (by decide)] at hE1 hP1
    rw [hE1, hP1]
    have z8 := g8.size
    simp only [World.size_alloc] at z8
    refine bodyPost_ret (v := .tuple #[.agg #[.int .i64 en, .slice x1 y1 z1, .int .i64 es, .int .i64 et, .slice x7 y7 z7], .slice (some ⟨w4.heap.size, 0, none⟩) 0 0, .int .i64 1]) (by simp [results, Tryz.results6, go_sem, k8]) rfl ⟨w1.heap.size, _, _, _, _, rfl, by omega, by omega, ?_, ((new_own w4 5).row g8 (fun p hp => by cases hp; simp only; omega)).mono (by omega), gb_row (gb_alloc gg _) g8 (by omega)⟩
    refine ⟨_, _, _, _, _, _, rfl, ⟨((p1.keep0 (gb_alloc (gb_refl _) _)).row g8 ?_).mono (by omega), u1⟩, ⟨((p7.keep0 (gb_alloc (gb_refl _) _)).row g8 ?_).mono (by omega), u7⟩, d17⟩ <;> (intro p hp; first | (have := (p1.lt p hp).1; omega) | (have := (p7.lt p hp).1; omega))
  refine (spec_EpOk _ (⟨en, l1, es, ⟨et, l7⟩⟩ : EpM) _ (EpR.mk (r1.keep0 gg) (r7.keep0 gg)) (Nat.le_trans hn (by decide))).mono ?_
  rw [h1]
  rintro e w4 ⟨rfl, g4⟩
  replace BE := BE.keep0 g4; replace BF := BF.keep0 g4; replace BR := BR.keep0 g4; replace B9 := B9.keep0 g4; replace p1 := p1.keep0 g4; replace p7 := p7.keep0 g4; replace gg := gb_trans gg g4; (try clear k3 k5 f6 lt6); have k3 := fun o => BE.cell o; have k5 := fun o => BF.cell o; have f6 := fun o => BR.frozen o; have lt6 := BR.lt; (try clear k9 f9 lt9); have k9 := fun o => B9.cell o; have f9 := fun o => B9.frozen o; have lt9 := B9.lt
  clear g4
  go_wp2_with fail
  refine (spec_TagInput x _ (⟨kind, id, q1, q2, tick, q3, q4, epoch, seq, q5, q6⟩ : FrameM) _ (hF.keep0 gg)).mono ?_
  rintro e w5 ⟨aT, nT, cT, rfl, oT, g5⟩
  have eT := Lib.hid oT.blen
  clear oT
  replace BE := BE.keep0 g5; replace BF := BF.keep0 g5; replace BR := BR.keep0 g5; replace B9 := B9.keep0 g5; replace p1 := p1.keep0 g5; replace p7 := p7.keep0 g5; replace gg := gb_trans gg g5; (try clear k3 k5 f6 lt6); have k3 := fun o => BE.cell o; have k5 := fun o => BF.cell o; have f6 := fun o => BR.frozen o; have lt6 := BR.lt; (try clear k9 f9 lt9); have k9 := fun o => B9.cell o; have f9 := fun o => B9.frozen o; have lt9 := B9.lt
  clear g5
  cases t0 : ((nT : Int) == 0)
  rotate_left
  · obtain rfl : C = 1 := by rw [hC.out, epOpenC, if_neg (fun q => q.2.1 (by rw [eT.out]; simp at t0; omega))]
    go_wp2_with (first | ((with_reducible refine wpList_stR ?hg3x7 34 (.tmp 6) (.tmp 31) ?ho3x7 (w.heap.size + 1 + 1) ?cs3x7 ?old3x7 ?hx3x7 ?hy3x7 ?hb3x7 ?hi3x7 ?hs3x7 ?hc3x7 ?hh3x7); (case ho3x7 => rfl); (case hg3x7 => rfl); (case hx3x7 => rfl); (case hy3x7 => rfl); (case hb3x7 => exact (by first | exact BR | exact BR.old _)); (case hi3x7 => exact si_Ep); (case hs3x7 => rfl); (case hc3x7 => (first | rfl | (simp [Value.oneCell']; done))); intro w8 C8 g8; have k8 := fun o => C8.cell o; (try simp only [Act.put]); (try simp only [List.setIfInBounds_toArray]); (try simp only [List.set_cons_succ]); (try simp only [List.set_cons_zero])))
    have hE1 := HE.out
    have hP1 := HP.out
    rw [if_neg (by decide)] at hE1 hP1
    rw [hE1, hP1]
    have z8 := g8.size
    simp only [World.size_alloc] at z8
    refine bodyPost_ret (v := .tuple #[.agg #[.int .i64 en, .slice x1 y1 z1, .int .i64 es, .int .i64 et, .slice x7 y7 z7], .slice (some ⟨w5.heap.size, 0, none⟩) 0 0, .int .i64 1]) (by simp [results, Tryz.results6, go_sem, k8]) rfl ⟨w1.heap.size, _, _, _, _, rfl, by omega, by omega, ?_, ((new_own w5 5).row g8 (fun p hp => by cases hp; simp only; omega)).mono (by omega), gb_row (gb_alloc gg _) g8 (by omega)⟩
    refine ⟨_, _, _, _, _, _, rfl, ⟨((p1.keep0 (gb_alloc (gb_refl _) _)).row g8 ?_).mono (by omega), u1⟩, ⟨((p7.keep0 (gb_alloc (gb_refl _) _)).row g8 ?_).mono (by omega), u7⟩, d17⟩ <;> (intro p hp; first | (have := (p1.lt p hp).1; omega) | (have := (p7.lt p hp).1; omega))
  cases t1 : (epoch != en)
  rotate_left
  · obtain rfl : C = 1 := by rw [hC.out, epOpenC, if_neg (fun q => by rw [bne_iff_ne] at t1; exact t1 q.2.2)]
    go_wp2_with (first | ((with_reducible refine wpList_stR ?hg3x8 34 (.tmp 6) (.tmp 31) ?ho3x8 (w.heap.size + 1 + 1) ?cs3x8 ?old3x8 ?hx3x8 ?hy3x8 ?hb3x8 ?hi3x8 ?hs3x8 ?hc3x8 ?hh3x8); (case ho3x8 => rfl); (case hg3x8 => rfl); (case hx3x8 => rfl); (case hy3x8 => rfl); (case hb3x8 => exact (by first | exact BR | exact BR.old _)); (case hi3x8 => exact si_Ep); (case hs3x8 => rfl); (case hc3x8 => (first | rfl | (simp [Value.oneCell']; done))); intro w8 C8 g8; have k8 := fun o => C8.cell o; (try simp only [Act.put]); (try simp only [List.setIfInBounds_toArray]); (try simp only [List.set_cons_succ]); (try simp only [List.set_cons_zero])))
    have hE1 := HE.out
    have hP1 := HP.out
    rw [if_neg (by decide)] at hE1 hP1
    rw [hE1, hP1]
    have z8 := g8.size
    simp only [World.size_alloc] at z8
    refine bodyPost_ret (v := .tuple #[.agg #[.int .i64 en, .slice x1 y1 z1, .int .i64 es, .int .i64 et, .slice x7 y7 z7], .slice (some ⟨w5.heap.size, 0, none⟩) 0 0, .int .i64 1]) (by simp [results, Tryz.results6, go_sem, k8]) rfl ⟨w1.heap.size, _, _, _, _, rfl, by omega, by omega, ?_, ((new_own w5 5).row g8 (fun p hp => by cases hp; simp only; omega)).mono (by omega), gb_row (gb_alloc gg _) g8 (by omega)⟩
    refine ⟨_, _, _, _, _, _, rfl, ⟨((p1.keep0 (gb_alloc (gb_refl _) _)).row g8 ?_).mono (by omega), u1⟩, ⟨((p7.keep0 (gb_alloc (gb_refl _) _)).row g8 ?_).mono (by omega), u7⟩, d17⟩ <;> (intro p hp; first | (have := (p1.lt p hp).1; omega) | (have := (p7.lt p hp).1; omega))
  have hin := Lib.hid (show epOkB (⟨en, l1, es, ⟨et, l7⟩⟩ : EpM) = true ∧ (tagInM x (⟨kind, id, q1, q2, tick, q3, q4, epoch, seq, q5, q6⟩ : FrameM)).length ≠ 0 ∧ (⟨kind, id, q1, q2, tick, q3, q4, epoch, seq, q5, q6⟩ : FrameM).epoch = (⟨en, l1, es, ⟨et, l7⟩⟩ : EpM).n from ⟨h1, (by rw [eT.out]; simp at t0; omega), (by simpa using t1)⟩)
  clear h1
  go_wp2_with fail
  obtain ⟨⟨et', l7'⟩, hA⟩ : ∃ f', Hid (winAddM ⟨et, l7⟩ seq = f') := ⟨_, rfl⟩
  cases hm : winMay ⟨et, l7⟩ seq
  · obtain rfl : C = 3 := by rw [hC.out, epOpenC, if_pos hin.out, if_neg (by rw [hm]; decide)]
    refine (spec_WinMay _ ⟨et, l7⟩ seq _ ⟨_, _, _, rfl, r7.keep0 gg⟩).mono ?_
    rw [hm]
    rintro e w6 ⟨rfl, g6⟩
    replace BE := BE.keep0 g6; replace BF := BF.keep0 g6; replace BR := BR.keep0 g6; replace B9 := B9.keep0 g6; replace p1 := p1.keep0 g6; replace p7 := p7.keep0 g6; replace gg := gb_trans gg g6; (try clear k3 k5 f6 lt6); have k3 := fun o => BE.cell o; have k5 := fun o => BF.cell o; have f6 := fun o => BR.frozen o; have lt6 := BR.lt; (try clear k9 f9 lt9); have k9 := fun o => B9.cell o; have f9 := fun o => B9.frozen o; have lt9 := B9.lt
    go_wp2_with (first | ((with_reducible refine wpList_stR ?hg3x9 34 (.tmp 6) (.tmp 39) ?ho3x9 (w.heap.size + 1 + 1) ?cs3x9 ?old3x9 ?hx3x9 ?hy3x9 ?hb3x9 ?hi3x9 ?hs3x9 ?hc3x9 ?hh3x9); (case ho3x9 => rfl); (case hg3x9 => rfl); (case hx3x9 => rfl); (case hy3x9 => rfl); (case hb3x9 => exact (by first | exact BR | exact BR.old _)); (case hi3x9 => exact si_Ep); (case hs3x9 => rfl); (case hc3x9 => (first | rfl | (simp [Value.oneCell']; done))); intro w8 C8 g8; have k8 := fun o => C8.cell o; (try simp only [Act.put]); (try simp only [List.setIfInBounds_toArray]); (try simp only [List.set_cons_succ]); (try simp only [List.set_cons_zero])))
    have hE1 := HE.out
    have hP1 := HP.out
    rw [if_neg (by decide)] at hE1 hP1
    rw [hE1, hP1]
    have z8 := g8.size
    simp only [World.size_alloc] at z8
    refine bodyPost_ret (v := .tuple #[.agg #[.int .i64 en, .slice x1 y1 z1, .int .i64 es, .int .i64 et, .slice x7 y7 z7], .slice (some ⟨w6.heap.size, 0, none⟩) 0 0, .int .i64 3]) (by simp [results, Tryz.results6, go_sem, k8]) rfl ⟨w1.heap.size, _, _, _, _, rfl, by omega, by omega, ?_, ((new_own w6 5).row g8 (fun p hp => by cases hp; simp only; omega)).mono (by omega), gb_row (gb_alloc gg _) g8 (by omega)⟩
    refine ⟨_, _, _, _, _, _, rfl, ⟨((p1.keep0 (gb_alloc (gb_refl _) _)).row g8 ?_).mono (by omega), u1⟩, ⟨((p7.keep0 (gb_alloc (gb_refl _) _)).row g8 ?_).mono (by omega), u7⟩, d17⟩ <;> (intro p hp; first | (have := (p1.lt p hp).1; omega) | (have := (p7.lt p hp).1; omega))
  refine (spec_WinMay _ ⟨et, l7⟩ seq _ ⟨_, _, _, rfl, r7.keep0 gg⟩).mono ?_
  rw [hm]
  rintro e w6 ⟨rfl, g6⟩
  replace BE := BE.keep0 g6; replace BF := BF.keep0 g6; replace BR := BR.keep0 g6; replace B9 := B9.keep0 g6; replace p1 := p1.keep0 g6; replace p7 := p7.keep0 g6; replace gg := gb_trans gg g6; (try clear k3 k5 f6 lt6); have k3 := fun o => BE.cell o; have k5 := fun o => BF.cell o; have f6 := fun o => BR.frozen o; have lt6 := BR.lt; (try clear k9 f9 lt9); have k9 := fun o => B9.cell o; have f9 := fun o => B9.frozen o; have lt9 := B9.lt
  go_wp2_with fail
  cases hu : unsealB l1 x (⟨kind, id, q1, q2, tick, q3, q4, epoch, seq, q5, q6⟩ : FrameM)
  · obtain rfl : C = 2 := by rw [hC.out, epOpenC, if_pos hin.out, if_pos hm, if_neg (by rw [hu]; decide)]
    refine (spec_Unseal a1 n1 c1 l1 x _ (⟨kind, id, q1, q2, tick, q3, q4, epoch, seq, q5, q6⟩ : FrameM) _ (r1.keep0 gg) (hF.keep0 gg)).mono ?_
    rw [hu]
    rintro e w7 ⟨a10, n10, c10, rfl, o10, g7⟩
    replace BE := BE.keep0 g7; replace BF := BF.keep0 g7; replace BR := BR.keep0 g7; replace B9 := B9.keep0 g7; replace p1 := p1.keep0 g7; replace p7 := p7.keep0 g7; replace gg := gb_trans gg g7; (try clear k3 k5 f6 lt6); have k3 := fun o => BE.cell o; have k5 := fun o => BF.cell o; have f6 := fun o => BR.frozen o; have lt6 := BR.lt; (try clear k9 f9 lt9); have k9 := fun o => B9.cell o; have f9 := fun o => B9.frozen o; have lt9 := B9.lt
    go_wp2_with (first | ((with_reducible refine wpList_stR ?hg3x10 34 (.tmp 6) (.tmp 51) ?ho3x10 (w.heap.size + 1 + 1) ?cs3x10 ?old3x10 ?hx3x10 ?hy3x10 ?hb3x10 ?hi3x10 ?hs3x10 ?hc3x10 ?hh3x10); (case ho3x10 => rfl); (case hg3x10 => rfl); (case hx3x10 => rfl); (case hy3x10 => rfl); (case hb3x10 => exact (by first | exact BR | exact BR.old _)); (case hi3x10 => exact si_Ep); (case hs3x10 => rfl); (case hc3x10 => (first | rfl | (simp [Value.oneCell']; done))); intro w8 C8 g8; have k8 := fun o => C8.cell o; (try simp only [Act.put]); (try simp only [List.setIfInBounds_toArray]); (try simp only [List.set_cons_succ]); (try simp only [List.set_cons_zero])))
    have hE1 := HE.out
    have hP1 := HP.out
    rw [if_neg (by decide)] at hE1 hP1
    rw [hE1, hP1]
    have z8 := g8.size
    simp only [World.size_alloc] at z8
    refine bodyPost_ret (v := .tuple #[.agg #[.int .i64 en, .slice x1 y1 z1, .int .i64 es, .int .i64 et, .slice x7 y7 z7], .slice (some ⟨w7.heap.size, 0, none⟩) 0 0, .int .i64 2]) (by simp [results, Tryz.results6, go_sem, k8]) rfl ⟨w1.heap.size, _, _, _, _, rfl, by omega, by omega, ?_, ((new_own w7 5).row g8 (fun p hp => by cases hp; simp only; omega)).mono (by omega), gb_row (gb_alloc gg _) g8 (by omega)⟩
    refine ⟨_, _, _, _, _, _, rfl, ⟨((p1.keep0 (gb_alloc (gb_refl _) _)).row g8 ?_).mono (by omega), u1⟩, ⟨((p7.keep0 (gb_alloc (gb_refl _) _)).row g8 ?_).mono (by omega), u7⟩, d17⟩ <;> (intro p hp; first | (have := (p1.lt p hp).1; omega) | (have := (p7.lt p hp).1; omega))
  · obtain rfl : C = 0 := by rw [hC.out, epOpenC, if_pos hin.out, if_pos hm, if_pos hu]
    refine (spec_Unseal a1 n1 c1 l1 x _ (⟨kind, id, q1, q2, tick, q3, q4, epoch, seq, q5, q6⟩ : FrameM) _ (r1.keep0 gg) (hF.keep0 gg)).mono ?_
    rw [hu]
    rintro e w7 ⟨a10, n10, c10, rfl, o10, g7⟩
    obtain ⟨B10', hB10⟩ : ∃ B10', B10' = w6.heap.size := ⟨_, rfl⟩
    rw [← hB10] at o10
    have l96 := B9.lt
    rw [← hB10] at l96
    have l76 := g7.size
    rw [← hB10] at l76
    replace BE := BE.keep0 g7; replace BF := BF.keep0 g7; replace BR := BR.keep0 g7; replace B9 := B9.keep0 g7; replace p1 := p1.keep0 g7; replace p7 := p7.keep0 g7; replace gg := gb_trans gg g7; (try clear k3 k5 f6 lt6); have k3 := fun o => BE.cell o; have k5 := fun o => BF.cell o; have f6 := fun o => BR.frozen o; have lt6 := BR.lt; (try clear k9 f9 lt9); have k9 := fun o => B9.cell o; have f9 := fun o => B9.frozen o; have lt9 := B9.lt
    have lt3 := BE.lt
    have lt5 := BF.lt
    go_wp2_with fail
    refine (spec_WinAdd _ ⟨et, l7⟩ seq _ ⟨_, _, _, rfl, r7.keep0 gg⟩ (Nat.le_trans hn (by decide))).mono ?_
    rw [winAddS_eq, hm, hA.out]
    rintro e w8 ⟨v8, rfl, o8, g8⟩
    obtain ⟨a9, n9, c9, rfl, o9, u9⟩ := o8
    simp only at o9
    obtain ⟨B9', hB9⟩ : ∃ B9', B9' = w7.heap.size := ⟨_, rfl⟩
    rw [← hB9] at o9 l76
    have l97 := B9.lt
    rw [← hB9] at l97
    have l87 := g8.size
    rw [← hB9] at l87
    replace o10 := o10.keep0 g8
    clear lt3 lt5
    replace BE := BE.keep0 g8; replace BF := BF.keep0 g8; replace BR := BR.keep0 g8; replace B9 := B9.keep0 g8; replace p1 := p1.keep0 g8; replace p7 := p7.keep0 g8; replace gg := gb_trans gg g8; (try clear k3 k5 f6 lt6); have k3 := fun o => BE.cell o; have k5 := fun o => BF.cell o; have f6 := fun o => BR.frozen o; have lt6 := BR.lt; (try clear k9 f9 lt9); have k9 := fun o => B9.cell o; have f9 := fun o => B9.frozen o; have lt9 := B9.lt
    have k6 := fun o => BR.cell o
    obtain ⟨MM, hMM⟩ : ∃ MM, MM = w8.heap.size := ⟨_, rfl⟩
    go_wp2
    have hE1 := HE.out
    have hP1 := HP.out
    rw [if_pos (by trivial)] at hE1 hP1
    rw [hE1, hP1, hA.out]
    refine bodyPost_ret (v := .tuple #[.agg #[.int .i64 en, .slice x1 y1 z1, .int .i64 es, .int .i64 et', .slice a9 n9 c9], .slice a10 n10 c10, .int .i64 0]) (by simp [results, Tryz.results6, go_sem, k6]) rfl ⟨MM, _, _, _, _, rfl, by omega, by simp [World.setCell]; omega, ?_, ?_, ?_⟩
    · refine ⟨_, _, _, _, _, _, rfl, ⟨?_, fun p hp => Nat.lt_of_lt_of_le (u1 p hp) (by omega)⟩, ⟨?_, fun p hp => by have := u9 p hp; omega⟩, dj_of (m := w1.heap.size) u1 (fun p hp => by have := (o9.lt p hp).1; omega)⟩
      · refine Ow.mono (B := w.heap.size + 3) ?_ (by omega)
        repeat (first | with_reducible exact p1 | refine Ow.setO ?_ _ _ ?_)
        all_goals (intro p hp; have h8 := u1 p hp; have h9 := (p1.lt p hp).1; simp only; omega)
      · refine Ow.mono (B := B9') ?_ (by omega)
        repeat (first | with_reducible exact o9 | refine Ow.setO ?_ _ _ ?_)
        all_goals (intro p hp; have h9 := (o9.lt p hp).1; simp only; omega)
    · refine Ow.mono (B := B10') ?_ (by omega)
      repeat (first | with_reducible exact o10 | refine Ow.setO ?_ _ _ ?_)
      all_goals (intro p hp; have h9 := (o10.lt p hp).1; simp only; omega)
    · repeat (first | with_reducible exact gg | refine gb_set ?_ (.inl (by simp only; omega)) _)
end Go.Proofs.YteoglfclliclbaaGreat
