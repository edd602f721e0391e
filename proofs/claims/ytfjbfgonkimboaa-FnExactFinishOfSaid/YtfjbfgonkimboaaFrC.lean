/-
  Contract of the reference's copier of a frame. Conditions: none beside those that each theorem names.
-/
import Derived.Test.YtfjbfgonkimboaaGb
import Derived.Test.YtfjbfgonkimboaaHelpS
import Derived.Deep.RegionHeld3
namespace Go.Proofs.Ytfjbfgonkimboaa
open Go.RowKit
theorem cpStep {w w1 w2 : World} {W j : Nat} {v : Value} {T t : TypeId} {cs : Array Value} (G : w.grownBy w1 none) (hW : w.heap.size ≤ W) (P : Bx w1 W T cs) (g : ((w1.setCell ⟨W, j, none⟩ v).alloc (.cells #[] t)).grownBy w2 (some w1.heap.size)) :
    w.grownBy w2 none ∧ Bx w2 W T (cs.setIfInBounds j v) ∧ gbI W (W + 1) w1 w2 ∧ w1.heap.size < w2.heap.size := by
  have h1 := G.size
  have h2 := P.lt
  have h3 : w1.heap.size < w2.heap.size := by have := g.size; simp at this; omega
  refine ⟨gb_transr (gb_alloc (gb_set G (.inl hW) v) _) g (fun q e => .inl (by cases e; exact h1)), ?_, ?_, h3⟩
  · exact Bx.keepRow ((P.set j v).old _) g (by intro e; cases e; exact absurd h2 (Nat.lt_irrefl _))
  · refine ⟨g.os, g.tape, g.output, Nat.le_of_lt h3, fun k hk hn => ?_⟩
    rw [g.block k (by simp; omega) (by intro e; cases e; exact absurd hk (Nat.lt_irrefl _)), Below.heap_alloc _ _ k (by simpa using hk), Below.heap_setCell _ _ _ _ (by simp only; omega)]
theorem cpFirst {w w1 w2 : World} {W B : Nat} {T t : TypeId} {cs : Array Value} (hB : w1.heap.size = B) (G : w.grownBy w1 none) (P : Bx w1 W T cs) (g : (w1.alloc (.cells #[] t)).grownBy w2 (some B)) :
    w.grownBy w2 none ∧ Bx w2 W T cs ∧ gbI W (W + 1) w1 w2 ∧ w1.heap.size < w2.heap.size := by
  subst hB
  have h1 := G.size
  have h2 := P.lt
  have h3 : w1.heap.size < w2.heap.size := by have := g.size; simp at this; omega
  refine ⟨gb_transr (gb_alloc G _) g (fun q e => .inl (by cases e; exact h1)), Bx.keepRow (P.old _) g (by intro e; cases e; exact absurd h2 (Nat.lt_irrefl _)), ?_, h3⟩
  refine ⟨g.os, g.tape, g.output, Nat.le_of_lt h3, fun k hk hn => ?_⟩
  rw [g.block k (by simp; omega) (by intro e; cases e; exact absurd hk (Nat.lt_irrefl _)), Below.heap_alloc _ _ k hk]
set_option maxRecDepth 1000000 in
set_option maxHeartbeats 4000000 in
theorem spec_l7Copy (v : Value) (f : FrameM) (w : World) (h : FrameR w v f) (hn : f.tot ≤ 1048576) :
    Calls Try.prog 69 #[v] w fun e w' => ∃ v', e = .returned v' ∧ FrameO w.heap.size w'.heap.size w' v' f ∧ w.grownBy w' none := by
  obtain ⟨a1, n1, c1, a2, n2, c2, a3, n3, c3, a4, n4, c4, a5, n5, c5, a6, n6, c6, rfl, r1, r2, r3, r4, r5, r6⟩ := h
  obtain ⟨kind, id, l1, l2, tick, l3, l4, epoch, seq, l5, l6⟩ := f
  simp only at r1 r2 r3 r4 r5 r6
  have t0 : l1.length + l2.length + l3.length + l4.length + l5.length + l6.length ≤ 1048576 := hn
  have g0 := gb_alloc (gb_alloc (gb_refl w) (.cells #[.int .i64 kind, .int .i64 id, .slice a1 n1 c1, .slice a2 n2 c2, .int .i64 tick, .slice a3 n3 c3, .slice a4 n4 c4, .int .i64 epoch, .int .i64 seq, .slice a5 n5 c5, .slice a6 n6 c6] 24)) (.cells #[.int .i64 0, .int .i64 0, .slice none 0 0, .slice none 0 0, .int .i64 0, .slice none 0 0, .slice none 0 0, .int .i64 0, .int .i64 0, .slice none 0 0, .slice none 0 0] 24)
  have bb := bx2 w #[.int .i64 kind, .int .i64 id, .slice a1 n1 c1, .slice a2 n2 c2, .int .i64 tick, .slice a3 n3 c3, .slice a4 n4 c4, .int .i64 epoch, .int .i64 seq, .slice a5 n5 c5, .slice a6 n6 c6] #[.int .i64 0, .int .i64 0, .slice none 0 0, .slice none 0 0, .int .i64 0, .slice none 0 0, .slice none 0 0, .int .i64 0, .int .i64 0, .slice none 0 0, .slice none 0 0] 24 24
  have T0 := Lib.hid t0
  have z0 : Hid (((w.alloc (.cells #[.int .i64 kind, .int .i64 id, .slice a1 n1 c1, .slice a2 n2 c2, .int .i64 tick, .slice a3 n3 c3, .slice a4 n4 c4, .int .i64 epoch, .int .i64 seq, .slice a5 n5 c5, .slice a6 n6 c6] 24)).alloc (.cells #[.int .i64 0, .int .i64 0, .slice none 0 0, .slice none 0 0, .int .i64 0, .slice none 0 0, .slice none 0 0, .int .i64 0, .int .i64 0, .slice none 0 0, .slice none 0 0] 24)).heap.size = w.heap.size + 2) := by simp [Hid]
  have P0 := bb.1
  have X0 := bb.2
  have cc := fun o => P0.cell o
  have ff := fun o => P0.frozen o
  have lw := P0.lt
  clear hn t0
  go_enter Try.func69, Try.ntmps69
  go_wp2_with (first
    | (at_builtin; refine wpList_appB rfl (.tmp 3) (.tmp 5) rfl (w.heap.size + 1 + 1) _ _ _ [] rfl (new_own' _ _ (w.heap.size + 1 + 1) (by simp)) _ _ _ l1 rfl (r1.keep0 (gb_alloc g0 _)) (by have := T0.out; rw [List.length_nil]; omega) (by first | (simp; done) | (simp; omega)) ?_; intro b1 m1 d1 w1 o1 G1; obtain ⟨g1, p1, h1, z1⟩ := cpFirst (by simp) g0 P0 G1; replace p1 : Bx w1 w.heap.size 24 #[.int .i64 kind, .int .i64 id, .slice a1 n1 c1, .slice a2 n2 c2, .int .i64 tick, .slice a3 n3 c3, .slice a4 n4 c4, .int .i64 epoch, .int .i64 seq, .slice a5 n5 c5, .slice a6 n6 c6] := p1; rw [List.nil_append] at o1; have e1 := o1.blen; have i1 := r1.blen; obtain rfl : n1 = m1 := i1.symm.trans e1; have u1 := fun p hp => (o1.lt p hp).2; clear cc ff lw e1 i1; have cc := fun o => p1.cell o; have ff := fun o => p1.frozen o; have lw := p1.lt; have x1 := X0.keepI h1 (.inr (Nat.le_refl _)))
    | (at_builtin; refine wpList_appB rfl (.tmp 8) (.tmp 10) rfl w1.heap.size _ _ _ [] rfl (new_own' _ _ w1.heap.size (by simp)) _ _ _ l2 rfl (r2.keep0 (gb_alloc (gb_set g1 (.inl (Nat.le_refl _)) _) _)) (by have := T0.out; rw [List.length_nil]; omega) (by first | (simp; done) | (simp; omega)) ?_; intro b2 m2 d2 w2 o2 G2; obtain ⟨g2, p2, h2, z2⟩ := cpStep g1 (Nat.le_refl _) p1 G2; replace p2 : Bx w2 w.heap.size 24 #[.int .i64 kind, .int .i64 id, .slice b1 n1 d1, .slice a2 n2 c2, .int .i64 tick, .slice a3 n3 c3, .slice a4 n4 c4, .int .i64 epoch, .int .i64 seq, .slice a5 n5 c5, .slice a6 n6 c6] := p2; rw [List.nil_append] at o2; have e2 := o2.blen; have i2 := r2.blen; obtain rfl : n2 = m2 := i2.symm.trans e2; have u2 := fun p hp => (o2.lt p hp).2; clear cc ff lw e2 i2; have cc := fun o => p2.cell o; have ff := fun o => p2.frozen o; have lw := p2.lt; have x2 := x1.keepI h2 (.inr (Nat.le_refl _)))
    | (at_builtin; refine wpList_appB rfl (.tmp 13) (.tmp 15) rfl w2.heap.size _ _ _ [] rfl (new_own' _ _ w2.heap.size (by simp)) _ _ _ l3 rfl (r3.keep0 (gb_alloc (gb_set g2 (.inl (Nat.le_refl _)) _) _)) (by have := T0.out; rw [List.length_nil]; omega) (by first | (simp; done) | (simp; omega)) ?_; intro b3 m3 d3 w3 o3 G3; obtain ⟨g3, p3, h3, z3⟩ := cpStep g2 (Nat.le_refl _) p2 G3; replace p3 : Bx w3 w.heap.size 24 #[.int .i64 kind, .int .i64 id, .slice b1 n1 d1, .slice b2 n2 d2, .int .i64 tick, .slice a3 n3 c3, .slice a4 n4 c4, .int .i64 epoch, .int .i64 seq, .slice a5 n5 c5, .slice a6 n6 c6] := p3; rw [List.nil_append] at o3; have e3 := o3.blen; have i3 := r3.blen; obtain rfl : n3 = m3 := i3.symm.trans e3; have u3 := fun p hp => (o3.lt p hp).2; clear cc ff lw e3 i3; have cc := fun o => p3.cell o; have ff := fun o => p3.frozen o; have lw := p3.lt; have x3 := x2.keepI h3 (.inr (Nat.le_refl _)))
    | (at_builtin; refine wpList_appB rfl (.tmp 18) (.tmp 20) rfl w3.heap.size _ _ _ [] rfl (new_own' _ _ w3.heap.size (by simp)) _ _ _ l4 rfl (r4.keep0 (gb_alloc (gb_set g3 (.inl (Nat.le_refl _)) _) _)) (by have := T0.out; rw [List.length_nil]; omega) (by first | (simp; done) | (simp; omega)) ?_; intro b4 m4 d4 w4 o4 G4; obtain ⟨g4, p4, h4, z4⟩ := cpStep g3 (Nat.le_refl _) p3 G4; replace p4 : Bx w4 w.heap.size 24 #[.int .i64 kind, .int .i64 id, .slice b1 n1 d1, .slice b2 n2 d2, .int .i64 tick, .slice b3 n3 d3, .slice a4 n4 c4, .int .i64 epoch, .int .i64 seq, .slice a5 n5 c5, .slice a6 n6 c6] := p4; rw [List.nil_append] at o4; have e4 := o4.blen; have i4 := r4.blen; obtain rfl : n4 = m4 := i4.symm.trans e4; have u4 := fun p hp => (o4.lt p hp).2; clear cc ff lw e4 i4; have cc := fun o => p4.cell o; have ff := fun o => p4.frozen o; have lw := p4.lt; have x4 := x3.keepI h4 (.inr (Nat.le_refl _)))
    | (at_builtin; refine wpList_appB rfl (.tmp 23) (.tmp 25) rfl w4.heap.size _ _ _ [] rfl (new_own' _ _ w4.heap.size (by simp)) _ _ _ l5 rfl (r5.keep0 (gb_alloc (gb_set g4 (.inl (Nat.le_refl _)) _) _)) (by have := T0.out; rw [List.length_nil]; omega) (by first | (simp; done) | (simp; omega)) ?_; intro b5 m5 d5 w5 o5 G5; obtain ⟨g5, p5, h5, z5⟩ := cpStep g4 (Nat.le_refl _) p4 G5; replace p5 : Bx w5 w.heap.size 24 #[.int .i64 kind, .int .i64 id, .slice b1 n1 d1, .slice b2 n2 d2, .int .i64 tick, .slice b3 n3 d3, .slice b4 n4 d4, .int .i64 epoch, .int .i64 seq, .slice a5 n5 c5, .slice a6 n6 c6] := p5; rw [List.nil_append] at o5; have e5 := o5.blen; have i5 := r5.blen; obtain rfl : n5 = m5 := i5.symm.trans e5; have u5 := fun p hp => (o5.lt p hp).2; clear cc ff lw e5 i5; have cc := fun o => p5.cell o; have ff := fun o => p5.frozen o; have lw := p5.lt; have x5 := x4.keepI h5 (.inr (Nat.le_refl _)))
    | (at_builtin; refine wpList_appB rfl (.tmp 28) (.tmp 30) rfl w5.heap.size _ _ _ [] rfl (new_own' _ _ w5.heap.size (by simp)) _ _ _ l6 rfl (r6.keep0 (gb_alloc (gb_set g5 (.inl (Nat.le_refl _)) _) _)) (by have := T0.out; rw [List.length_nil]; omega) (by first | (simp; done) | (simp; omega)) ?_; intro b6 m6 d6 w6 o6 G6; obtain ⟨g6, p6, h6, z6⟩ := cpStep g5 (Nat.le_refl _) p5 G6; replace p6 : Bx w6 w.heap.size 24 #[.int .i64 kind, .int .i64 id, .slice b1 n1 d1, .slice b2 n2 d2, .int .i64 tick, .slice b3 n3 d3, .slice b4 n4 d4, .int .i64 epoch, .int .i64 seq, .slice b5 n5 d5, .slice a6 n6 c6] := p6; rw [List.nil_append] at o6; have e6 := o6.blen; have i6 := r6.blen; obtain rfl : n6 = m6 := i6.symm.trans e6; have u6 := fun p hp => (o6.lt p hp).2; clear cc ff lw e6 i6; have cc := fun o => p6.cell o; have ff := fun o => p6.frozen o; have lw := p6.lt; have x6 := x5.keepI h6 (.inr (Nat.le_refl _)); have cx := fun o => x6.cell o; have fx := fun o => x6.frozen o; have lx := x6.lt))
  have ez := g6.size
  have v1 := x1.lt
  have v2 := x2.lt
  have v3 := x3.lt
  have v4 := x4.lt
  have v5 := x5.lt
  have v6 := x6.lt
  have O1 := o1.keepI (((((h2).trans h3).trans h4).trans h5).trans h6) (fun p hp => .inr (by have := (o1.lt p hp).1; have := p1.lt; have := p2.lt; have := p3.lt; have := p4.lt; have := p5.lt; omega))
  have O2 := o2.keepI ((((h3).trans h4).trans h5).trans h6) (fun p hp => .inr (by have := (o2.lt p hp).1; have := p1.lt; have := p2.lt; have := p3.lt; have := p4.lt; have := p5.lt; omega))
  have O3 := o3.keepI (((h4).trans h5).trans h6) (fun p hp => .inr (by have := (o3.lt p hp).1; have := p1.lt; have := p2.lt; have := p3.lt; have := p4.lt; have := p5.lt; omega))
  have O4 := o4.keepI ((h5).trans h6) (fun p hp => .inr (by have := (o4.lt p hp).1; have := p1.lt; have := p2.lt; have := p3.lt; have := p4.lt; have := p5.lt; omega))
  have O5 := o5.keepI (h6) (fun p hp => .inr (by have := (o5.lt p hp).1; have := p1.lt; have := p2.lt; have := p3.lt; have := p4.lt; have := p5.lt; omega))
  have O6 := o6
  refine bodyPost_ret (v := .agg #[.int .i64 kind, .int .i64 id, .slice b1 n1 d1, .slice b2 n2 d2, .int .i64 tick, .slice b3 n3 d3, .slice b4 n4 d4, .int .i64 epoch, .int .i64 seq, .slice b5 n5 d5, .slice b6 n6 d6]) (by simp [results, Try.results69, go_sem, cx]) rfl ⟨_, rfl, ⟨_, _, _, _, _, _, _, _, _, _, _, _, _, _, _, _, _, _, rfl, ⟨?_, ?_⟩, ⟨?_, ?_⟩, ⟨?_, ?_⟩, ⟨?_, ?_⟩, ⟨?_, ?_⟩, ⟨?_, ?_⟩, ?_, ?_, ?_, ?_, ?_, ?_, ?_, ?_, ?_, ?_, ?_, ?_, ?_, ?_, ?_⟩, ?_⟩
  · show Ow _ _ _ _ _ _ (bys l1)
    exact Ow.mono (B := w.heap.size + 1 + 1) (by repeat (first | with_reducible exact O1 | (refine Ow.keepSet ?_ ?_ _; rotate_left; focus (first | (simp; done) | (simp; omega))))) (by omega)
  · intro p hp; have := u1 p hp; simp; omega
  · show Ow _ _ _ _ _ _ (bys l2)
    exact Ow.mono (B := w1.heap.size) (by repeat (first | with_reducible exact O2 | (refine Ow.keepSet ?_ ?_ _; rotate_left; focus (first | (simp; done) | (simp; omega))))) (by omega)
  · intro p hp; have := u2 p hp; simp; omega
  · show Ow _ _ _ _ _ _ (bys l3)
    exact Ow.mono (B := w2.heap.size) (by repeat (first | with_reducible exact O3 | (refine Ow.keepSet ?_ ?_ _; rotate_left; focus (first | (simp; done) | (simp; omega))))) (by omega)
  · intro p hp; have := u3 p hp; simp; omega
  · show Ow _ _ _ _ _ _ (bys l4)
    exact Ow.mono (B := w3.heap.size) (by repeat (first | with_reducible exact O4 | (refine Ow.keepSet ?_ ?_ _; rotate_left; focus (first | (simp; done) | (simp; omega))))) (by omega)
  · intro p hp; have := u4 p hp; simp; omega
  · show Ow _ _ _ _ _ _ (bys l5)
    exact Ow.mono (B := w4.heap.size) (by repeat (first | with_reducible exact O5 | (refine Ow.keepSet ?_ ?_ _; rotate_left; focus (first | (simp; done) | (simp; omega))))) (by omega)
  · intro p hp; have := u5 p hp; simp; omega
  · show Ow _ _ _ _ _ _ (bys l6)
    exact Ow.mono (B := w5.heap.size) (by repeat (first | with_reducible exact O6 | (refine Ow.keepSet ?_ ?_ _; rotate_left; focus (first | (simp; done) | (simp; omega))))) (by omega)
  · intro p hp; have := u6 p hp; simp; omega
  · intro p q hp hq; have := u1 p hp; have := (o2.lt q hq).1; omega
  · intro p q hp hq; have := u1 p hp; have := (o3.lt q hq).1; omega
  · intro p q hp hq; have := u1 p hp; have := (o4.lt q hq).1; omega
  · intro p q hp hq; have := u1 p hp; have := (o5.lt q hq).1; omega
  · intro p q hp hq; have := u1 p hp; have := (o6.lt q hq).1; omega
  · intro p q hp hq; have := u2 p hp; have := (o3.lt q hq).1; omega
  · intro p q hp hq; have := u2 p hp; have := (o4.lt q hq).1; omega
  · intro p q hp hq; have := u2 p hp; have := (o5.lt q hq).1; omega
  · intro p q hp hq; have := u2 p hp; have := (o6.lt q hq).1; omega
  · intro p q hp hq; have := u3 p hp; have := (o4.lt q hq).1; omega
  · intro p q hp hq; have := u3 p hp; have := (o5.lt q hq).1; omega
  · intro p q hp hq; have := u3 p hp; have := (o6.lt q hq).1; omega
  · intro p q hp hq; have := u4 p hp; have := (o5.lt q hq).1; omega
  · intro p q hp hq; have := u4 p hp; have := (o6.lt q hq).1; omega
  · intro p q hp hq; have := u5 p hp; have := (o6.lt q hq).1; omega
  · repeat (first | with_reducible exact g6 | (refine gb_set ?_ (.inl ?_) _; rotate_left; focus (first | (simp; done) | (simp; omega))))
end Go.Proofs.Ytfjbfgonkimboaa
