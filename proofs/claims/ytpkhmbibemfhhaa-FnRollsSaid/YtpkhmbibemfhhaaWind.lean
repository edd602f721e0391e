/-
  Contracts of the functions that wind a generator. Conditions: none beside those that each theorem names.
-/
import Derived.Test.YtpkhmbibemfhhaaHead
import Derived.Test.YtpkhmbibemfhhaaHelpS
import Derived.Deep.RegionHeld3
namespace Go.Proofs.Ytpkhmbibemfhhaa
open Go.RowKit
def diceOkB (f : DiceM) : Bool := inB f.seed.length 1 32 && inB f.n 0 10000
def windM (f : DiceM) (n : Int) : DiceM := if diceOkB f && inB n 0 10000 then ⟨f.seed, n⟩ else f
theorem diceR_mk {w : World} {a : Option Addr} {n c : Nat} {f : DiceM} (h : Rd w a n c (bys f.seed)) : DiceR w (.agg #[.slice a n c, .int .i64 f.n]) f := ⟨_, _, _, rfl, h⟩
theorem impl_DiceOkR (v : Value) (f : DiceM) (w : World) (h : DiceR w v f) : Calls Try.prog 42 #[v] w fun e w' => e = .returned (.bool (diceOkB f)) ∧ w.grownBy w' none := by
  obtain ⟨a1, n1, c1, rfl, h1⟩ := h
  exact (impl_DiceOk a1 n1 c1 f.n w).mono fun e w' ⟨h2, h3⟩ => ⟨by rw [h2, diceOkB, h1.blen], h3⟩
theorem spec_DiceOkR (v : Value) (f : DiceM) (w : World) (h : DiceR w v f) : Calls Try.prog 43 #[v] w fun e w' => e = .returned (.bool (diceOkB f)) ∧ w.grownBy w' none := by
  obtain ⟨a1, n1, c1, rfl, h1⟩ := h
  exact (spec_DiceOk a1 n1 c1 f.n w).mono fun e w' ⟨h2, h3⟩ => ⟨by rw [h2, diceOkB, h1.blen], h3⟩
set_option maxRecDepth 100000 in
set_option maxHeartbeats 1000000 in
theorem impl_Wind (v : Value) (f : DiceM) (n : Int) (w : World) (h : DiceR w v f) (hn : f.seed.length ≤ 1073741824) :
    Calls Try.prog 44 #[v, .int .i64 n] w fun e w' => ∃ v', e = .returned v' ∧ DiceO w.heap.size w'.heap.size w' v' (windM f n) ∧ w.grownBy w' none := by
  obtain ⟨a1, n1, c1, rfl, h1⟩ := h
  have hn1 : n1 ≤ 1073741824 := by have := h1.blen; omega
  have HL := Lib.hid h1.blen
  clear hn
  have g0 := gb_alloc (gb_alloc (gb_refl w) (.cells #[.slice a1 n1 c1, .int .i64 f.n] 58)) (.cells #[.slice none 0 0, .int .i64 0] 58)
  have bb := bx2 w #[.slice a1 n1 c1, .int .i64 f.n] #[.slice none 0 0, .int .i64 0] 58 58
  go_enter Try.func44, Try.ntmps44
  go_wp2_with fail
  go_region_held3 (fun w' => w'.cell? ⟨w.heap.size, 0, none⟩ = some (.slice a1 n1 c1) ∧ w'.cell? ⟨w.heap.size, 1, none⟩ = some (.int .i64 f.n))
    (first | go_keep | exact ⟨q0.cell 0, q0.cell 1⟩ | exact ⟨(q0.old _).cell 0, (q0.old _).cell 1⟩ | exact ⟨((q0.setO _ _ (by simp <;> omega)).setO _ _ (by simp <;> omega)).cell 0, ((q0.setO _ _ (by simp <;> omega)).setO _ _ (by simp <;> omega)).cell 1⟩)
    (first
      | (go_at_call 95; (with_reducible refine (impl_clone a1 n1 c1 f.seed ((w.alloc (.cells #[.slice a1 n1 c1, .int .i64 f.n] 58)).alloc (.cells #[.slice none 0 0, .int .i64 0] 58)).drew (h1.keep0 (gb_drew g0)) hn1).mono ?_); rintro e w2 ⟨a2, n2, c2, rfl, o2, g2⟩; have q0 := bb.1.drew.keep0 g2; have q1 := bb.2.drew.keep0 g2)
      | (go_at_call 95; (with_reducible refine (impl_clone a1 n1 c1 f.seed (((w.alloc (.cells #[.slice a1 n1 c1, .int .i64 f.n] 58)).alloc (.cells #[.slice none 0 0, .int .i64 0] 58)).alloc (.cells #[.slice none 0 0, .int .i64 0] 58)).drew (h1.keep0 (gb_drew (gb_alloc g0 _))) hn1).mono ?_); rintro e w2 ⟨a2, n2, c2, rfl, o2, g2⟩; have q0 := (bb.1.old _).drew.keep0 g2; have q1 := (bb.2.old _).drew.keep0 g2; have q2 := (bx3 w _ _ _ _ _ _).2.2.drew.keep0 g2; have cc2 := fun o => q2.cell o; have ff2 := fun o => q2.frozen o))
  all_goals
    first
      | (have bo := (q2.set 0 (.slice a2 n2 c2)).set 1 (.int .i64 f.n); have p0 := (q0.setO ⟨w.heap.size + 1 + 1, 0, none⟩ (.slice a2 n2 c2) (by simp <;> omega)).setO ⟨w.heap.size + 1 + 1, 1, none⟩ (.int .i64 f.n) (by simp <;> omega); have p1 := (q1.setO ⟨w.heap.size + 1 + 1, 0, none⟩ (.slice a2 n2 c2) (by simp <;> omega)).setO ⟨w.heap.size + 1 + 1, 1, none⟩ (.int .i64 f.n) (by simp <;> omega);
         have G := gb_set (gb_set (gb_trans (gb_drew (gb_alloc g0 (.cells #[.slice none 0 0, .int .i64 0] 58))) g2) (p := ⟨w.heap.size + 1 + 1, 0, none⟩) (.inl (by simp <;> omega)) (.slice a2 n2 c2)) (p := ⟨w.heap.size + 1 + 1, 1, none⟩) (.inl (by simp <;> omega)) (.int .i64 f.n);
         have hB : w.heap.size + 1 < w.heap.size + 1 + 1 := by omega;
         have oo := (o2.keepSet (q := ⟨w.heap.size + 1 + 1, 0, none⟩) (by simp <;> omega) (.slice a2 n2 c2)).keepSet (q := ⟨w.heap.size + 1 + 1, 1, none⟩) (by simp <;> omega) (.int .i64 f.n);
         have ne : Hid (∀ p, a2 = some p → p.block ≠ w.heap.size + 1 + 1) := fun p hp => by (have := (o2.lt p hp).1; simp at this; omega);
         clear cc2 ff2 q2 q0 q1; replace oo := oo.mono (show w.heap.size + 1 + 1 ≤ _ by simp <;> omega); clear o2; have o2 := oo; clear oo;
         generalize (w2.setCell ⟨w.heap.size + 1 + 1, 0, none⟩ (.slice a2 n2 c2)).setCell ⟨w.heap.size + 1 + 1, 1, none⟩ (.int .i64 f.n) = X at bo p0 p1 G o2 ⊢)
      | (have bo := Bx.new w2 58 #[.slice a2 n2 c2, .int .i64 f.n]; have p0 := q0.old (.cells #[.slice a2 n2 c2, .int .i64 f.n] 58); have p1 := q1.old (.cells #[.slice a2 n2 c2, .int .i64 f.n] 58);
         have G := gb_alloc (gb_trans (gb_drew g0) g2) (.cells #[.slice a2 n2 c2, .int .i64 f.n] 58);
         have hB : w.heap.size + 1 < w2.heap.size := q1.lt;
         have oo := o2.keep0 (gb_alloc (gb_refl _) (.cells #[.slice a2 n2 c2, .int .i64 f.n] 58));
         have ne : Hid (∀ p, a2 = some p → p.block ≠ w2.heap.size) := fun p hp => by (have := (o2.lt p hp).2; omega);
         clear q0 q1; replace oo := oo.mono (show w.heap.size + 1 + 1 ≤ _ by simp <;> omega); clear o2; have o2 := oo; clear oo;
         generalize w2.alloc (.cells #[.slice a2 n2 c2, .int .i64 f.n] 58) = X at bo p0 p1 G o2 ⊢)
    clear g2 g0 bb
    cases hk : diceOkB f <;> cases hi : inB n 0 10000
    all_goals
      have hw := Lib.hid (show windM f n = ⟨f.seed, if diceOkB f && inB n 0 10000 then n else f.n⟩ by unfold windM; split <;> simp [*])
      have d0 := fun o => p0.cell o
      have l0 := p0.lt
      go_wp2_with (first
        | (go_at_call 42; (with_reducible refine (impl_DiceOkR _ f _ (diceR_mk (h1.keep0 G))).mono ?_); rintro e w5 ⟨rfl, g5⟩; have G5 := gb_trans G g5; replace bo := bo.keep0 g5; replace p0 := p0.keep0 g5; replace p1 := p1.keep0 g5; replace o2 := o2.keep0 g5; clear d0 l0; have d1 := fun o => p1.cell o; have f1 := fun o => p1.frozen o; have l1 := p1.lt; have dO := fun o => bo.cell o; have fo := fun o => bo.frozen o; have lo := bo.lt)
        | (go_at_call 65; refine (impl_within _ _ _ _).mono ?_; rintro e w' ⟨rfl, rfl⟩))
      have nb := ne.out
      have ob := fun p hp => (o2.lt p hp).1
      have ot := fun p hp => (o2.lt p hp).2
      have Z := G5.size
      refine bodyPost_ret (v := .agg #[.slice a2 n2 c2, .int .i64 (if diceOkB f && inB n 0 10000 then n else f.n)]) (by simp [results, Try.results44, go_sem, hk, hi, d1]) rfl ⟨_, rfl, ?_, ?_⟩
      · rw [hw.out]
        refine ⟨_, _, _, rfl, ?_, ?_⟩
        · refine Ow.mono (B := w.heap.size + 1 + 1) ?_ (by omega)
          repeat (first | with_reducible exact o2 | (refine Ow.setO ?_ _ _ ?_; rotate_left; focus ((intro p hp; have := nb p hp; have := ob p hp; first | (simp; done) | (simp; omega)))))
        · intro p hp
          simpa using ot p hp
      · repeat (first | with_reducible exact G5 | (refine gb_set ?_ (.inl ?_) _; rotate_left; focus (first | (simp; done) | (simp; omega))))
set_option maxRecDepth 100000 in
set_option maxHeartbeats 1000000 in
theorem spec_l10Copy (v : Value) (f : DiceM) (w : World) (h : DiceR w v f) (hn : f.seed.length ≤ 1073741824) :
    Calls Try.prog 98 #[v] w fun e w' => ∃ v', e = .returned v' ∧ DiceO w.heap.size w'.heap.size w' v' f ∧ w.grownBy w' none := by
  obtain ⟨a1, n1, c1, rfl, h1⟩ := h
  obtain ⟨i0, hi, hz0, hz1, hz2⟩ := info_parts inf_u8
  have hn1 : n1 ≤ 1073741824 := by have := h1.blen; omega
  clear hn
  have g0 := gb_alloc (gb_alloc (gb_refl w) (.cells #[.slice a1 n1 c1, .int .i64 f.n] 58)) (.cells #[.slice none 0 0, .int .i64 0] 58)
  go_enter Try.func98, Try.ntmps98
  go_wp2_with fail
  go_region_held3 (fun w' => w'.cell? ⟨w.heap.size, 0, none⟩ = some (.slice a1 n1 c1) ∧ w'.cell? ⟨w.heap.size, 1, none⟩ = some (.int .i64 f.n))
    (first | go_keep | exact ⟨q0.cell 0, q0.cell 1⟩)
    (first
      | (refine step_app rfl (.tmp 3) (.tmp 5) 22 22 rfl (w.heap.size + 1 + 1) 5 i0 (.int .u8 0) 1 Try.underlying22 hi hz0 hz1 hz2 rfl _ 0 0 [] rfl (new_own' _ _ (w.heap.size + 1 + 1) (by simp)).drew _ rfl n1 (bys f.seed) ((h1.keep0 (gb_drew (gb_alloc g0 _))).src Try.underlying22 (bys_one _)) (by unfold maxLen; omega) (by omega) (by simp) ?_; intro a2 c2 w2 o2 g2 h2; have q0 := (bx3 w _ _ _ _ _ _).1.drew.keepRow g2 (by simp <;> omega); have q1 := (bx3 w _ _ _ _ _ _).2.1.drew.keepRow g2 (by simp <;> omega); have cc0 := fun o => q0.cell o; have cc1 := fun o => q1.cell o; have ff1 := fun o => q1.frozen o))
  go_wp2
  have hlt := fun p hp => (o2.lt p hp).2
  have G2 : w.grownBy w2 none := gb_transr (gb_drew (gb_alloc g0 _)) g2 (fun g hg => .inl (by simp at hg; omega))
  rw [Nat.zero_add] at *
  refine bodyPost_ret (v := .agg #[.slice a2 n1 c2, .int .i64 f.n]) (by simp [results, Try.results98, go_sem, cc1]) rfl ⟨_, rfl, ⟨_, _, _, rfl, ⟨?_, ?_⟩⟩, ?_⟩
  · refine Ow.mono (B := w.heap.size + 1 + 1) ?_ (by omega)
    rw [List.nil_append] at o2
    repeat (first | with_reducible exact o2 | (refine Ow.keepSet ?_ ?_ _; rotate_left; focus (first | (simp; done) | (simp; omega))))
  · rintro p hp
    simpa using hlt p hp
  · repeat (first | with_reducible exact G2 | (refine gb_set ?_ (.inl ?_) _; rotate_left; focus (first | (simp; done) | (simp; omega))))
end Go.Proofs.Ytpkhmbibemfhhaa
