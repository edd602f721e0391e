/-
  Contracts of the functions that make and check an epoch. Conditions: none beside those that each theorem names.
-/
import Derived.Test.YtpfchphgbhgmmaaGreatHead
import Derived.Test.YtpfchphgbhgmmaaGreatWinN
import Derived.Test.YtpfchphgbhgmmaaGreatWin
namespace Go.Proofs.YtpfchphgbhgmmaaGreat
open Go.RowKit
def epZ : EpM := ⟨0, [], 0, ⟨0, []⟩⟩
def epNewM (n : Int) (key : List UInt8) : EpM := if inB n 0 4294967295 && ((key.length : Int) == 32) then ⟨n, key, 0, winNew⟩ else epZ
def epOkB (f : EpM) : Bool := inB f.n 0 4294967295 && ((f.key.length : Int) == 32) && inB f.seq 0 281474976710656 && winOk f.win
theorem epZ_O (B S : Nat) (w : World) : EpO B S w (.agg #[.int .i64 0, .slice none 0 0, .int .i64 0, .int .i64 0, .slice none 0 0]) epZ :=
  ⟨none, 0, 0, none, 0, 0, rfl, ⟨Ow.nil _ _ _, fun p h => by cases h⟩, ⟨Ow.nil _ _ _, fun p h => by cases h⟩, fun p q h => by cases h⟩
theorem epNewM_tot (n : Int) (key : List UInt8) : (epNewM n key).tot ≤ 64 := by
  unfold epNewM
  split
  · rename_i h
    simp only [Bool.and_eq_true, beq_iff_eq] at h
    simp only [EpM.tot, winNew, List.length_replicate]
    omega
  · decide
set_option maxRecDepth 100000 in
set_option maxHeartbeats 1000000 in
theorem impl_EpNew (x : Int) (a : Option Addr) (n c : Nat) (l : List UInt8) (w : World) (h : Rd w a n c (bys l)) :
    Calls Tryz.prog 11 #[.int .i64 x, .slice a n c] w fun e w' => ∃ v', e = .returned v' ∧ EpO w.heap.size w'.heap.size w' v' (epNewM x l) ∧ w.grownBy w' none := by
  have hl := h.blen
  cases h1 : inB x 0 4294967295
  · rw [show epNewM x l = epZ by simp [epNewM, *]]
    clear hl
    go_enter Tryz.func11, Tryz.ntmps11
    go_wp2_with (go_at_call 34; refine (impl_within _ _ _ _).mono ?_; rintro e w' ⟨rfl, rfl⟩)
    refine bodyPost_ret (v := .agg #[.int .i64 0, .slice none 0 0, .int .i64 0, .int .i64 0, .slice none 0 0]) (by simp [results, Tryz.results11, go_sem]) rfl ⟨_, rfl, epZ_O _ _ _, ?_⟩
    repeat (first | with_reducible exact gb_alloc (gb_refl _) _ | (refine gb_set ?_ (.inl ?_) _; rotate_left; focus (first | (simp; done) | (simp; omega))))
  cases h2 : ((n : Int) == 32)
  · have h2' : ((n : Int) != 32) = true := by simpa using h2
    rw [show epNewM x l = epZ by simp [epNewM, *]]
    clear hl
    go_enter Tryz.func11, Tryz.ntmps11
    go_wp2_with (go_at_call 34; refine (impl_within _ _ _ _).mono ?_; rintro e w' ⟨rfl, rfl⟩)
    refine bodyPost_ret (v := .agg #[.int .i64 0, .slice none 0 0, .int .i64 0, .int .i64 0, .slice none 0 0]) (by simp [results, Tryz.results11, go_sem]) rfl ⟨_, rfl, epZ_O _ _ _, ?_⟩
    repeat (first | with_reducible exact gb_alloc (gb_refl _) _ | (refine gb_set ?_ (.inl ?_) _; rotate_left; focus (first | (simp; done) | (simp; omega))))
  have h2' : ((n : Int) != 32) = false := by simpa using h2
  have hn : n ≤ 32 := by have := beq_iff_eq.1 h2; omega
  rw [show epNewM x l = ⟨x, l, 0, winNew⟩ by simp [epNewM, *]]
  clear hl
  have g0 := gb_alloc (gb_refl w) (.cells #[.int .i64 0, .slice none 0 0, .int .i64 0, .int .i64 0, .slice none 0 0] 28)
  have b0 := bx1 w #[.int .i64 0, .slice none 0 0, .int .i64 0, .int .i64 0, .slice none 0 0] 28
  go_enter Tryz.func11, Tryz.ntmps11
  go_wp2_with (go_at_call 34; refine (impl_within _ _ _ _).mono ?_; rintro e w' ⟨rfl, rfl⟩)
  refine (impl_clone a n c l _ (h.keep0 g0) (by omega)).mono ?_
  rintro e w2 ⟨a2, n2, c2, rfl, o2, g2⟩
  have G2 := gb_trans g0 g2
  go_wp2_with fail
  refine (impl_WinNew _).mono ?_
  rintro e w3 ⟨v3, rfl, o3, g3⟩
  obtain ⟨a3, n3, c3, rfl, o3, u3⟩ := o3
  replace b0 := (b0.keep0 g2).keep0 g3
  have cc := fun o => b0.cell o
  have ff := fun o => b0.frozen o
  have lt := b0.lt
  go_wp2
  have O2 := (o2.keep0 g3).mono (B' := w.heap.size + 1) (by simp <;> omega)
  have O3 := o3.mono (B' := w2.heap.size) (Nat.le_refl _)
  have l2 := fun p hp => (o2.lt p hp).2
  have l3 := fun p hp => (o3.lt p hp).1
  have G3 := gb_trans G2 g3
  have Z3 := g3.size
  have Z2 := g2.size
  refine bodyPost_ret (v := .agg #[.int .i64 x, .slice a2 n2 c2, .int .i64 0, .int .i64 winNew.top, .slice a3 n3 c3]) (by simp [results, Tryz.results11, go_sem, cc]) rfl ⟨_, rfl, ⟨_, _, _, _, _, _, rfl, ⟨?_, ?_⟩, ⟨?_, ?_⟩, ?_⟩, ?_⟩
  · refine Ow.mono (B := w.heap.size + 1) ?_ (by omega)
    repeat (first | with_reducible exact O2 | (refine Ow.keepSet ?_ ?_ _; rotate_left; focus (first | (simp; done) | (simp; omega))))
  · intro p hp
    have := l2 p hp
    simp
    omega
  · refine Ow.mono (B := w2.heap.size) ?_ (by simp at Z2; omega)
    repeat (first | with_reducible exact O3 | (refine Ow.keepSet ?_ ?_ _; rotate_left; focus (first | (simp; done) | (simp at Z2 ⊢; omega))))
  · intro p hp
    simpa using u3 p hp
  · exact dj_of l2 l3
  · repeat (first | with_reducible exact G3 | (refine gb_set ?_ (.inl ?_) _; rotate_left; focus (first | (simp; done) | (simp; omega))))
set_option maxRecDepth 100000 in
set_option maxHeartbeats 1000000 in
theorem spec_EpNew (x : Int) (a : Option Addr) (n c : Nat) (l : List UInt8) (w : World) (h : Rd w a n c (bys l)) :
    Calls Tryz.prog 74 #[.int .i64 x, .slice a n c] w fun e w' => ∃ v', e = .returned v' ∧ EpO w.heap.size w'.heap.size w' v' (epNewM x l) ∧ w.grownBy w' none := by
  have hl := h.blen
  cases h1 : inB x 0 4294967295
  · rw [show epNewM x l = epZ by simp [epNewM, *]]
    clear hl
    go_enter Tryz.func74, Tryz.ntmps74
    go_wp2_with (go_at_call 59; refine (spec_l1In _ _ _ _).mono ?_; rintro e w' ⟨rfl, rfl⟩)
    refine bodyPost_ret (v := .agg #[.int .i64 0, .slice none 0 0, .int .i64 0, .int .i64 0, .slice none 0 0]) (by simp [results, Tryz.results74, go_sem]) rfl ⟨_, rfl, epZ_O _ _ _, ?_⟩
    repeat (first | with_reducible exact gb_alloc (gb_refl _) _ | (refine gb_set ?_ (.inl ?_) _; rotate_left; focus (first | (simp; done) | (simp; omega))))
  cases h2 : ((n : Int) == 32)
  · have h2' : ((n : Int) != 32) = true := by simpa using h2
    rw [show epNewM x l = epZ by simp [epNewM, *]]
    clear hl
    go_enter Tryz.func74, Tryz.ntmps74
    go_wp2_with (go_at_call 59; refine (spec_l1In _ _ _ _).mono ?_; rintro e w' ⟨rfl, rfl⟩)
    refine bodyPost_ret (v := .agg #[.int .i64 0, .slice none 0 0, .int .i64 0, .int .i64 0, .slice none 0 0]) (by simp [results, Tryz.results74, go_sem]) rfl ⟨_, rfl, epZ_O _ _ _, ?_⟩
    repeat (first | with_reducible exact gb_alloc (gb_refl _) _ | (refine gb_set ?_ (.inl ?_) _; rotate_left; focus (first | (simp; done) | (simp; omega))))
  have h2' : ((n : Int) != 32) = false := by simpa using h2
  have hn : n ≤ 32 := by have := beq_iff_eq.1 h2; omega
  rw [show epNewM x l = ⟨x, l, 0, winNew⟩ by simp [epNewM, *]]
  have HL := Lib.hid hl
  clear hl
  have g0 := gb_alloc (gb_refl w) (.cells #[.int .i64 0, .slice none 0 0, .int .i64 0, .int .i64 0, .slice none 0 0] 28)
  have b0 := bx1 w #[.int .i64 0, .slice none 0 0, .int .i64 0, .int .i64 0, .slice none 0 0] 28
  have o0 := new_ownBk (w.alloc (.cells #[.int .i64 0, .slice none 0 0, .int .i64 0, .int .i64 0, .slice none 0 0] 28)) #[] [] (w.heap.size + 1) (by simp) rfl (by simp)
  have g1 := gb_alloc g0 (.cells #[] 5)
  go_enter Tryz.func74, Tryz.ntmps74
  go_wp2_with (first
    | (go_at_call 59; refine (spec_l1In _ _ _ _).mono ?_; rintro e w' ⟨rfl, rfl⟩)
    | (at_builtin; refine wpList_appB rfl (.tmp 15) (.tmp 16) rfl (w.heap.size + 1) _ _ _ _ rfl o0 _ _ _ l rfl (h.keep0 g1) (by have := HL.out; rw [List.length_nil]; omega) (by simp) ?_; intro a2 n2 c2 w2 o2 g2'))
  rw [List.nil_append] at o2
  have g2 := gb_app (gb_alloc (gb_refl (w.alloc (.cells #[.int .i64 0, .slice none 0 0, .int .i64 0, .int .i64 0, .slice none 0 0] 28))) (.cells #[] 5)) o0 (by simp) g2'
  have G2 := gb_trans g0 g2
  refine (spec_WinNew _).mono ?_
  rintro e w3 ⟨v3, rfl, o3, g3⟩
  obtain ⟨a3, n3, c3, rfl, o3, u3⟩ := o3
  replace b0 := (b0.keep0 g2).keep0 g3
  have cc := fun o => b0.cell o
  have ff := fun o => b0.frozen o
  have lt := b0.lt
  go_wp2
  have O2 := (o2.keep0 g3).mono (B' := w.heap.size + 1) (by simp <;> omega)
  have O3 := o3.mono (B' := w2.heap.size) (Nat.le_refl _)
  have l2 := fun p hp => (o2.lt p hp).2
  have l3 := fun p hp => (o3.lt p hp).1
  have G3 := gb_trans G2 g3
  have Z3 := g3.size
  have Z2 := g2.size
  refine bodyPost_ret (v := .agg #[.int .i64 x, .slice a2 n2 c2, .int .i64 0, .int .i64 winNew.top, .slice a3 n3 c3]) (by simp [results, Tryz.results74, go_sem, cc]) rfl ⟨_, rfl, ⟨_, _, _, _, _, _, rfl, ⟨?_, ?_⟩, ⟨?_, ?_⟩, ?_⟩, ?_⟩
  · refine Ow.mono (B := w.heap.size + 1) ?_ (by omega)
    repeat (first | with_reducible exact O2 | (refine Ow.keepSet ?_ ?_ _; rotate_left; focus (first | (simp; done) | (simp; omega))))
  · intro p hp
    have := l2 p hp
    simp
    omega
  · refine Ow.mono (B := w2.heap.size) ?_ (by simp at Z2; omega)
    repeat (first | with_reducible exact O3 | (refine Ow.keepSet ?_ ?_ _; rotate_left; focus (first | (simp; done) | (simp at Z2 ⊢; omega))))
  · intro p hp
    simpa using u3 p hp
  · exact dj_of l2 l3
  · repeat (first | with_reducible exact G3 | (refine gb_set ?_ (.inl ?_) _; rotate_left; focus (first | (simp; done) | (simp; omega))))
set_option maxRecDepth 100000 in
set_option maxHeartbeats 1000000 in
theorem impl_EpOk (v : Value) (f : EpM) (w : World) (h : EpR w v f) (_hn : f.win.bits.length ≤ 1073741824) :
    Calls Tryz.prog 15 #[v] w fun e w' => e = .returned (.bool (epOkB f)) ∧ w.grownBy w' none := by
  obtain ⟨a1, n1, c1, a2, n2, c2, rfl, h1, h2⟩ := h
  have hl := Lib.hid h1.blen
  have g0 := gb_alloc (gb_refl w) (.cells #[.int .i64 f.n, .slice a1 n1 c1, .int .i64 f.seq, .int .i64 f.win.top, .slice a2 n2 c2] 28)
  rw [show epOkB f = (inB f.n 0 4294967295 && ((n1 : Int) == 32) && inB f.seq 0 281474976710656 && winOk f.win) by unfold epOkB; rw [hl.out]]
  cases k1 : inB f.n 0 4294967295
  · go_enter Tryz.func15, Tryz.ntmps15
    go_wp2_with (go_at_call 34; refine (impl_within _ _ _ _).mono ?_; rintro e w' ⟨rfl, rfl⟩)
    go_ret
    exact ⟨by simp, g0⟩
  cases k2 : ((n1 : Int) == 32)
  · go_enter Tryz.func15, Tryz.ntmps15
    go_wp2_with (go_at_call 34; refine (impl_within _ _ _ _).mono ?_; rintro e w' ⟨rfl, rfl⟩)
    go_ret
    exact ⟨by simp, g0⟩
  cases k3 : inB f.seq 0 281474976710656
  · go_enter Tryz.func15, Tryz.ntmps15
    go_wp2_with (go_at_call 34; refine (impl_within _ _ _ _).mono ?_; rintro e w' ⟨rfl, rfl⟩)
    go_ret
    exact ⟨by simp, g0⟩
  go_enter Tryz.func15, Tryz.ntmps15
  go_wp2_with (first
    | (go_at_call 34; refine (impl_within _ _ _ _).mono ?_; rintro e w' ⟨rfl, rfl⟩)
    | (go_at_call 41; refine (impl_WinOk _ f.win _ ⟨_, _, _, rfl, h2.keep0 g0⟩ _hn).mono ?_; rintro e w3 ⟨rfl, g3⟩))
  go_ret
  exact ⟨by simp, gb_trans g0 g3⟩
set_option maxRecDepth 100000 in
set_option maxHeartbeats 1000000 in
theorem spec_EpOk (v : Value) (f : EpM) (w : World) (h : EpR w v f) (_hn : f.win.bits.length ≤ 1073741824) :
    Calls Tryz.prog 29 #[v] w fun e w' => e = .returned (.bool (epOkB f)) ∧ w.grownBy w' none := by
  obtain ⟨a1, n1, c1, a2, n2, c2, rfl, h1, h2⟩ := h
  have hl := Lib.hid h1.blen
  have g0 := gb_alloc (gb_refl w) (.cells #[.int .i64 f.n, .slice a1 n1 c1, .int .i64 f.seq, .int .i64 f.win.top, .slice a2 n2 c2] 28)
  rw [show epOkB f = (inB f.n 0 4294967295 && ((n1 : Int) == 32) && inB f.seq 0 281474976710656 && winOk f.win) by unfold epOkB; rw [hl.out]]
  cases k1 : inB f.n 0 4294967295
  · go_enter Tryz.func29, Tryz.ntmps29
    go_wp2_with (go_at_call 59; refine (spec_l1In _ _ _ _).mono ?_; rintro e w' ⟨rfl, rfl⟩)
    go_ret
    exact ⟨by simp, g0⟩
  cases k2 : ((n1 : Int) == 32)
  · go_enter Tryz.func29, Tryz.ntmps29
    go_wp2_with (go_at_call 59; refine (spec_l1In _ _ _ _).mono ?_; rintro e w' ⟨rfl, rfl⟩)
    go_ret
    exact ⟨by simp, g0⟩
  cases k3 : inB f.seq 0 281474976710656
  · go_enter Tryz.func29, Tryz.ntmps29
    go_wp2_with (go_at_call 59; refine (spec_l1In _ _ _ _).mono ?_; rintro e w' ⟨rfl, rfl⟩)
    go_ret
    exact ⟨by simp, g0⟩
  go_enter Tryz.func29, Tryz.ntmps29
  go_wp2_with (first
    | (go_at_call 59; refine (spec_l1In _ _ _ _).mono ?_; rintro e w' ⟨rfl, rfl⟩)
    | (go_at_call 60; refine (spec_WinOk _ f.win _ ⟨_, _, _, rfl, h2.keep0 g0⟩ ).mono ?_; rintro e w3 ⟨rfl, g3⟩))
  go_ret
  exact ⟨by simp, gb_trans g0 g3⟩
end Go.Proofs.YtpfchphgbhgmmaaGreat
