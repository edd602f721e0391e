/-
  Contracts of the functions that make and check an epoch. Conditions: none beside those that each theorem names.
-/
import Derived.Test.YteoglfclliclbaaGreatHead
import Derived.Test.YteoglfclliclbaaGreatWinN
import Derived.Test.YteoglfclliclbaaGreatWin
namespace Go.Proofs.YteoglfclliclbaaGreat
open Go.RowKit
def epZ : EpM := ⟨0, [], 0, ⟨0, []⟩⟩
def epNewM (n : Int) (key : List UInt8) : EpM := if inB n 0 4294967295 && ((key.length : Int) == 32) then ⟨n, key, 0, winNew⟩ else epZ
def epOkB (f : EpM) : Bool := inB f.n 0 4294967295 && ((f.key.length : Int) == 32) && inB f.seq 0 281474976710656 && winOk f.win
theorem epZ_O (B S : Nat) (w : World) : EpO B S w (.agg #[.int .i64 0, .slice none 0 0, .int .i64 0, .int .i64 0, .slice none 0 0]) epZ :=
  ⟨none, 0, 0, none, 0, 0, rfl, ⟨Ow.nil _ _ _, fun p h => by cases h⟩, ⟨Ow.nil _ _ _, fun p h => by cases h⟩, fun p q h => by cases h⟩
theorem epNewM_tot (n : Int) (key : List UInt8) : (epNewM n key).tot ≤ 64 := by
  unfold epNewM
  split
  · rename_i h
    simp only [Bool.and_eq_true, beq_iff_eq] at h
    simp only [EpM.tot, winNew, List.length_replicate]
    omega
  · decide
set_option maxRecDepth 100000 in
set_option maxHeartbeats 1000000 in
theorem impl_EpOk (v : Value) (f : EpM) (w : World) (h : EpR w v f) (_hn : f.win.bits.length ≤ 1073741824) :
    Calls Tryz.prog 29 #[v] w fun e w' => e = .returned (.bool (epOkB f)) ∧ w.grownBy w' none := by
  obtain ⟨a1, n1, c1, a2, n2, c2, rfl, h1, h2⟩ := h
  have hl := Lib.hid h1.blen
  have g0 := gb_alloc (gb_refl w) (.cells #[.int .i64 f.n, .slice a1 n1 c1, .int .i64 f.seq, .int .i64 f.win.top, .slice a2 n2 c2] 34)
  rw [show epOkB f = (inB f.n 0 4294967295 && ((n1 : Int) == 32) && inB f.seq 0 281474976710656 && winOk f.win) by unfold epOkB; rw [hl.out]]
  cases k1 : inB f.n 0 4294967295
  · go_enter Tryz.func29, Tryz.ntmps29
    go_wp2_with (go_at_call 51; refine (impl_within _ _ _ _).mono ?_; rintro e w' ⟨rfl, rfl⟩)
    go_ret
    exact ⟨by simp, g0⟩
  cases k2 : ((n1 : Int) == 32)
  · go_enter Tryz.func29, Tryz.ntmps29
    go_wp2_with (go_at_call 51; refine (impl_within _ _ _ _).mono ?_; rintro e w' ⟨rfl, rfl⟩)
    go_ret
    exact ⟨by simp, g0⟩
  cases k3 : inB f.seq 0 281474976710656
  · go_enter Tryz.func29, Tryz.ntmps29
    go_wp2_with (go_at_call 51; refine (impl_within _ _ _ _).mono ?_; rintro e w' ⟨rfl, rfl⟩)
    go_ret
    exact ⟨by simp, g0⟩
  go_enter Tryz.func29, Tryz.ntmps29
  go_wp2_with (first
    | (go_at_call 51; refine (impl_within _ _ _ _).mono ?_; rintro e w' ⟨rfl, rfl⟩)
    | (go_at_call 52; refine (impl_WinOk _ f.win _ ⟨_, _, _, rfl, h2.keep0 g0⟩ _hn).mono ?_; rintro e w3 ⟨rfl, g3⟩))
  go_ret
  exact ⟨by simp, gb_trans g0 g3⟩
set_option maxRecDepth 100000 in
set_option maxHeartbeats 1000000 in
theorem spec_EpOk (v : Value) (f : EpM) (w : World) (h : EpR w v f) (_hn : f.win.bits.length ≤ 1073741824) :
    Calls Tryz.prog 21 #[v] w fun e w' => e = .returned (.bool (epOkB f)) ∧ w.grownBy w' none := by
  obtain ⟨a1, n1, c1, a2, n2, c2, rfl, h1, h2⟩ := h
  have hl := Lib.hid h1.blen
  have g0 := gb_alloc (gb_refl w) (.cells #[.int .i64 f.n, .slice a1 n1 c1, .int .i64 f.seq, .int .i64 f.win.top, .slice a2 n2 c2] 34)
  rw [show epOkB f = (inB f.n 0 4294967295 && ((n1 : Int) == 32) && inB f.seq 0 281474976710656 && winOk f.win) by unfold epOkB; rw [hl.out]]
  cases k1 : inB f.n 0 4294967295
  · go_enter Tryz.func21, Tryz.ntmps21
    go_wp2_with (go_at_call 38; refine (spec_l1In _ _ _ _).mono ?_; rintro e w' ⟨rfl, rfl⟩)
    go_ret
    exact ⟨by simp, g0⟩
  cases k2 : ((n1 : Int) == 32)
  · go_enter Tryz.func21, Tryz.ntmps21
    go_wp2_with (go_at_call 38; refine (spec_l1In _ _ _ _).mono ?_; rintro e w' ⟨rfl, rfl⟩)
    go_ret
    exact ⟨by simp, g0⟩
  cases k3 : inB f.seq 0 281474976710656
  · go_enter Tryz.func21, Tryz.ntmps21
    go_wp2_with (go_at_call 38; refine (spec_l1In _ _ _ _).mono ?_; rintro e w' ⟨rfl, rfl⟩)
    go_ret
    exact ⟨by simp, g0⟩
  go_enter Tryz.func21, Tryz.ntmps21
  go_wp2_with (first
    | (go_at_call 38; refine (spec_l1In _ _ _ _).mono ?_; rintro e w' ⟨rfl, rfl⟩)
    | (go_at_call 39; refine (spec_WinOk _ f.win _ ⟨_, _, _, rfl, h2.keep0 g0⟩ ).mono ?_; rintro e w3 ⟨rfl, g3⟩))
  go_ret
  exact ⟨by simp, gb_trans g0 g3⟩
end Go.Proofs.YteoglfclliclbaaGreat
