/-
  Contracts of the functions that compare and check frames. Conditions: none beside those that each theorem names.
-/
import Derived.Test.YtpfchphgbhgmmaaGreatHead
import Derived.Test.YtpfchphgbhgmmaaGreatStr
import Derived.Test.YtpfchphgbhgmmaaGreatHelpS
import Derived.BigRegion
namespace Go.Proofs.YtpfchphgbhgmmaaGreat
open Go.RowKit
def sealedB (k : Int) : Bool := inB k 4 8
def bodyB (k : Int) (n : Nat) : Bool := if k = 4 then decide (n ≤ 40) else if k = 5 ∨ k = 6 then ((n : Int) == 12) else ((n : Int) == 4)
theorem impl_Sealed (k : Int) (w : World) : Calls Tryz.prog 53 #[.int .i64 k] w fun e w' => e = .returned (.bool (sealedB k)) ∧ w = w' := by
  go_enter Tryz.func53, Tryz.ntmps53
  go_wp2_with (go_at_call 34; refine (impl_within _ _ _ _).mono ?_; rintro e w' ⟨rfl, rfl⟩)
  go_ret
  exact ⟨rfl, rfl⟩
theorem spec_Sealed (k : Int) (w : World) : Calls Tryz.prog 31 #[.int .i64 k] w fun e w' => e = .returned (.bool (sealedB k)) ∧ w = w' := by
  go_enter Tryz.func31, Tryz.ntmps31
  go_wp2_with (go_at_call 59; refine (spec_l1In _ _ _ _).mono ?_; rintro e w' ⟨rfl, rfl⟩)
  go_ret
  exact ⟨rfl, rfl⟩
theorem le40 (n : Nat) : decide ((n : Int) ≤ 40) = decide (n ≤ 40) := by rw [decide_eq_decide]; omega
theorem impl_bodyOk (k : Int) (n : Nat) (w : World) : Calls Tryz.prog 77 #[.int .i64 k, .int .i64 (n : Int)] w fun e w' => e = .returned (.bool (bodyB k n)) ∧ w = w' := by
  by_cases h4 : k = 4
  · subst h4
    go_enter Tryz.func77, Tryz.ntmps77
    go_wp2
    go_ret
    exact ⟨ret_b (by simp [bodyB, ← le40]), rfl⟩
  · by_cases h5 : k = 5
    · subst h5
      go_enter Tryz.func77, Tryz.ntmps77
      go_wp2
      go_ret
      exact ⟨ret_b (by simp [bodyB]), rfl⟩
    · by_cases h6 : k = 6
      · subst h6
        go_enter Tryz.func77, Tryz.ntmps77
        go_wp2
        go_ret
        exact ⟨ret_b (by simp [bodyB]), rfl⟩
      · have k4 : (k == 4) = false := by simpa using h4
        have k5 : (k == 5) = false := by simpa using h5
        have k6 : (k == 6) = false := by simpa using h6
        go_enter Tryz.func77, Tryz.ntmps77
        go_wp2
        go_ret
        exact ⟨ret_b (by simp [bodyB, h4, h5, h6]), rfl⟩
theorem spec_l7Body (k : Int) (n : Nat) (w : World) : Calls Tryz.prog 32 #[.int .i64 k, .int .i64 (n : Int)] w fun e w' => e = .returned (.bool (bodyB k n)) ∧ w = w' := by
  by_cases h4 : k = 4
  · subst h4
    go_enter Tryz.func32, Tryz.ntmps32
    go_wp2
    go_ret
    exact ⟨ret_b (by simp [bodyB, ← le40]), rfl⟩
  · by_cases h5 : k = 5
    · subst h5
      go_enter Tryz.func32, Tryz.ntmps32
      go_wp2
      go_ret
      exact ⟨ret_b (by simp [bodyB]), rfl⟩
    · by_cases h6 : k = 6
      · subst h6
        go_enter Tryz.func32, Tryz.ntmps32
        go_wp2
        go_ret
        exact ⟨ret_b (by simp [bodyB]), rfl⟩
      · have k4 : (k == 4) = false := by simpa using h4
        have k5 : (k == 5) = false := by simpa using h5
        have k6 : (k == 6) = false := by simpa using h6
        go_enter Tryz.func32, Tryz.ntmps32
        go_wp2
        go_ret
        exact ⟨ret_b (by simp [bodyB, h4, h5, h6]), rfl⟩
def eqI (a b : Int) : Bool := a == b
def eqN (n : Nat) (b : Int) : Bool := (n : Int) == b
theorem eqI_iff {a b : Int} : eqI a b = true ↔ a = b := by simp [eqI]
theorem eqN_iff {n m : Nat} : eqN n (m : Int) = true ↔ n = m := by
  simp [eqN]
  omega
def frEq (f g : FrameM) : Bool := eqI f.kind g.kind && eqI f.id g.id && eqI f.tick g.tick && eqI f.epoch g.epoch && eqI f.seq g.seq && eqL f.cn g.cn && eqL f.sn g.sn && eqL f.cookie g.cookie && eqL f.proof g.proof && eqL f.body g.body && eqL f.tag g.tag
set_option maxRecDepth 100000 in
set_option maxHeartbeats 4000000 in
theorem impl_sameFrame (v u : Value) (f g : FrameM) (w : World) (h : FrameR w v f) (k : FrameR w u g) :
    Calls Tryz.prog 78 #[v, u] w fun e w' => e = .returned (.bool (frEq f g)) ∧ w.grownBy w' none := by
  obtain ⟨a1, n1, c1, a2, n2, c2, a3, n3, c3, a4, n4, c4, a5, n5, c5, a6, n6, c6, rfl, r1, r2, r3, r4, r5, r6⟩ := h
  obtain ⟨b1, m1, d1, b2, m2, d2, b3, m3, d3, b4, m4, d4, b5, m5, d5, b6, m6, d6, rfl, s1, s2, s3, s4, s5, s6⟩ := k
  have g0 := gb_alloc (gb_alloc (gb_refl w) (.cells #[.int .i64 f.kind, .int .i64 f.id, .slice a1 n1 c1, .slice a2 n2 c2, .int .i64 f.tick, .slice a3 n3 c3, .slice a4 n4 c4, .int .i64 f.epoch, .int .i64 f.seq, .slice a5 n5 c5, .slice a6 n6 c6] 32)) (.cells #[.int .i64 g.kind, .int .i64 g.id, .slice b1 m1 d1, .slice b2 m2 d2, .int .i64 g.tick, .slice b3 m3 d3, .slice b4 m4 d4, .int .i64 g.epoch, .int .i64 g.seq, .slice b5 m5 d5, .slice b6 m6 d6] 32)
  have Hr1 := Lib.hid (r1.keep0 g0)
  clear r1
  have Hr2 := Lib.hid (r2.keep0 g0)
  clear r2
  have Hr3 := Lib.hid (r3.keep0 g0)
  clear r3
  have Hr4 := Lib.hid (r4.keep0 g0)
  clear r4
  have Hr5 := Lib.hid (r5.keep0 g0)
  clear r5
  have Hr6 := Lib.hid (r6.keep0 g0)
  clear r6
  have Hs1 := Lib.hid (s1.keep0 g0)
  clear s1
  have Hs2 := Lib.hid (s2.keep0 g0)
  clear s2
  have Hs3 := Lib.hid (s3.keep0 g0)
  clear s3
  have Hs4 := Lib.hid (s4.keep0 g0)
  clear s4
  have Hs5 := Lib.hid (s5.keep0 g0)
  clear s5
  have Hs6 := Lib.hid (s6.keep0 g0)
  clear s6
  have G0 := Lib.hid g0
  clear g0
  have e1 : (f.kind == g.kind) = eqI f.kind g.kind := rfl
  have e2 : (f.id == g.id) = eqI f.id g.id := rfl
  have e3 : (f.tick == g.tick) = eqI f.tick g.tick := rfl
  have e4 : (f.epoch == g.epoch) = eqI f.epoch g.epoch := rfl
  have e5 : (f.seq == g.seq) = eqI f.seq g.seq := rfl
  go_enter Tryz.func78, Tryz.ntmps78
  go_wp2_with (go_at_call 89; first
    | ((with_reducible refine (bytes_Equal a1 n1 c1 b1 m1 d1 f.cn g.cn _ Hr1.out Hs1.out).mono ?_); rintro e w' ⟨rfl, rfl⟩)
    | ((with_reducible refine (bytes_Equal a2 n2 c2 b2 m2 d2 f.sn g.sn _ Hr2.out Hs2.out).mono ?_); rintro e w' ⟨rfl, rfl⟩)
    | ((with_reducible refine (bytes_Equal a3 n3 c3 b3 m3 d3 f.cookie g.cookie _ Hr3.out Hs3.out).mono ?_); rintro e w' ⟨rfl, rfl⟩)
    | ((with_reducible refine (bytes_Equal a4 n4 c4 b4 m4 d4 f.proof g.proof _ Hr4.out Hs4.out).mono ?_); rintro e w' ⟨rfl, rfl⟩)
    | ((with_reducible refine (bytes_Equal a5 n5 c5 b5 m5 d5 f.body g.body _ Hr5.out Hs5.out).mono ?_); rintro e w' ⟨rfl, rfl⟩)
    | ((with_reducible refine (bytes_Equal a6 n6 c6 b6 m6 d6 f.tag g.tag _ Hr6.out Hs6.out).mono ?_); rintro e w' ⟨rfl, rfl⟩))
  all_goals
    go_ret
    exact ⟨ret_b (by simp [frEq, *]), G0.out⟩
end Go.Proofs.YtpfchphgbhgmmaaGreat
