/-
  Contracts of the small functions that the laws call. Conditions: none beside those that each theorem names.
-/
import Derived.Test.YtpfchphgbhgmmaaHelpS
import Derived.Test.YtpfchphgbhgmmaaStr
import Derived.Test.YtpfchphgbhgmmaaFrOkP
import Derived.Test.YtpfchphgbhgmmaaCell
namespace Go.Proofs.Ytpfchphgbhgmmaa
open Go.RowKit
theorem laws_big (a : Option Addr) (n c : Nat) (w : World) : Calls Try.prog 5 #[.slice a n c] w fun e w' => e = .returned (.bool (decide (1048576 < n))) ∧ w = w' := by
  by_cases h : 1048576 < n
  · go_enter Try.func5, Try.ntmps5
    go_wp2
    go_ret
    exact ⟨ret_b (by simp; omega), rfl⟩
  · go_enter Try.func5, Try.ntmps5
    go_wp2
    go_ret
    exact ⟨ret_b (by simp; omega), rfl⟩
theorem laws_same (a : Option Addr) (n c : Nat) (b : Option Addr) (m d : Nat) (l k : List UInt8) (w : World) (h1 : Rd w a n c (bys l)) (h2 : Rd w b m d (bys k)) :
    Calls Try.prog 13 #[.slice a n c, .slice b m d] w fun e w' => e = .returned (.bool (eqL l k)) ∧ w = w' := by
  have c1 := h1.conv (P := Try.prog) 22 5 9 Try.underlying22 Try.underlying5 Try.underlying9
  have c2 := h2.conv (P := Try.prog) 22 5 9 Try.underlying22 Try.underlying5 Try.underlying9
  go_enter Try.func13, Try.ntmps13
  go_wp2
  go_ret
  exact ⟨ret_b (by rw [str_toList, str_toList]; rfl), rfl⟩
theorem eqL_rfl (l : List UInt8) : eqL l l = true := eqL_iff.2 rfl
theorem laws_same_t (a : Option Addr) (n c : Nat) (b : Option Addr) (m d : Nat) (l : List UInt8) (w : World) (h1 : Rd w a n c (bys l)) (h2 : Rd w b m d (bys l)) :
    Calls Try.prog 13 #[.slice a n c, .slice b m d] w fun e w' => e = .returned (.bool true) ∧ w = w' := by
  have := laws_same a n c b m d l l w h1 h2
  rwa [eqL_rfl] at this
set_option maxRecDepth 1000000 in
set_option maxHeartbeats 4000000 in
/-- two values that read as one frame are the same -/
theorem laws_sameFrame_t (v u : Value) (f : FrameM) (w : World) (h : FrameR w v f) (k : FrameR w u f) :
    Calls Try.prog 9 #[v, u] w fun e w' => e = .returned (.bool true) ∧ w.grownBy w' none := by
  obtain ⟨a1, n1, c1, a2, n2, c2, a3, n3, c3, a4, n4, c4, a5, n5, c5, a6, n6, c6, rfl, r1, r2, r3, r4, r5, r6⟩ := h
  obtain ⟨b1, m1, d1, b2, m2, d2, b3, m3, d3, b4, m4, d4, b5, m5, d5, b6, m6, d6, rfl, s1, s2, s3, s4, s5, s6⟩ := k
  have g0 := gb_alloc (gb_alloc (gb_refl w) (.cells #[.int .i64 f.kind, .int .i64 f.id, .slice a1 n1 c1, .slice a2 n2 c2, .int .i64 f.tick, .slice a3 n3 c3, .slice a4 n4 c4, .int .i64 f.epoch, .int .i64 f.seq, .slice a5 n5 c5, .slice a6 n6 c6] 27)) (.cells #[.int .i64 f.kind, .int .i64 f.id, .slice b1 m1 d1, .slice b2 m2 d2, .int .i64 f.tick, .slice b3 m3 d3, .slice b4 m4 d4, .int .i64 f.epoch, .int .i64 f.seq, .slice b5 m5 d5, .slice b6 m6 d6] 27)
  replace r1 := r1.keep0 g0
  replace r2 := r2.keep0 g0
  replace r3 := r3.keep0 g0
  replace r4 := r4.keep0 g0
  replace r5 := r5.keep0 g0
  replace r6 := r6.keep0 g0
  replace s1 := s1.keep0 g0
  replace s2 := s2.keep0 g0
  replace s3 := s3.keep0 g0
  replace s4 := s4.keep0 g0
  replace s5 := s5.keep0 g0
  replace s6 := s6.keep0 g0
  go_enter Try.func9, Try.ntmps9
  go_wp2_with (go_at_call 13; first
    | ((with_reducible refine (laws_same_t a1 n1 c1 b1 m1 d1 f.cn _ r1 s1).mono ?_); rintro e w' ⟨rfl, rfl⟩)
    | ((with_reducible refine (laws_same_t a2 n2 c2 b2 m2 d2 f.sn _ r2 s2).mono ?_); rintro e w' ⟨rfl, rfl⟩)
    | ((with_reducible refine (laws_same_t a3 n3 c3 b3 m3 d3 f.cookie _ r3 s3).mono ?_); rintro e w' ⟨rfl, rfl⟩)
    | ((with_reducible refine (laws_same_t a4 n4 c4 b4 m4 d4 f.proof _ r4 s4).mono ?_); rintro e w' ⟨rfl, rfl⟩)
    | ((with_reducible refine (laws_same_t a5 n5 c5 b5 m5 d5 f.body _ r5 s5).mono ?_); rintro e w' ⟨rfl, rfl⟩)
    | ((with_reducible refine (laws_same_t a6 n6 c6 b6 m6 d6 f.tag _ r6 s6).mono ?_); rintro e w' ⟨rfl, rfl⟩))
  go_ret
  exact ⟨rfl, g0⟩
end Go.Proofs.Ytpfchphgbhgmmaa
