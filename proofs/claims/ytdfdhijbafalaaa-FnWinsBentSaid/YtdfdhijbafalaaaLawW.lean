/-
  Contracts of the small functions that compare windows and epochs. Conditions: none beside those that each theorem names.
-/
import Derived.Test.YtdfdhijbafalaaaLawH
namespace Go.Proofs.Ytdfdhijbafalaaa
open Go.RowKit
set_option maxHeartbeats 400000 in
theorem laws_sameInts_t (a b : Option Addr) (n c m d : Nat) (l : List Int) (w : World) (ha : Rd w a n c (ins l)) (hb : Rd w b m d (ins l)) (hn : l.length ≤ 1073741824) :
    Calls Try.prog 23 #[.slice a n c, .slice b m d] w fun e w' => e = .returned (.bool true) ∧ w.grownBy w' none := by
  obtain rfl : n = m := by have := ha.ilen; have := hb.ilen; omega
  replace hn : n ≤ 1073741824 := by have := ha.ilen; omega
  go_enter Try.func23, Try.ntmps23
  go_wp2
  go_loopw [5] (fun i wr => ∃ j : Nat, j ≤ n ∧ i = .int .i64 j ∧ Qt w wr) (fun i _ => n - (intOf i).toNat)
  case atStart => exact ⟨0, by omega, rfl, Qt.refl w⟩
  case round =>
    obtain ⟨j, hj, rfl, hq⟩ := hrel
    by_cases hlt : j < n
    · obtain ⟨b1, o1, x, rfl, hx, h1⟩ := (ha.qt hq).int j hlt
      obtain ⟨b2, o2, y, rfl, hy, h2⟩ := (hb.qt hq).int j hlt
      obtain rfl : x = y := by have h1 := hx.out; rw [hy.out] at h1; exact (Option.some.inj h1).symm
      go_wp2
      go_quiet (fail)
      go_wp2
      go_roundw
      case rel => exact ⟨j + 1, by omega, by go_num, hq.drewN _⟩
      case measure => simp [intOf]; omega
    · obtain rfl : j = n := by omega
      go_wp2
      go_ret
      exact ⟨rfl, hq.gb⟩
set_option maxHeartbeats 1000000 in
/-- two values that read as one window are the same -/
theorem laws_sameWin_t (v u : Value) (f : WinM) (w : World) (h : WinR w v f) (k : WinR w u f) (hn : f.bits.length ≤ 1073741824) :
    Calls Try.prog 14 #[v, u] w fun e w' => e = .returned (.bool true) ∧ w.grownBy w' none := by
  obtain ⟨a1, n1, c1, rfl, r1⟩ := h
  obtain ⟨b1, m1, d1, rfl, s1⟩ := k
  have g0 := gb_alloc (gb_alloc (gb_refl w) (.cells #[.int .i64 f.top, .slice a1 n1 c1] 27)) (.cells #[.int .i64 f.top, .slice b1 m1 d1] 27)
  replace r1 := r1.keep0 g0
  replace s1 := s1.keep0 g0
  go_enter Try.func14, Try.ntmps14
  go_wp2_with (go_at_call 23; refine (laws_sameInts_t a1 b1 n1 c1 m1 d1 f.bits _ r1 s1 hn).mono ?_; rintro e w1 ⟨rfl, g1⟩)
  go_ret
  exact ⟨rfl, gb_trans g0 g1⟩
end Go.Proofs.Ytdfdhijbafalaaa
