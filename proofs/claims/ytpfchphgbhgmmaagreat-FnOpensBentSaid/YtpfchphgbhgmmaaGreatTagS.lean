/-
  Contracts of the comparison of tags. Conditions: none beside those that each theorem names.
-/
import Derived.Test.YtpfchphgbhgmmaaGreatMac
namespace Go.Proofs.YtpfchphgbhgmmaaGreat
open Go.RowKit
def sameT (l k : List UInt8) : Bool := ((l.length : Int) == 16) && (l == k)
theorem or_zero {a b : Nat} : a ||| b = 0 ↔ a = 0 ∧ b = 0 := by
  constructor
  · intro h
    have h1 := @Nat.left_le_or a b
    have h2 := @Nat.right_le_or a b
    omega
  · rintro ⟨rfl, rfl⟩
    rfl
theorem xor_zero8 {x y : UInt8} : (x ^^^ y).toNat = 0 ↔ x = y := by
  rw [UInt8.toNat_xor]
  constructor
  · intro h
    apply UInt8.toNat_inj.1
    have h1 := congrArg (fun z => x.toNat ^^^ z) h
    simp only [← Nat.xor_assoc, Nat.xor_self, Nat.zero_xor, Nat.xor_zero] at h1
    exact h1.symm
  · rintro rfl
    exact Nat.xor_self _
theorem diff_step {l k : List UInt8} {j d : Nat} {x y : UInt8} (hx : l[j]? = some x) (hy : k[j]? = some y) (h : d = 0 ↔ l.take j = k.take j) : (d ||| (x ^^^ y).toNat) = 0 ↔ l.take (j + 1) = k.take (j + 1) := by
  rw [or_zero, xor_zero8, h, take_succ_some hx, take_succ_some hy]
  constructor
  · rintro ⟨h1, h2⟩
    rw [h1, h2]
  · intro h1
    have := List.append_inj' h1 rfl
    exact ⟨this.1, by simpa using this.2⟩
set_option maxRecDepth 1000000 in
set_option maxHeartbeats 1000000 in
theorem impl_Diff (a : Option Addr) (n c : Nat) (l : List UInt8) (b : Option Addr) (d : Nat) (k : List UInt8) (w : World) (r1 : Rd w a n c (bys l)) (r2 : Rd w b n d (bys k)) (hn : n ≤ 1073741824) : Calls Tryz.prog 84 #[.slice a n c, .slice b n d] w fun e w' => ∃ z : Nat, e = .returned (.int .i64 (z : Int)) ∧ (z = 0 ↔ l = k) ∧ w.grownBy w' none := by
  have L1 := Lib.hid r1.blen
  have L2 := Lib.hid r2.blen
  have R1 := Lib.hid r1
  have R2 := Lib.hid r2
  go_enter Tryz.func84, Tryz.ntmps84
  go_wp2
  go_loopw [5, 14] (fun v i9 wr => ∃ (j z : Nat), j ≤ n ∧ i9 = .int .i64 (j : Int) ∧ v = .int .i64 (z : Int) ∧ z < 256 ∧ Hid (z = 0 ↔ l.take j = k.take j) ∧ w.grownBy wr none) (fun _ i9 _ => n - (intOf i9).toNat)
  case atStart => exact ⟨0, 0, by omega, rfl, rfl, by omega, by simp [Hid], gb_refl _⟩
  case round =>
    obtain ⟨j, z, hj, rfl, rfl, hz, hi, hg⟩ := hrel
    by_cases hlt : j < n
    · obtain ⟨p1, q1, x, rfl, hx, hc⟩ := (R1.out.keep0 hg).byte j hlt
      obtain ⟨p2, q2, y, rfl, hy, hd⟩ := (R2.out.keep0 hg).byte j hlt
      have X := u8_xor x y
      obtain ⟨u, hu⟩ : ∃ u, u = (x ^^^ y).toNat := ⟨_, rfl⟩
      have U : u < 256 := by rw [hu]; exact (x ^^^ y).toNat_lt
      rw [← hu] at X
      have O : bits .or .i64 (z : Int) (u : Int) = ((z ||| u : Nat) : Int) := i64_or _ _ (by omega) (by omega)
      obtain ⟨t, ht⟩ : ∃ t, t = z ||| u := ⟨_, rfl⟩
      have T : t < 256 := by rw [ht]; exact Nat.or_lt_two_pow (n := 8) hz U
      rw [← ht] at O
      have E := Lib.hid (show t = 0 ↔ l.take (j + 1) = k.take (j + 1) by rw [ht, hu]; exact diff_step hx.out hy.out hi.out)
      clear hu ht hx hy
      go_wp2
      go_region
      go_wp2
      first
        | exact ⟨⟨j + 1, t, by omega, by go_num, rfl, T, E, by first | exact hg | exact gb_drew hg | exact gb_drewN hg _⟩, by simp [intOf]; omega⟩
        | (refine ⟨?_, ?measure⟩
           (repeat apply Exists.intro)
           refine ⟨?rel, rfl⟩
           case rel => exact ⟨j + 1, t, by omega, by go_num, rfl, T, E, by first | exact hg | exact gb_drew hg | exact gb_drewN hg _⟩
           case measure => simp [intOf]; omega)
    · obtain rfl : j = n := by omega
      have E := Lib.hid (show z = 0 ↔ l = k by
        have := hi.out
        rwa [List.take_of_length_le (by rw [L1.out]; exact Nat.le_refl _), List.take_of_length_le (by rw [L2.out]; exact Nat.le_refl _)] at this)
      go_wp2
      go_ret
      exact ⟨z, rfl, E.out, hg⟩
theorem impl_DiffNo (a : Option Addr) (n c : Nat) (b : Option Addr) (m d : Nat) (w : World) (h : ¬ n = m) : Calls Tryz.prog 84 #[.slice a n c, .slice b m d] w fun e w' => e = .returned (.int .i64 (-1)) ∧ w = w' := by
  have i : ((n : Int) != (m : Int)) = true := by simp; omega
  go_enter Tryz.func84, Tryz.ntmps84
  go_wp2
  go_ret
  exact ⟨rfl, rfl⟩
set_option maxRecDepth 1000000 in
theorem impl_SameTag (a : Option Addr) (n c : Nat) (l : List UInt8) (b : Option Addr) (m d : Nat) (k : List UInt8) (w : World) (r1 : Rd w a n c (bys l)) (r2 : Rd w b m d (bys k)) : Calls Tryz.prog 66 #[.slice a n c, .slice b m d] w fun e w' => e = .returned (.bool (sameT l k)) ∧ w.grownBy w' none := by
  have L1 := Lib.hid r1.blen
  have L2 := Lib.hid r2.blen
  cases h : ((n : Int) == 16)
  · have E := Lib.hid (show sameT l k = false by rw [sameT, L1.out, h]; rfl)
    go_enter Tryz.func66, Tryz.ntmps66
    go_wp2
    go_ret
    exact ⟨ret_b E.out.symm, gb_refl _⟩
  · have h16 : n = 16 := by simp at h; omega
    subst h16
    by_cases hm : 16 = m
    · subst hm
      go_enter Tryz.func66, Tryz.ntmps66
      go_wp2_with (go_at_call 84; refine (impl_Diff a 16 c l b d k w r1 r2 (by omega)).mono ?_; rintro e w2 ⟨z, rfl, hz, g2⟩; have HZ := Lib.hid hz; clear hz)
      go_ret
      refine ⟨ret_b ?_, g2⟩
      rw [sameT, L1.out]
      by_cases hlk : l = k
      · have := HZ.out.2 hlk
        subst hlk
        simp [this]
      · have : z ≠ 0 := fun e => hlk (HZ.out.1 e)
        have h2 : (l == k) = false := by simpa using hlk
        simp [h2]
        omega
    · have E := Lib.hid (show sameT l k = false by
        have : (l == k) = false := by
          rw [beq_eq_false_iff_ne]
          intro e
          exact hm (by rw [← L1.out, ← L2.out, e])
        rw [sameT, this, Bool.and_false])
      go_enter Tryz.func66, Tryz.ntmps66
      go_wp2_with (go_at_call 84; refine (impl_DiffNo a 16 c b m d w hm).mono ?_; rintro e w2 ⟨rfl, rfl⟩)
      go_ret
      exact ⟨ret_b E.out.symm, gb_refl _⟩
set_option maxRecDepth 1000000 in
set_option maxHeartbeats 1000000 in
theorem spec_Diff (a : Option Addr) (n c : Nat) (l : List UInt8) (b : Option Addr) (d : Nat) (k : List UInt8) (w : World) (r1 : Rd w a n c (bys l)) (r2 : Rd w b n d (bys k)) (hn : n ≤ 1073741824) : Calls Tryz.prog 85 #[.slice a n c, .slice b n d] w fun e w' => ∃ z : Nat, e = .returned (.int .i64 (z : Int)) ∧ (z = 0 ↔ l = k) ∧ w.grownBy w' none := by
  have L1 := Lib.hid r1.blen
  have L2 := Lib.hid r2.blen
  have R1 := Lib.hid r1
  have R2 := Lib.hid r2
  go_enter Tryz.func85, Tryz.ntmps85
  go_wp2
  go_loopw [5, 6] (fun v i9 wr => ∃ (j z : Nat), j ≤ n ∧ i9 = .int .i64 (j : Int) ∧ v = .int .i64 (z : Int) ∧ z < 256 ∧ Hid (z = 0 ↔ l.take j = k.take j) ∧ w.grownBy wr none) (fun _ i9 _ => n - (intOf i9).toNat)
  case atStart => exact ⟨0, 0, by omega, rfl, rfl, by omega, by simp [Hid], gb_refl _⟩
  case round =>
    obtain ⟨j, z, hj, rfl, rfl, hz, hi, hg⟩ := hrel
    by_cases hlt : j < n
    · obtain ⟨p1, q1, x, rfl, hx, hc⟩ := (R1.out.keep0 hg).byte j hlt
      obtain ⟨p2, q2, y, rfl, hy, hd⟩ := (R2.out.keep0 hg).byte j hlt
      have X := u8_xor x y
      obtain ⟨u, hu⟩ : ∃ u, u = (x ^^^ y).toNat := ⟨_, rfl⟩
      have U : u < 256 := by rw [hu]; exact (x ^^^ y).toNat_lt
      rw [← hu] at X
      have O : bits .or .i64 (z : Int) (u : Int) = ((z ||| u : Nat) : Int) := i64_or _ _ (by omega) (by omega)
      obtain ⟨t, ht⟩ : ∃ t, t = z ||| u := ⟨_, rfl⟩
      have T : t < 256 := by rw [ht]; exact Nat.or_lt_two_pow (n := 8) hz U
      rw [← ht] at O
      have E := Lib.hid (show t = 0 ↔ l.take (j + 1) = k.take (j + 1) by rw [ht, hu]; exact diff_step hx.out hy.out hi.out)
      clear hu ht hx hy
      go_wp2
      go_region
      go_wp2
      first
        | exact ⟨⟨j + 1, t, by omega, by go_num, rfl, T, E, by first | exact hg | exact gb_drew hg | exact gb_drewN hg _⟩, by simp [intOf]; omega⟩
        | (refine ⟨?_, ?measure⟩
           (repeat apply Exists.intro)
           refine ⟨?rel, rfl⟩
           case rel => exact ⟨j + 1, t, by omega, by go_num, rfl, T, E, by first | exact hg | exact gb_drew hg | exact gb_drewN hg _⟩
           case measure => simp [intOf]; omega)
    · obtain rfl : j = n := by omega
      have E := Lib.hid (show z = 0 ↔ l = k by
        have := hi.out
        rwa [List.take_of_length_le (by rw [L1.out]; exact Nat.le_refl _), List.take_of_length_le (by rw [L2.out]; exact Nat.le_refl _)] at this)
      go_wp2
      go_ret
      exact ⟨z, rfl, E.out, hg⟩
theorem spec_DiffNo (a : Option Addr) (n c : Nat) (b : Option Addr) (m d : Nat) (w : World) (h : ¬ n = m) : Calls Tryz.prog 85 #[.slice a n c, .slice b m d] w fun e w' => e = .returned (.int .i64 (-1)) ∧ w = w' := by
  have i : ((n : Int) != (m : Int)) = true := by simp; omega
  go_enter Tryz.func85, Tryz.ntmps85
  go_wp2
  go_ret
  exact ⟨rfl, rfl⟩
set_option maxRecDepth 1000000 in
theorem spec_SameTag (a : Option Addr) (n c : Nat) (l : List UInt8) (b : Option Addr) (m d : Nat) (k : List UInt8) (w : World) (r1 : Rd w a n c (bys l)) (r2 : Rd w b m d (bys k)) : Calls Tryz.prog 73 #[.slice a n c, .slice b m d] w fun e w' => e = .returned (.bool (sameT l k)) ∧ w.grownBy w' none := by
  have L1 := Lib.hid r1.blen
  have L2 := Lib.hid r2.blen
  cases h : ((n : Int) == 16)
  · have E := Lib.hid (show sameT l k = false by rw [sameT, L1.out, h]; rfl)
    go_enter Tryz.func73, Tryz.ntmps73
    go_wp2
    go_ret
    exact ⟨ret_b E.out.symm, gb_refl _⟩
  · have h16 : n = 16 := by simp at h; omega
    subst h16
    by_cases hm : 16 = m
    · subst hm
      go_enter Tryz.func73, Tryz.ntmps73
      go_wp2_with (go_at_call 85; refine (spec_Diff a 16 c l b d k w r1 r2 (by omega)).mono ?_; rintro e w2 ⟨z, rfl, hz, g2⟩; have HZ := Lib.hid hz; clear hz)
      go_ret
      refine ⟨ret_b ?_, g2⟩
      rw [sameT, L1.out]
      by_cases hlk : l = k
      · have := HZ.out.2 hlk
        subst hlk
        simp [this]
      · have : z ≠ 0 := fun e => hlk (HZ.out.1 e)
        have h2 : (l == k) = false := by simpa using hlk
        simp [h2]
        omega
    · have E := Lib.hid (show sameT l k = false by
        have : (l == k) = false := by
          rw [beq_eq_false_iff_ne]
          intro e
          exact hm (by rw [← L1.out, ← L2.out, e])
        rw [sameT, this, Bool.and_false])
      go_enter Tryz.func73, Tryz.ntmps73
      go_wp2_with (go_at_call 85; refine (spec_DiffNo a 16 c b m d w hm).mono ?_; rintro e w2 ⟨rfl, rfl⟩)
      go_ret
      exact ⟨ret_b E.out.symm, gb_refl _⟩
end Go.Proofs.YtpfchphgbhgmmaaGreat
