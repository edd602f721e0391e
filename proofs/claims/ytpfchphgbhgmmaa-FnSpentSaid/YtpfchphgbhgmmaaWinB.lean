/-
  Plain facts on the bits of a window: what clearing and setting do; the two ways to add a number agree. Conditions: none beside those that each theorem names.
-/
import Derived.Test.YtpfchphgbhgmmaaWinAS
namespace Go.Proofs.Ytpfchphgbhgmmaa
open Go.RowKit
theorem wrap_pow (k : Nat) (hk : k < 32) : wrap64 ((2 : Int) ^ k) = ((2 ^ k : Nat) : Int) := by
  have hp : (2 : Nat) ^ k < 2 ^ 32 := Nat.pow_lt_pow_right (by decide) hk
  have e : ((2 : Int) ^ k) = ((2 ^ k : Nat) : Int) := by simp
  rw [e]
  have h := cast63 (2 ^ k) (by omega)
  unfold wrap64
  rw [← IntKind.wrap_i64]
  exact h
theorem testBit_clear (x : Int) (k j : Nat) (h0 : 0 ≤ x) (h1 : x ≤ 4294967295) (hk : k < 32) (hj : j < 32) :
    0 ≤ bits .andNot .i64 x (wrap64 (2 ^ k)) ∧ bits .andNot .i64 x (wrap64 (2 ^ k)) ≤ 4294967295 ∧ (bits .andNot .i64 x (wrap64 (2 ^ k))).toNat.testBit j = (x.toNat.testBit j && !decide (k = j)) := by
  obtain ⟨m, rfl⟩ := Int.eq_ofNat_of_zero_le h0
  have hp : (2 : Nat) ^ k < 2 ^ 32 := Nat.pow_lt_pow_right (by decide) hk
  have hm : m < 2 ^ 32 := by omega
  rw [wrap_pow k hk, i64_andNot m (2 ^ k) (by omega) (by omega)]
  have hle : m &&& (2 ^ 64 - 1 - 2 ^ k) ≤ m := Nat.and_le_left
  refine ⟨by omega, by omega, ?_⟩
  rw [Int.toNat_natCast, Int.toNat_natCast, Nat.testBit_and, show 2 ^ 64 - 1 - 2 ^ k = 2 ^ 64 - (2 ^ k + 1) by omega, Nat.testBit_two_pow_sub_succ (by omega), Nat.testBit_two_pow, decide_eq_true (show j < 64 by omega), Bool.true_and]
theorem testBit_set (x : Int) (k j : Nat) (h0 : 0 ≤ x) (h1 : x ≤ 4294967295) (hk : k < 32) :
    0 ≤ bits .or .i64 x (wrap64 (2 ^ k)) ∧ bits .or .i64 x (wrap64 (2 ^ k)) ≤ 4294967295 ∧ (bits .or .i64 x (wrap64 (2 ^ k))).toNat.testBit j = (x.toNat.testBit j || decide (k = j)) := by
  obtain ⟨m, rfl⟩ := Int.eq_ofNat_of_zero_le h0
  have hp : (2 : Nat) ^ k < 2 ^ 32 := Nat.pow_lt_pow_right (by decide) hk
  have hm : m < 2 ^ 32 := by omega
  rw [wrap_pow k hk, i64_or m (2 ^ k) (by omega) (by omega)]
  have hle : m ||| 2 ^ k < 2 ^ 32 := Nat.or_lt_two_pow hm hp
  refine ⟨by omega, by omega, ?_⟩
  rw [Int.toNat_natCast, Int.toNat_natCast, Nat.testBit_or, Nat.testBit_two_pow]
theorem areW_mk {l : List Int} {n : Nat} (h1 : l.length = n) (h2 : ∀ x ∈ l, 0 ≤ x ∧ x ≤ 4294967295) : areW l n = true := by
  simp only [areW, Bool.and_eq_true, List.all_eq_true, beq_iff_eq, inB_iff]
  exact ⟨h2, h1⟩
theorem areW_set {l : List Int} {i : Nat} {y : Int} (h : areW l 32 = true) (h0 : 0 ≤ y) (h1 : y ≤ 4294967295) : areW (l.set i y) 32 = true := by
  have ha := areW_of h
  refine areW_mk (by rw [List.length_set]; exact ha.1) (fun x hx => ?_)
  rcases List.mem_or_eq_of_mem_set hx with h2 | h2
  · exact ha.2 x h2
  · subst h2; exact ⟨h0, h1⟩
theorem word_rng {l : List Int} (h : areW l 32 = true) (i : Nat) : 0 ≤ l.getD i 0 ∧ l.getD i 0 ≤ 4294967295 := by
  rw [List.getD_eq_getElem?_getD]
  cases hx : l[i]? with
  | none => simp
  | some x => exact (areW_of h).2 x (List.mem_of_getElem? hx)
theorem clearBit_ok {l : List Int} (h : areW l 32 = true) (k : Nat) : areW (clearBit l k) 32 = true ∧ ∀ m, winBit (clearBit l k) m = (winBit l m && !decide (k % 1024 = m % 1024)) := by
  have hr := word_rng h (k % 1024 / 32)
  have hl := (areW_of h).1
  have hq := fun j hj => testBit_clear _ (k % 32) j hr.1 hr.2 (Nat.mod_lt _ (by decide)) hj
  refine ⟨areW_set h (hq 0 (by decide)).1 (hq 0 (by decide)).2.1, fun m => ?_⟩
  have hm := (hq (m % 32) (Nat.mod_lt _ (by decide))).2.2
  simp only [winBit, clearBit, List.getD_eq_getElem?_getD] at hm ⊢
  by_cases e : k % 1024 / 32 = m % 1024 / 32
  · rw [← e, List.getElem?_set_self (by omega), Option.getD_some, hm]
    congr 2
    apply decide_eq_decide.2
    omega
  · rw [List.getElem?_set_ne e]
    rw [show decide (k % 1024 = m % 1024) = false by apply decide_eq_false; intro e2; exact e (by rw [e2])]
    simp
theorem setBit_ok {l : List Int} (h : areW l 32 = true) (k : Nat) : areW (setBit l k) 32 = true ∧ ∀ m, winBit (setBit l k) m = (winBit l m || decide (k % 1024 = m % 1024)) := by
  have hr := word_rng h (k % 1024 / 32)
  have hl := (areW_of h).1
  have hq := fun j => testBit_set _ (k % 32) j hr.1 hr.2 (Nat.mod_lt _ (by decide))
  refine ⟨areW_set h (hq 0).1 (hq 0).2.1, fun m => ?_⟩
  have hm := (hq (m % 32)).2.2
  simp only [winBit, setBit, List.getD_eq_getElem?_getD] at hm ⊢
  by_cases e : k % 1024 / 32 = m % 1024 / 32
  · rw [← e, List.getElem?_set_self (by omega), Option.getD_some, hm]
    congr 1
    apply decide_eq_decide.2
    omega
  · rw [List.getElem?_set_ne e]
    rw [show decide (k % 1024 = m % 1024) = false by apply decide_eq_false; intro e2; exact e (by rw [e2])]
    simp
theorem clr_ok {l : List Int} (h : areW l 32 = true) (a : Nat) : ∀ c, areW (clr l a c) 32 = true ∧ ∀ m, winBit (clr l a c) m = (winBit l m && !decide (∃ d, d < c ∧ (a + d) % 1024 = m % 1024))
  | 0 => ⟨h, fun m => by simp [clr]⟩
  | c + 1 => by
    obtain ⟨h1, h2⟩ := clr_ok h a c
    obtain ⟨h3, h4⟩ := clearBit_ok h1 (a + c)
    refine ⟨h3, fun m => ?_⟩
    rw [clr, h4, h2, Bool.and_assoc, ← Bool.not_or]
    congr 2
    rw [Bool.eq_iff_iff]
    simp only [Bool.or_eq_true, decide_eq_true_eq]
    constructor
    · rintro (⟨d, hd, e⟩ | e)
      · exact ⟨d, by omega, e⟩
      · exact ⟨c, by omega, e⟩
    · rintro ⟨d, hd, e⟩
      by_cases h9 : d = c
      · subst h9; exact .inr e
      · exact .inl ⟨d, by omega, e⟩
/-- windows that agree bit by bit are one -/
theorem word_ext {l r : List Int} (hl : areW l 32 = true) (hr : areW r 32 = true) (h : ∀ m, m < 1024 → winBit l m = winBit r m) : l = r := by
  have a := areW_of hl
  have b := areW_of hr
  apply List.ext_getElem?
  intro i
  by_cases hi : i < 32
  · have e1 : l[i]? = some (l.getD i 0) := by rw [List.getD_eq_getElem?_getD, List.getElem?_eq_getElem (by omega)]; rfl
    have e2 : r[i]? = some (r.getD i 0) := by rw [List.getD_eq_getElem?_getD, List.getElem?_eq_getElem (by omega)]; rfl
    rw [e1, e2]
    congr 1
    have r1 := word_rng hl i
    have r2 := word_rng hr i
    have : (l.getD i 0).toNat = (r.getD i 0).toNat := by
      apply Nat.eq_of_testBit_eq
      intro j
      by_cases hj : j < 32
      · have := h (32 * i + j) (by omega)
        simp only [winBit] at this
        rwa [show (32 * i + j) % 1024 / 32 = i by omega, show (32 * i + j) % 32 = j by omega] at this
      · rw [Nat.testBit_lt_two_pow, Nat.testBit_lt_two_pow]
        · exact Nat.lt_of_lt_of_le (show (r.getD i 0).toNat < 2 ^ 32 by omega) (Nat.pow_le_pow_right (by decide) (by omega))
        · exact Nat.lt_of_lt_of_le (show (l.getD i 0).toNat < 2 ^ 32 by omega) (Nat.pow_le_pow_right (by decide) (by omega))
    omega
  · rw [List.getElem?_eq_none (by omega), List.getElem?_eq_none (by omega)]
theorem winAddS_eq (f : WinM) (n : Int) : winAddS f n = winAddM f n := by
  unfold winAddS winAddM
  split
  · rename_i hm
    simp only [winMay, Bool.and_eq_true] at hm
    obtain ⟨hb1, hb2, hb3⟩ := winOk_bd hm.1.1
    have hi := inB_iff.1 hm.1.2
    congr 1
    obtain ⟨k0, rfl⟩ := Int.eq_ofNat_of_zero_le hi.1
    rw [Int.toNat_natCast]
    obtain ⟨p1, p2⟩ := clr_ok hb3 (f.top + 1).toNat (min (k0 + 1 - (f.top + 1).toNat) 1024)
    obtain ⟨q1, q2⟩ := clr_ok hb3 (addLo f k0) (k0 - addLo f k0)
    obtain ⟨p3, p4⟩ := setBit_ok p1 k0
    obtain ⟨q3, q4⟩ := setBit_ok q1 k0
    refine word_ext p3 q3 (fun m hm => ?_)
    rw [p4, q4, p2, q2]
    by_cases e : k0 % 1024 = m % 1024
    · simp [e]
    · rw [decide_eq_false e, Bool.or_false, Bool.or_false]
      congr 2
      apply decide_eq_decide.2
      have hlo : addLo f k0 = max (f.top + 1).toNat (k0 - 1023) := by unfold addLo; omega
      rw [hlo]
      generalize (f.top + 1).toNat = t
      constructor
      · rintro ⟨d, hd, e2⟩
        exact ⟨k0 - (k0 + 1024 - m % 1024) % 1024 - max t (k0 - 1023), by omega, by omega⟩
      · rintro ⟨d, hd, e2⟩
        exact ⟨(max t (k0 - 1023) + d - t) % 1024, by omega, by omega⟩
  · rfl
theorem winAddM_tot (f : WinM) (n : Int) : (winAddM f n).tot = f.tot := by
  unfold winAddM
  split
  · simp only [WinM.tot, setBit, List.length_set, clr_len]
  · rfl
end Go.Proofs.Ytpfchphgbhgmmaa
