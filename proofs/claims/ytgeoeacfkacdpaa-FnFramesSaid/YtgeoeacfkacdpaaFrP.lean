/-
  What the reading of a frame answers, in plain words: what the program parses is what the reference parses. Conditions: none beside those that each theorem names.
-/
import Derived.Test.YtgeoeacfkacdpaaPut
import Derived.Test.YtgeoeacfkacdpaaGet
namespace Go.Proofs.Ytgeoeacfkacdpaa
open Go.RowKit
def tkN (l : List UInt8) (k : Nat) : Nat := if k ≤ l.length then num (l.take k) else 0
theorem tkN_lt (l : List UInt8) {k : Nat} (_hk : k ≤ 6) : tkN l k < 256 ^ k := by
  unfold tkN
  split
  · have h := num_lt (l.take k)
    rwa [List.length_take, Nat.min_eq_left (by assumption)] at h
  · exact Nat.pow_pos (by decide)
def fr0 : FrameM := ⟨0, 0, [], [], 0, [], [], 0, 0, [], []⟩
def fr1 (b : List UInt8) : FrameM := ⟨1, (tkN (b.drop 1) 1 : Nat), cutL b 2 12, [], 0, [], [], 0, 0, [], []⟩
def fr2 (b : List UInt8) : FrameM := ⟨2, 0, cutL b 1 12, cutL b 13 12, (tkN (b.drop 25) 4 : Nat), cutL b 29 16, [], 0, 0, [], []⟩
def fr3 (b : List UInt8) : FrameM := ⟨3, (tkN (b.drop 1) 1 : Nat), cutL b 2 12, cutL b 14 12, (tkN (b.drop 26) 4 : Nat), cutL b 30 16, cutL b 46 16, 0, 0, [], []⟩
def frS (k : Int) (b : List UInt8) : FrameM := ⟨k, 0, [], cutL b 1 12, 0, [], [], (tkN (b.drop 13) 4 : Nat), (tkN (b.drop 17) 6 : Nat), cutL b 39 41, cutL b 23 16⟩
def frX (k : Int) : FrameM := ⟨k, 0, [], [], 0, [], [], 0, 0, [], []⟩
def kdB (b : List UInt8) : Int := (tkN b 1 : Nat)
def parI (b : List UInt8) : FrameM := if kdB b = 1 then fr1 b else if kdB b = 2 then fr2 b else if kdB b = 3 then fr3 b else if sealedB (kdB b) = true then frS (kdB b) b else frX (kdB b)
def getM (b : List UInt8) : FrameM × Bool := if frOk (parI b) && eqL (putM (parI b)) b then (parI b, true) else (fr0, false)
theorem parI_1 {b : List UInt8} (h : kdB b = 1) : parI b = fr1 b := if_pos h
theorem parI_2 {b : List UInt8} (h : kdB b = 2) : parI b = fr2 b := by rw [parI, if_neg (by rw [h]; decide), if_pos h]
theorem parI_3 {b : List UInt8} (h : kdB b = 3) : parI b = fr3 b := by rw [parI, if_neg (by rw [h]; decide), if_neg (by rw [h]; decide), if_pos h]
theorem parI_S {b : List UInt8} (h : sealedB (kdB b) = true) : parI b = frS (kdB b) b := by
  have := inB_iff.1 h
  rw [parI, if_neg (by omega), if_neg (by omega), if_neg (by omega), if_pos h]
theorem parI_X {b : List UInt8} (h1 : kdB b ≠ 1) (h2 : kdB b ≠ 2) (h3 : kdB b ≠ 3) (h : sealedB (kdB b) = false) : parI b = frX (kdB b) := by
  rw [parI, if_neg h1, if_neg h2, if_neg h3, if_neg (by simp [h])]
theorem frX_no {k : Int} (h1 : k ≠ 1) (h2 : k ≠ 2) (h3 : k ≠ 3) (h : sealedB k = false) : frOk (frX k) = false := by
  simp [frOk, frOkN, frX, h, h1, h2, h3]
theorem putM_no {f : FrameM} (h : frOk f = false) : putM f = [] := by rw [putM, if_neg (by simp [h])]
/-- a frame that is right is laid into at least one byte -/
theorem putM_pos {f : FrameM} (h : frOk f = true) : 34 ≤ (putM f).length := by
  unfold putM
  rw [if_pos h]
  split
  · rename_i h1
    have h9 : f.cn.length = 12 := by
      have h2 := h
      simp only [frOk, frOkN, h1, sealed_1, if_true, Bool.and_eq_true, not_neN, not_neI, Bool.false_eq_true, if_false] at h2
      have := eqN_iff (m := 12) |>.1 h2.1.2
      exact this
    simp [h9]
  · split
    · rename_i h1
      have h2 := h
      simp only [frOk, frOkN, h1, sealed_2, if_true, Bool.and_eq_true, not_neN, not_neI, Bool.false_eq_true, if_false, show ¬ (2 : Int) = 1 by decide] at h2
      have h3 := eqN_iff (m := 12) |>.1 h2.1.2
      have h4 := eqN_iff (m := 12) |>.1 h2.2.1.1.1.2
      have h5 := eqN_iff (m := 16) |>.1 h2.2.1.2
      simp [be_len, h3, h4, h5]
    · split
      · rename_i h1
        have h2 := h
        simp only [frOk, frOkN, h1, sealed_3, if_true, Bool.and_eq_true, not_neN, not_neI, Bool.false_eq_true, if_false, show ¬ (3 : Int) = 1 by decide, show ¬ (3 : Int) = 2 by decide] at h2
        have h3 := eqN_iff (m := 12) |>.1 h2.1.2
        have h4 := eqN_iff (m := 12) |>.1 h2.2.1.1.1.2
        have h5 := eqN_iff (m := 16) |>.1 h2.2.1.2
        have h6 := eqN_iff (m := 16) |>.1 h2.2.2
        simp [be_len, h3, h4, h5, h6]
      · rename_i k1 k2 k3
        have hs := frOk_O h k1 k2 k3
        have h2 := h
        simp only [frOk, frOkN, hs, if_true, Bool.and_eq_true] at h2
        obtain ⟨⟨⟨⟨⟨⟨⟨⟨⟨-, -⟩, h2⟩, -⟩, -⟩, -⟩, -⟩, -⟩, -⟩, h9⟩ := h2
        have h3 := eqN_iff (m := 12) |>.1 h2
        have h4 := eqN_iff (m := 16) |>.1 h9
        simp [be_len, h3, h4]
        omega
/-- the lengths of what a frame is laid into -/
theorem putM_len1 {f : FrameM} (h : frOk f = true) (hk : f.kind = 1) : (putM f).length = 34 := by
  have h2 := h
  simp only [frOk, frOkN, hk, sealed_1, if_true, Bool.and_eq_true, not_neN, not_neI, Bool.false_eq_true, if_false] at h2
  have h3 := eqN_iff (m := 12) |>.1 h2.1.2
  rw [putM, if_pos h, if_pos hk]
  simp [h3]
theorem putM_len2 {f : FrameM} (h : frOk f = true) (hk : f.kind = 2) : (putM f).length = 45 := by
  have h2 := h
  simp only [frOk, frOkN, hk, sealed_2, if_true, Bool.and_eq_true, not_neN, not_neI, Bool.false_eq_true, if_false, show ¬ (2 : Int) = 1 by decide] at h2
  have h3 := eqN_iff (m := 12) |>.1 h2.1.2
  have h4 := eqN_iff (m := 12) |>.1 h2.2.1.1.1.2
  have h5 := eqN_iff (m := 16) |>.1 h2.2.1.2
  rw [putM, if_pos h, if_neg (by rw [hk]; decide), if_pos hk]
  simp [be_len, h3, h4, h5]
theorem putM_len3 {f : FrameM} (h : frOk f = true) (hk : f.kind = 3) : (putM f).length = 62 := by
  have h2 := h
  simp only [frOk, frOkN, hk, sealed_3, if_true, Bool.and_eq_true, not_neN, not_neI, Bool.false_eq_true, if_false, show ¬ (3 : Int) = 1 by decide, show ¬ (3 : Int) = 2 by decide] at h2
  have h3 := eqN_iff (m := 12) |>.1 h2.1.2
  have h4 := eqN_iff (m := 12) |>.1 h2.2.1.1.1.2
  have h5 := eqN_iff (m := 16) |>.1 h2.2.1.2
  have h6 := eqN_iff (m := 16) |>.1 h2.2.2
  rw [putM, if_pos h, if_neg (by rw [hk]; decide), if_neg (by rw [hk]; decide), if_pos hk]
  simp [be_len, h3, h4, h5, h6]
theorem putM_lenS {f : FrameM} (h : frOk f = true) (hs : sealedB f.kind = true) : (putM f).length = 39 + f.body.length := by
  have hk := inB_iff.1 hs
  have h2 := h
  simp only [frOk, frOkN, hs, if_true, Bool.and_eq_true] at h2
  obtain ⟨⟨⟨⟨⟨⟨⟨⟨⟨-, -⟩, h2⟩, -⟩, -⟩, -⟩, -⟩, -⟩, -⟩, h9⟩ := h2
  have h3 := eqN_iff (m := 12) |>.1 h2
  have h4 := eqN_iff (m := 16) |>.1 h9
  rw [putM, if_pos h, if_neg (by omega), if_neg (by omega), if_neg (by omega)]
  simp [be_len, h3, h4]
  omega
def chkM (f : FrameM) (b : List UInt8) : FrameM × Bool := if eqL (putM f) b then (f, true) else (fr0, false)
theorem chkM_eq {f : FrameM} {b : List UInt8} (hb : b ≠ []) : chkM f b = if frOk f && eqL (putM f) b then (f, true) else (fr0, false) := by
  unfold chkM
  cases h : frOk f with
  | true => simp
  | false =>
    rw [putM_no h]
    have : eqL [] b = false := by cases b with
      | nil => exact absurd rfl hb
      | cons x r => rfl
    simp [this]
theorem getM_no {b : List UInt8} (h : frOk (parI b) = true → (putM (parI b)).length ≠ b.length) : getM b = (fr0, false) := by
  unfold getM
  rw [if_neg]
  rw [Bool.and_eq_true]
  rintro ⟨h1, h2⟩
  exact h h1 (by rw [eqL_iff.1 h2])
theorem chk_get {b : List UInt8} (hb : b ≠ []) : chkM (parI b) b = getM b := chkM_eq hb
theorem getM_1 {b : List UInt8} (h : kdB b = 1) (hl : b.length ≠ 34) : getM b = (fr0, false) :=
  getM_no fun h1 => by rw [parI_1 h] at h1 ⊢; rw [putM_len1 h1 rfl]; exact fun e => hl e.symm
theorem getM_2 {b : List UInt8} (h : kdB b = 2) (hl : b.length ≠ 45) : getM b = (fr0, false) :=
  getM_no fun h1 => by rw [parI_2 h] at h1 ⊢; rw [putM_len2 h1 rfl]; exact fun e => hl e.symm
theorem getM_3 {b : List UInt8} (h : kdB b = 3) (hl : b.length ≠ 62) : getM b = (fr0, false) :=
  getM_no fun h1 => by rw [parI_3 h] at h1 ⊢; rw [putM_len3 h1 rfl]; exact fun e => hl e.symm
theorem getM_X {b : List UInt8} (h1 : kdB b ≠ 1) (h2 : kdB b ≠ 2) (h3 : kdB b ≠ 3) (h : sealedB (kdB b) = false) : getM b = (fr0, false) :=
  getM_no fun h4 => by rw [parI_X h1 h2 h3 h, frX_no h1 h2 h3 h] at h4; cases h4
theorem getM_nil : getM [] = (fr0, false) := getM_X (by decide) (by decide) (by decide) (by decide)
theorem getM_S {b : List UInt8} (h : sealedB (kdB b) = true) (hl : b.length < 39) : getM b = (fr0, false) :=
  getM_no fun h1 => by
    rw [parI_S h] at h1 ⊢
    rw [putM_lenS h1 h]
    omega
/-- the reference's frame that is sealed -/
def frT (k : Int) (b : List UInt8) : FrameM := ⟨k, 0, [], cutL b 1 12, 0, [], [], (num (cutL b 13 4) : Nat), (num (cutL b 17 6) : Nat), b.drop 39, cutL b 23 16⟩
theorem tkN_cut {b : List UInt8} {i k : Nat} (h : i + k ≤ b.length) : tkN (b.drop i) k = num (cutL b i k) := by
  rw [tkN, if_pos (by rw [List.length_drop]; omega), cutL]
theorem body41 {k : Int} {n : Nat} (h : 40 < n) : bodyB k n = false := by
  cases h1 : bodyB k n with
  | false => rfl
  | true => have := bodyB_le h1; omega
theorem chk_T {b : List UInt8} (h1 : kdB b ≠ 1) (h2 : kdB b ≠ 2) (h3 : kdB b ≠ 3) (hl : 39 ≤ b.length) : chkM (frT (kdB b) b) b = getM b := by
  have hb : b ≠ [] := by intro e; subst e; simp at hl
  cases h : sealedB (kdB b) with
  | false =>
    rw [getM_X h1 h2 h3 h, chkM_eq hb]
    have : frOk (frT (kdB b) b) = false := by simp [frOk, frOkN, frT, h, h1, h2, h3]
    simp [this]
  | true =>
    have e1 := tkN_cut (b := b) (i := 13) (k := 4) (by omega)
    have e2 := tkN_cut (b := b) (i := 17) (k := 6) (by omega)
    by_cases h80 : b.length ≤ 80
    · have e3 : cutL b 39 41 = b.drop 39 := by rw [cutL, List.take_of_length_le (by rw [List.length_drop]; omega)]
      rw [← chk_get hb, parI_S h, frS, frT, e1, e2, e3]
    · have : frOk (frT (kdB b) b) = false := by
        simp only [frOk, frOkN, frT, h, if_true, List.length_drop]
        rw [body41 (by omega)]
        simp
      rw [chkM_eq hb, this]
      have h5 : frOk (frS (kdB b) b) = false := by
        simp only [frOk, frOkN, frS, h, if_true]
        rw [body41 (by rw [cutL_len (by omega)]; omega)]
        simp
      rw [getM, parI_S h, h5]
      simp
end Go.Proofs.Ytgeoeacfkacdpaa
