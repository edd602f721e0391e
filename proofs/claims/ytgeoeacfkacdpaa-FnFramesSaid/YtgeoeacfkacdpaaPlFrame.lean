/-
  Plain laws on frames: a frame is read from its bytes; what is read lays the same bytes; but for data, cut bytes are no frame. Conditions: none beside those that each theorem names.
-/
import Derived.Test.YtgeoeacfkacdpaaFrP
import Derived.Test.YtgeoeacfkacdpaaPlHead
namespace Go.Proofs.Ytgeoeacfkacdpaa
open Go.RowKit
theorem cut_at {b pre x post : List UInt8} {i k : Nat} (hb : b = pre ++ (x ++ post)) (hi : pre.length = i) (hk : x.length = k) : cutL b i k = x := by
  subst hb hi hk
  rw [cutL, List.drop_left, List.take_left]
theorem tkN_at {b pre post : List UInt8} {n i k : Nat} (hb : b = pre ++ (be n k ++ post)) (hi : pre.length = i) (hn : n < 256 ^ k) : tkN (b.drop i) k = n := by
  rw [tkN_cut (by rw [hb]; simp [be_len]; omega), cut_at hb hi (be_len _ _), num_be, Nat.mod_eq_of_lt hn]
theorem num1 (x : UInt8) : num [x] = x.toNat := by simp [num]
theorem tkN1_at {b pre post : List UInt8} {x : UInt8} {i : Nat} (hb : b = pre ++ ([x] ++ post)) (hi : pre.length = i) : tkN (b.drop i) 1 = x.toNat := by
  rw [tkN_cut (by rw [hb]; simp; omega), cut_at hb hi (show [x].length = 1 from rfl), num1]
theorem kdB_at {b post : List UInt8} {k : Int} (hb : b = [b8 k] ++ post) (h0 : 0 ≤ k) (h1 : k < 256) : kdB b = k := by
  have := tkN1_at (b := b) (pre := []) (post := post) (x := b8 k) (i := 0) (by rw [hb]; rfl) rfl
  rw [List.drop_zero] at this
  rw [kdB, this, b8_val h0 h1]
theorem len0 {l : List UInt8} (h : eqN l.length 0 = true) : l = [] := by
  have := eqN_iff (m := 0) |>.1 h
  exact List.eq_nil_of_length_eq_zero this
theorem eqI_0 {x y : Int} (h : eqI x y = true) : x = y := eqI_iff.1 h
theorem parI_put {f : FrameM} (h : frOk f = true) : parI (putM f) = f := by
  have hp : putM f = if f.kind = 1 then [1, b8 f.id] ++ f.cn ++ List.replicate 20 0
     else if f.kind = 2 then [2] ++ f.cn ++ f.sn ++ be f.tick.toNat 4 ++ f.cookie
     else if f.kind = 3 then [3, b8 f.id] ++ f.cn ++ f.sn ++ be f.tick.toNat 4 ++ f.cookie ++ f.proof
     else [b8 f.kind] ++ f.sn ++ be f.epoch.toNat 4 ++ be f.seq.toNat 6 ++ f.tag ++ f.body := by rw [putM, if_pos h]
  generalize putM f = b at hp ⊢
  obtain ⟨kind, id, cn, sn, tick, cookie, proof, epoch, seq, body, tag⟩ := f
  simp only at hp
  by_cases k1 : kind = 1
  · subst k1
    simp only [frOk, frOkN, sealed_1, if_true, Bool.and_eq_true, inB_iff, not_neN, not_neI, Bool.false_eq_true, if_false] at h
    obtain ⟨⟨⟨⟨⟨a1, a2⟩, a3⟩, a4⟩, a5⟩, ⟨⟨⟨⟨i1, i2⟩, b2⟩, b3⟩, b4⟩, b5⟩ := h
    obtain rfl := eqI_0 a1
    obtain rfl := eqI_0 a2
    obtain rfl := len0 a3
    obtain rfl := len0 a4
    obtain rfl := len0 b2
    obtain rfl := eqI_0 b3
    obtain rfl := len0 b4
    obtain rfl := len0 b5
    have c1 := eqN_iff (m := 12) |>.1 a5
    rw [if_pos rfl] at hp
    have q0 := kdB_at (b := b) (k := 1) (post := [b8 id] ++ cn ++ List.replicate 20 0) (by rw [hp]; simp [b8])  (by decide) (by decide)
    have q1 := tkN1_at (b := b) (i := 1) (pre := [1]) (x := b8 id) (post := cn ++ List.replicate 20 0) (by rw [hp]; simp) rfl
    have q2 := cut_at (b := b) (i := 2) (k := 12) (pre := [1, b8 id]) (x := cn) (post := List.replicate 20 0) (by rw [hp]; simp) rfl c1
    rw [parI_1 q0, fr1, q1, q2, b8_val (by omega) (by omega)]
  · rw [if_neg k1] at hp
    by_cases k2 : kind = 2
    · subst k2
      simp only [frOk, frOkN, sealed_2, if_true, Bool.and_eq_true, inB_iff, not_neN, not_neI, Bool.false_eq_true, if_false, show ¬ (2 : Int) = 1 by decide] at h
      obtain ⟨⟨⟨⟨⟨a1, a2⟩, a3⟩, a4⟩, a5⟩, ⟨⟨⟨b1, b2⟩, ⟨b3, b6⟩⟩, b4⟩, b5⟩ := h
      obtain rfl := eqI_0 a1
      obtain rfl := eqI_0 a2
      obtain rfl := len0 a3
      obtain rfl := len0 a4
      obtain rfl := eqI_0 b1
      obtain rfl := len0 b5
      have c1 := eqN_iff (m := 12) |>.1 a5
      have c2 := eqN_iff (m := 12) |>.1 b2
      have c3 := eqN_iff (m := 16) |>.1 b4
      rw [if_pos rfl] at hp
      have q0 := kdB_at (b := b) (k := 2) (post := cn ++ sn ++ be tick.toNat 4 ++ cookie) (by rw [hp]; simp [b8])  (by decide) (by decide)
      have q1 := cut_at (b := b) (i := 1) (k := 12) (pre := [2]) (x := cn) (post := sn ++ be tick.toNat 4 ++ cookie) (by rw [hp]; simp) rfl c1
      have q2 := cut_at (b := b) (i := 13) (k := 12) (pre := [2] ++ cn) (x := sn) (post := be tick.toNat 4 ++ cookie) (by rw [hp]; simp) (by simp [c1]) c2
      have q3 := tkN_at (b := b) (i := 25) (k := 4) (pre := [2] ++ cn ++ sn) (n := tick.toNat) (post := cookie) (by rw [hp]; simp) (by simp [c1, c2]) (by omega)
      have q4 := cut_at (b := b) (i := 29) (k := 16) (pre := [2] ++ cn ++ sn ++ be tick.toNat 4) (x := cookie) (post := []) (by rw [hp]; simp) (by simp [c1, c2, be_len]) c3
      rw [parI_2 q0, fr2, q1, q2, q3, q4]
      rw [show ((tick.toNat : Nat) : Int) = tick by omega]
    · rw [if_neg k2] at hp
      by_cases k3 : kind = 3
      · subst k3
        simp only [frOk, frOkN, sealed_3, if_true, Bool.and_eq_true, inB_iff, not_neN, not_neI, Bool.false_eq_true, if_false, show ¬ (3 : Int) = 1 by decide, show ¬ (3 : Int) = 2 by decide] at h
        obtain ⟨⟨⟨⟨⟨a1, a2⟩, a3⟩, a4⟩, a5⟩, ⟨⟨⟨⟨b1, b7⟩, b2⟩, ⟨b3, b6⟩⟩, b4⟩, b5⟩ := h
        obtain rfl := eqI_0 a1
        obtain rfl := eqI_0 a2
        obtain rfl := len0 a3
        obtain rfl := len0 a4
        have c1 := eqN_iff (m := 12) |>.1 a5
        have c2 := eqN_iff (m := 12) |>.1 b2
        have c3 := eqN_iff (m := 16) |>.1 b4
        have c4 := eqN_iff (m := 16) |>.1 b5
        rw [if_pos rfl] at hp
        have q0 := kdB_at (b := b) (k := 3) (post := [b8 id] ++ cn ++ sn ++ be tick.toNat 4 ++ cookie ++ proof) (by rw [hp]; simp [b8])  (by decide) (by decide)
        have q1 := tkN1_at (b := b) (i := 1) (pre := [3]) (x := b8 id) (post := cn ++ sn ++ be tick.toNat 4 ++ cookie ++ proof) (by rw [hp]; simp) rfl
        have q2 := cut_at (b := b) (i := 2) (k := 12) (pre := [3, b8 id]) (x := cn) (post := sn ++ be tick.toNat 4 ++ cookie ++ proof) (by rw [hp]; simp) rfl c1
        have q3 := cut_at (b := b) (i := 14) (k := 12) (pre := [3, b8 id] ++ cn) (x := sn) (post := be tick.toNat 4 ++ cookie ++ proof) (by rw [hp]; simp) (by simp [c1]) c2
        have q4 := tkN_at (b := b) (i := 26) (k := 4) (pre := [3, b8 id] ++ cn ++ sn) (n := tick.toNat) (post := cookie ++ proof) (by rw [hp]; simp) (by simp [c1, c2]) (by omega)
        have q5 := cut_at (b := b) (i := 30) (k := 16) (pre := [3, b8 id] ++ cn ++ sn ++ be tick.toNat 4) (x := cookie) (post := proof) (by rw [hp]; simp) (by simp [c1, c2, be_len]) c3
        have q6 := cut_at (b := b) (i := 46) (k := 16) (pre := [3, b8 id] ++ cn ++ sn ++ be tick.toNat 4 ++ cookie) (x := proof) (post := []) (by rw [hp]; simp) (by simp [c1, c2, be_len, c3]) c4
        rw [parI_3 q0, fr3, q1, q2, q3, q4, q5, q6]
        rw [show ((tick.toNat : Nat) : Int) = tick by omega, b8_val (by omega) (by omega)]
      · rw [if_neg k3] at hp
        have hs : sealedB kind = true := frOk_O h k1 k2 k3
        have hk := inB_iff.1 hs
        simp only [frOk, frOkN, hs, if_true, Bool.and_eq_true, inB_iff] at h
        obtain ⟨⟨⟨⟨⟨⟨⟨⟨⟨a1, a2⟩, a3⟩, a4⟩, a5⟩, a6⟩, ⟨a7, a8⟩⟩, ⟨b1, b2⟩⟩, b3⟩, b4⟩ := h
        obtain rfl := eqI_0 a1
        obtain rfl := len0 a2
        obtain rfl := eqI_0 a4
        obtain rfl := len0 a5
        obtain rfl := len0 a6
        have c1 := eqN_iff (m := 12) |>.1 a3
        have c2 := eqN_iff (m := 16) |>.1 b4
        have c3 := bodyB_le b3
        have kd := kdB_at (b := b) (k := kind) (post := sn ++ be epoch.toNat 4 ++ be seq.toNat 6 ++ tag ++ body) (by rw [hp]; simp) (by omega) (by omega)
        have q1 := cut_at (b := b) (i := 1) (k := 12) (pre := [b8 kind]) (x := sn) (post := be epoch.toNat 4 ++ be seq.toNat 6 ++ tag ++ body) (by rw [hp]; simp) rfl c1
        have q2 := tkN_at (b := b) (i := 13) (k := 4) (pre := [b8 kind] ++ sn) (n := epoch.toNat) (post := be seq.toNat 6 ++ tag ++ body) (by rw [hp]; simp) (by simp [c1]) (by omega)
        have q3 := tkN_at (b := b) (i := 17) (k := 6) (pre := [b8 kind] ++ sn ++ be epoch.toNat 4) (n := seq.toNat) (post := tag ++ body) (by rw [hp]; simp) (by simp [c1, be_len]) (by omega)
        have q4 := cut_at (b := b) (i := 23) (k := 16) (pre := [b8 kind] ++ sn ++ be epoch.toNat 4 ++ be seq.toNat 6) (x := tag) (post := body) (by rw [hp]; simp) (by simp [c1, be_len]) c2
        have q5 : cutL b 39 41 = body := by
          rw [hp, cutL, show 39 = ([b8 kind] ++ sn ++ be epoch.toNat 4 ++ be seq.toNat 6 ++ tag).length by simp [c1, be_len, c2], List.drop_left]
          exact List.take_of_length_le (by omega)
        rw [parI_S (by rw [kd]; exact hs), kd, frS, q1, q2, q3, q4, q5, show ((epoch.toNat : Nat) : Int) = epoch by omega, show ((seq.toNat : Nat) : Int) = seq by omega]
theorem getM_put {f : FrameM} (h : frOk f = true) : getM (putM f) = (f, true) := by
  rw [getM, parI_put h, if_pos (by rw [h, eqL_iff.2 rfl]; rfl)]
theorem getM_ok {b : List UInt8} (h : (getM b).2 = true) : frOk (getM b).1 = true ∧ putM (getM b).1 = b := by
  unfold getM at h ⊢
  split at h
  · rename_i h1
    rw [if_pos h1]
    rw [Bool.and_eq_true] at h1
    exact ⟨h1.1, eqL_iff.1 h1.2⟩
  · cases h
theorem putM_le79 {f : FrameM} (h : frOk f = true) : (putM f).length ≤ 79 := by
  by_cases k1 : f.kind = 1
  · rw [putM_len1 h k1]; decide
  by_cases k2 : f.kind = 2
  · rw [putM_len2 h k2]; decide
  by_cases k3 : f.kind = 3
  · rw [putM_len3 h k3]; decide
  have hs := frOk_O h k1 k2 k3
  have := (frOk_S h hs).2.2.1
  rw [putM_lenS h hs]
  omega
theorem putM_kd {f : FrameM} (h : frOk f = true) {b : List UInt8} (hb : b.take 1 = (putM f).take 1) (hl : 1 ≤ b.length) : kdB b = f.kind := by
  have h1 : kdB (putM f) = f.kind := by
    have h2 := parI_put h
    by_cases k1 : kdB (putM f) = 1
    · rw [parI_1 k1] at h2; rw [k1, ← h2]; rfl
    by_cases k2 : kdB (putM f) = 2
    · rw [parI_2 k2] at h2; rw [k2, ← h2]; rfl
    by_cases k3 : kdB (putM f) = 3
    · rw [parI_3 k3] at h2; rw [k3, ← h2]; rfl
    cases hs : sealedB (kdB (putM f)) with
    | true => rw [parI_S hs] at h2; exact congrArg FrameM.kind h2
    | false => rw [parI_X k1 k2 k3 hs] at h2; exact congrArg FrameM.kind h2
  rw [← h1, kdB, kdB, tkN, tkN, if_pos hl, if_pos (by have := putM_pos h; omega), hb]
theorem getM_cut {f : FrameM} (h : frOk f = true) (hc : (getM ((putM f).take ((putM f).length - 1))).2 = true) : f.kind = 4 := by
  have hp := putM_pos h
  obtain ⟨h1, h2⟩ := getM_ok hc
  have hl : ((putM f).take ((putM f).length - 1)).length = (putM f).length - 1 := by rw [List.length_take]; omega
  have hk : kdB ((putM f).take ((putM f).length - 1)) = f.kind := putM_kd h (by rw [List.take_take, Nat.min_eq_left (by omega)]) (by omega)
  generalize getM ((putM f).take ((putM f).length - 1)) = g at h1 h2
  have hg : kdB (putM g.1) = g.1.kind := putM_kd h1 rfl (by have := putM_pos h1; omega)
  rw [h2, hk] at hg
  have hz := congrArg List.length h2
  rw [hl] at hz
  by_cases k1 : f.kind = 1
  · rw [putM_len1 h k1, putM_len1 h1 (by rw [← hg, k1])] at hz; omega
  by_cases k2 : f.kind = 2
  · rw [putM_len2 h k2, putM_len2 h1 (by rw [← hg, k2])] at hz; omega
  by_cases k3 : f.kind = 3
  · rw [putM_len3 h k3, putM_len3 h1 (by rw [← hg, k3])] at hz; omega
  have hs := frOk_O h k1 k2 k3
  have hs1 : sealedB g.1.kind = true := by rw [← hg]; exact hs
  rw [putM_lenS h hs, putM_lenS h1 hs1] at hz
  by_cases k4 : f.kind = 4
  · exact k4
  exfalso
  simp only [frOk, frOkN, hs, if_true, Bool.and_eq_true] at h
  simp only [frOk, frOkN, hs1, if_true, Bool.and_eq_true] at h1
  have b1 := h.1.2
  have b2 := h1.1.2
  rw [← hg] at b2
  unfold bodyB at b1 b2
  rw [if_neg k4] at b1 b2
  split at b1 <;> simp_all <;> omega
end Go.Proofs.Ytgeoeacfkacdpaa
