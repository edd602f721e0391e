/-
  Plain laws on cookies and keys: what a cookie's minter judges; the key of an epoch is derived from the one before; the sum of a block is what two blocks compress to. Conditions: none beside those that each theorem names.
-/
import Derived.Test.YtpkhmbibemfhhaaAuth
import Derived.Test.YtpkhmbibemfhhaaPlSeal
namespace Go.Proofs.Ytpkhmbibemfhhaa
open Go.RowKit
theorem sha_block {b : List UInt8} (hb : b.length = 64) : shaM b = outB (compM (compM startL b) (padM 64)) := by
  have hp : (padM 64).length = 64 := by rw [padM_len]; rfl
  rw [shaM, if_pos (by omega), shaL, hb, show (b ++ padM 64).length / 64 = 2 by rw [List.length_append, hb, hp]]
  simp only [cTo, Nat.mul_zero, List.drop_zero, Nat.mul_one]
  rw [List.take_append_of_le_length (by omega), List.take_of_length_le (by omega), List.drop_append, List.drop_of_length_le (by omega), hb]
  simp only [List.nil_append, Nat.sub_self, List.drop_zero]
  rw [List.take_of_length_le (by omega)]
theorem chain_next {key : List UInt8} {n : Int} (h1 : 1 ≤ n) (h2 : n ≤ 64) : chainM key n = derM (chainM key (n - 1)) lRe := by
  rw [chainM, if_pos (by omega), chainM, if_pos (by omega)]
  obtain ⟨k, rfl⟩ := Int.eq_ofNat_of_zero_le (show 0 ≤ n - 1 by omega) |> fun ⟨k, hk⟩ => (⟨k, by omega⟩ : ∃ k : Nat, n = (k : Int) + 1)
  rw [show ((k : Int) + 1).toNat = k + 1 by omega, show ((k : Int) + 1 - 1).toNat = k by omega]
  rfl
theorem chain_0 (key : List UInt8) : chainM key 0 = key := rfl
theorem rootM_len {psk cn sn : List UInt8} (h1 : 1 ≤ psk.length) (h2 : psk.length ≤ 32) (h3 : cn.length = 12) (h4 : sn.length = 12) : (rootM psk cn sn).length = 32 := by
  rw [rootM, if_pos (by simp [rootOk]; omega)]
  exact hmacM_len (by simp; omega) (by omega)
theorem firstM_len {root : List UInt8} (h : root.length = 32) : (firstM root).length = 32 := by
  rw [firstM, if_pos h, derM, if_pos (by rw [h]; decide)]
  exact hmacM_len (by omega) (by decide)
theorem firstM_no {psk cn sn : List UInt8} (h : rootOk psk.length cn.length sn.length = false) : firstM (rootM psk cn sn) = [] := by
  rw [rootM, h]
  rfl
structure CookOk (s : List UInt8) (h p id : Int) (cn sn : List UInt8) (tick : Int) : Prop where
  sl : s.length = 32
  ml : (cookM s h p id cn sn tick).length = 16
  ok : frOk ⟨3, id, cn, sn, tick, cookM s h p id cn sn tick, cookM s h p id cn sn tick, 0, 0, [], []⟩ = true
  ad : addrOkB h p = true
  t0 : 0 ≤ tick
  t1 : tick ≤ 1000000
theorem mintOk_iff {h p id : Int} {cn sn : Nat} {tick : Int} : mintOk h p id cn sn tick = true ↔ addrOkB h p = true ∧ (1 ≤ id ∧ id ≤ 9) ∧ cn = 12 ∧ sn = 12 ∧ (0 ≤ tick ∧ tick ≤ 1000000) := by
  simp only [mintOk, Bool.and_eq_true, inB_iff, beq_iff_eq]
  constructor
  · rintro ⟨⟨⟨⟨a, b⟩, c⟩, d⟩, e⟩
    exact ⟨a, b, by omega, by omega, e⟩
  · rintro ⟨a, b, c, d, e⟩
    exact ⟨⟨⟨⟨a, b⟩, by omega⟩, by omega⟩, e⟩
theorem cookOk {s : List UInt8} {h p id : Int} {cn sn : List UInt8} {tick : Int} (hne : (cookM s h p id cn sn tick).length ≠ 0) : CookOk s h p id cn sn tick := by
  have h0 : s.length = 32 ∧ (mintM h p id cn sn tick).length ≠ 0 := by
    unfold cookM at hne
    split at hne
    · assumption
    · exact absurd rfl hne
  have h1 : mintOk h p id cn.length sn.length tick = true := by
    have := h0.2
    unfold mintM at this
    split at this
    · assumption
    · exact absurd rfl this
  obtain ⟨a1, a2, a3, a4, a5⟩ := mintOk_iff.1 h1
  have hl : (mintM h p id cn sn tick).length ≤ 65 := by
    rw [mintM, if_pos h1]
    have := addrM_len [99] h p
    simp only [List.length_append, be_len, List.length_singleton] at this ⊢
    omega
  have ml : (cookM s h p id cn sn tick).length = 16 := by
    rw [cookM, if_pos h0]
    exact tagM_len h0.1 hl
  refine ⟨h0.1, ml, ?_, a1, a5.1, a5.2⟩
  simp [frOk, frOkN, sealed_3, neI, neN, eqI, eqN, ml, a3, a4, inB]
  omega
theorem CookOk.judge {s : List UInt8} {h p id : Int} {cn sn : List UInt8} {tick : Int} (k : CookOk s h p id cn sn tick) {ck : List UInt8} (hc : ck.length = 16) {now : Int} (hn : tick ≤ now) (hn2 : now ≤ tick + 13) :
    judgeM s now h p ⟨3, id, cn, sn, tick, ck, cookM s h p id cn sn tick, 0, 0, [], []⟩ = (if 1000000 < now then 1 else if tick + 10 < now then 9 else if ck = cookM s h p id cn sn tick then 0 else 2) := by
  have ok := k.ok
  have hok : frOk ⟨3, id, cn, sn, tick, ck, cookM s h p id cn sn tick, 0, 0, [], []⟩ = true := by
    rw [← ok]
    simp only [frOk, hc, k.ml]
  have h0 := k.t0
  have h1 := k.t1
  have hw : wrap64 (now - tick) = now - tick := by
    unfold wrap64
    omega
  simp only [judgeM, k.sl, k.ad, hok, eqI]
  by_cases c1 : 1000000 < now
  · rw [if_pos c1, inB_f2 (by omega)]
    rfl
  · rw [if_neg c1, inB_t (by omega) (by omega)]
    have hf : freshM now tick = decide (now ≤ tick + 10) := by
      rw [freshM, inB_t (by omega) (by omega), inB_t h0 h1, hw]
      simp only [inB, Bool.true_and, decide_eq_decide]
      omega
    rw [hf]
    by_cases c2 : tick + 10 < now
    · rw [if_pos c2]
      simp [show ¬ now ≤ tick + 10 by omega]
    · rw [if_neg c2]
      simp [show now ≤ tick + 10 by omega, sameT, hc]
end Go.Proofs.Ytpkhmbibemfhhaa
