/-
  FnCookies returns true for every code; with the draws and the small functions that this law alone asks for. Conditions: none.
-/
import Derived.Test.YtjdaafemfpafdaaAuth
import Derived.Test.YtjdaafemfpafdaaPlSeal
import Derived.Test.YtjdaafemfpafdaaLawH
import Derived.Test.YtjdaafemfpafdaaMac
import Derived.Test.YtjdaafemfpafdaaGet
import Derived.Test.YtjdaafemfpafdaaDrw
import Derived.Test.YtjdaafemfpafdaaDrO
import Derived.Test.YtjdaafemfpafdaaDrJ
import Derived.Test.YtjdaafemfpafdaaKeys2
import Derived.Test.YtjdaafemfpafdaaSet1
import Derived.Test.YtjdaafemfpafdaaLaw
import Derived.Deep.RegionHeld3
import Derived.Deep.RegionWith
import Derived.IntWalk
/-
  Plain laws on cookies and keys: what a cookie's minter judges; the key of an epoch is derived from the one before; the sum of a block is what two blocks compress to. Conditions: none beside those that each theorem names.
-/
namespace Go.Proofs.Ytjdaafemfpafdaa
open Go.RowKit
theorem sha_block {b : List UInt8} (hb : b.length = 64) : shaM b = outB (compM (compM startL b) (padM 64)) := by
  have hp : (padM 64).length = 64 := by rw [padM_len]; rfl
  rw [shaM, if_pos (by omega), shaL, hb, show (b ++ padM 64).length / 64 = 2 by rw [List.length_append, hb, hp]]
  simp only [cTo, Nat.mul_zero, List.drop_zero, Nat.mul_one]
  rw [List.take_append_of_le_length (by omega), List.take_of_length_le (by omega), List.drop_append, List.drop_of_length_le (by omega), hb]
  simp only [List.nil_append, Nat.sub_self, List.drop_zero]
  rw [List.take_of_length_le (by omega)]
theorem chain_next {key : List UInt8} {n : Int} (h1 : 1 ≤ n) (h2 : n ≤ 64) : chainM key n = derM (chainM key (n - 1)) lRe := by
  rw [chainM, if_pos (by omega), chainM, if_pos (by omega)]
  obtain ⟨k, rfl⟩ := Int.eq_ofNat_of_zero_le (show 0 ≤ n - 1 by omega) |> fun ⟨k, hk⟩ => (⟨k, by omega⟩ : ∃ k : Nat, n = (k : Int) + 1)
  rw [show ((k : Int) + 1).toNat = k + 1 by omega, show ((k : Int) + 1 - 1).toNat = k by omega]
  rfl
theorem chain_0 (key : List UInt8) : chainM key 0 = key := rfl
theorem rootM_len {psk cn sn : List UInt8} (h1 : 1 ≤ psk.length) (h2 : psk.length ≤ 32) (h3 : cn.length = 12) (h4 : sn.length = 12) : (rootM psk cn sn).length = 32 := by
  rw [rootM, if_pos (by simp [rootOk]; omega)]
  exact hmacM_len (by simp; omega) (by omega)
theorem firstM_len {root : List UInt8} (h : root.length = 32) : (firstM root).length = 32 := by
  rw [firstM, if_pos h, derM, if_pos (by rw [h]; decide)]
  exact hmacM_len (by omega) (by decide)
theorem firstM_no {psk cn sn : List UInt8} (h : rootOk psk.length cn.length sn.length = false) : firstM (rootM psk cn sn) = [] := by
  rw [rootM, h]
  rfl
structure CookOk (s : List UInt8) (h p id : Int) (cn sn : List UInt8) (tick : Int) : Prop where
  sl : s.length = 32
  ml : (cookM s h p id cn sn tick).length = 16
  ok : frOk ⟨3, id, cn, sn, tick, cookM s h p id cn sn tick, cookM s h p id cn sn tick, 0, 0, [], []⟩ = true
  ad : addrOkB h p = true
  t0 : 0 ≤ tick
  t1 : tick ≤ 1000000
theorem mintOk_iff {h p id : Int} {cn sn : Nat} {tick : Int} : mintOk h p id cn sn tick = true ↔ addrOkB h p = true ∧ (1 ≤ id ∧ id ≤ 9) ∧ cn = 12 ∧ sn = 12 ∧ (0 ≤ tick ∧ tick ≤ 1000000) := by
  simp only [mintOk, Bool.and_eq_true, inB_iff, beq_iff_eq]
  constructor
  · rintro ⟨⟨⟨⟨a, b⟩, c⟩, d⟩, e⟩
    exact ⟨a, b, by omega, by omega, e⟩
  · rintro ⟨a, b, c, d, e⟩
    exact ⟨⟨⟨⟨a, b⟩, by omega⟩, by omega⟩, e⟩
theorem cookOk {s : List UInt8} {h p id : Int} {cn sn : List UInt8} {tick : Int} (hne : (cookM s h p id cn sn tick).length ≠ 0) : CookOk s h p id cn sn tick := by
  have h0 : s.length = 32 ∧ (mintM h p id cn sn tick).length ≠ 0 := by
    unfold cookM at hne
    split at hne
    · assumption
    · exact absurd rfl hne
  have h1 : mintOk h p id cn.length sn.length tick = true := by
    have := h0.2
    unfold mintM at this
    split at this
    · assumption
    · exact absurd rfl this
  obtain ⟨a1, a2, a3, a4, a5⟩ := mintOk_iff.1 h1
  have hl : (mintM h p id cn sn tick).length ≤ 65 := by
    rw [mintM, if_pos h1]
    have := addrM_len [99] h p
    simp only [List.length_append, be_len, List.length_singleton] at this ⊢
    omega
  have ml : (cookM s h p id cn sn tick).length = 16 := by
    rw [cookM, if_pos h0]
    exact tagM_len h0.1 hl
  refine ⟨h0.1, ml, ?_, a1, a5.1, a5.2⟩
  simp [frOk, frOkN, sealed_3, neI, neN, eqI, eqN, ml, a3, a4, inB]
  omega
theorem CookOk.judge {s : List UInt8} {h p id : Int} {cn sn : List UInt8} {tick : Int} (k : CookOk s h p id cn sn tick) {ck : List UInt8} (hc : ck.length = 16) {now : Int} (hn : tick ≤ now) (hn2 : now ≤ tick + 13) :
    judgeM s now h p ⟨3, id, cn, sn, tick, ck, cookM s h p id cn sn tick, 0, 0, [], []⟩ = (if 1000000 < now then 1 else if tick + 10 < now then 9 else if ck = cookM s h p id cn sn tick then 0 else 2) := by
  have ok := k.ok
  have hok : frOk ⟨3, id, cn, sn, tick, ck, cookM s h p id cn sn tick, 0, 0, [], []⟩ = true := by
    rw [← ok]
    simp only [frOk, hc, k.ml]
  have h0 := k.t0
  have h1 := k.t1
  have hw : wrap64 (now - tick) = now - tick := by
    unfold wrap64
    omega
  simp only [judgeM, k.sl, k.ad, hok, eqI]
  by_cases c1 : 1000000 < now
  · rw [if_pos c1, inB_f2 (by omega)]
    rfl
  · rw [if_neg c1, inB_t (by omega) (by omega)]
    have hf : freshM now tick = decide (now ≤ tick + 10) := by
      rw [freshM, inB_t (by omega) (by omega), inB_t h0 h1, hw]
      simp only [inB, Bool.true_and, decide_eq_decide]
      omega
    rw [hf]
    by_cases c2 : tick + 10 < now
    · rw [if_pos c2]
      simp [show ¬ now ≤ tick + 10 by omega]
    · rw [if_neg c2]
      simp [show now ≤ tick + 10 by omega, sameT, hc]
end Go.Proofs.Ytjdaafemfpafdaa

/-
  Contracts of the small functions of the laws: a byte of the code, a slice's beginning, a bent slice. Conditions: none beside those that each theorem names.
-/
namespace Go.Proofs.Ytjdaafemfpafdaa
open Go.RowKit
set_option maxHeartbeats 1000000 in
theorem laws_at (a : Option Addr) (n c : Nat) (l : List UInt8) (x : Int) (w : World) (h : Rd w a n c (bys l)) (hn : n ≤ 1048576) (h0 : 0 ≤ x) (h1 : x ≤ 10) :
    Calls Try.prog 14 #[.slice a n c, .int .i64 x] w fun e w' => ∃ k : Nat, k < 256 ∧ e = .returned (.int .i64 (k : Int)) ∧ w = w' := by
  obtain ⟨j, rfl⟩ := Int.eq_ofNat_of_zero_le h0
  by_cases hj : j < n
  · obtain ⟨b, off, y, rfl, hy, hc⟩ := h.byte j hj
    have yt := y.toNat_lt
    go_enter Try.func14, Try.ntmps14
    go_wp2
    go_ret
    exact ⟨y.toNat, by omega, rfl, rfl⟩
  · go_enter Try.func14, Try.ntmps14
    go_wp2
    go_ret
    refine ⟨(((j : Int) * 31 + (n : Int) * 7) % 256).toNat, by omega, ret_i (by omega), rfl⟩
set_option maxRecDepth 1000000 in
set_option maxHeartbeats 4000000 in
/-- a slice begins with its beginning -/
theorem laws_starts_t (b off n c : Nat) (q : Option Addr) (m d : Nat) (k s : List UInt8) (w : World) (h1 : Rd w (some ⟨b, off, none⟩) n c (bys (k ++ s))) (h2 : Rd w q m d (bys k)) :
    Calls Try.prog 29 #[.slice (some ⟨b, off, none⟩) n c, .slice q m d] w fun e w' => e = .returned (.bool true) ∧ w.grownBy w' none := by
  have e1 := h1.blen
  have e2 := h2.blen
  rw [List.length_append] at e1
  have hmn : m ≤ n := by omega
  have hnc : n ≤ c := h1.le
  have hmc : m ≤ c := by omega
  have h3 : Rd w (some ⟨b, off, none⟩) m c (bys k) := by
    refine ⟨by rw [bys_len]; exact e2, hmc, fun j hj => ?_⟩
    obtain ⟨b', off', e, hc⟩ := h1.cells j (by omega)
    refine ⟨b', off', e, ?_⟩
    rw [hc, bys, bys, List.map_append, List.getElem?_append_left (by rw [List.length_map]; omega)]
  have KX : Hid (∀ w', w.grownBy w' none → ((convert 22 9 (.slice (some ⟨b, off, none⟩) m c)).run Try.prog w' = .ok (.string (str k)) w' ∧ (convert 22 9 (.slice q m d)).run Try.prog w' = .ok (.string (str k)) w') ∧ w.grownBy w' none) := fun w' g =>
    ⟨⟨(h3.keep0 g).conv (P := Try.prog) 22 5 9 Try.underlying22 Try.underlying5 Try.underlying9, (h2.keep0 g).conv (P := Try.prog) 22 5 9 Try.underlying22 Try.underlying5 Try.underlying9⟩, g⟩
  clear e1 e2
  go_enter Try.func29, Try.ntmps29
  go_wp2
  refine wp_region_held_drew (S := (fun w' => ((convert 22 9 (.slice (some ⟨b, off, none⟩) m c)).run Try.prog w' = .ok (.string (str k)) w' ∧ (convert 22 9 (.slice q m d)).run Try.prog w' = .ok (.string (str k)) w') ∧ w.grownBy w' none)) (by kernel_rfl) ?_ (fun hHeld => ?_)
  · (try dsimp only)
    (refine KX.out _ ?_; (repeat (first | with_reducible exact gb_refl _ | with_reducible refine gb_alloc ?_ _ | with_reducible refine gb_drewN ?_ _ | with_reducible refine gb_drew ?_)))
  refine wpAnyH_takeD (i := 0) (some 5) (v := ?_) rfl rfl (by kernel_rfl) (by kernel_rfl) (by kernel_rfl) (fun _ _ _ h => h) (Or.inl ⟨by rfl, ?_⟩) (by assumption) ?_
  rotate_left
  (focus (intro w hSw; (try dsimp only at hSw); (first | (go_simp; done) | (go_simp; with_reducible rfl) | with_reducible rfl)))
  (try simp only [Act.put]); (try simp only [List.setIfInBounds_toArray]); (try simp only [List.set_cons_succ]); (try simp only [List.set_cons_zero])
  refine wpAnyH_takeD (i := 1) (some 6) (v := ?_) rfl rfl (by kernel_rfl) (by kernel_rfl) (by kernel_rfl) (fun _ _ _ h => h) (Or.inl ⟨by rfl, ?_⟩) (by assumption) ?_
  rotate_left
  (focus (intro w hSw; (try dsimp only at hSw); (first | (go_simp; done) | (go_simp; with_reducible rfl) | with_reducible rfl)))
  (try simp only [Act.put]); (try simp only [List.setIfInBounds_toArray]); (try simp only [List.set_cons_succ]); (try simp only [List.set_cons_zero])
  refine wpAnyH_takeD (i := 2) (some 7) (v := ?_) rfl rfl (by kernel_rfl) (by kernel_rfl) (by kernel_rfl) (fun _ _ _ h => h) (Or.inl ⟨by rfl, ?_⟩) (by assumption) ?_
  rotate_left
  (focus (intro w hSw; (try dsimp only at hSw); (first | (go_simp; done) | (go_simp; with_reducible rfl) | with_reducible rfl)))
  (try simp only [Act.put]); (try simp only [List.setIfInBounds_toArray]); (try simp only [List.set_cons_succ]); (try simp only [List.set_cons_zero])
  refine wpAnyH_takeD (i := 3) (some 8) (v := ?_) rfl rfl (by kernel_rfl) (by kernel_rfl) (by kernel_rfl) (fun _ _ _ h => h) (Or.inl ⟨by rfl, ?_⟩) (by assumption) ?_
  rotate_left
  (focus (intro w hSw; (try dsimp only at hSw); (first | (go_simp; done) | (go_simp; with_reducible rfl) | with_reducible rfl)))
  (try simp only [Act.put]); (try simp only [List.setIfInBounds_toArray]); (try simp only [List.set_cons_succ]); (try simp only [List.set_cons_zero])
  refine wpAnyH_takeD (i := 4) (some 9) (v := ?_) rfl rfl (by kernel_rfl) (by kernel_rfl) (by kernel_rfl) (fun _ _ _ h => h) (Or.inl ⟨by rfl, ?_⟩) (by assumption) ?_
  rotate_left
  (focus (intro w hSw; (try dsimp only at hSw); (first | (go_simp; done) | (go_simp; with_reducible rfl) | with_reducible rfl)))
  (try simp only [Act.put]); (try simp only [List.setIfInBounds_toArray]); (try simp only [List.set_cons_succ]); (try simp only [List.set_cons_zero])
  refine wpAnyH_takeD (i := 5) (some 10) (v := ?_) rfl rfl (by kernel_rfl) (by kernel_rfl) (by kernel_rfl) (fun _ _ _ h => h) (Or.inl ⟨by rfl, ?_⟩) (by assumption) ?_
  rotate_left
  (focus (intro w hSw; (try dsimp only at hSw); (first | (go_simp; done) | (go_simp; with_reducible rfl) | with_reducible rfl)))
  (try simp only [Act.put]); (try simp only [List.setIfInBounds_toArray]); (try simp only [List.set_cons_succ]); (try simp only [List.set_cons_zero])
  refine wpAnyH_takeD (i := 6) (some 11) (v := ?_) rfl rfl (by kernel_rfl) (by kernel_rfl) (by kernel_rfl) (fun _ _ _ h => h) (Or.inl ⟨by rfl, ?_⟩) (by assumption) ?_
  rotate_left
  (focus (intro w hSw; (try dsimp only at hSw); (first | (go_simp; done) | (go_simp; with_reducible rfl) | with_reducible rfl)))
  (try simp only [Act.put]); (try simp only [List.setIfInBounds_toArray]); (try simp only [List.set_cons_succ]); (try simp only [List.set_cons_zero])
  refine wpAnyH_takeD (i := 7) (some 12) (v := ?_) rfl rfl (by kernel_rfl) (by kernel_rfl) (by kernel_rfl) (fun _ _ _ h => h) (Or.inl ⟨by rfl, ?_⟩) (by assumption) ?_
  rotate_left
  (focus (intro w hSw; (try dsimp only at hSw); (first | (go_simp; done) | (go_simp; with_reducible rfl) | with_reducible rfl)))
  (try simp only [Act.put]); (try simp only [List.setIfInBounds_toArray]); (try simp only [List.set_cons_succ]); (try simp only [List.set_cons_zero])
  refine wpAnyH_takeD (i := 8) (some 13) (v := ?_) rfl rfl (by kernel_rfl) (by kernel_rfl) (by kernel_rfl) (fun _ _ _ h => h) (Or.inl ⟨by rfl, ?_⟩) (by assumption) ?_
  rotate_left
  (focus (intro w hSw; (try dsimp only at hSw); (first | (go_simp; done) | (go_simp; with_reducible rfl) | with_reducible rfl)))
  (try simp only [Act.put]); (try simp only [List.setIfInBounds_toArray]); (try simp only [List.set_cons_succ]); (try simp only [List.set_cons_zero])
  refine wpAnyH_takeD (i := 9) (some 14) (v := ?_) rfl rfl (by kernel_rfl) (by kernel_rfl) (by kernel_rfl) (fun _ _ _ h => h) (Or.inl ⟨by rfl, ?_⟩) (by assumption) ?_
  rotate_left
  (focus (intro w hSw; (try dsimp only at hSw); (first | (go_simp; done) | (go_simp; with_reducible rfl) | with_reducible rfl)))
  (try simp only [Act.put]); (try simp only [List.setIfInBounds_toArray]); (try simp only [List.set_cons_succ]); (try simp only [List.set_cons_zero])
  refine wpAnyH_takeD (i := 10) (some 15) (v := ?_) rfl rfl (by kernel_rfl) (by kernel_rfl) (by kernel_rfl) (fun _ _ _ h => h) (Or.inl ⟨by rfl, ?_⟩) (by assumption) ?_
  rotate_left
  (focus (intro w hSw; (try dsimp only at hSw); (first | (go_simp; done) | (go_simp; with_reducible rfl) | with_reducible rfl)))
  (try simp only [Act.put]); (try simp only [List.setIfInBounds_toArray]); (try simp only [List.set_cons_succ]); (try simp only [List.set_cons_zero])
  refine wpAnyH_takeD (i := 11) (some 16) (v := ?_) rfl rfl (by kernel_rfl) (by kernel_rfl) (by kernel_rfl) (fun _ _ _ h => h) (Or.inl ⟨by rfl, ?_⟩) (by assumption) ?_
  rotate_left
  (focus (intro w hSw; (try dsimp only at hSw); (first | (go_simp; done) | (go_simp; with_reducible rfl) | with_reducible rfl)))
  (try simp only [Act.put]); (try simp only [List.setIfInBounds_toArray]); (try simp only [List.set_cons_succ]); (try simp only [List.set_cons_zero])
  refine wpAnyH_takeD (i := 12) (some 17) (v := ?_) rfl rfl (by kernel_rfl) (by kernel_rfl) (by kernel_rfl) (fun _ _ _ h => h) (Or.inl ⟨by rfl, ?_⟩) (by assumption) ?_
  rotate_left
  (focus (intro w hSw; (try dsimp only at hSw); (first | (go_simp; done) | (go_simp; with_reducible rfl) | with_reducible rfl)))
  (try simp only [Act.put]); (try simp only [List.setIfInBounds_toArray]); (try simp only [List.set_cons_succ]); (try simp only [List.set_cons_zero])
  refine wpAnyH_takeD (i := 13) (some 18) (v := ?_) rfl rfl (by kernel_rfl) (by kernel_rfl) (by kernel_rfl) (fun _ _ _ h => h) (Or.inl ⟨by rfl, ?_⟩) (by assumption) ?_
  rotate_left
  (focus (intro w hSw; (try dsimp only at hSw); (first | (go_simp; done) | (go_simp; with_reducible rfl) | with_reducible rfl)))
  (try simp only [Act.put]); (try simp only [List.setIfInBounds_toArray]); (try simp only [List.set_cons_succ]); (try simp only [List.set_cons_zero])
  refine wpAnyH_takeD (i := 14) (some 19) (v := ?_) rfl rfl (by kernel_rfl) (by kernel_rfl) (by kernel_rfl) (fun _ _ _ h => h) (Or.inl ⟨by rfl, ?_⟩) (by assumption) ?_
  rotate_left
  (focus (intro w hSw; (try dsimp only at hSw); (first | (go_simp; done) | (go_simp; with_reducible rfl) | with_reducible rfl)))
  (try simp only [Act.put]); (try simp only [List.setIfInBounds_toArray]); (try simp only [List.set_cons_succ]); (try simp only [List.set_cons_zero])
  refine wpAnyH_takeD (i := 15) (some 4) (v := ?_) rfl rfl (by kernel_rfl) (by kernel_rfl) (by kernel_rfl) (fun _ _ _ h => h) (Or.inl ⟨by rfl, ?_⟩) (by assumption) ?_
  rotate_left
  (focus (intro w hSw; (try dsimp only at hSw); (first | (go_simp; done) | (go_simp; with_reducible rfl) | with_reducible rfl)))
  (try simp only [Act.put]); (try simp only [List.setIfInBounds_toArray]); (try simp only [List.set_cons_succ]); (try simp only [List.set_cons_zero])
  refine wpAnyH_done (by kernel_rfl) ?_ _
  (try dsimp only)
  go_wp2
  go_ret
  exact ⟨rfl, gb_drew (gb_refl _)⟩
theorem bent_byte (x : UInt8) {k : Nat} (_hk : k < 256) : ∃ z : UInt8, z ≠ x ∧ bits .xor .u8 (x.toNat : Int) (IntKind.u8.wrap (IntKind.i64.wrap (1 + (k : Int).tmod 255))) = (z.toNat : Int) := by
  have e0 : IntKind.u8.wrap (IntKind.i64.wrap (1 + (k : Int).tmod 255)) = 1 + (k : Int) % 255 := by
    rw [Int.tmod_eq_emod_of_nonneg (by omega), IntWalk.i64_in _ (by omega), IntWalk.u8_in _ (by omega)]
  rw [e0]
  have e : (1 + (k : Int) % 255) = (((UInt8.ofNat (1 + k % 255)).toNat : Nat) : Int) := by
    rw [UInt8.toNat_ofNat', Nat.mod_eq_of_lt (by omega)]
    omega
  refine ⟨x ^^^ UInt8.ofNat (1 + k % 255), ?_, by rw [e, u8_xor]⟩
  intro h
  have h1 : UInt8.ofNat (1 + k % 255) = 0 := by
    have h2 : x ^^^ (x ^^^ UInt8.ofNat (1 + k % 255)) = x ^^^ x := by rw [h]
    rw [← UInt8.xor_assoc, UInt8.xor_self, UInt8.zero_xor] at h2
    exact h2
  have h3 := congrArg UInt8.toNat h1
  rw [UInt8.toNat_ofNat', Nat.mod_eq_of_lt (by omega)] at h3
  simp at h3
set_option maxRecDepth 1000000 in
set_option maxHeartbeats 4000000 in
/-- a slice with a byte turned -/
theorem laws_bent (a : Option Addr) (n c : Nat) (l : List UInt8) (b : Option Addr) (m d : Nat) (k : List UInt8) (w : World) (h : Rd w a n c (bys l)) (hn : n ≤ 1048576) (hb : Rd w b m d (bys k)) (hm : m ≤ 1048576) :
    Calls Try.prog 13 #[.slice a n c, .slice b m d] w fun e w' => ∃ a' c' k', e = .returned (.slice a' m c') ∧ Ow w.heap.size w' 5 a' m c' (bys k') ∧ (0 < m → k' ≠ k) ∧ w.grownBy w' none := by
  have L := Lib.hid hb.blen
  go_enter Try.func13, Try.ntmps13
  go_wp2_with (first
    | (at_builtin; refine wpList_appB rfl (.tmp 7) (.tmp 8) rfl w.heap.size _ 0 0 [] rfl (new_own _ _) b m d k rfl (hb.keep0 (gb_alloc (gb_refl _) _)) (by have := L.out; simp; omega) (by simp) ?_; intro a2 n2 c2 w2 o2 g2; rw [List.nil_append] at o2; have G2 : w.grownBy w2 none := gb_app (gb_alloc (gb_refl _) _) (new_own w _) (Nat.le_refl _) g2; have e2 := o2.blen.symm.trans L.out; subst e2; clear g2)
    | (go_at_call 14; (with_reducible refine (laws_at a n c l 2 w2 (h.keep0 G2) hn (by decide) (by decide)).mono ?_); rintro e w3 ⟨k1, hk1, rfl, rfl⟩)
    | (go_at_call 14; (with_reducible refine (laws_at a n c l 3 w2 (h.keep0 G2) hn (by decide) (by decide)).mono ?_); rintro e w3 ⟨k2, hk2, rfl, rfl⟩))
  rotate_left
  · go_ret
    exact ⟨_, _, k, rfl, o2, fun h => absurd h (by omega), G2⟩
  obtain ⟨i, hi, hlt⟩ : ∃ i : Nat, ((k1 : Int) * 256 + (k2 : Int)) % (n2 : Int) = (i : Int) ∧ i < n2 :=
    ⟨(((k1 : Int) * 256 + (k2 : Int)) % (n2 : Int)).toNat, by rw [Int.toNat_of_nonneg (Int.emod_nonneg _ (by omega))], by have := Int.emod_lt_of_pos ((k1 : Int) * 256 + (k2 : Int)) (show (0 : Int) < n2 by omega); omega⟩
  rw [hi]
  replace hi := Lib.hid hi
  obtain ⟨g, rfl⟩ := o2.head (by omega)
  obtain ⟨b', off, x, e, hx, hc⟩ := o2.rd.byte i hlt
  cases e
  rw [Nat.zero_add] at hc
  obtain ⟨hf, -⟩ := o2.at i hlt
  have i1 : (0 : Int) ≤ (i : Int) := Int.natCast_nonneg _
  have i2 : (i : Int) < (n2 : Int) := by omega
  go_region_with (go_at_call 14; refine (laws_at a n c l 4 _ ((h.keep0 G2).keep0 (gb_drew (gb_refl _))) hn (by decide) (by decide)).mono ?_; rintro e w4 ⟨k3, hk3, rfl, rfl⟩)
  all_goals go_wp2
  all_goals
    obtain ⟨z, hz, e9⟩ := bent_byte x hk3
    have o3 := o2.set i (.int .u8 (z.toNat : Int))
    rw [bys_set] at o3
    have G3 := gb_set G2 (p := ⟨g, i, none⟩) (.inl (o2.lt _ rfl).1) (.int .u8 (z.toNat : Int))
    have hne : k.set i z ≠ k := by
      intro h9
      have h8 : (k.set i z)[i]? = some z := by rw [List.getElem?_set_self (by have := L.out; omega)]
      rw [h9, hx.out] at h8
      exact hz (Option.some.inj h8).symm
    go_ret
    rw [e9]
    exact ⟨_, _, k.set i z, rfl, o3.drew, fun _ => hne, gb_drew G3⟩
end Go.Proofs.Ytjdaafemfpafdaa

/-
  Draws of addresses, of jars, and of what a cookie is minted of. Conditions: none beside those that each theorem names.
-/
namespace Go.Proofs.Ytjdaafemfpafdaa
open Go.RowKit
/-- numbers laid inside a region that draws its order -/
theorem step_bL {w : World} {ops : Array Oper} {o : Oper} {ac : Act} {K : Act → World → Prop} {Q : Exit → Act → World → Prop} {E : Prop} (hgd : o.guard = none) (d : Option Tmp) (hd : o.dst = d) (k : Nat) (parts : Array (Nat × Operand)) (ho : o.op = .buildSlice 58 k parts) (cs : List Int)
    (hr : (Instr.buildSlice 58 k (parts.map fun (i, x) => (i, ac.eval x))).run Try.prog w = .ok (.slice (some ⟨w.heap.size, 0, none⟩) k k) (w.alloc (.cells (ins cs).toArray 3))) (hn : cs.length = k)
    (h : ∀ q w', w.heap.size ≤ q → Rd w' (some ⟨q, 0, none⟩) k k (ins cs) → w.grownBy w' none → K (ac.put d (.slice (some ⟨q, 0, none⟩) k k)) w') :
    if Region.wanted o (yielded ops ac.tmps) = true then Oper.wp Try.prog o ac w K Q else E := by
  have hw : Region.wanted o (yielded ops ac.tmps) = true := by simp [Region.wanted, hgd]
  rw [if_pos hw]
  subst hd
  unfold Oper.wp execOp
  simp only [ho, Sem.run_bind, hr, Sem.run_pure, Result.andThen_ok]
  exact h _ _ (Nat.le_refl _) (new_rd w (ins cs).toArray _ k (by simp [ins, hn])) (gb_alloc (gb_refl w) _)
theorem spec_Near (x : Int) (w : World) : Calls Try.prog 79 #[.int .i64 x] w fun e w' => ∃ h p : Int, e = .returned (.agg #[.int .i64 h, .int .i64 p]) ∧ w.grownBy w' none := by
  have B := bx1 w #[.int .i64 0, .int .i64 0] 27
  go_enter Try.func79, Try.ntmps79
  go_wp2_with (go_at_call 53; refine (spec_l1In _ _ _ _).mono ?_; rintro e w' ⟨rfl, rfl⟩)
  all_goals (refine' bodyPost_ret ?_ rfl ?_; rotate_left; (focus (simp [results, Try.results79, go_sem]; rfl)); exact ⟨_, _, rfl, (by (repeat (first | with_reducible exact gb_refl _ | with_reducible refine gb_alloc ?_ _ | with_reducible refine gb_set ?_ (.inl (by simp)) _))) ⟩)
def PAd (B cb : Nat) (w : World) (e : Ending) (w' : World) : Prop := ∃ h p : Int, e = .returned (.agg #[.int .i64 h, .int .i64 p]) ∧ DE B cb w w'
theorem d_PAd {f : FuncId} {B cb : Nat} {w0 w : World} {bs : List Vb} {L : List Sv} {Q : Ending → World → Prop} {args : Array Value} (D : DS B cb w0 w bs L) (H : Calls Try.prog f args w (PAd B cb w))
    (k : ∀ w' (h p : Int), DS B cb w0 w' bs L → Q (.returned (.agg #[.int .i64 h, .int .i64 p])) w') : Calls Try.prog f args w Q :=
  H.mono fun e w' ⟨h, p, he, E⟩ => by
    subst he
    exact k w' h p (D.by E)
theorem d_l1Byte {B cb : Nat} {w0 w : World} {bs : List Vb} {L : List Sv} {Q : Ending → World → Prop} (D : DS B cb w0 w bs L) (k : ∀ w' (z : Nat), z < 256 → DS B cb w0 w' bs L → Q (.returned (.int .i64 (z : Int))) w') : Calls Try.prog 65 #[.pointer (some ⟨cb, 0, none⟩)] w Q :=
  (spec_l1Byte B cb w D.cur).mono fun e w' ⟨z, h, he, c, d⟩ => by subst he; exact k w' z h (D.step c d)
set_option maxRecDepth 1000000 in
set_option maxHeartbeats 1000000 in
theorem spec_l6Draw (B cb : Nat) (w : World) (h : Cur B w cb) : Calls Try.prog 64 #[.pointer (some ⟨cb, 0, none⟩)] w (PAd B cb w) := by
  have D := (DS.start h).box #[.int .i64 0, .int .i64 0] 27
  go_enter Try.func64, Try.ntmps64
  go_wp2_with (first
    | (go_at_call 51; (with_reducible refine d_l1Once D ?_); clear D; intro w1 o D; (try clear kc kf); (try simp only [List.setIfInBounds_toArray, List.set_cons_succ, List.set_cons_zero] at D); (try (have kc := fun o => DS.cell0 D o; have kf := fun o => DS.frz0 D o)); cases o)
    | (go_at_call 48; (first | (with_reducible refine d_l1Below D ?_) | (with_reducible refine d_l1Below (D.set0 _ _) ?_) | (with_reducible refine d_l1Below (D.box _ _) ?_) | (with_reducible refine d_l1Below ((D.set0 _ _).set0 _ _) ?_) | (with_reducible refine d_l1Below ((D.box _ _).set0 _ _) ?_)); clear D; intro w1 z hz D; (try clear kc kf); (try simp only [List.setIfInBounds_toArray, List.set_cons_succ, List.set_cons_zero] at D); (try (have kc := fun o => DS.cell0 D o; have kf := fun o => DS.frz0 D o))) | (go_at_call 65; (with_reducible refine d_l1Byte D ?_); clear D; intro w1 z hz D; (try clear kc kf); (try simp only [List.setIfInBounds_toArray, List.set_cons_succ, List.set_cons_zero] at D); (try (have kc := fun o => DS.cell0 D o; have kf := fun o => DS.frz0 D o)))
    | (go_at_call 79; refine (spec_Near _ _).mono ?_; rintro e w1 ⟨h1, p1, rfl, g⟩; replace D := D.grow g; clear g; (try clear kc kf); (try simp only [List.setIfInBounds_toArray, List.set_cons_succ, List.set_cons_zero] at D); (try (have kc := fun o => DS.cell0 D o; have kf := fun o => DS.frz0 D o)))
    | ((with_reducible refine wpList_stD0 D ?_ (.tmp 2) (.tmp 13) ?_ ?_ ?_ ?_ ?_ ?_ ?_ ?_); (focus rfl); (focus rfl); rotate_left; (focus rfl); (focus rfl); (focus (exact si_Addr)); (focus rfl); (focus (first | rfl | (simp [Value.oneCell']; done))); clear D; intro w1 D; (try simp only [Act.put]); (try simp only [List.setIfInBounds_toArray]); (try simp only [List.set_cons_succ]); (try simp only [List.set_cons_zero]); (try clear kc kf); have kr := fun o => DS.cell0 D o) | ((with_reducible refine wpList_stD0 D ?_ (.tmp 2) (.tmp 16) ?_ ?_ ?_ ?_ ?_ ?_ ?_ ?_); (focus rfl); (focus rfl); rotate_left; (focus rfl); (focus rfl); (focus (exact si_Addr)); (focus rfl); (focus (first | rfl | (simp [Value.oneCell']; done))); clear D; intro w1 D; (try simp only [Act.put]); (try simp only [List.setIfInBounds_toArray]); (try simp only [List.set_cons_succ]); (try simp only [List.set_cons_zero]); (try clear kc kf); have kr := fun o => DS.cell0 D o))
  all_goals (refine' bodyPost_ret ?_ rfl ?_; rotate_left; (focus (simp [results, Try.results64, go_sem, kr]; rfl)); exact ⟨_, _, rfl, D.de⟩)
set_option maxRecDepth 1000000 in
set_option maxHeartbeats 1000000 in
theorem spec_l6Any (B cb : Nat) (w : World) (h : Cur B w cb) : Calls Try.prog 32 #[.pointer (some ⟨cb, 0, none⟩)] w (PAd B cb w) := by
  have D := (DS.start h).box #[.int .i64 0, .int .i64 0] 27
  go_enter Try.func32, Try.ntmps32
  go_wp2_with (first
    | (go_at_call 64; (with_reducible refine d_PAd D (spec_l6Draw B cb _ D.cur) ?_); clear D; intro w1 h1 p1 D; (try clear kc kf); (try simp only [List.setIfInBounds_toArray, List.set_cons_succ, List.set_cons_zero] at D); (try (have kc := fun o => DS.cell0 D o; have kf := fun o => DS.frz0 D o)))
    | (go_at_call 48; (first | (with_reducible refine d_l1Below D ?_) | (with_reducible refine d_l1Below (D.set0 _ _) ?_) | (with_reducible refine d_l1Below (D.box _ _) ?_) | (with_reducible refine d_l1Below ((D.set0 _ _).set0 _ _) ?_) | (with_reducible refine d_l1Below ((D.box _ _).set0 _ _) ?_)); clear D; intro w1 z hz D; (try clear kc kf); (try simp only [List.setIfInBounds_toArray, List.set_cons_succ, List.set_cons_zero] at D); (try (have kc := fun o => DS.cell0 D o; have kf := fun o => DS.frz0 D o))) | (go_at_call 34; (first | (with_reducible refine d_l1Int D ?_ ?_ ?_ ?_ ?_ ?_) | (with_reducible refine d_l1Int (D.set0 _ _) ?_ ?_ ?_ ?_ ?_ ?_) | (with_reducible refine d_l1Int (D.box _ _) ?_ ?_ ?_ ?_ ?_ ?_) | (with_reducible refine d_l1Int ((D.set0 _ _).set0 _ _) ?_ ?_ ?_ ?_ ?_ ?_) | (with_reducible refine d_l1Int ((D.box _ _).set0 _ _) ?_ ?_ ?_ ?_ ?_ ?_)); (focus (first | rfl | (simp; done))); (focus (exact rfl)); (focus rfl); (focus decide); (focus decide); clear D; intro w1 x hi D; (try clear kc kf); (try simp only [List.setIfInBounds_toArray, List.set_cons_succ, List.set_cons_zero] at D); (try (have kc := fun o => DS.cell0 D o; have kf := fun o => DS.frz0 D o))) | (go_at_call 52; (with_reducible refine d_POd D (spec_l1Odd _ cb _ D.cur) ?_); clear D; intro w1 x D; (try clear kc kf); (try simp only [List.setIfInBounds_toArray, List.set_cons_succ, List.set_cons_zero] at D); (try (have kc := fun o => DS.cell0 D o; have kf := fun o => DS.frz0 D o)))
    | ((with_reducible refine wpList_stD1 (D.set0 _ _) ?_ (.tmp 2) (.tmp 19) ?_ ?_ ?_ ?_ ?_ ?_ ?_ ?_); (focus rfl); (focus rfl); rotate_left; (focus rfl); (focus rfl); (focus (exact si_Addr)); (focus rfl); (focus (first | rfl | (simp [Value.oneCell']; done))); clear D; intro w1 D; (try simp only [Act.put]); (try simp only [List.setIfInBounds_toArray]); (try simp only [List.set_cons_succ]); (try simp only [List.set_cons_zero]); (try clear kc kf); have kr := fun o => DS.cell1 D o) | ((with_reducible refine wpList_stD1 D ?_ (.tmp 2) (.tmp 19) ?_ ?_ ?_ ?_ ?_ ?_ ?_ ?_); (focus rfl); (focus rfl); rotate_left; (focus rfl); (focus rfl); (focus (exact si_Addr)); (focus rfl); (focus (first | rfl | (simp [Value.oneCell']; done))); clear D; intro w1 D; (try simp only [Act.put]); (try simp only [List.setIfInBounds_toArray]); (try simp only [List.set_cons_succ]); (try simp only [List.set_cons_zero]); (try clear kc kf); have kr := fun o => DS.cell1 D o))
  all_goals (refine' bodyPost_ret ?_ rfl ?_; rotate_left; (focus (simp [results, Try.results32, go_sem, kr]; rfl)); exact ⟨_, _, rfl, D.de⟩)
def PJa (B cb : Nat) (w : World) (e : Ending) (w' : World) : Prop := ∃ a n c, e = .returned (.agg #[.slice a n c]) ∧ DE B cb w w' ∧ BR w w' a n c
theorem d_PJa {f : FuncId} {B cb : Nat} {w0 w : World} {bs : List Vb} {L : List Sv} {Q : Ending → World → Prop} {args : Array Value} (D : DS B cb w0 w bs L) (H : Calls Try.prog f args w (PJa B cb w))
    (k : ∀ w' a n c l, DS B cb w0 w' bs (⟨a, n, c, bys l⟩ :: L) → Q (.returned (.agg #[.slice a n c])) w') : Calls Try.prog f args w Q :=
  H.mono fun e w' ⟨a, n, c, he, E, h⟩ => by
    subst he
    obtain ⟨l, D1⟩ := D.adB (D.by E) h
    exact k w' a n c l D1
set_option maxRecDepth 1000000 in
set_option maxHeartbeats 1000000 in
theorem spec_l11Jar (B cb : Nat) (w : World) (h : Cur B w cb) : Calls Try.prog 31 #[.pointer (some ⟨cb, 0, none⟩)] w (PJa B cb w) := by
  have D := (DS.start h).box #[.slice none 0 0] 25
  go_enter Try.func31, Try.ntmps31
  go_wp2_with (first
    | (go_at_call 63; refine (spec_JarNew _ _ _ _ _ D.r0).mono ?_; rintro e w1 ⟨v1, rfl, o1, g⟩; obtain ⟨a4, n4, c4, rfl, o4, -⟩ := o1; simp only at o4; replace D := D.addO (D.grow g) o4 (by have := o4.blen; have := jarM_le l; omega); clear o4 g)
    | (go_at_call 51; (with_reducible refine d_l1Once (D.box _ _) ?_); clear D; intro w1 o D; (try clear kc kf); (try simp only [List.setIfInBounds_toArray, List.set_cons_succ, List.set_cons_zero] at D); (try (have kc := fun o => DS.cell0 D o; have kf := fun o => DS.frz0 D o)); cases o)
    | (go_at_call 33; (first | (with_reducible refine d_l1Bytes D ?_ ?_) | (with_reducible refine d_l1Bytes (D.set0 _ _) ?_ ?_) | (with_reducible refine d_l1Bytes (D.box _ _) ?_ ?_) | (with_reducible refine d_l1Bytes ((D.set0 _ _).set0 _ _) ?_ ?_) | (with_reducible refine d_l1Bytes ((D.box _ _).set0 _ _) ?_ ?_)); (focus (first | omega | (have h9 := ofL.le hi (b := 256) (by decide); omega))); clear D; intro w1 a n c l hn D; (try clear kc kf); (try simp only [List.setIfInBounds_toArray, List.set_cons_succ, List.set_cons_zero] at D); (try (have kc := fun o => DS.cell0 D o; have kf := fun o => DS.frz0 D o))) | (go_at_call 34; (first | (with_reducible refine d_l1Int D ?_ ?_ ?_ ?_ ?_ ?_) | (with_reducible refine d_l1Int (D.set0 _ _) ?_ ?_ ?_ ?_ ?_ ?_) | (with_reducible refine d_l1Int (D.box _ _) ?_ ?_ ?_ ?_ ?_ ?_) | (with_reducible refine d_l1Int ((D.set0 _ _).set0 _ _) ?_ ?_ ?_ ?_ ?_ ?_) | (with_reducible refine d_l1Int ((D.box _ _).set0 _ _) ?_ ?_ ?_ ?_ ?_ ?_)); (focus (first | rfl | (simp; done))); (focus (exact rfl)); (focus rfl); (focus decide); (focus decide); clear D; intro w1 x hi D; (try clear kc kf); (try simp only [List.setIfInBounds_toArray, List.set_cons_succ, List.set_cons_zero] at D); (try (have kc := fun o => DS.cell0 D o; have kf := fun o => DS.frz0 D o)))
    | ((with_reducible refine wpList_stD1 (D.set0 _ _) ?_ (.tmp 2) (.tmp 15) ?_ ?_ ?_ ?_ ?_ ?_ ?_ ?_); (focus rfl); (focus rfl); rotate_left; (focus rfl); (focus rfl); (focus (exact si_Jar)); (focus rfl); (focus (first | rfl | (simp [Value.oneCell']; done))); clear D; intro w1 D; (try simp only [Act.put]); (try simp only [List.setIfInBounds_toArray]); (try simp only [List.set_cons_succ]); (try simp only [List.set_cons_zero]); (try clear kc kf); have kr := fun o => DS.cell1 D o) | ((with_reducible refine wpList_stD1 D ?_ (.tmp 2) (.tmp 15) ?_ ?_ ?_ ?_ ?_ ?_ ?_ ?_); (focus rfl); (focus rfl); rotate_left; (focus rfl); (focus rfl); (focus (exact si_Jar)); (focus rfl); (focus (first | rfl | (simp [Value.oneCell']; done))); clear D; intro w1 D; (try simp only [Act.put]); (try simp only [List.setIfInBounds_toArray]); (try simp only [List.set_cons_succ]); (try simp only [List.set_cons_zero]); (try clear kc kf); have kr := fun o => DS.cell1 D o))
  all_goals (refine' bodyPost_ret ?_ rfl ?_; rotate_left; (focus (simp [results, Try.results31, go_sem, kr]; rfl)); exact ⟨_, _, _, rfl, D.de, by (first | exact BR.nil _ _ | exact D.b0 | exact D.tl.b0 | exact D.tl.tl.b0 | exact D.tl.tl.tl.b0 | exact D.tl.tl.tl.tl.b0 | exact D.tl.tl.tl.tl.tl.b0 | exact D.tl.tl.tl.tl.tl.tl.b0)⟩)
end Go.Proofs.Ytjdaafemfpafdaa

/-
  The draw of what a cookie is minted of. Conditions: none beside those that each theorem names.
-/
namespace Go.Proofs.Ytjdaafemfpafdaa
open Go.RowKit
theorem DS.addBox {B cb : Nat} {w0 w : World} {bs : List Vb} (D : DS B cb w0 w bs []) {q : Nat} {t : TypeId} {cs : Array Value} (h : Bx w q t cs) (hq : w0.heap.size ≤ q) (hc : q ≠ cb) (hn : ∀ b ∈ bs, q ≠ b.q) : DS B cb w0 w (⟨q, t, cs⟩ :: bs) [] :=
  ⟨D.cur, D.lb, D.dr, by simp, fun b hb => by
    rcases List.mem_cons.1 hb with rfl | hb
    · exact ⟨h, hq, hc⟩
    · exact D.bx b hb, List.pairwise_cons.2 ⟨hn, D.dj⟩⟩
theorem DS.cell2 {B cb : Nat} {w0 w : World} {L : List Sv} {b b' : Vb} {q : Nat} {T : TypeId} {cs : Array Value} {b2 : List Vb} (D : DS B cb w0 w (b :: b' :: ⟨q, T, cs⟩ :: b2) L) (j : Nat) : w.cell? ⟨q, j, none⟩ = cs[j]? := (D.bx _ (List.mem_cons_of_mem _ (List.mem_cons_of_mem _ (List.mem_cons_self ..)))).1.cell j
theorem DS.cell3 {B cb : Nat} {w0 w : World} {L : List Sv} {b b' b'' : Vb} {q : Nat} {T : TypeId} {cs : Array Value} {b2 : List Vb} (D : DS B cb w0 w (b :: b' :: b'' :: ⟨q, T, cs⟩ :: b2) L) (j : Nat) : w.cell? ⟨q, j, none⟩ = cs[j]? := (D.bx _ (List.mem_cons_of_mem _ (List.mem_cons_of_mem _ (List.mem_cons_of_mem _ (List.mem_cons_self ..))))).1.cell j
theorem Rd.pb4 {a : Option Addr} {n c : Nat} {xs : List Value} {w : World} (r : Rd w a n c xs) : 0 < n → ∀ p, a = some p → p.block < w.heap.size := by
  intro h0 p hp
  obtain ⟨b, off, h1, h2, -⟩ := r.pos h0
  rw [h1] at hp
  cases hp
  exact h2
/-- a slice that a draw has made, among what stands -/
theorem DS.addS {B cb : Nat} {w0 w w' : World} {bs : List Vb} {L : List Sv} (D : DS B cb w0 w bs L) {s : Sv} (D2 : DS B cb w w' [] [s]) : DS B cb w0 w' bs (s :: L) :=
  have h := D2.rs _ (List.mem_cons_self ..)
  D.addF (D.by D2.de) h.1 (fun h0 p hp => (h.2.1 h0 p hp).1.1) h.2.2
def PMt (w : World) (e : Ending) (w' : World) : Prop := ∃ a1 n1 c1 l1 x y id a2 n2 c2 l2 a3 n3 c3 l3 tick, e = .returned (.tuple #[.agg #[.slice a1 n1 c1], .agg #[.int .i64 x, .int .i64 y], .int .i64 id, .slice a2 n2 c2, .slice a3 n3 c3, .int .i64 tick]) ∧
  Rd w' a1 n1 c1 (bys l1) ∧ Rd w' a2 n2 c2 (bys l2) ∧ Rd w' a3 n3 c3 (bys l3) ∧ (n1 ≤ 256 ∧ n2 ≤ 256 ∧ n3 ≤ 256) ∧ w.grownBy w' none
set_option maxRecDepth 1000000 in
set_option maxHeartbeats 8000000 in
theorem spec_DrawMint (a : Option Addr) (n c : Nat) (l : List UInt8) (w : World) (r : Rd w a n c (bys l)) (hn : n ≤ 1048576) : Calls Try.prog 7 #[.slice a n c] w (PMt w) := by
  have hp := r.pb4
  have gW := gb_alloc (gb_alloc (gb_refl w) (.cells #[.slice none 0 0] 25)) (.cells #[.int .i64 0, .int .i64 0] 27)
  go_enter Try.func7, Try.ntmps7
  go_wp2_with (first
    | (go_at_call 30; refine (spec_l1New a n c l w.heap.size _ (r.keep0 gW) hn hp gW.size).mono ?_; rintro e w1 ⟨cb, rfl, cu, hc, g⟩; have hcb2 : w.heap.size + 2 ≤ cb := (by simpa using hc); have D := ((DS.init cu (gb_trans gW g)).addBox ((bx2 w #[.slice none 0 0] #[.int .i64 0, .int .i64 0] 25 27).1.keep0 g) (Nat.le_refl _) (by omega) (by simp)).addBox ((bx2 w #[.slice none 0 0] #[.int .i64 0, .int .i64 0] 25 27).2.keep0 g) (by omega) (by omega) (by simp); have hcb : w.heap.size ≤ cb := (by omega); clear g hc cu)
    | (go_at_call 31; (with_reducible refine d_PJa D (spec_l11Jar _ cb _ D.cur) ?_); clear D; intro wJ a1 n1 c1 l1 D)
    | (go_at_call 32; (with_reducible refine d_PAd (D.box _ _) (spec_l6Any _ cb _ (D.box _ _).cur) ?_); clear D; intro wA x y D)
    | (go_at_call 33; (with_reducible refine d_l1Bytes (D.box _ _) ?_ ?_); (focus omega); clear D; intro w1 a2 n2 c2 l2 hn2 D))
  replace D := D.drew
  have kS : _ ∧ _ ∧ _ := And.intro (DS.cell1 D 0) (And.intro (DS.cell0 D 0) (DS.cell0 D 1))
  refine wp_region_held_drew (S := (fun w' => w'.cell? ⟨wJ.heap.size, 0, none⟩ = some (.slice a1 n1 c1) ∧ w'.cell? ⟨wA.heap.size, 0, none⟩ = some (.int .i64 x) ∧ w'.cell? ⟨wA.heap.size, 1, none⟩ = some (.int .i64 y))) (by kernel_rfl) ?_ (fun hHeld => ?_)
  · (try dsimp only)
    exact kS
  refine wpAnyH_takeD (i := 0) (some 20) (v := ?_) rfl rfl (by kernel_rfl) (by kernel_rfl) (by kernel_rfl) (fun _ _ _ h => h) (Or.inl ⟨by rfl, ?_⟩) (by assumption) ?_
  rotate_left
  (focus (intro w hSw; (try dsimp only at hSw); (first | (go_simp; done) | (go_simp; with_reducible rfl) | with_reducible rfl)))
  (try simp only [Act.put]); (try simp only [List.setIfInBounds_toArray]); (try simp only [List.set_cons_succ]); (try simp only [List.set_cons_zero])
  refine wpAnyH_takeD (i := 1) (some 21) (v := ?_) rfl rfl (by kernel_rfl) (by kernel_rfl) (by kernel_rfl) (fun _ _ _ h => h) (Or.inl ⟨by rfl, ?_⟩) (by assumption) ?_
  rotate_left
  (focus (intro w hSw; (try dsimp only at hSw); (first | (go_simp; done) | (go_simp; with_reducible rfl) | with_reducible rfl)))
  (try simp only [Act.put]); (try simp only [List.setIfInBounds_toArray]); (try simp only [List.set_cons_succ]); (try simp only [List.set_cons_zero])
  refine wpAnyH_takeD (i := 2) (some 22) (v := ?_) rfl rfl (by kernel_rfl) (by kernel_rfl) (by kernel_rfl) (fun _ _ _ h => h) (Or.inl ⟨by rfl, ?_⟩) (by assumption) ?_
  rotate_left
  (focus (intro w hSw; (try dsimp only at hSw); (first | (go_simp; done) | (go_simp; with_reducible rfl) | with_reducible rfl)))
  (try simp only [Act.put]); (try simp only [List.setIfInBounds_toArray]); (try simp only [List.set_cons_succ]); (try simp only [List.set_cons_zero])
  refine wpAnyH_takeD (i := 5) (some 25) (v := ?_) rfl rfl (by kernel_rfl) (by kernel_rfl) (by kernel_rfl) (fun _ _ _ h => h) (Or.inl ⟨by rfl, ?_⟩) (by assumption) ?_
  rotate_left
  (focus (intro w hSw; (try dsimp only at hSw); (first | (go_simp; done) | (go_simp; with_reducible rfl) | with_reducible rfl)))
  (try simp only [Act.put]); (try simp only [List.setIfInBounds_toArray]); (try simp only [List.set_cons_succ]); (try simp only [List.set_cons_zero])
  refine wpAnyH_takeD (i := 6) (some 26) (v := ?_) rfl rfl (by kernel_rfl) (by kernel_rfl) (by kernel_rfl) (fun _ _ _ h => h) (Or.inl ⟨by rfl, ?_⟩) (by assumption) ?_
  rotate_left
  (focus (intro w hSw; (try dsimp only at hSw); (first | (go_simp; done) | (go_simp; with_reducible rfl) | with_reducible rfl)))
  (try simp only [Act.put]); (try simp only [List.setIfInBounds_toArray]); (try simp only [List.set_cons_succ]); (try simp only [List.set_cons_zero])
  refine wpAnyH_takeD (i := 8) (some 28) (v := ?_) rfl rfl (by kernel_rfl) (by kernel_rfl) (by kernel_rfl) (fun _ _ _ h => h) (Or.inl ⟨by rfl, ?_⟩) (by assumption) ?_
  rotate_left
  (focus (intro w hSw; (try dsimp only at hSw); (first | (go_simp; done) | (go_simp; with_reducible rfl) | with_reducible rfl)))
  (try simp only [Act.put]); (try simp only [List.setIfInBounds_toArray]); (try simp only [List.set_cons_succ]); (try simp only [List.set_cons_zero])
  refine wpAnyH_ready (rs := [3, 9]) (by kernel_rfl) (by simp) (AllReadyH.cons rfl (fun K hK => ?_) (AllReadyH.cons rfl (fun K hK => ?_) AllReadyH.nil))
  · refine step_bL rfl (some 23) rfl 6 _ rfl [1, 2, 9, 1, 2, 0] (by kernel_rfl) rfl ?_
    intro qa wa hqa rA ga
    have hcA : cb < qa := Nat.lt_of_lt_of_le D.cur.lt hqa
    (try replace rB := rB.keep0 ga)
    replace D := D.grow ga
    replace kS := And.intro (DS.cell1 D 0) (And.intro (DS.cell0 D 0) (DS.cell0 D 1))
    refine hK.out _ _ ?_ (fun hHeld2 => ?_)
    · (try dsimp only)
      exact kS
    clear hK K hHeld
    have hHeld := hHeld2
    clear hHeld2
    (try simp only [Act.put]); (try simp only [List.setIfInBounds_toArray]); (try simp only [List.set_cons_succ]); (try simp only [List.set_cons_zero])
    refine wpAnyH_ready (rs := [4, 9]) (by kernel_rfl) (by simp) (AllReadyH.cons rfl (fun K hK => ?_) (AllReadyH.cons rfl (fun K hK => ?_) AllReadyH.nil))
    · go_simp
      go_at_call 34
      refine (spec_l1Int _ cb _ 6 6 _ _ D.cur ⟨rA, fun p hp => by cases hp; exact hcA⟩ (by decide) (by decide)).mono ?_
      rintro e wi ⟨id, hid, rfl, cu, d⟩
      (try replace rB := rB.keepI d (fun p hp => .inr (by cases hp; exact hcB)))
      replace D := D.step cu d
      replace kS := And.intro (DS.cell1 D 0) (And.intro (DS.cell0 D 0) (DS.cell0 D 1))
      go_wp2_with fail
      refine hK.out _ _ ?_ (fun hHeld2 => ?_)
      · (try dsimp only)
        exact kS
      clear hK K hHeld
      have hHeld := hHeld2
      clear hHeld2
      (try simp only [Act.put]); (try simp only [List.setIfInBounds_toArray]); (try simp only [List.set_cons_succ]); (try simp only [List.set_cons_zero])
      refine wpAnyH_ready (rs := [7, 9]) (by kernel_rfl) (by simp) (AllReadyH.cons rfl (fun K hK => ?_) (AllReadyH.cons rfl (fun K hK => ?_) AllReadyH.nil))
      · go_simp
        go_at_call 33
        refine d_l1Bytes (DS.start D.cur) (by omega) ?_
        intro wc a3 n3 c3 l3 hn3 D2
        (try replace rB := rB.keepI D2.de.dr (fun p hp => .inr (by cases hp; exact hcB)))
        replace D := D.addS D2
        replace kS := And.intro (DS.cell1 D 0) (And.intro (DS.cell0 D 0) (DS.cell0 D 1))
        go_wp2_with fail
        refine hK.out _ _ ?_ (fun hHeld2 => ?_)
        · (try dsimp only)
          exact kS
        clear hK K hHeld
        have hHeld := hHeld2
        clear hHeld2
        (try simp only [Act.put]); (try simp only [List.setIfInBounds_toArray]); (try simp only [List.set_cons_succ]); (try simp only [List.set_cons_zero])
        refine wpAnyH_ready (rs := [9]) (by kernel_rfl) (by simp) (AllReadyH.cons rfl (fun K hK => ?_) AllReadyH.nil)
        refine step_bL rfl (some 29) rfl 6 _ rfl [0, 7, 1000000, 300, 5, -1] (by kernel_rfl) rfl ?_
        intro qb wb hqb rB gb
        have hcB : cb < qb := Nat.lt_of_lt_of_le D.cur.lt hqb
        (try replace rA := rA.keep0 gb)
        replace D := D.grow gb
        replace kS := And.intro (DS.cell1 D 0) (And.intro (DS.cell0 D 0) (DS.cell0 D 1))
        refine hK.out _ _ ?_ (fun hHeld2 => ?_)
        · (try dsimp only)
          exact kS
        clear hK K hHeld
        have hHeld := hHeld2
        clear hHeld2
        (try simp only [Act.put]); (try simp only [List.setIfInBounds_toArray]); (try simp only [List.set_cons_succ]); (try simp only [List.set_cons_zero])
        refine wpAnyH_ready (rs := [10]) (by kernel_rfl) (by simp) (AllReadyH.cons rfl (fun K hK => ?_) AllReadyH.nil)
        go_simp
        go_at_call 34
        refine (spec_l1Int _ cb _ 6 6 _ _ D.cur ⟨rB, fun p hp => by cases hp; exact hcB⟩ (by decide) (by decide)).mono ?_
        rintro e wt ⟨tick, htk, rfl, cu, d⟩
        replace D := D.step cu d
        replace kS := And.intro (DS.cell1 D 0) (And.intro (DS.cell0 D 0) (DS.cell0 D 1))
        go_wp2_with fail
        refine hK.out _ _ ?_ (fun hHeld2 => ?_)
        · (try dsimp only)
          exact kS
        clear hK K hHeld
        have hHeld := hHeld2
        clear hHeld2
        (try simp only [Act.put]); (try simp only [List.setIfInBounds_toArray]); (try simp only [List.set_cons_succ]); (try simp only [List.set_cons_zero])
        refine wpAnyH_ready (rs := [11]) (by kernel_rfl) (by simp) (AllReadyH.cons rfl (fun K hK => ?_) AllReadyH.nil)
        refine step_stRD rfl rfl 25 (.tmp 2) (.tmp 20) rfl w.heap.size _ _ rfl rfl ((D.bx _ (List.mem_cons_of_mem _ (List.mem_cons_of_mem _ (List.mem_cons_of_mem _ (List.mem_cons_self ..))))).1) si_Jar rfl (by first | rfl | (simp [Value.oneCell']; done)) ?_
        intro w5 Bz g5
        replace D := D.row (b1 := [_, _, _]) rfl Bz g5
        replace kS := And.intro (DS.cell1 D 0) (And.intro (DS.cell0 D 0) (DS.cell0 D 1))
        refine hK.out _ _ ?_ (fun hHeld2 => ?_)
        · (try dsimp only)
          exact kS
        clear hK K hHeld
        have hHeld := hHeld2
        clear hHeld2
        (try simp only [Act.put]); (try simp only [List.setIfInBounds_toArray]); (try simp only [List.set_cons_succ]); (try simp only [List.set_cons_zero])
        refine wpAnyH_ready (rs := [12]) (by kernel_rfl) (by simp) (AllReadyH.cons rfl (fun K hK => ?_) AllReadyH.nil)
        refine step_stRD rfl rfl 27 (.tmp 3) (.tmp 21) rfl (w.heap.size + 1) _ _ rfl rfl ((D.bx _ (List.mem_cons_of_mem _ (List.mem_cons_of_mem _ (List.mem_cons_self ..)))).1) si_Addr rfl (by first | rfl | (simp [Value.oneCell']; done)) ?_
        intro w6 Bz g6
        replace D := D.row (b1 := [_, _]) rfl Bz g6
        replace kS := And.intro (DS.cell1 D 0) (And.intro (DS.cell0 D 0) (DS.cell0 D 1))
        refine hK.out _ _ ?_ (fun hHeld2 => ?_)
        · (try dsimp only)
          exact kS
        clear hK K hHeld
        have hHeld := hHeld2
        clear hHeld2
        (try simp only [Act.put]); (try simp only [List.setIfInBounds_toArray]); (try simp only [List.set_cons_succ]); (try simp only [List.set_cons_zero])
        refine wpAnyH_takeD (i := 13) (some 4) (v := ?_) rfl rfl (by kernel_rfl) (by kernel_rfl) (by kernel_rfl) (fun _ _ _ h => h) (Or.inl ⟨by rfl, ?_⟩) (by assumption) ?_
        rotate_left
        (focus (intro w hSw; (try dsimp only at hSw); (first | (go_simp; done) | (go_simp; with_reducible rfl) | with_reducible rfl)))
        (try simp only [Act.put]); (try simp only [List.setIfInBounds_toArray]); (try simp only [List.set_cons_succ]); (try simp only [List.set_cons_zero])
        refine wpAnyH_takeD (i := 14) (some 5) (v := ?_) rfl rfl (by kernel_rfl) (by kernel_rfl) (by kernel_rfl) (fun _ _ _ h => h) (Or.inl ⟨by rfl, ?_⟩) (by assumption) ?_
        rotate_left
        (focus (intro w hSw; (try dsimp only at hSw); (first | (go_simp; done) | (go_simp; with_reducible rfl) | with_reducible rfl)))
        (try simp only [Act.put]); (try simp only [List.setIfInBounds_toArray]); (try simp only [List.set_cons_succ]); (try simp only [List.set_cons_zero])
        refine wpAnyH_takeD (i := 15) (some 6) (v := ?_) rfl rfl (by kernel_rfl) (by kernel_rfl) (by kernel_rfl) (fun _ _ _ h => h) (Or.inl ⟨by rfl, ?_⟩) (by assumption) ?_
        rotate_left
        (focus (intro w hSw; (try dsimp only at hSw); (first | (go_simp; done) | (go_simp; with_reducible rfl) | with_reducible rfl)))
        (try simp only [Act.put]); (try simp only [List.setIfInBounds_toArray]); (try simp only [List.set_cons_succ]); (try simp only [List.set_cons_zero])
        refine wpAnyH_takeD (i := 16) (some 7) (v := ?_) rfl rfl (by kernel_rfl) (by kernel_rfl) (by kernel_rfl) (fun _ _ _ h => h) (Or.inl ⟨by rfl, ?_⟩) (by assumption) ?_
        rotate_left
        (focus (intro w hSw; (try dsimp only at hSw); (first | (go_simp; done) | (go_simp; with_reducible rfl) | with_reducible rfl)))
        (try simp only [Act.put]); (try simp only [List.setIfInBounds_toArray]); (try simp only [List.set_cons_succ]); (try simp only [List.set_cons_zero])
        refine wpAnyH_done (by kernel_rfl) ?_ _
        (try dsimp only)
        have kj := fun o => DS.cell3 D o
        have ka := fun o => DS.cell2 D o
        (try go_wp2)
        refine bodyPost_ret (v := .tuple #[.agg #[.slice a1 n1 c1], .agg #[.int .i64 x, .int .i64 y], .int .i64 id, .slice a2 n2 c2, .slice a3 n3 c3, .int .i64 tick]) (by simp [results, Try.results7, go_sem, kj, ka]) rfl ⟨a1, n1, c1, l1, x, y, id, a2, n2, c2, l2, a3, n3, c3, l3, tick, rfl, D.tl.tl.r0, D.tl.r0, D.r0, ⟨(D.tl.tl.rs _ (List.mem_cons_self ..)).2.2, (D.tl.rs _ (List.mem_cons_self ..)).2.2, (D.rs _ (List.mem_cons_self ..)).2.2⟩, D.gb hcb⟩
      · refine step_bL rfl (some 29) rfl 6 _ rfl [0, 7, 1000000, 300, 5, -1] (by kernel_rfl) rfl ?_
        intro qb wb hqb rB gb
        have hcB : cb < qb := Nat.lt_of_lt_of_le D.cur.lt hqb
        (try replace rA := rA.keep0 gb)
        replace D := D.grow gb
        replace kS := And.intro (DS.cell1 D 0) (And.intro (DS.cell0 D 0) (DS.cell0 D 1))
        refine hK.out _ _ ?_ (fun hHeld2 => ?_)
        · (try dsimp only)
          exact kS
        clear hK K hHeld
        have hHeld := hHeld2
        clear hHeld2
        (try simp only [Act.put]); (try simp only [List.setIfInBounds_toArray]); (try simp only [List.set_cons_succ]); (try simp only [List.set_cons_zero])
        refine wpAnyH_ready (rs := [7]) (by kernel_rfl) (by simp) (AllReadyH.cons rfl (fun K hK => ?_) AllReadyH.nil)
        go_simp
        go_at_call 33
        refine d_l1Bytes (DS.start D.cur) (by omega) ?_
        intro wc a3 n3 c3 l3 hn3 D2
        (try replace rB := rB.keepI D2.de.dr (fun p hp => .inr (by cases hp; exact hcB)))
        replace D := D.addS D2
        replace kS := And.intro (DS.cell1 D 0) (And.intro (DS.cell0 D 0) (DS.cell0 D 1))
        go_wp2_with fail
        refine hK.out _ _ ?_ (fun hHeld2 => ?_)
        · (try dsimp only)
          exact kS
        clear hK K hHeld
        have hHeld := hHeld2
        clear hHeld2
        (try simp only [Act.put]); (try simp only [List.setIfInBounds_toArray]); (try simp only [List.set_cons_succ]); (try simp only [List.set_cons_zero])
        refine wpAnyH_ready (rs := [10]) (by kernel_rfl) (by simp) (AllReadyH.cons rfl (fun K hK => ?_) AllReadyH.nil)
        go_simp
        go_at_call 34
        refine (spec_l1Int _ cb _ 6 6 _ _ D.cur ⟨rB, fun p hp => by cases hp; exact hcB⟩ (by decide) (by decide)).mono ?_
        rintro e wt ⟨tick, htk, rfl, cu, d⟩
        replace D := D.step cu d
        replace kS := And.intro (DS.cell1 D 0) (And.intro (DS.cell0 D 0) (DS.cell0 D 1))
        go_wp2_with fail
        refine hK.out _ _ ?_ (fun hHeld2 => ?_)
        · (try dsimp only)
          exact kS
        clear hK K hHeld
        have hHeld := hHeld2
        clear hHeld2
        (try simp only [Act.put]); (try simp only [List.setIfInBounds_toArray]); (try simp only [List.set_cons_succ]); (try simp only [List.set_cons_zero])
        refine wpAnyH_ready (rs := [11]) (by kernel_rfl) (by simp) (AllReadyH.cons rfl (fun K hK => ?_) AllReadyH.nil)
        refine step_stRD rfl rfl 25 (.tmp 2) (.tmp 20) rfl w.heap.size _ _ rfl rfl ((D.bx _ (List.mem_cons_of_mem _ (List.mem_cons_of_mem _ (List.mem_cons_of_mem _ (List.mem_cons_self ..))))).1) si_Jar rfl (by first | rfl | (simp [Value.oneCell']; done)) ?_
        intro w5 Bz g5
        replace D := D.row (b1 := [_, _, _]) rfl Bz g5
        replace kS := And.intro (DS.cell1 D 0) (And.intro (DS.cell0 D 0) (DS.cell0 D 1))
        refine hK.out _ _ ?_ (fun hHeld2 => ?_)
        · (try dsimp only)
          exact kS
        clear hK K hHeld
        have hHeld := hHeld2
        clear hHeld2
        (try simp only [Act.put]); (try simp only [List.setIfInBounds_toArray]); (try simp only [List.set_cons_succ]); (try simp only [List.set_cons_zero])
        refine wpAnyH_ready (rs := [12]) (by kernel_rfl) (by simp) (AllReadyH.cons rfl (fun K hK => ?_) AllReadyH.nil)
        refine step_stRD rfl rfl 27 (.tmp 3) (.tmp 21) rfl (w.heap.size + 1) _ _ rfl rfl ((D.bx _ (List.mem_cons_of_mem _ (List.mem_cons_of_mem _ (List.mem_cons_self ..)))).1) si_Addr rfl (by first | rfl | (simp [Value.oneCell']; done)) ?_
        intro w6 Bz g6
        replace D := D.row (b1 := [_, _]) rfl Bz g6
        replace kS := And.intro (DS.cell1 D 0) (And.intro (DS.cell0 D 0) (DS.cell0 D 1))
        refine hK.out _ _ ?_ (fun hHeld2 => ?_)
        · (try dsimp only)
          exact kS
        clear hK K hHeld
        have hHeld := hHeld2
        clear hHeld2
        (try simp only [Act.put]); (try simp only [List.setIfInBounds_toArray]); (try simp only [List.set_cons_succ]); (try simp only [List.set_cons_zero])
        refine wpAnyH_takeD (i := 13) (some 4) (v := ?_) rfl rfl (by kernel_rfl) (by kernel_rfl) (by kernel_rfl) (fun _ _ _ h => h) (Or.inl ⟨by rfl, ?_⟩) (by assumption) ?_
        rotate_left
        (focus (intro w hSw; (try dsimp only at hSw); (first | (go_simp; done) | (go_simp; with_reducible rfl) | with_reducible rfl)))
        (try simp only [Act.put]); (try simp only [List.setIfInBounds_toArray]); (try simp only [List.set_cons_succ]); (try simp only [List.set_cons_zero])
        refine wpAnyH_takeD (i := 14) (some 5) (v := ?_) rfl rfl (by kernel_rfl) (by kernel_rfl) (by kernel_rfl) (fun _ _ _ h => h) (Or.inl ⟨by rfl, ?_⟩) (by assumption) ?_
        rotate_left
        (focus (intro w hSw; (try dsimp only at hSw); (first | (go_simp; done) | (go_simp; with_reducible rfl) | with_reducible rfl)))
        (try simp only [Act.put]); (try simp only [List.setIfInBounds_toArray]); (try simp only [List.set_cons_succ]); (try simp only [List.set_cons_zero])
        refine wpAnyH_takeD (i := 15) (some 6) (v := ?_) rfl rfl (by kernel_rfl) (by kernel_rfl) (by kernel_rfl) (fun _ _ _ h => h) (Or.inl ⟨by rfl, ?_⟩) (by assumption) ?_
        rotate_left
        (focus (intro w hSw; (try dsimp only at hSw); (first | (go_simp; done) | (go_simp; with_reducible rfl) | with_reducible rfl)))
        (try simp only [Act.put]); (try simp only [List.setIfInBounds_toArray]); (try simp only [List.set_cons_succ]); (try simp only [List.set_cons_zero])
        refine wpAnyH_takeD (i := 16) (some 7) (v := ?_) rfl rfl (by kernel_rfl) (by kernel_rfl) (by kernel_rfl) (fun _ _ _ h => h) (Or.inl ⟨by rfl, ?_⟩) (by assumption) ?_
        rotate_left
        (focus (intro w hSw; (try dsimp only at hSw); (first | (go_simp; done) | (go_simp; with_reducible rfl) | with_reducible rfl)))
        (try simp only [Act.put]); (try simp only [List.setIfInBounds_toArray]); (try simp only [List.set_cons_succ]); (try simp only [List.set_cons_zero])
        refine wpAnyH_done (by kernel_rfl) ?_ _
        (try dsimp only)
        have kj := fun o => DS.cell3 D o
        have ka := fun o => DS.cell2 D o
        (try go_wp2)
        refine bodyPost_ret (v := .tuple #[.agg #[.slice a1 n1 c1], .agg #[.int .i64 x, .int .i64 y], .int .i64 id, .slice a2 n2 c2, .slice a3 n3 c3, .int .i64 tick]) (by simp [results, Try.results7, go_sem, kj, ka]) rfl ⟨a1, n1, c1, l1, x, y, id, a2, n2, c2, l2, a3, n3, c3, l3, tick, rfl, D.tl.tl.r0, D.tl.r0, D.r0, ⟨(D.tl.tl.rs _ (List.mem_cons_self ..)).2.2, (D.tl.rs _ (List.mem_cons_self ..)).2.2, (D.rs _ (List.mem_cons_self ..)).2.2⟩, D.gb hcb⟩
    · refine step_bL rfl (some 29) rfl 6 _ rfl [0, 7, 1000000, 300, 5, -1] (by kernel_rfl) rfl ?_
      intro qb wb hqb rB gb
      have hcB : cb < qb := Nat.lt_of_lt_of_le D.cur.lt hqb
      (try replace rA := rA.keep0 gb)
      replace D := D.grow gb
      replace kS := And.intro (DS.cell1 D 0) (And.intro (DS.cell0 D 0) (DS.cell0 D 1))
      refine hK.out _ _ ?_ (fun hHeld2 => ?_)
      · (try dsimp only)
        exact kS
      clear hK K hHeld
      have hHeld := hHeld2
      clear hHeld2
      (try simp only [Act.put]); (try simp only [List.setIfInBounds_toArray]); (try simp only [List.set_cons_succ]); (try simp only [List.set_cons_zero])
      refine wpAnyH_ready (rs := [4]) (by kernel_rfl) (by simp) (AllReadyH.cons rfl (fun K hK => ?_) AllReadyH.nil)
      go_simp
      go_at_call 34
      refine (spec_l1Int _ cb _ 6 6 _ _ D.cur ⟨rA, fun p hp => by cases hp; exact hcA⟩ (by decide) (by decide)).mono ?_
      rintro e wi ⟨id, hid, rfl, cu, d⟩
      (try replace rB := rB.keepI d (fun p hp => .inr (by cases hp; exact hcB)))
      replace D := D.step cu d
      replace kS := And.intro (DS.cell1 D 0) (And.intro (DS.cell0 D 0) (DS.cell0 D 1))
      go_wp2_with fail
      refine hK.out _ _ ?_ (fun hHeld2 => ?_)
      · (try dsimp only)
        exact kS
      clear hK K hHeld
      have hHeld := hHeld2
      clear hHeld2
      (try simp only [Act.put]); (try simp only [List.setIfInBounds_toArray]); (try simp only [List.set_cons_succ]); (try simp only [List.set_cons_zero])
      refine wpAnyH_ready (rs := [7]) (by kernel_rfl) (by simp) (AllReadyH.cons rfl (fun K hK => ?_) AllReadyH.nil)
      go_simp
      go_at_call 33
      refine d_l1Bytes (DS.start D.cur) (by omega) ?_
      intro wc a3 n3 c3 l3 hn3 D2
      (try replace rB := rB.keepI D2.de.dr (fun p hp => .inr (by cases hp; exact hcB)))
      replace D := D.addS D2
      replace kS := And.intro (DS.cell1 D 0) (And.intro (DS.cell0 D 0) (DS.cell0 D 1))
      go_wp2_with fail
      refine hK.out _ _ ?_ (fun hHeld2 => ?_)
      · (try dsimp only)
        exact kS
      clear hK K hHeld
      have hHeld := hHeld2
      clear hHeld2
      (try simp only [Act.put]); (try simp only [List.setIfInBounds_toArray]); (try simp only [List.set_cons_succ]); (try simp only [List.set_cons_zero])
      refine wpAnyH_ready (rs := [10]) (by kernel_rfl) (by simp) (AllReadyH.cons rfl (fun K hK => ?_) AllReadyH.nil)
      go_simp
      go_at_call 34
      refine (spec_l1Int _ cb _ 6 6 _ _ D.cur ⟨rB, fun p hp => by cases hp; exact hcB⟩ (by decide) (by decide)).mono ?_
      rintro e wt ⟨tick, htk, rfl, cu, d⟩
      replace D := D.step cu d
      replace kS := And.intro (DS.cell1 D 0) (And.intro (DS.cell0 D 0) (DS.cell0 D 1))
      go_wp2_with fail
      refine hK.out _ _ ?_ (fun hHeld2 => ?_)
      · (try dsimp only)
        exact kS
      clear hK K hHeld
      have hHeld := hHeld2
      clear hHeld2
      (try simp only [Act.put]); (try simp only [List.setIfInBounds_toArray]); (try simp only [List.set_cons_succ]); (try simp only [List.set_cons_zero])
      refine wpAnyH_ready (rs := [11]) (by kernel_rfl) (by simp) (AllReadyH.cons rfl (fun K hK => ?_) AllReadyH.nil)
      refine step_stRD rfl rfl 25 (.tmp 2) (.tmp 20) rfl w.heap.size _ _ rfl rfl ((D.bx _ (List.mem_cons_of_mem _ (List.mem_cons_of_mem _ (List.mem_cons_of_mem _ (List.mem_cons_self ..))))).1) si_Jar rfl (by first | rfl | (simp [Value.oneCell']; done)) ?_
      intro w5 Bz g5
      replace D := D.row (b1 := [_, _, _]) rfl Bz g5
      replace kS := And.intro (DS.cell1 D 0) (And.intro (DS.cell0 D 0) (DS.cell0 D 1))
      refine hK.out _ _ ?_ (fun hHeld2 => ?_)
      · (try dsimp only)
        exact kS
      clear hK K hHeld
      have hHeld := hHeld2
      clear hHeld2
      (try simp only [Act.put]); (try simp only [List.setIfInBounds_toArray]); (try simp only [List.set_cons_succ]); (try simp only [List.set_cons_zero])
      refine wpAnyH_ready (rs := [12]) (by kernel_rfl) (by simp) (AllReadyH.cons rfl (fun K hK => ?_) AllReadyH.nil)
      refine step_stRD rfl rfl 27 (.tmp 3) (.tmp 21) rfl (w.heap.size + 1) _ _ rfl rfl ((D.bx _ (List.mem_cons_of_mem _ (List.mem_cons_of_mem _ (List.mem_cons_self ..)))).1) si_Addr rfl (by first | rfl | (simp [Value.oneCell']; done)) ?_
      intro w6 Bz g6
      replace D := D.row (b1 := [_, _]) rfl Bz g6
      replace kS := And.intro (DS.cell1 D 0) (And.intro (DS.cell0 D 0) (DS.cell0 D 1))
      refine hK.out _ _ ?_ (fun hHeld2 => ?_)
      · (try dsimp only)
        exact kS
      clear hK K hHeld
      have hHeld := hHeld2
      clear hHeld2
      (try simp only [Act.put]); (try simp only [List.setIfInBounds_toArray]); (try simp only [List.set_cons_succ]); (try simp only [List.set_cons_zero])
      refine wpAnyH_takeD (i := 13) (some 4) (v := ?_) rfl rfl (by kernel_rfl) (by kernel_rfl) (by kernel_rfl) (fun _ _ _ h => h) (Or.inl ⟨by rfl, ?_⟩) (by assumption) ?_
      rotate_left
      (focus (intro w hSw; (try dsimp only at hSw); (first | (go_simp; done) | (go_simp; with_reducible rfl) | with_reducible rfl)))
      (try simp only [Act.put]); (try simp only [List.setIfInBounds_toArray]); (try simp only [List.set_cons_succ]); (try simp only [List.set_cons_zero])
      refine wpAnyH_takeD (i := 14) (some 5) (v := ?_) rfl rfl (by kernel_rfl) (by kernel_rfl) (by kernel_rfl) (fun _ _ _ h => h) (Or.inl ⟨by rfl, ?_⟩) (by assumption) ?_
      rotate_left
      (focus (intro w hSw; (try dsimp only at hSw); (first | (go_simp; done) | (go_simp; with_reducible rfl) | with_reducible rfl)))
      (try simp only [Act.put]); (try simp only [List.setIfInBounds_toArray]); (try simp only [List.set_cons_succ]); (try simp only [List.set_cons_zero])
      refine wpAnyH_takeD (i := 15) (some 6) (v := ?_) rfl rfl (by kernel_rfl) (by kernel_rfl) (by kernel_rfl) (fun _ _ _ h => h) (Or.inl ⟨by rfl, ?_⟩) (by assumption) ?_
      rotate_left
      (focus (intro w hSw; (try dsimp only at hSw); (first | (go_simp; done) | (go_simp; with_reducible rfl) | with_reducible rfl)))
      (try simp only [Act.put]); (try simp only [List.setIfInBounds_toArray]); (try simp only [List.set_cons_succ]); (try simp only [List.set_cons_zero])
      refine wpAnyH_takeD (i := 16) (some 7) (v := ?_) rfl rfl (by kernel_rfl) (by kernel_rfl) (by kernel_rfl) (fun _ _ _ h => h) (Or.inl ⟨by rfl, ?_⟩) (by assumption) ?_
      rotate_left
      (focus (intro w hSw; (try dsimp only at hSw); (first | (go_simp; done) | (go_simp; with_reducible rfl) | with_reducible rfl)))
      (try simp only [Act.put]); (try simp only [List.setIfInBounds_toArray]); (try simp only [List.set_cons_succ]); (try simp only [List.set_cons_zero])
      refine wpAnyH_done (by kernel_rfl) ?_ _
      (try dsimp only)
      have kj := fun o => DS.cell3 D o
      have ka := fun o => DS.cell2 D o
      (try go_wp2)
      refine bodyPost_ret (v := .tuple #[.agg #[.slice a1 n1 c1], .agg #[.int .i64 x, .int .i64 y], .int .i64 id, .slice a2 n2 c2, .slice a3 n3 c3, .int .i64 tick]) (by simp [results, Try.results7, go_sem, kj, ka]) rfl ⟨a1, n1, c1, l1, x, y, id, a2, n2, c2, l2, a3, n3, c3, l3, tick, rfl, D.tl.tl.r0, D.tl.r0, D.r0, ⟨(D.tl.tl.rs _ (List.mem_cons_self ..)).2.2, (D.tl.rs _ (List.mem_cons_self ..)).2.2, (D.rs _ (List.mem_cons_self ..)).2.2⟩, D.gb hcb⟩
  · refine step_bL rfl (some 29) rfl 6 _ rfl [0, 7, 1000000, 300, 5, -1] (by kernel_rfl) rfl ?_
    intro qb wb hqb rB gb
    have hcB : cb < qb := Nat.lt_of_lt_of_le D.cur.lt hqb
    (try replace rA := rA.keep0 gb)
    replace D := D.grow gb
    replace kS := And.intro (DS.cell1 D 0) (And.intro (DS.cell0 D 0) (DS.cell0 D 1))
    refine hK.out _ _ ?_ (fun hHeld2 => ?_)
    · (try dsimp only)
      exact kS
    clear hK K hHeld
    have hHeld := hHeld2
    clear hHeld2
    (try simp only [Act.put]); (try simp only [List.setIfInBounds_toArray]); (try simp only [List.set_cons_succ]); (try simp only [List.set_cons_zero])
    refine wpAnyH_ready (rs := [3]) (by kernel_rfl) (by simp) (AllReadyH.cons rfl (fun K hK => ?_) AllReadyH.nil)
    refine step_bL rfl (some 23) rfl 6 _ rfl [1, 2, 9, 1, 2, 0] (by kernel_rfl) rfl ?_
    intro qa wa hqa rA ga
    have hcA : cb < qa := Nat.lt_of_lt_of_le D.cur.lt hqa
    (try replace rB := rB.keep0 ga)
    replace D := D.grow ga
    replace kS := And.intro (DS.cell1 D 0) (And.intro (DS.cell0 D 0) (DS.cell0 D 1))
    refine hK.out _ _ ?_ (fun hHeld2 => ?_)
    · (try dsimp only)
      exact kS
    clear hK K hHeld
    have hHeld := hHeld2
    clear hHeld2
    (try simp only [Act.put]); (try simp only [List.setIfInBounds_toArray]); (try simp only [List.set_cons_succ]); (try simp only [List.set_cons_zero])
    refine wpAnyH_ready (rs := [4]) (by kernel_rfl) (by simp) (AllReadyH.cons rfl (fun K hK => ?_) AllReadyH.nil)
    go_simp
    go_at_call 34
    refine (spec_l1Int _ cb _ 6 6 _ _ D.cur ⟨rA, fun p hp => by cases hp; exact hcA⟩ (by decide) (by decide)).mono ?_
    rintro e wi ⟨id, hid, rfl, cu, d⟩
    (try replace rB := rB.keepI d (fun p hp => .inr (by cases hp; exact hcB)))
    replace D := D.step cu d
    replace kS := And.intro (DS.cell1 D 0) (And.intro (DS.cell0 D 0) (DS.cell0 D 1))
    go_wp2_with fail
    refine hK.out _ _ ?_ (fun hHeld2 => ?_)
    · (try dsimp only)
      exact kS
    clear hK K hHeld
    have hHeld := hHeld2
    clear hHeld2
    (try simp only [Act.put]); (try simp only [List.setIfInBounds_toArray]); (try simp only [List.set_cons_succ]); (try simp only [List.set_cons_zero])
    refine wpAnyH_ready (rs := [7]) (by kernel_rfl) (by simp) (AllReadyH.cons rfl (fun K hK => ?_) AllReadyH.nil)
    go_simp
    go_at_call 33
    refine d_l1Bytes (DS.start D.cur) (by omega) ?_
    intro wc a3 n3 c3 l3 hn3 D2
    (try replace rB := rB.keepI D2.de.dr (fun p hp => .inr (by cases hp; exact hcB)))
    replace D := D.addS D2
    replace kS := And.intro (DS.cell1 D 0) (And.intro (DS.cell0 D 0) (DS.cell0 D 1))
    go_wp2_with fail
    refine hK.out _ _ ?_ (fun hHeld2 => ?_)
    · (try dsimp only)
      exact kS
    clear hK K hHeld
    have hHeld := hHeld2
    clear hHeld2
    (try simp only [Act.put]); (try simp only [List.setIfInBounds_toArray]); (try simp only [List.set_cons_succ]); (try simp only [List.set_cons_zero])
    refine wpAnyH_ready (rs := [10]) (by kernel_rfl) (by simp) (AllReadyH.cons rfl (fun K hK => ?_) AllReadyH.nil)
    go_simp
    go_at_call 34
    refine (spec_l1Int _ cb _ 6 6 _ _ D.cur ⟨rB, fun p hp => by cases hp; exact hcB⟩ (by decide) (by decide)).mono ?_
    rintro e wt ⟨tick, htk, rfl, cu, d⟩
    replace D := D.step cu d
    replace kS := And.intro (DS.cell1 D 0) (And.intro (DS.cell0 D 0) (DS.cell0 D 1))
    go_wp2_with fail
    refine hK.out _ _ ?_ (fun hHeld2 => ?_)
    · (try dsimp only)
      exact kS
    clear hK K hHeld
    have hHeld := hHeld2
    clear hHeld2
    (try simp only [Act.put]); (try simp only [List.setIfInBounds_toArray]); (try simp only [List.set_cons_succ]); (try simp only [List.set_cons_zero])
    refine wpAnyH_ready (rs := [11]) (by kernel_rfl) (by simp) (AllReadyH.cons rfl (fun K hK => ?_) AllReadyH.nil)
    refine step_stRD rfl rfl 25 (.tmp 2) (.tmp 20) rfl w.heap.size _ _ rfl rfl ((D.bx _ (List.mem_cons_of_mem _ (List.mem_cons_of_mem _ (List.mem_cons_of_mem _ (List.mem_cons_self ..))))).1) si_Jar rfl (by first | rfl | (simp [Value.oneCell']; done)) ?_
    intro w5 Bz g5
    replace D := D.row (b1 := [_, _, _]) rfl Bz g5
    replace kS := And.intro (DS.cell1 D 0) (And.intro (DS.cell0 D 0) (DS.cell0 D 1))
    refine hK.out _ _ ?_ (fun hHeld2 => ?_)
    · (try dsimp only)
      exact kS
    clear hK K hHeld
    have hHeld := hHeld2
    clear hHeld2
    (try simp only [Act.put]); (try simp only [List.setIfInBounds_toArray]); (try simp only [List.set_cons_succ]); (try simp only [List.set_cons_zero])
    refine wpAnyH_ready (rs := [12]) (by kernel_rfl) (by simp) (AllReadyH.cons rfl (fun K hK => ?_) AllReadyH.nil)
    refine step_stRD rfl rfl 27 (.tmp 3) (.tmp 21) rfl (w.heap.size + 1) _ _ rfl rfl ((D.bx _ (List.mem_cons_of_mem _ (List.mem_cons_of_mem _ (List.mem_cons_self ..)))).1) si_Addr rfl (by first | rfl | (simp [Value.oneCell']; done)) ?_
    intro w6 Bz g6
    replace D := D.row (b1 := [_, _]) rfl Bz g6
    replace kS := And.intro (DS.cell1 D 0) (And.intro (DS.cell0 D 0) (DS.cell0 D 1))
    refine hK.out _ _ ?_ (fun hHeld2 => ?_)
    · (try dsimp only)
      exact kS
    clear hK K hHeld
    have hHeld := hHeld2
    clear hHeld2
    (try simp only [Act.put]); (try simp only [List.setIfInBounds_toArray]); (try simp only [List.set_cons_succ]); (try simp only [List.set_cons_zero])
    refine wpAnyH_takeD (i := 13) (some 4) (v := ?_) rfl rfl (by kernel_rfl) (by kernel_rfl) (by kernel_rfl) (fun _ _ _ h => h) (Or.inl ⟨by rfl, ?_⟩) (by assumption) ?_
    rotate_left
    (focus (intro w hSw; (try dsimp only at hSw); (first | (go_simp; done) | (go_simp; with_reducible rfl) | with_reducible rfl)))
    (try simp only [Act.put]); (try simp only [List.setIfInBounds_toArray]); (try simp only [List.set_cons_succ]); (try simp only [List.set_cons_zero])
    refine wpAnyH_takeD (i := 14) (some 5) (v := ?_) rfl rfl (by kernel_rfl) (by kernel_rfl) (by kernel_rfl) (fun _ _ _ h => h) (Or.inl ⟨by rfl, ?_⟩) (by assumption) ?_
    rotate_left
    (focus (intro w hSw; (try dsimp only at hSw); (first | (go_simp; done) | (go_simp; with_reducible rfl) | with_reducible rfl)))
    (try simp only [Act.put]); (try simp only [List.setIfInBounds_toArray]); (try simp only [List.set_cons_succ]); (try simp only [List.set_cons_zero])
    refine wpAnyH_takeD (i := 15) (some 6) (v := ?_) rfl rfl (by kernel_rfl) (by kernel_rfl) (by kernel_rfl) (fun _ _ _ h => h) (Or.inl ⟨by rfl, ?_⟩) (by assumption) ?_
    rotate_left
    (focus (intro w hSw; (try dsimp only at hSw); (first | (go_simp; done) | (go_simp; with_reducible rfl) | with_reducible rfl)))
    (try simp only [Act.put]); (try simp only [List.setIfInBounds_toArray]); (try simp only [List.set_cons_succ]); (try simp only [List.set_cons_zero])
    refine wpAnyH_takeD (i := 16) (some 7) (v := ?_) rfl rfl (by kernel_rfl) (by kernel_rfl) (by kernel_rfl) (fun _ _ _ h => h) (Or.inl ⟨by rfl, ?_⟩) (by assumption) ?_
    rotate_left
    (focus (intro w hSw; (try dsimp only at hSw); (first | (go_simp; done) | (go_simp; with_reducible rfl) | with_reducible rfl)))
    (try simp only [Act.put]); (try simp only [List.setIfInBounds_toArray]); (try simp only [List.set_cons_succ]); (try simp only [List.set_cons_zero])
    refine wpAnyH_done (by kernel_rfl) ?_ _
    (try dsimp only)
    have kj := fun o => DS.cell3 D o
    have ka := fun o => DS.cell2 D o
    (try go_wp2)
    refine bodyPost_ret (v := .tuple #[.agg #[.slice a1 n1 c1], .agg #[.int .i64 x, .int .i64 y], .int .i64 id, .slice a2 n2 c2, .slice a3 n3 c3, .int .i64 tick]) (by simp [results, Try.results7, go_sem, kj, ka]) rfl ⟨a1, n1, c1, l1, x, y, id, a2, n2, c2, l2, a3, n3, c3, l3, tick, rfl, D.tl.tl.r0, D.tl.r0, D.r0, ⟨(D.tl.tl.rs _ (List.mem_cons_self ..)).2.2, (D.tl.rs _ (List.mem_cons_self ..)).2.2, (D.rs _ (List.mem_cons_self ..)).2.2⟩, D.gb hcb⟩
end Go.Proofs.Ytjdaafemfpafdaa

/-
  FnCookies returns true for every code. Conditions: none.
-/
namespace Go.Proofs.Ytjdaafemfpafdaa.lCookies
open Go.ChangeShapes Go.WideShapes Go.ChangeAt Go.RowKit
theorem fresh_of {now tick : Int} (h0 : 0 ≤ tick) (h1 : tick ≤ 1000000) (hn : tick ≤ now) (hn1 : now ≤ 1000000) : freshM now tick = decide (now ≤ tick + 10) := by
  have hw : wrap64 (now - tick) = now - tick := by
    unfold wrap64
    omega
  rw [freshM, inB_t (by omega) (by omega), inB_t h0 h1, hw]
  simp only [inB, Bool.true_and, decide_eq_decide]
  omega
theorem cook_zero {s : List UInt8} {h p id : Int} {cn sn : List UInt8} {tick : Int} (h0 : (cookM s h p id cn sn tick).length = 0) (hs : s.length = 32) : (mintM h p id cn sn tick).length = 0 := by
  rcases Nat.eq_zero_or_pos (mintM h p id cn sn tick).length with e | e
  · exact e
  have hl : (mintM h p id cn sn tick).length ≤ 65 := by
    unfold mintM
    split
    · rename_i h1
      obtain ⟨a1, a2, a3, a4, a5⟩ := mintOk_iff.1 h1
      have := addrM_len [99] h p
      simp only [List.length_append, be_len, List.length_singleton] at this ⊢
      omega
    · simp
  rw [cookM, if_pos ⟨hs, by omega⟩, tagM_len hs hl] at h0
  omega
theorem fr_mk {w : World} {id tick : Int} {a2 a3 a4 a6 : Option Addr} {n2 c2 n3 c3 n4 c4 n6 c6 : Nat} {l2 l3 M M' : List UInt8} (r2 : Rd w a2 n2 c2 (bys l2)) (r3 : Rd w a3 n3 c3 (bys l3)) (r6 : Rd w a6 n6 c6 (bys M')) (r4 : Rd w a4 n4 c4 (bys M)) :
    FrameR w (.agg #[.int .i64 3, .int .i64 id, .slice a2 n2 c2, .slice a3 n3 c3, .int .i64 tick, .slice a6 n6 c6, .slice a4 n4 c4, .int .i64 0, .int .i64 0, .slice none 0 0, .slice none 0 0]) ⟨3, id, l2, l3, tick, M', M, 0, 0, [], []⟩ :=
  ⟨_, _, _, _, _, _, _, _, _, _, _, _, _, _, _, _, _, _, rfl, r2, r3, r6, r4, Rd.nil w none 0, Rd.nil w none 0⟩
set_option maxRecDepth 1000000 in
set_option maxHeartbeats 8000000 in
theorem walk (w : World) (v0 : Value) (h0 : InBytes w v0) : Calls Try.prog 3 #[v0] w fun e w' => e = .returned (.bool true) ∧ Below w.heap.size w w' := by
  obtain ⟨a, n, c, l, rfl, r, hC⟩ := h0
  rcases Nat.lt_or_ge 1048576 n with p | p
  · go_enter Try.func3, Try.ntmps3
    go_wp2_with (go_at_call 6; refine (laws_big a n c _).mono ?_; rw [decide_eq_true p]; rintro e w0 ⟨rfl, rfl⟩)
    go_ret
    exact ⟨rfl, Below.refl _ _⟩
  go_enter Try.func3, Try.ntmps3
  go_wp2_with (first
    | (go_at_call 6; refine (laws_big a n c _).mono ?_; rw [decide_eq_false (by omega)]; rintro e w0 ⟨rfl, rfl⟩) | (go_at_call 7; refine (spec_DrawMint a n c l _ r p).mono ?_; rintro e w1 ⟨a1, n1, c1, l1, x, y, id, a2, n2, c2, l2, a3, n3, c3, l3, tick, rfl, r1, r2, r3, hm, G⟩; replace r := r.keep0 G; replace hm := Lib.hid hm))
  obtain ⟨M, hM⟩ : ∃ M, Hid (cookM l1 x y id l2 l3 tick = M) := ⟨_, rfl⟩
  have gA := gb_alloc (gb_alloc (gb_refl w1) (.cells #[.slice a1 n1 c1] 25)) (.cells #[.int .i64 x, .int .i64 y] 27)
  have b2 := bx2 w1 #[.slice a1 n1 c1] #[.int .i64 x, .int .i64 y] 25 27
  have e1 := Lib.hid r1.blen
  refine (impl_Mint a1 n1 c1 l1 x y id a2 n2 c2 l2 a3 n3 c3 l3 tick _ (r1.keep0 gA) (r2.keep0 gA) (r3.keep0 gA)).mono ?_
  rw [hM.out]
  rintro e w2 ⟨a4, n4, c4, rfl, o4, g2⟩
  have B3 := b2.1.keep0 g2
  have B4 := b2.2.keep0 g2
  have gB := gb_trans gA g2
  replace r := r.keep0 gB; replace r1 := r1.keep0 gB; replace r2 := r2.keep0 gB; replace r3 := r3.keep0 gB; replace G := gb_trans G gB
  clear gB g2
  have r4 := o4.rd
  clear o4
  have k3 := fun o => B3.cell o
  have k4 := fun o => B4.cell o
  have e4 := Lib.hid r4.blen
  rcases Nat.eq_zero_or_pos n4 with z4 | z4
  · have hc0 := Lib.hid (show l1.length = 32 → (mintM x y id l2 l3 tick).length = 0 from cook_zero (by rw [hM.out, e4.out]; exact z4))
    subst z4
    obtain ⟨jb, hj⟩ : ∃ jb, Hid (((n1 : Int) == 32) = jb) := ⟨_, rfl⟩
    cases jb
    · go_wp2_with (first | (go_at_call 10; (with_reducible refine (spec_Mint a1 n1 c1 l1 x y id a2 n2 c2 l2 a3 n3 c3 l3 tick w2 r1 r2 r3).mono ?_); rw [hM.out]; rintro e w3 ⟨a5, n5, c5, rfl, o5, g3⟩; replace r := r.keep0 g3; replace r1 := r1.keep0 g3; replace r2 := r2.keep0 g3; replace r3 := r3.keep0 g3; replace G := gb_trans G g3; replace r4 := r4.keep0 g3; replace B3 := B3.keep0 g3; replace B4 := B4.keep0 g3; clear g3; clear k3 k4; have k3 := fun o => B3.cell o; have k4 := fun o => B4.cell o) | (go_at_call 9; (with_reducible refine (laws_same_t a4 _ c4 a5 _ c5 M _ r4 o5.rd).mono ?_); rintro e w' ⟨rfl, rfl⟩) | (go_at_call 11; refine (impl_JarOk a1 n1 c1 _).mono ?_; rw [hj.out]; rintro e w4 ⟨rfl, g4⟩; replace r := r.keep0 g4; replace r1 := r1.keep0 g4; replace r2 := r2.keep0 g4; replace r3 := r3.keep0 g4; replace G := gb_trans G g4; replace B3 := B3.keep0 g4; replace B4 := B4.keep0 g4; clear g4; clear k3 k4; have k3 := fun o => B3.cell o; have k4 := fun o => B4.cell o))
      go_ret
      exact ⟨rfl, gb_below G⟩
    · have hz := Lib.hid (hc0.out (by have h9 := hj.out; rw [e1.out]; simp at h9; omega))
      go_wp2_with (first | (go_at_call 10; (with_reducible refine (spec_Mint a1 n1 c1 l1 x y id a2 n2 c2 l2 a3 n3 c3 l3 tick w2 r1 r2 r3).mono ?_); rw [hM.out]; rintro e w3 ⟨a5, n5, c5, rfl, o5, g3⟩; replace r := r.keep0 g3; replace r1 := r1.keep0 g3; replace r2 := r2.keep0 g3; replace r3 := r3.keep0 g3; replace G := gb_trans G g3; replace r4 := r4.keep0 g3; replace B3 := B3.keep0 g3; replace B4 := B4.keep0 g3; clear g3; clear k3 k4; have k3 := fun o => B3.cell o; have k4 := fun o => B4.cell o) | (go_at_call 9; (with_reducible refine (laws_same_t a4 _ c4 a5 _ c5 M _ r4 o5.rd).mono ?_); rintro e w' ⟨rfl, rfl⟩) | (go_at_call 11; refine (impl_JarOk a1 n1 c1 _).mono ?_; rw [hj.out]; rintro e w4 ⟨rfl, g4⟩; replace r := r.keep0 g4; replace r1 := r1.keep0 g4; replace r2 := r2.keep0 g4; replace r3 := r3.keep0 g4; replace G := gb_trans G g4; replace B3 := B3.keep0 g4; replace B4 := B4.keep0 g4; clear g4; clear k3 k4; have k3 := fun o => B3.cell o; have k4 := fun o => B4.cell o) | (go_at_call 12; (with_reducible refine (impl_MintBody x y id a2 n2 c2 l2 a3 n3 c3 l3 tick w4 r2 r3).mono ?_); rintro e w5 ⟨a6, n6, c6, rfl, o6, g5⟩; obtain rfl : n6 = 0 := o6.blen.symm.trans hz.out; replace G := gb_trans G g5))
      go_ret
      exact ⟨rfl, gb_below G⟩
  have K := cookOk (s := l1) (h := x) (p := y) (id := id) (cn := l2) (sn := l3) (tick := tick) (by rw [hM.out, e4.out]; omega)
  have ht0 := K.t0
  have ht1 := K.t1
  have hl16 : M.length = 16 := by rw [← hM.out]; exact K.ml
  have hJ := Lib.hid (show ∀ ck : List UInt8, ck.length = 16 → ∀ now, tick ≤ now → now ≤ tick + 13 → judgeM l1 now x y ⟨3, id, l2, l3, tick, ck, M, 0, 0, [], []⟩ = (if 1000000 < now then 1 else if tick + 10 < now then 9 else if ck = M then 0 else 2) from by
    intro ck hc now h1 h2
    have h9 := K.judge hc h1 h2
    rw [hM.out] at h9
    exact h9)
  obtain rfl : n4 = 16 := by rw [← e4.out, hl16]
  replace hl16 := Lib.hid hl16
  clear K
  go_wp2_with (first | (go_at_call 10; (with_reducible refine (spec_Mint a1 n1 c1 l1 x y id a2 n2 c2 l2 a3 n3 c3 l3 tick w2 r1 r2 r3).mono ?_); rw [hM.out]; rintro e w3 ⟨a5, n5, c5, rfl, o5, g3⟩; replace r := r.keep0 g3; replace r1 := r1.keep0 g3; replace r2 := r2.keep0 g3; replace r3 := r3.keep0 g3; replace G := gb_trans G g3; replace r4 := r4.keep0 g3; replace B3 := B3.keep0 g3; replace B4 := B4.keep0 g3; clear g3; clear k3 k4; have k3 := fun o => B3.cell o; have k4 := fun o => B4.cell o) | (go_at_call 9; (with_reducible refine (laws_same_t a4 _ c4 a5 _ c5 M _ r4 o5.rd).mono ?_); rintro e w' ⟨rfl, rfl⟩))
  have gC := gb_alloc (gb_alloc (gb_refl w3) (.cells #[.int .i64 3, .int .i64 id, .slice a2 n2 c2, .slice a3 n3 c3, .int .i64 tick, .slice a4 16 c4, .slice a4 16 c4, .int .i64 0, .int .i64 0, .slice none 0 0, .slice none 0 0] 35)) (.cells #[.int .i64 3, .int .i64 id, .slice a2 n2 c2, .slice a3 n3 c3, .int .i64 tick, .slice a4 16 c4, .slice a4 16 c4, .int .i64 0, .int .i64 0, .slice none 0 0, .slice none 0 0] 35)
  have b10 := bx2 w3 #[.int .i64 3, .int .i64 id, .slice a2 n2 c2, .slice a3 n3 c3, .int .i64 tick, .slice a4 16 c4, .slice a4 16 c4, .int .i64 0, .int .i64 0, .slice none 0 0, .slice none 0 0] #[.int .i64 3, .int .i64 id, .slice a2 n2 c2, .slice a3 n3 c3, .int .i64 tick, .slice a4 16 c4, .slice a4 16 c4, .int .i64 0, .int .i64 0, .slice none 0 0, .slice none 0 0] 35 35
  refine (laws_bent a n c l a4 16 c4 M _ (r.keep0 gC) p (r4.keep0 gC) (by decide)).mono ?_
  rintro e w5 ⟨a6, c6, M', rfl, o6, hne, g5⟩
  have l5 := g5.size
  simp only [World.size_alloc] at l5
  have gD := gb_trans gC g5
  have B10 := b10.1.keep0 g5
  have B11 := b10.2.keep0 g5
  have b12 := B4.lt
  replace B3 := B3.keep0 gD
  replace B4 := B4.keep0 gD
  have q3 := B3.lt
  have k10 := fun o => B10.cell o
  have k11 := fun o => B11.cell o
  have f11 := fun o => B11.frozen o
  clear k3 k4
  have k3 := fun o => B3.cell o
  have k4 := fun o => B4.cell o
  go_wp2_with (go_at_call 14; refine (laws_at a n c l 5 _ (r.keep0 (gb_set gD (p := ⟨w3.heap.size + 1, 5, none⟩) (.inl (Nat.le_succ _)) _)) p (by decide) (by decide)).mono ?_; rintro e w' ⟨kk, hkk, rfl, rfl⟩)
  have gS := gb_set gD (p := ⟨w3.heap.size + 1, 5, none⟩) (.inl (Nat.le_succ _)) (.slice a6 16 c6)
  have B3S := B3.setO ⟨w3.heap.size + 1, 5, none⟩ (.slice a6 16 c6) (by simp only; omega)
  have B4S := B4.setO ⟨w3.heap.size + 1, 5, none⟩ (.slice a6 16 c6) (by simp only; omega)
  have B10S := B10.setO ⟨w3.heap.size + 1, 5, none⟩ (.slice a6 16 c6) (by simp only; omega)
  have B11S := B11.set 5 (.slice a6 16 c6)
  have r6 := (o6.keepSet (q := ⟨w3.heap.size + 1, 5, none⟩) (by simp) (.slice a6 16 c6)).rd
  have hl' := Lib.hid (show M'.length = 16 from o6.blen)
  obtain ⟨wS, hwS⟩ : ∃ wS, wS = w5.setCell ⟨w3.heap.size + 1, 5, none⟩ (.slice a6 16 c6) := ⟨_, rfl⟩
  rw [← hwS] at gS B3S B4S B10S B11S r6 ⊢
  clear k3 k4 k10 k11 f11 B3 B4 B10 B11 b10 b12 hwS o6 q3 gC gD g5 l5
  replace r := r.keep0 gS; replace r1 := r1.keep0 gS; replace r2 := r2.keep0 gS; replace r3 := r3.keep0 gS; replace G := gb_trans G gS
  replace r4 := r4.keep0 gS
  clear gS
  generalize hnow : tick + (kk : Int) % 14 = now
  have n1' : tick ≤ now := by omega
  have n2' : now ≤ tick + 13 := by omega
  clear hnow hkk
  have J1 := hJ.out M hl16.out now n1' n2'
  have J2 := hJ.out M' hl'.out now n1' n2'
  have hne' : M' ≠ M := hne (by decide)
  have fr1 := fr_mk (id := id) (tick := tick) r2 r3 r4 r4
  by_cases v1 : 1000000 < now
  · rw [if_pos v1] at J1
    replace J1 := Lib.hid J1
    clear J2 hne hne'
    refine (impl_Judge a1 n1 c1 l1 now x y _ _ wS r1 fr1).mono ?_
    rw [J1.out]
    rintro e w9 ⟨rfl, g9⟩
    go_wp2
    go_ret
    exact ⟨rfl, gb_below (gb_trans G g9)⟩
  have hFf := fresh_of ht0 ht1 n1' (by omega)
  by_cases v2 : tick + 10 < now
  · rw [if_neg v1, if_pos v2] at J1
    have hF : Hid (freshM now tick = false) := by rw [Hid, hFf]; exact decide_eq_false (by omega)
    replace J1 := Lib.hid J1
    clear J2 hne hne' hFf
    refine (impl_Judge a1 n1 c1 l1 now x y _ _ wS r1 fr1).mono ?_
    rw [J1.out]
    rintro e w9 ⟨rfl, g9⟩
    go_wp2_with (first | (go_at_call 16; refine (impl_Fresh _ _ _).mono ?_; rw [hF.out]; rintro e w' ⟨rfl, rfl⟩))
    go_ret
    exact ⟨rfl, gb_below (gb_trans G g9)⟩
  · rw [if_neg v1, if_neg v2, if_pos rfl] at J1
    rw [if_neg v1, if_neg v2, if_neg hne'] at J2
    have hF : Hid (freshM now tick = true) := by rw [Hid, hFf]; exact decide_eq_true (by omega)
    replace J1 := Lib.hid J1
    replace J2 := Lib.hid J2
    clear hne hne' hFf
    refine (impl_Judge a1 n1 c1 l1 now x y _ _ wS r1 fr1).mono ?_
    rw [J1.out]
    rintro e w9 ⟨rfl, g9⟩
    have k3 := fun o => (B3S.keep0 g9).cell o
    have k4 := fun o => (B4S.keep0 g9).cell o
    have k11 := fun o => (B11S.keep0 g9).cell o
    replace r := r.keep0 g9; replace r1 := r1.keep0 g9; replace r2 := r2.keep0 g9; replace r3 := r3.keep0 g9; replace G := gb_trans G g9
    replace r4 := r4.keep0 g9
    replace r6 := r6.keep0 g9
    clear g9
    go_wp2_with (first | (go_at_call 16; refine (impl_Fresh _ _ _).mono ?_; rw [hF.out]; rintro e w' ⟨rfl, rfl⟩) | (go_at_call 15; (with_reducible refine (impl_Judge a1 n1 c1 l1 now x y _ (⟨3, id, l2, l3, tick, M', M, 0, 0, [], []⟩ : FrameM) w9 r1 ?_).mono ?_); (focus (exact fr_mk r2 r3 r6 r4)); rw [J2.out]; rintro e w10 ⟨rfl, g10⟩; replace G := gb_trans G g10))
    go_ret
    exact ⟨rfl, gb_below G⟩
set_option maxRecDepth 100000 in
theorem lifted (os : Os) (started : os.Started) (H : Type) (enc : TypeId × Value → H) :
    ReturnsInHanded {} Try.checked os 3 .any (Rows.fnCookiesSpec.pre6 enc Try.prog Try.f3 Rows.fnCookiesRow.domain false) (Rows.fnCookiesSpec.post enc Try.prog Try.f3 false true false false) := by
  refine returnsInHanded_of_change (C := Try.checked) own started (by kernel_rfl) Try.func3
    (ChangeSpec.witness6 (enc := enc) (C := Try.checked) false ⟨#[], #[.slice none 0 0], []⟩ 8 (by kernel_rfl) (by kernel_rfl) (by kernel_rfl) (by kernel_rfl)) ?_
  intro W base args ds gs before hval0 hW _ _
  have hval : ∀ (j : Nat) t v, Try.f3.params[j]? = some t → args[j]? = some v → Value.okWide Try.prog W .any base t v := hval0
  have hW2 := hW
  obtain ⟨p, q, hA0, hV, hps, _, _⟩ := hW
  have hA : DataW.TrodAll enc Try.prog W 0 (fun _ => true) true Try.f3.params.toList args.toList ds p := hA0
  rw [Try.params3] at hA hval
  obtain ⟨rfl, rfl⟩ := trodVars_none hV
  obtain ⟨v0, vs0, d0, ds0, p0, q0, hargs, rfl, rfl, h0, r0⟩ := trodAll_cons hA
  obtain ⟨rfl, rfl, rfl⟩ := trodAll_nil r0
  obtain rfl : args = #[v0] := by cases args; simp_all
  have i0 := open_B (hval 0 22 v0 rfl rfl) h0
  clear hA0 hval0
  refine (walk W v0 i0).mono fun e W2 ⟨he, hb⟩ => ?_
  subst he
  exact ⟨_, rfl, law_post (tb := 4) laidOut (by kernel_rfl) (by kernel_rfl) Try.underlying4 rfl ⟨rfl, rfl, rfl⟩ hW2 hb⟩
theorem over : Rows.fnCookiesRow.holds Try.pinned (OpenSpec.ofChange Rows.fnCookiesSpec) :=
  OpenClaim.holds_of_wide 3 Try.f3 rfl rfl rfl rfl rfl rfl rfl ⟨rfl, rfl, rfl, rfl, rfl⟩ rfl rfl rfl rfl rfl (by kernel_rfl) Try.func3 (by kernel_rfl)
    (of_decide_eq_true (by kernel_rfl)) (by unfold Func.isWrapper; first | (rw [if_pos (by decide +kernel)]; kernel_rfl) | (rw [if_neg (by decide +kernel)]; exact ⟨rfl, rfl⟩))
    (fun os started H enc _ => lifted os started H enc)
theorem proved : Rows.FnCookiesSaid :=
  over
#print axioms proved
end Go.Proofs.Ytjdaafemfpafdaa.lCookies

