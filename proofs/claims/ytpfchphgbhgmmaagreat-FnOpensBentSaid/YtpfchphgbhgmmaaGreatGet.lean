/-
  Contracts of the functions that read integers out of bytes. Conditions: none beside those that each theorem names.
-/
import Derived.Test.YtpfchphgbhgmmaaGreatShaP
namespace Go.Proofs.YtpfchphgbhgmmaaGreat
open Go.RowKit
section
variable {w : World}
/-- slicing of bytes that read -/
theorem wpList_slB {ops : Array Oper} {rest : List Oper} {o : Oper} {ac : Act} {Q : Exit → Act → World → Prop} (hgd : o.guard = none) (x : Operand) (lo hi : Option Operand)
    (ho : o.op = .slice 22 x lo hi none) (a : Option Addr) (n c : Nat) (l : List UInt8) (hx : ac.eval x = .slice a n c) (hrd : Rd w a n c (bys l)) (i h : Nat)
    (hlo : (∃ k : IntKind, lo.map ac.eval = some (.int k (i : Int))) ∨ (lo.map ac.eval = none ∧ i = 0)) (hhi : (∃ k : IntKind, hi.map ac.eval = some (.int k (h : Int))) ∨ (hi.map ac.eval = none ∧ h = n)) (hlh : i ≤ h) (hhn : h ≤ n)
    (hk : ∀ a' c', c' ≤ c → Rd w a' (h - i) c' (bys ((l.take h).drop i)) → (∀ p, a' = some p → ∃ q, a = some q ∧ q.block = p.block) → wpList Tryz.prog ops Q rest (ac.put o.dst (.slice a' (h - i) c')) w) : wpList Tryz.prog ops Q (o :: rest) ac w := by
  obtain ⟨i0, h9, hz0, hz1, hz2⟩ := info_parts inf_u8
  refine wpList_sl hgd x lo hi 22 5 ho i0 Tryz.underlying22 h9 hz1 a n c (bys l) hx hrd i h hlo hhi hlh hhn (fun a' c' h1 h2 h3 => hk a' c' h1 ?_ h3)
  simpa [bys, List.map_take, List.map_drop] using h2
end
theorem Rd.keepSet {w : World} {a : Option Addr} {n c : Nat} {xs : List Value} (h : Rd w a n c xs) {q : Addr} (hne : ∀ p, a = some p → p.block ≠ q.block) (u : Value) : Rd (w.setCell q u) a n c xs :=
  h.keep (row := some q.block) (gb_set (gb_reflr w _) (.inr rfl) u) (fun p hp e => hne p hp (by simpa using e))
theorem cell_lt {w : World} {p : Addr} {v : Value} (h : w.cell? p = some v) : p.block < w.heap.size := by
  rcases Nat.lt_or_ge p.block w.heap.size with h1 | h1
  · exact h1
  · have h2 : w.heap[p.block]? = none := Array.getElem?_eq_none h1
    simp [World.cell?, h2] at h
def cutL (l : List UInt8) (i k : Nat) : List UInt8 := (l.drop i).take k
theorem cutL_len {l : List UInt8} {i k : Nat} (h : i + k ≤ l.length) : (cutL l i k).length = k := by simp [cutL]; omega
theorem cut_eq (l : List UInt8) (i k : Nat) : (l.take (i + k)).drop i = cutL l i k := by rw [List.drop_take, cutL, Nat.add_sub_cancel_left]
theorem cutL_at {l : List UInt8} {i k j : Nat} (hj : j < k) : (cutL l i k)[j]? = l[i + j]? := by rw [cutL, List.getElem?_take, if_pos hj, List.getElem?_drop]
theorem num_small {l : List UInt8} {j : Nat} (h : l.length ≤ j) (hj : j ≤ 6) : num l < 281474976710656 := by
  have h1 := num_lt l
  have h2 : 256 ^ l.length ≤ 256 ^ 6 := Nat.pow_le_pow_right (by decide) (by omega)
  have h3 : (256 : Nat) ^ 6 = 281474976710656 := by decide
  omega
theorem impl_Cut (a : Option Addr) (n c : Nat) (l : List UInt8) (i k : Nat) (w : World) (h : Rd w a n c (bys l)) (hn : n ≤ 1073741824) (hk : i + k ≤ n) :
    Calls Tryz.prog 120 #[.slice a n c, .int .i64 (i : Int), .int .i64 (k : Int)] w fun e w' => ∃ a' n' c', e = .returned (.tuple #[.slice a' n' c', .bool true]) ∧ Ow w.heap.size w' 5 a' n' c' (bys (cutL l i k)) ∧ w.grownBy w' none := by
  have e1 : ¬ ((i : Int) < 0) := by omega
  have e2 : ¬ ((k : Int) < 0) := by omega
  have e3 : ¬ ((n : Int) < (i : Int)) := by omega
  have e4 : ¬ ((n : Int) - (i : Int) < (k : Int)) := by omega
  have g0 := gb_alloc (gb_refl w) (.cells #[] 5)
  have E := Lib.hid (cut_eq l i k)
  have L := Lib.hid h.blen
  go_enter Tryz.func120, Tryz.ntmps120
  go_wp2_with (first
    | (refine wpList_slB rfl (.tmp 29) (some (.tmp 30)) (some (.tmp 33)) rfl a n c l rfl (h.keep0 g0) i (i + k) (.inl ⟨.i64, rfl⟩) (.inl ⟨.i64, by rw [Int.natCast_add]; rfl⟩) (by omega) hk ?_; intro b2 d2 hd2 r2 hp2; rw [E.out] at r2)
    | (refine wpList_appB rfl (.tmp 28) (.tmp 34) rfl w.heap.size _ _ _ [] rfl (new_own _ _) b2 _ d2 (cutL l i k) rfl r2 (by have := L.out; have := r2.blen; simp; omega) (by simp) ?_; intro b3 m3 d3 w3 o3 g3; have G3 := gb_app g0 (new_own _ _) (Nat.le_refl _) g3))
  rw [List.nil_append] at o3
  exact bodyPost_ret (v := .tuple #[.slice b3 m3 d3, .bool true]) (by simp [results, Tryz.results120, go_sem]) rfl ⟨_, _, _, rfl, o3, G3⟩
theorem impl_CutNo (a : Option Addr) (n c : Nat) (i k : Nat) (w : World) (hn : n ≤ 1073741824) (hi : i ≤ n) (hk : ¬ i + k ≤ n) :
    Calls Tryz.prog 120 #[.slice a n c, .int .i64 (i : Int), .int .i64 (k : Int)] w fun e w' => e = .returned (.tuple #[.slice none 0 0, .bool false]) ∧ w = w' := by
  have e1 : ¬ ((i : Int) < 0) := by omega
  have e2 : ¬ ((k : Int) < 0) := by omega
  have e3 : ¬ ((n : Int) < (i : Int)) := by omega
  have e4 : ((n : Int) - (i : Int) < (k : Int)) := by omega
  go_enter Tryz.func120, Tryz.ntmps120
  go_wp2
  exact bodyPost_ret (v := .tuple #[.slice none 0 0, .bool false]) (by simp [results, Tryz.results120, go_sem]) rfl ⟨rfl, rfl⟩
def getV (l : List UInt8) (i k : Nat) : Value := .tuple #[.int .i64 (num (cutL l i k) : Int), .int .i64 ((i + k : Nat) : Int), .bool true]
set_option maxHeartbeats 1000000 in
theorem impl_GetN (a : Option Addr) (n c : Nat) (l : List UInt8) (i k : Nat) (w : World) (h : Rd w a n c (bys l)) (hn : n ≤ 1073741824) (hk0 : 1 ≤ k) (hk1 : k ≤ 6) (hk : i + k ≤ n) :
    Calls Tryz.prog 119 #[.slice a n c, .int .i64 (i : Int), .int .i64 (k : Int)] w fun e w' => e = .returned (getV l i k) ∧ w.grownBy w' none := by
  have e1 : ¬ ((k : Int) < 1) := by omega
  have e2 : ¬ ((6 : Int) < (k : Int)) := by omega
  have L := Lib.hid h.blen
  have C := impl_Cut a n c l i k w h hn hk
  go_enter Tryz.func119, Tryz.ntmps119
  go_wp2_with (go_at_call 120; refine C.mono ?_; clear C; rintro e w2 ⟨b2, m2, d2, rfl, o2, g2⟩; have M := Lib.hid (show m2 = k by have := o2.blen; rw [cutL_len (by have := L.out; omega)] at this; omega))
  go_loopw [11, 31] (fun v i9 wr => ∃ j : Nat, j ≤ k ∧ i9 = .int .i64 (j : Int) ∧ v = .int .i64 (num ((cutL l i k).take j) : Int) ∧ w2.grownBy wr none) (fun _ i9 _ => k - (intOf i9).toNat)
  case atStart => exact ⟨0, by omega, rfl, rfl, gb_refl _⟩
  case round =>
    obtain ⟨j, hj, rfl, rfl, hg⟩ := hrel
    have hM := M.out
    subst hM
    by_cases hlt : j < m2
    · obtain ⟨b, off, x, rfl, hx, hc⟩ := (o2.rd.keep0 hg).byte j hlt
      have EX := Lib.hid (take_succ_some hx.out)
      have hs : num ((cutL l i m2).take j) < 281474976710656 := num_small (j := m2) (by simp; omega) hk1
      have hb := x.toNat_lt
      clear hx
      go_wp2
      go_roundw
      case rel => exact ⟨j + 1, by omega, by go_num, by rw [EX.out, num_snoc]; exact congrArg (Value.int IntKind.i64) (by omega), hg⟩
      case measure => simp [intOf]; omega
    · obtain rfl : j = m2 := by omega
      rw [List.take_of_length_le (by have := o2.blen; omega)]
      go_wp2
      refine bodyPost_ret (v := getV l i j) (by simp [getV, results, Tryz.results119, go_sem]) rfl ⟨rfl, gb_trans g2 hg⟩
theorem impl_GetNo (a : Option Addr) (n c : Nat) (i k : Nat) (w : World) (hn : n ≤ 1073741824) (hi : i ≤ n) (hk0 : 1 ≤ k) (hk1 : k ≤ 6) (hk : ¬ i + k ≤ n) :
    Calls Tryz.prog 119 #[.slice a n c, .int .i64 (i : Int), .int .i64 (k : Int)] w fun e w' => e = .returned (.tuple #[.int .i64 0, .int .i64 0, .bool false]) ∧ w = w' := by
  have e1 : ¬ ((k : Int) < 1) := by omega
  have e2 : ¬ ((6 : Int) < (k : Int)) := by omega
  go_enter Tryz.func119, Tryz.ntmps119
  go_wp2_with (go_at_call 120; refine (impl_CutNo a n c i k w hn hi hk).mono ?_; rintro e w2 ⟨rfl, rfl⟩)
  exact bodyPost_ret (v := .tuple #[.int .i64 0, .int .i64 0, .bool false]) (by simp [results, Tryz.results119, go_sem]) rfl ⟨rfl, rfl⟩
set_option maxHeartbeats 1000000 in
theorem spec_GetN (a : Option Addr) (n c : Nat) (l : List UInt8) (i k : Nat) (w : World) (h : Rd w a n c (bys l)) (hn : n ≤ 1073741824) (hk0 : 1 ≤ k) (hk1 : k ≤ 6) (hk : i + k ≤ n) :
    Calls Tryz.prog 114 #[.slice a n c, .int .i64 (i : Int), .int .i64 (k : Int)] w fun e w' => e = .returned (getV l i k) ∧ w.grownBy w' none := by
  have e1 : ¬ ((k : Int) < 1) := by omega
  have e2 : ¬ ((6 : Int) < (k : Int)) := by omega
  have e3 : ¬ ((i : Int) < 0) := by omega
  have e4 : ¬ ((n : Int) - (k : Int) < (i : Int)) := by omega
  have L := Lib.hid h.blen
  go_enter Tryz.func114, Tryz.ntmps114
  go_wp2
  go_loopw [9, 10] (fun v i9 wr => ∃ j : Nat, j ≤ k ∧ i9 = .int .i64 (j : Int) ∧ v = .int .i64 (num ((cutL l i k).take j) : Int) ∧ w.grownBy wr none) (fun _ i9 _ => k - (intOf i9).toNat)
  case atStart => exact ⟨0, by omega, rfl, rfl, gb_refl _⟩
  case round =>
    obtain ⟨j, hj, rfl, rfl, hg⟩ := hrel
    by_cases hlt : j < k
    · obtain ⟨b, off, x, rfl, hx, hc⟩ := (h.keep0 hg).byte (i + j) (by omega)
      have EX := Lib.hid (take_succ_some (l := cutL l i k) (j := j) (x := x) (by rw [cutL_at hlt]; exact hx.out))
      have hs : num ((cutL l i k).take j) < 281474976710656 := num_small (j := k) (by simp; omega) hk1
      have hb := x.toNat_lt
      clear hx
      go_wp2
      refine ⟨⟨j + 1, by omega, by go_num, by rw [EX.out, num_snoc]; exact congrArg (Value.int IntKind.i64) (by omega), hg⟩, by simp [intOf]; omega⟩
    · obtain rfl : j = k := by omega
      have LL := Lib.hid (cutL_len (l := l) (i := i) (k := j) (by have := L.out; omega))
      rw [List.take_of_length_le (by rw [LL.out]; exact Nat.le_refl _)]
      go_wp2
      refine bodyPost_ret (v := getV l i j) (by simp [getV, results, Tryz.results114, go_sem]) rfl ⟨rfl, hg⟩
end Go.Proofs.YtpfchphgbhgmmaaGreat
