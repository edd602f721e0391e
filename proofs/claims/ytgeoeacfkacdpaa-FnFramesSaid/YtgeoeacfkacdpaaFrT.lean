/-
  Contracts of the two functions that take bytes off a rest. Conditions: none beside those that each theorem names.
-/
import Derived.Test.YtgeoeacfkacdpaaFrP
import Derived.Test.YtgeoeacfkacdpaaCell
import Derived.Test.YtgeoeacfkacdpaaSet1
namespace Go.Proofs.Ytgeoeacfkacdpaa
open Go.RowKit
theorem getV_tk {l : List UInt8} {k : Nat} (h : k ≤ l.length) : getV (l.take k) 0 k = .tuple #[.int .i64 (tkN l k : Int), .int .i64 (k : Int), .bool true] := by
  simp [getV, cutL, tkN, h, List.take_take]
theorem Rd.keepZ {B S : Nat} {w w' : World} {a : Option Addr} {n c : Nat} {xs : List Value} (h : Rd w a n c xs) (hg : gbI B S w w') (hne : 0 < n → ∀ p, a = some p → p.block < B ∨ S ≤ p.block) : Rd w' a n c xs := by
  rcases Nat.eq_zero_or_pos n with h0 | h0
  · exact ⟨h.len, h.le, fun j hj => by omega⟩
  · exact h.keepI hg (hne h0)
/-- bytes that read, in a block below B -/
structure RB (B : Nat) (w : World) (a : Option Addr) (n c : Nat) (l : List UInt8) : Prop where
  rd : Rd w a n c (bys l)
  lt : 0 < n → ∀ p, a = some p → p.block < B
theorem RB.keepI {B X S : Nat} {w w' : World} {a : Option Addr} {n c : Nat} {l : List UInt8} (h : RB B w a n c l) (g : gbI X S w w') (hX : B ≤ X) : RB B w' a n c l := ⟨h.rd.keepZ g (fun h0 p hp => .inl (Nat.lt_of_lt_of_le (h.lt h0 p hp) hX)), h.lt⟩
theorem RB.keep0 {B : Nat} {w w' : World} {a : Option Addr} {n c : Nat} {l : List UInt8} (h : RB B w a n c l) (g : w.grownBy w' none) : RB B w' a n c l := ⟨h.rd.keep0 g, h.lt⟩
theorem RB.row {B q : Nat} {w w' : World} {a : Option Addr} {n c : Nat} {l : List UInt8} (h : RB B w a n c l) (g : w.grownBy w' (some q)) (hq : B ≤ q) : RB B w' a n c l := h.keepI (X := q) (S := q + 1) (gbI.ofRow g (fun _ e => by cases e; exact ⟨Nat.le_refl _, Nat.lt_succ_self _⟩)) hq
theorem gb_toRow {w w' : World} (h : w.grownBy w' none) (row : Option Nat) : w.grownBy w' row := ⟨h.os, h.tape, h.output, h.size, fun k hk _ => h.block k hk (by simp)⟩
def PTk (B b : Nat) (l : List UInt8) (k : Nat) (w : World) (e : Ending) (w' : World) : Prop := ∃ a1 n1 c1 a2 n2 c2, e = .returned (.slice a1 n1 c1) ∧ Ow w.heap.size w' 5 a1 n1 c1 (bys (l.take k)) ∧ Bx w' b 22 #[.slice a2 n2 c2] ∧ RB B w' a2 n2 c2 (l.drop k) ∧ w.grownBy w' (some b)
set_option maxRecDepth 1000000 in
set_option maxHeartbeats 1000000 in
theorem impl_taken (B b : Nat) (a : Option Addr) (n c : Nat) (l : List UInt8) (k : Nat) (w : World) (hb : Bx w b 22 #[.slice a n c]) (hR : RB B w a n c l) (hn : n ≤ 1073741824) (hB : B ≤ b) (hk : k ≤ 1073741824) :
    Calls Try.prog 94 #[.pointer (some ⟨b, 0, none⟩), .int .i64 (k : Int)] w (PTk B b l k w) := by
  obtain ⟨h, hlb⟩ := hR
  have L := Lib.hid h.blen
  obtain ⟨X, hX⟩ : ∃ X, X = l.take k := ⟨_, rfl⟩
  obtain ⟨Y, hY⟩ : ∃ Y, Y = l.drop k := ⟨_, rfl⟩
  unfold PTk
  rw [← hX, ← hY]
  rcases Nat.lt_or_ge n k with hlt | hlt
  · have T1 := Lib.hid (show l.take n = X by rw [hX, List.take_of_length_le (by rw [h.blen]; exact Nat.le_refl _), List.take_of_length_le (by rw [h.blen]; omega)])
    have T2 := Lib.hid (show l.drop n = Y by rw [hY, List.drop_of_length_le (by rw [h.blen]; exact Nat.le_refl _), List.drop_of_length_le (by rw [h.blen]; omega)])
    have hz : ((n : Int) < (k : Int)) := by omega
    clear hX hY
    have cc := fun o => hb.cell o
    have lb := hb.lt
    go_enter Try.func94, Try.ntmps94
    go_wp2_with (first
      | (refine wpList_slB rfl (.tmp 14) none (some (.tmp 15)) rfl a n c l rfl h 0 n (.inr ⟨rfl, rfl⟩) (.inl ⟨.i64, rfl⟩) (by omega) (by omega) ?_; intro b3 d3 hd3 r3 hp3; rw [List.drop_zero, T1.out] at r3)
      | (go_at_call 107; refine (impl_clone _ _ _ _ _ r3 (by omega)).mono ?_; rintro e w2 ⟨a1, n1, c1, rfl, o1, g2⟩; have B2 := hb.keep0 g2; clear cc lb; have cc := fun o => B2.cell o; have ff := fun o => B2.frozen o; have lb := B2.lt)
      | (refine wpList_slB rfl (.tmp 21) (some (.tmp 22)) none rfl a n c l rfl (h.keep0 g2) n n (.inl ⟨.i64, rfl⟩) (.inr ⟨rfl, rfl⟩) (by omega) (Nat.le_refl _) ?_; intro b4 d4 hd4 r4 hp4; rw [List.take_of_length_le (by rw [L.out]; exact Nat.le_refl _), T2.out] at r4))
    go_ret
    have nb : 0 < n → ∀ p, b4 = some p → p.block < B := fun h0 p hp => by obtain ⟨q, hq, e⟩ := hp4 p hp; rw [← e]; exact hlb h0 q hq
    have gS : gbI b (b + 1) w2 (w2.setCell ⟨b, 0, none⟩ (.slice b4 (n - n) d4)) := gbI_set (p := ⟨b, 0, none⟩) (gbI.refl b (b + 1) w2) (.inr ⟨Nat.le_refl _, Nat.lt_succ_self _⟩) _
    have rS := (RB.mk r4 (fun h0 => nb (by omega))).keepI gS hB
    try rw [Nat.sub_self] at rS
    exact ⟨_, _, _, _, _, _, rfl, o1.setO ⟨b, 0, none⟩ _ (fun p hp => by have := (o1.lt p hp).1; have := hb.lt; simp only; omega), B2.set 0 _, rS, gb_set (gb_toRow g2 (some b)) (.inr rfl) _⟩
  · have T1 := Lib.hid (show l.take k = X from hX.symm)
    have T2 := Lib.hid (show l.drop k = Y from hY.symm)
    have hz : ((k : Int) ≤ (n : Int)) := by omega
    clear hX hY
    have cc := fun o => hb.cell o
    have lb := hb.lt
    go_enter Try.func94, Try.ntmps94
    go_wp2_with (first
      | (refine wpList_slB rfl (.tmp 14) none (some (.tmp 15)) rfl a n c l rfl h 0 k (.inr ⟨rfl, rfl⟩) (.inl ⟨.i64, rfl⟩) (by omega) (by omega) ?_; intro b3 d3 hd3 r3 hp3; rw [List.drop_zero, T1.out] at r3)
      | (go_at_call 107; refine (impl_clone _ _ _ _ _ r3 (by omega)).mono ?_; rintro e w2 ⟨a1, n1, c1, rfl, o1, g2⟩; have B2 := hb.keep0 g2; clear cc lb; have cc := fun o => B2.cell o; have ff := fun o => B2.frozen o; have lb := B2.lt)
      | (refine wpList_slB rfl (.tmp 21) (some (.tmp 22)) none rfl a n c l rfl (h.keep0 g2) k n (.inl ⟨.i64, rfl⟩) (.inr ⟨rfl, rfl⟩) (by omega) (Nat.le_refl _) ?_; intro b4 d4 hd4 r4 hp4; rw [List.take_of_length_le (by rw [L.out]; exact Nat.le_refl _), T2.out] at r4))
    go_ret
    have nb : 0 < n → ∀ p, b4 = some p → p.block < B := fun h0 p hp => by obtain ⟨q, hq, e⟩ := hp4 p hp; rw [← e]; exact hlb h0 q hq
    have gS : gbI b (b + 1) w2 (w2.setCell ⟨b, 0, none⟩ (.slice b4 (n - k) d4)) := gbI_set (p := ⟨b, 0, none⟩) (gbI.refl b (b + 1) w2) (.inr ⟨Nat.le_refl _, Nat.lt_succ_self _⟩) _
    have rS := (RB.mk r4 (fun h0 => nb (by omega))).keepI gS hB
    try rw [Nat.sub_self] at rS
    exact ⟨_, _, _, _, _, _, rfl, o1.setO ⟨b, 0, none⟩ _ (fun p hp => by have := (o1.lt p hp).1; have := hb.lt; simp only; omega), B2.set 0 _, rS, gb_set (gb_toRow g2 (some b)) (.inr rfl) _⟩
theorem impl_GetN0 (a : Option Addr) (n c : Nat) (l : List UInt8) (k : Nat) (w : World) (h : Rd w a n c (bys l)) (hn : n ≤ 1073741824) (hk0 : 1 ≤ k) (hk1 : k ≤ 6) (hk : k ≤ n) :
    Calls Try.prog 36 #[.slice a n c, .int .i64 0, .int .i64 (k : Int)] w fun e w' => e = .returned (getV l 0 k) ∧ w.grownBy w' none := impl_GetN a n c l 0 k w h hn hk0 hk1 (by omega)
theorem impl_GetNo0 (a : Option Addr) (n c : Nat) (k : Nat) (w : World) (hn : n ≤ 1073741824) (hk0 : 1 ≤ k) (hk1 : k ≤ 6) (hk : ¬ k ≤ n) :
    Calls Try.prog 36 #[.slice a n c, .int .i64 0, .int .i64 (k : Int)] w fun e w' => e = .returned (.tuple #[.int .i64 0, .int .i64 0, .bool false]) ∧ w = w' := impl_GetNo a n c 0 k w hn (Nat.zero_le _) hk0 hk1 (by omega)
def PTn (B b : Nat) (l : List UInt8) (k : Nat) (w : World) (e : Ending) (w' : World) : Prop := ∃ a2 n2 c2, e = .returned (.int .i64 (tkN l k : Int)) ∧ Bx w' b 22 #[.slice a2 n2 c2] ∧ RB B w' a2 n2 c2 (l.drop k) ∧ w.grownBy w' (some b)
set_option maxRecDepth 1000000 in
set_option maxHeartbeats 1000000 in
theorem impl_takenN (B b : Nat) (a : Option Addr) (n c : Nat) (l : List UInt8) (k : Nat) (w : World) (hb : Bx w b 22 #[.slice a n c]) (hR : RB B w a n c l) (hn : n ≤ 1073741824) (hB : B ≤ b) (hk0 : 1 ≤ k) (hk1 : k ≤ 6) :
    Calls Try.prog 93 #[.pointer (some ⟨b, 0, none⟩), .int .i64 (k : Int)] w (PTn B b l k w) := by
  have L := Lib.hid hR.rd.blen
  have e1 : ∀ m : Nat, (l.take k).length = m → m = min k n := fun m e => by rw [← e, List.length_take, L.out]
  replace e1 := Lib.hid e1
  obtain ⟨T, hT⟩ : ∃ T, T = tkN l k := ⟨_, rfl⟩
  unfold PTn
  rw [← hT]
  replace hT := Lib.hid hT
  by_cases hlt : k ≤ n
  · have V := Lib.hid (getV_tk (l := l) (k := k) (by rw [L.out]; exact hlt))
    rw [← hT.out] at V
    go_enter Try.func93, Try.ntmps93
    go_wp2_with (first
      | (go_at_call 94; (with_reducible refine (impl_taken B b a n c l k _ hb hR hn hB (by omega)).mono ?_); rintro e w1 ⟨a1, n1, c1, a2, n2, c2, rfl, o1, B1, r1, g1⟩; obtain rfl : n1 = k := (by have := e1.out _ o1.blen; omega))
      | (go_at_call 36; (with_reducible refine (impl_GetN0 a1 _ c1 _ _ _ o1.rd (by omega) hk0 hk1 (by omega)).mono ?_); rw [V.out]; rintro e w2 ⟨rfl, g2⟩))
    go_ret
    exact ⟨_, _, _, rfl, B1.keep0 g2, r1.keep0 g2, gb_transr g1 (gb_toRow g2 none) (fun g e => by cases e)⟩
  · obtain rfl : T = 0 := by rw [hT.out, tkN, if_neg (by rw [L.out]; exact hlt)]
    go_enter Try.func93, Try.ntmps93
    go_wp2_with (first
      | (go_at_call 94; (with_reducible refine (impl_taken B b a n c l k _ hb hR hn hB (by omega)).mono ?_); rintro e w1 ⟨a1, n1, c1, a2, n2, c2, rfl, o1, B1, r1, g1⟩; obtain rfl : n1 = n := (by have := e1.out _ o1.blen; omega))
      | (go_at_call 36; (with_reducible refine (impl_GetNo0 a1 _ c1 k _ (by omega) hk0 hk1 (by omega)).mono ?_); rintro e w2 ⟨rfl, rfl⟩))
    go_ret
    exact ⟨_, _, _, rfl, B1, r1, g1⟩
end Go.Proofs.Ytgeoeacfkacdpaa
