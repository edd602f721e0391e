/-
  Contracts of jars and of nonces. Conditions: none beside those that each theorem names.
-/
import Derived.Test.YtpkhmbibemfhhaaKeys
import Derived.Test.YtpkhmbibemfhhaaHelpS
import Derived.Deep.RegionHeld3
import Derived.Lib.SmallJoins
namespace Go.Proofs.Ytpkhmbibemfhhaa
open Go.RowKit
set_option maxRecDepth 1000000 in
theorem impl_JarNew (a : Option Addr) (n c : Nat) (l : List UInt8) (w : World) (r : Rd w a n c (bys l)) : Calls Try.prog 25 #[.slice a n c] w fun e w' => ∃ v', e = .returned v' ∧ JarO w.heap.size w'.heap.size w' v' ⟨jarM l⟩ ∧ w.grownBy w' none := by
  have g0 := gb_alloc (gb_refl w) (.cells #[.slice none 0 0] 25)
  have b0 := bx1 w #[.slice none 0 0] 25
  cases h : ((n : Int) == 12)
  · have h' : ((n : Int) != 12) = true := by simpa using h
    rw [jarM, if_neg (by rw [r.blen]; simp at h; omega)]
    go_enter Try.func25, Try.ntmps25
    go_wp2_with (go_at_call 66; refine (impl_isNonce _ _ _ _).mono ?_; rintro e w' ⟨rfl, rfl⟩)
    refine bodyPost_ret (v := .agg #[.slice none 0 0]) (by simp [results, Try.results25, go_sem]) rfl ⟨_, rfl, ⟨_, _, _, rfl, Ow.nil _ _ _, fun p hp => by cases hp⟩, ?_⟩
    repeat (first | with_reducible exact g0 | (refine gb_set ?_ (.inl ?_) _; rotate_left; focus (first | (simp; done) | (simp; omega))))
  · have h' : ((n : Int) != 12) = false := by simpa using h
    have hn : n ≤ 12 := by have := beq_iff_eq.1 h; omega
    rw [jarM, if_pos (by rw [r.blen]; simp at h; omega)]
    have C := Lib.hid (show ∀ (w : World), Rd w a n c (bys l) → Calls Try.prog 39 #[.slice a n c, .string { data := #[106, 97, 114] }] w (RetB w (derM l lJar)) from fun w r => impl_Derive a n c l lJar w r (by omega) (by decide))
    go_enter Try.func25, Try.ntmps25
    go_wp2_with (first
      | (go_at_call 66; refine (impl_isNonce _ _ _ _).mono ?_; rintro e w' ⟨rfl, rfl⟩)
      | (go_at_call 39; (with_reducible refine (C.out _ (r.keep0 g0)).mono ?_); rintro e w4 ⟨a4, n4, c4, rfl, o4, g4⟩; replace b0 := b0.keep0 g4; have cc := fun o => b0.cell o; have ff := fun o => b0.frozen o; have lt := b0.lt))
    have G4 := gb_trans g0 g4
    have O4 := o4.mono (B' := w.heap.size + 1) (by simp <;> omega)
    have l4 := fun p hp => (o4.lt p hp).2
    refine bodyPost_ret (v := .agg #[.slice a4 n4 c4]) (by simp [results, Try.results25, go_sem, cc]) rfl ⟨_, rfl, ⟨_, _, _, rfl, ?_, ?_⟩, ?_⟩
    · refine Ow.mono (B := w.heap.size + 1) ?_ (by omega)
      repeat (first | with_reducible exact O4 | (refine Ow.keepSet ?_ ?_ _; rotate_left; focus (first | (simp; done) | (simp; omega))))
    · intro p hp
      simpa using l4 p hp
    · repeat (first | with_reducible exact G4 | (refine gb_set ?_ (.inl ?_) _; rotate_left; focus (first | (simp; done) | (simp; omega))))
set_option maxRecDepth 1000000 in
theorem spec_JarNew (a : Option Addr) (n c : Nat) (l : List UInt8) (w : World) (r : Rd w a n c (bys l)) : Calls Try.prog 101 #[.slice a n c] w fun e w' => ∃ v', e = .returned v' ∧ JarO w.heap.size w'.heap.size w' v' ⟨jarM l⟩ ∧ w.grownBy w' none := by
  have g0 := gb_alloc (gb_refl w) (.cells #[.slice none 0 0] 25)
  have b0 := bx1 w #[.slice none 0 0] 25
  cases h : ((n : Int) == 12)
  · have h' : ((n : Int) != 12) = true := by simpa using h
    rw [jarM, if_neg (by rw [r.blen]; simp at h; omega)]
    go_enter Try.func101, Try.ntmps101
    go_wp2_with (go_at_call 66; refine (impl_isNonce _ _ _ _).mono ?_; rintro e w' ⟨rfl, rfl⟩)
    refine bodyPost_ret (v := .agg #[.slice none 0 0]) (by simp [results, Try.results101, go_sem]) rfl ⟨_, rfl, ⟨_, _, _, rfl, Ow.nil _ _ _, fun p hp => by cases hp⟩, ?_⟩
    repeat (first | with_reducible exact g0 | (refine gb_set ?_ (.inl ?_) _; rotate_left; focus (first | (simp; done) | (simp; omega))))
  · have h' : ((n : Int) != 12) = false := by simpa using h
    have hn : n ≤ 12 := by have := beq_iff_eq.1 h; omega
    rw [jarM, if_pos (by rw [r.blen]; simp at h; omega)]
    have C := Lib.hid (show ∀ (w : World), Rd w a n c (bys l) → Calls Try.prog 113 #[.slice a n c, .string { data := #[106, 97, 114] }] w (RetB w (derM l lJar)) from fun w r => spec_Derive a n c l lJar w r (by omega) (by decide))
    go_enter Try.func101, Try.ntmps101
    go_wp2_with (first
      | (go_at_call 66; refine (impl_isNonce _ _ _ _).mono ?_; rintro e w' ⟨rfl, rfl⟩)
      | (go_at_call 113; (with_reducible refine (C.out _ (r.keep0 g0)).mono ?_); rintro e w4 ⟨a4, n4, c4, rfl, o4, g4⟩; replace b0 := b0.keep0 g4; have cc := fun o => b0.cell o; have ff := fun o => b0.frozen o; have lt := b0.lt))
    have G4 := gb_trans g0 g4
    have O4 := o4.mono (B' := w.heap.size + 1) (by simp <;> omega)
    have l4 := fun p hp => (o4.lt p hp).2
    refine bodyPost_ret (v := .agg #[.slice a4 n4 c4]) (by simp [results, Try.results101, go_sem, cc]) rfl ⟨_, rfl, ⟨_, _, _, rfl, ?_, ?_⟩, ?_⟩
    · refine Ow.mono (B := w.heap.size + 1) ?_ (by omega)
      repeat (first | with_reducible exact O4 | (refine Ow.keepSet ?_ ?_ _; rotate_left; focus (first | (simp; done) | (simp; omega))))
    · intro p hp
      simpa using l4 p hp
    · repeat (first | with_reducible exact G4 | (refine gb_set ?_ (.inl ?_) _; rotate_left; focus (first | (simp; done) | (simp; omega))))
set_option maxRecDepth 1000000 in
set_option maxHeartbeats 1000000 in
theorem impl_DiceAt (a : Option Addr) (n c : Nat) (l : List UInt8) (x : Int) (w : World) (r : Rd w a n c (bys l)) : Calls Try.prog 45 #[.slice a n c, .int .i64 x] w (RetB w (diceAtM l x)) := by
  have L := Lib.hid r.blen
  cases hp : inB (n : Int) 1 32
  · rw [diceAtM, if_neg (by rw [L.out]; intro h; rw [inB_t (by omega) (by omega)] at hp; cases hp)]
    go_enter Try.func45, Try.ntmps45
    go_wp2_with (go_at_call 65; refine (impl_within _ _ _ _).mono ?_; rintro e w' ⟨rfl, rfl⟩)
    go_ret
    exact ⟨_, _, _, rfl, Ow.nil _ _ _, (gb_refl _)⟩
  cases hx : inB x 0 10000
  · rw [diceAtM, if_neg (by intro h; rw [inB_t (by omega) (by omega)] at hx; cases hx)]
    go_enter Try.func45, Try.ntmps45
    go_wp2_with (go_at_call 65; refine (impl_within _ _ _ _).mono ?_; rintro e w' ⟨rfl, rfl⟩)
    go_ret
    exact ⟨_, _, _, rfl, Ow.nil _ _ _, (gb_refl _)⟩
  have hq := inB_iff.1 hp
  have hy := inB_iff.1 hx
  rw [diceAtM, if_pos (by rw [L.out]; omega)]
  have HM := hmacM_len (key := l) (b := lRoll ++ be x.toNat 4) (by rw [L.out]; omega) (by simp [be_len, lRoll])
  obtain ⟨M, hM⟩ : ∃ M, M = hmacM l (lRoll ++ be x.toNat 4) := ⟨_, rfl⟩
  rw [← hM] at HM ⊢
  have MH := Lib.hid hM
  have ML := Lib.hid HM
  clear hM HM
  have cs := Lib.run_convert_bytes_const (P := Try.prog) w 22 5 #[.int .u8 114, .int .u8 111, .int .u8 108, .int .u8 108] 4 4 Try.underlying22 Try.underlying5
  have R0 : Rd (w.alloc (.cells #[.int .u8 114, .int .u8 111, .int .u8 108, .int .u8 108] 5 (4, 5))) (some ⟨w.heap.size, 0, none⟩) 4 4 (bys lRoll) := rd_const w _ #[.int .u8 114, .int .u8 111, .int .u8 108, .int .u8 108] lRoll (4, 5) 4 _ rfl rfl rfl
  have g0 := gb_alloc (gb_refl w) (.cells #[.int .u8 114, .int .u8 111, .int .u8 108, .int .u8 108] 5 (4, 5))
  go_enter Try.func45, Try.ntmps45
  go_wp2_with (first
    | (go_at_call 65; refine (impl_within _ _ _ _).mono ?_; rintro e w' ⟨rfl, rfl⟩)
    | (go_at_call 69; refine (impl_PutN _ 4 4 lRoll x 4 _ R0 (by omega) (by omega) (by omega) (by omega) (by omega)).mono ?_; rintro e w2 ⟨a2, n2, c2, rfl, o2, g2⟩; have G2 := gb_trans g0 g2)
    | (go_at_call 96; refine (impl_Hmac _ _ _ l _ _ _ _ _ (r.keep0 G2) o2.rd (by omega) (by have := o2.blen; simp [be_len, lRoll] at this; omega)).mono ?_; rintro e w3 ⟨a3, n3, c3, rfl, o3, g3⟩; have o3' : Ow _ w3 5 a3 n3 c3 (bys M) := (by rw [MH.out]; exact o3); obtain rfl : n3 = 32 := o3'.blen.symm.trans ML.out)
    | (refine wpList_slB rfl (.tmp 19) none (some (.const (.int .i64 12))) rfl a3 32 c3 M rfl o3'.rd 0 12 (.inr ⟨rfl, rfl⟩) (.inl ⟨.i64, rfl⟩) (by omega) (by omega) ?_; intro b6 d6 hd6 r6 hp6; rw [List.drop_zero] at r6)
    | (go_at_call 95; refine (impl_clone _ _ _ _ _ r6 (by omega)).mono ?_; rintro e w7 ⟨a7, n7, c7, rfl, o7, g7⟩))
  have G3 := gb_trans G2 g3
  go_ret
  exact retB o7 G3.size (gb_trans G3 g7) rfl
set_option maxRecDepth 1000000 in
set_option maxHeartbeats 1000000 in
theorem spec_DiceAt (a : Option Addr) (n c : Nat) (l : List UInt8) (x : Int) (w : World) (r : Rd w a n c (bys l)) : Calls Try.prog 99 #[.slice a n c, .int .i64 x] w (RetB w (diceAtM l x)) := by
  have L := Lib.hid r.blen
  cases hp : inB (n : Int) 1 32
  · rw [diceAtM, if_neg (by rw [L.out]; intro h; rw [inB_t (by omega) (by omega)] at hp; cases hp)]
    go_enter Try.func99, Try.ntmps99
    go_wp2_with (go_at_call 78; refine (spec_l1In _ _ _ _).mono ?_; rintro e w' ⟨rfl, rfl⟩)
    go_ret
    exact ⟨_, _, _, rfl, new_own _ _, gb_alloc (gb_refl _) _⟩
  cases hx : inB x 0 10000
  · rw [diceAtM, if_neg (by intro h; rw [inB_t (by omega) (by omega)] at hx; cases hx)]
    go_enter Try.func99, Try.ntmps99
    go_wp2_with (go_at_call 78; refine (spec_l1In _ _ _ _).mono ?_; rintro e w' ⟨rfl, rfl⟩)
    go_ret
    exact ⟨_, _, _, rfl, new_own _ _, gb_alloc (gb_refl _) _⟩
  have hq := inB_iff.1 hp
  have hy := inB_iff.1 hx
  rw [diceAtM, if_pos (by rw [L.out]; omega)]
  have HM := hmacM_len (key := l) (b := lRoll ++ be x.toNat 4) (by rw [L.out]; omega) (by simp [be_len, lRoll])
  obtain ⟨M, hM⟩ : ∃ M, M = hmacM l (lRoll ++ be x.toNat 4) := ⟨_, rfl⟩
  rw [← hM] at HM ⊢
  have MH := Lib.hid hM
  have ML := Lib.hid HM
  clear hM HM
  have cs := Joins.run_convert_bytes_const_at (P := Try.prog) (w.alloc (.cells #[] 5)) 22 5 #[.int .u8 114, .int .u8 111, .int .u8 108, .int .u8 108] 4 4 (w.heap.size + 1) (by simp) Try.underlying22 Try.underlying5
  have R0 : Rd ((w.alloc (.cells #[] 5)).alloc (.cells #[.int .u8 114, .int .u8 111, .int .u8 108, .int .u8 108] 5 (4, 5))) (some ⟨w.heap.size + 1, 0, none⟩) 4 4 (bys lRoll) := rd_const _ _ #[.int .u8 114, .int .u8 111, .int .u8 108, .int .u8 108] lRoll (4, 5) 4 _ (by simp) rfl rfl
  have gE := gb_alloc (gb_refl w) (.cells #[] 5)
  have g0 := gb_alloc gE (.cells #[.int .u8 114, .int .u8 111, .int .u8 108, .int .u8 108] 5 (4, 5))
  have oE := (new_own w 5).keep0 (gb_alloc (gb_refl _) (.cells #[.int .u8 114, .int .u8 111, .int .u8 108, .int .u8 108] 5 (4, 5)))
  go_enter Try.func99, Try.ntmps99
  go_wp2_with (first
    | (go_at_call 78; refine (spec_l1In _ _ _ _).mono ?_; rintro e w' ⟨rfl, rfl⟩)
    | (go_at_call 86; refine (spec_PutN _ 4 4 lRoll x 4 _ R0 (by omega) (by omega) (by omega) (by omega) (by omega)).mono ?_; rintro e w2 ⟨a2, n2, c2, rfl, o2, g2⟩; have G2 := gb_trans g0 g2)
    | (go_at_call 105; refine (spec_Hmac _ _ _ l _ _ _ _ _ (r.keep0 G2) o2.rd (by omega) (by have := o2.blen; simp [be_len, lRoll] at this; omega)).mono ?_; rintro e w3 ⟨a3, n3, c3, rfl, o3, g3⟩; have o3' : Ow _ w3 5 a3 n3 c3 (bys M) := (by rw [MH.out]; exact o3); obtain rfl : n3 = 32 := o3'.blen.symm.trans ML.out; have G3 := gb_trans G2 g3)
    | (refine wpList_slB rfl (.tmp 21) none (some (.const (.int .i64 12))) rfl a3 32 c3 M rfl o3'.rd 0 12 (.inr ⟨rfl, rfl⟩) (.inl ⟨.i64, rfl⟩) (by omega) (by omega) ?_; intro b6 d6 hd6 r6 hp6; rw [List.drop_zero] at r6)
    | (refine wpList_appB rfl (.tmp 15) (.tmp 22) rfl w.heap.size _ _ _ [] rfl ((oE.keep0 g2).keep0 g3) b6 _ d6 _ rfl r6 (by simp; omega) G3.size ?_; intro a7 n7 c7 w7 o7 g7'; have g7 := gb_app G3 ((oE.keep0 g2).keep0 g3) (Nat.le_refl _) g7'; rw [List.nil_append] at o7))
  go_ret
  exact retB o7 (Nat.le_refl _) g7 rfl
end Go.Proofs.Ytpkhmbibemfhhaa
