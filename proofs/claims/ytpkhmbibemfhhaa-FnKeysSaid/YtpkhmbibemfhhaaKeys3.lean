/-
  Contracts of tags, of chains of keys, of proofs and of cookies. Conditions: none beside those that each theorem names.
-/
import Derived.Test.YtpkhmbibemfhhaaKeys2
import Derived.Test.YtpkhmbibemfhhaaMint
import Derived.Deep.RegionHeld3
namespace Go.Proofs.Ytpkhmbibemfhhaa
open Go.RowKit
def proofM (psk : List UInt8) (id : Int) (cn sn : List UInt8) (tick : Int) (ck : List UInt8) : List UInt8 :=
  if (finM psk).length = 0 ∨ (pbM id cn sn tick ck).length = 0 then [] else tagM (finM psk) (pbM id cn sn tick ck)
theorem proofM_le (psk : List UInt8) (id : Int) (cn sn : List UInt8) (tick : Int) (ck : List UInt8) : (proofM psk id cn sn tick ck).length ≤ 16 := by
  unfold proofM
  split
  · simp
  · exact tagM_le _ _
def cookM (secret : List UInt8) (h p id : Int) (cn sn : List UInt8) (tick : Int) : List UInt8 :=
  if secret.length = 32 ∧ (mintM h p id cn sn tick).length ≠ 0 then tagM secret (mintM h p id cn sn tick) else []
theorem cookM_le (secret : List UInt8) (h p id : Int) (cn sn : List UInt8) (tick : Int) : (cookM secret h p id cn sn tick).length ≤ 16 := by
  unfold cookM
  split
  · exact tagM_le _ _
  · simp
set_option maxRecDepth 1000000 in
theorem impl_Tag (a : Option Addr) (n c : Nat) (l : List UInt8) (b : Option Addr) (m d : Nat) (k : List UInt8) (w : World) (r1 : Rd w a n c (bys l)) (r2 : Rd w b m d (bys k)) (hn : n ≤ 1073741824) (hm : m ≤ 1073741824) : Calls Try.prog 60 #[.slice a n c, .slice b m d] w (RetB w (tagM l k)) := by
  have C := impl_Hmac a n c l b m d k w r1 r2 hn hm
  rcases hmacM_cases l k with hz | hz
  · rw [tagM, hz, List.take_nil]
    rw [hz] at C
    go_enter Try.func60, Try.ntmps60
    go_wp2_with (go_at_call 96; refine C.mono ?_; clear C; rintro e w1 ⟨a1, n1, c1, rfl, o1, g1⟩; obtain rfl : n1 = 0 := o1.blen.symm)
    go_ret
    exact ⟨_, _, _, rfl, Ow.nil _ _ _, g1⟩
  · obtain ⟨M, hM⟩ : ∃ M, M = hmacM l k := ⟨_, rfl⟩
    rw [tagM]
    rw [← hM] at C hz ⊢
    have ML := Lib.hid hz
    clear hM hz
    go_enter Try.func60, Try.ntmps60
    go_wp2_with (first
      | (go_at_call 96; refine C.mono ?_; clear C; rintro e w1 ⟨a1, n1, c1, rfl, o1, g1⟩; obtain rfl : n1 = 32 := o1.blen.symm.trans ML.out)
      | (refine wpList_slB rfl (.tmp 12) none (some (.const (.int .i64 16))) rfl a1 32 c1 M rfl o1.rd 0 16 (.inr ⟨rfl, rfl⟩) (.inl ⟨.i64, rfl⟩) (by omega) (by omega) ?_; intro b6 d6 hd6 r6 hp6; rw [List.drop_zero] at r6)
      | (go_at_call 95; refine (impl_clone _ _ _ _ _ r6 (by omega)).mono ?_; rintro e w7 ⟨a7, n7, c7, rfl, o7, g7⟩))
    go_ret
    exact retB o7 g1.size (gb_trans g1 g7) rfl
set_option maxRecDepth 1000000 in
theorem spec_Tag (a : Option Addr) (n c : Nat) (l : List UInt8) (b : Option Addr) (m d : Nat) (k : List UInt8) (w : World) (r1 : Rd w a n c (bys l)) (r2 : Rd w b m d (bys k)) (hn : n ≤ 1073741824) (hm : m ≤ 1073741824) : Calls Try.prog 63 #[.slice a n c, .slice b m d] w (RetB w (tagM l k)) := by
  have C := spec_Hmac a n c l b m d k w r1 r2 hn hm
  rcases hmacM_cases l k with hz | hz
  · rw [tagM, hz, List.take_nil]
    rw [hz] at C
    go_enter Try.func63, Try.ntmps63
    go_wp2_with (go_at_call 105; refine C.mono ?_; clear C; rintro e w1 ⟨a1, n1, c1, rfl, o1, g1⟩; obtain rfl : n1 = 0 := o1.blen.symm)
    go_ret
    exact ⟨_, _, _, rfl, (new_own _ _).mono g1.size, gb_alloc g1 _⟩
  · obtain ⟨M, hM⟩ : ∃ M, M = hmacM l k := ⟨_, rfl⟩
    rw [tagM]
    rw [← hM] at C hz ⊢
    have ML := Lib.hid hz
    clear hM hz
    go_enter Try.func63, Try.ntmps63
    go_wp2_with (first
      | (go_at_call 105; refine C.mono ?_; clear C; rintro e w1 ⟨a1, n1, c1, rfl, o1, g1⟩; obtain rfl : n1 = 32 := o1.blen.symm.trans ML.out)
      | (refine wpList_slB rfl (.tmp 14) none (some (.const (.int .i64 16))) rfl a1 32 c1 M rfl (o1.rd.keep0 (gb_alloc (gb_refl _) _)) 0 16 (.inr ⟨rfl, rfl⟩) (.inl ⟨.i64, rfl⟩) (by omega) (by omega) ?_; intro b6 d6 hd6 r6 hp6; rw [List.drop_zero] at r6)
      | (refine wpList_appB rfl (.tmp 13) (.tmp 15) rfl w1.heap.size _ _ _ [] rfl (new_own _ _) b6 _ d6 _ rfl r6 (by simp; omega) (by simp) ?_; intro a7 n7 c7 w7 o7 g7'; have g7 := gb_app (gb_alloc (gb_refl w1) (.cells #[] 5)) (new_own _ _) (Nat.le_refl _) g7'; rw [List.nil_append] at o7))
    go_ret
    exact retB o7 g1.size (gb_trans g1 g7) rfl
set_option maxRecDepth 1000000 in
set_option maxHeartbeats 1000000 in
theorem impl_Chain (a : Option Addr) (n c : Nat) (l : List UInt8) (x : Int) (w : World) (r : Rd w a n c (bys l)) (hn : n ≤ 1048576) : Calls Try.prog 88 #[.slice a n c, .int .i64 x] w (RetB w (chainM l x)) := by
  have L := Lib.hid r.blen
  cases hx : inB x 0 64
  · rw [chainM, if_neg (by intro h; rw [inB_t (by omega) (by omega)] at hx; cases hx)]
    go_enter Try.func88, Try.ntmps88
    go_wp2_with (go_at_call 65; refine (impl_within _ _ _ _).mono ?_; rw [hx]; rintro e w' ⟨rfl, rfl⟩)
    go_ret
    exact ⟨_, _, _, rfl, Ow.nil _ _ _, (gb_refl _)⟩
  have hy := inB_iff.1 hx
  rw [chainM, if_pos hy]
  obtain ⟨N, rfl⟩ := Int.eq_ofNat_of_zero_le hy.1
  rw [Int.toNat_natCast]
  have hN : N ≤ 64 := by omega
  have D := Lib.hid (show ∀ (a : Option Addr) (n c : Nat) (k : List UInt8) (w : World), Rd w a n c (bys k) → n ≤ 1048576 → Calls Try.prog 39 #[.slice a n c, .string { data := #[114, 101, 107, 101, 121] }] w (RetB w (derM k lRe)) from fun a n c k w r h => impl_Derive a n c k lRe w r h (by decide))
  have HL := Lib.hid (chL_le (key := l) (by rw [L.out]; omega))
  clear hy
  have g0 := gb_alloc (gb_refl w) (.cells #[] 5)
  go_enter Try.func88, Try.ntmps88
  go_wp2_with (first
    | (go_at_call 65; refine (impl_within _ _ _ _).mono ?_; rw [hx]; rintro e w' ⟨rfl, rfl⟩)
    | (go_at_call 95; refine (impl_clone _ _ _ _ _ r (by omega)).mono ?_; rintro e w1 ⟨a1, n1, c1, rfl, o1, g1⟩)
    | (refine wpList_appB rfl (.tmp 11) (.tmp 12) rfl w.heap.size _ _ _ [] rfl (new_own _ _) a n c l rfl (r.keep0 g0) (by have := L.out; simp; omega) (by simp) ?_; intro a1 n1 c1 w1 o1 g1'; have g1 := gb_app g0 (new_own _ _) (Nat.le_refl _) g1'; rw [List.nil_append] at o1))
  go_loopw [5, 6] (fun v i9 wr => ∃ (j m d : Nat) (aa : Option Addr), j ≤ N ∧ i9 = .int .i64 (j : Int) ∧ v = .slice aa m d ∧ Ow w.heap.size wr 5 aa m d (bys (chL l j)) ∧ w.grownBy wr none) (fun _ i9 _ => N - (intOf i9).toNat)
  case atStart => exact ⟨0, _, _, _, by omega, rfl, rfl, o1, g1⟩
  case round =>
    obtain ⟨j, m, d, aa, hj, rfl, rfl, ho, hg⟩ := hrel
    by_cases hlt : j < N
    · have hm : m ≤ 1048576 := by have := ho.blen; have := HL.out j; omega
      go_wp2_with (go_at_call 39; (with_reducible refine (D.out aa m d _ wr ho.rd hm).mono ?_); rintro e w2 ⟨a2, n2, c2, rfl, o2, g2⟩)
      exact ⟨⟨j + 1, _, _, _, by omega, by go_num, rfl, o2.mono hg.size, gb_trans hg g2⟩, by simp [intOf]; omega⟩
    · obtain rfl : j = N := by omega
      go_wp2
      go_ret
      exact ⟨_, _, _, rfl, ho, hg⟩
set_option maxRecDepth 1000000 in
set_option maxHeartbeats 1000000 in
theorem spec_Chain (a : Option Addr) (n c : Nat) (l : List UInt8) (x : Int) (w : World) (r : Rd w a n c (bys l)) (hn : n ≤ 1048576) : Calls Try.prog 91 #[.slice a n c, .int .i64 x] w (RetB w (chainM l x)) := by
  have L := Lib.hid r.blen
  cases hx : inB x 0 64
  · rw [chainM, if_neg (by intro h; rw [inB_t (by omega) (by omega)] at hx; cases hx)]
    go_enter Try.func91, Try.ntmps91
    go_wp2_with (go_at_call 78; refine (spec_l1In _ _ _ _).mono ?_; rw [hx]; rintro e w' ⟨rfl, rfl⟩)
    go_ret
    exact ⟨_, _, _, rfl, (new_own _ _).mono (gb_refl _).size, gb_alloc (gb_refl _) _⟩
  have hy := inB_iff.1 hx
  rw [chainM, if_pos hy]
  obtain ⟨N, rfl⟩ := Int.eq_ofNat_of_zero_le hy.1
  rw [Int.toNat_natCast]
  have hN : N ≤ 64 := by omega
  have D := Lib.hid (show ∀ (a : Option Addr) (n c : Nat) (k : List UInt8) (w : World), Rd w a n c (bys k) → n ≤ 1048576 → Calls Try.prog 113 #[.slice a n c, .string { data := #[114, 101, 107, 101, 121] }] w (RetB w (derM k lRe)) from fun a n c k w r h => spec_Derive a n c k lRe w r h (by decide))
  have HL := Lib.hid (chL_le (key := l) (by rw [L.out]; omega))
  clear hy
  have g0 := gb_alloc (gb_refl w) (.cells #[] 5)
  go_enter Try.func91, Try.ntmps91
  go_wp2_with (first
    | (go_at_call 78; refine (spec_l1In _ _ _ _).mono ?_; rw [hx]; rintro e w' ⟨rfl, rfl⟩)
    | (go_at_call 95; refine (impl_clone _ _ _ _ _ r (by omega)).mono ?_; rintro e w1 ⟨a1, n1, c1, rfl, o1, g1⟩)
    | (refine wpList_appB rfl (.tmp 11) (.tmp 12) rfl w.heap.size _ _ _ [] rfl (new_own _ _) a n c l rfl (r.keep0 g0) (by have := L.out; simp; omega) (by simp) ?_; intro a1 n1 c1 w1 o1 g1'; have g1 := gb_app g0 (new_own _ _) (Nat.le_refl _) g1'; rw [List.nil_append] at o1))
  go_loopw [5, 6] (fun v i9 wr => ∃ (j m d : Nat) (aa : Option Addr), j ≤ N ∧ i9 = .int .i64 (j : Int) ∧ v = .slice aa m d ∧ Ow w.heap.size wr 5 aa m d (bys (chL l j)) ∧ w.grownBy wr none) (fun _ i9 _ => N - (intOf i9).toNat)
  case atStart => exact ⟨0, _, _, _, by omega, rfl, rfl, o1, g1⟩
  case round =>
    obtain ⟨j, m, d, aa, hj, rfl, rfl, ho, hg⟩ := hrel
    by_cases hlt : j < N
    · have hm : m ≤ 1048576 := by have := ho.blen; have := HL.out j; omega
      go_wp2_with (go_at_call 113; (with_reducible refine (D.out aa m d _ wr ho.rd hm).mono ?_); rintro e w2 ⟨a2, n2, c2, rfl, o2, g2⟩)
      exact ⟨⟨j + 1, _, _, _, by omega, by go_num, rfl, o2.mono hg.size, gb_trans hg g2⟩, by simp [intOf]; omega⟩
    · obtain rfl : j = N := by omega
      go_wp2
      go_ret
      exact ⟨_, _, _, rfl, ho, hg⟩
set_option maxRecDepth 1000000 in
theorem impl_EpochKey (a : Option Addr) (n c : Nat) (l : List UInt8) (a1 : Option Addr) (n1 c1 : Nat) (l1 : List UInt8) (a2 : Option Addr) (n2 c2 : Nat) (l2 : List UInt8) (x : Int) (w : World) (r : Rd w a n c (bys l)) (r1 : Rd w a1 n1 c1 (bys l1)) (r2 : Rd w a2 n2 c2 (bys l2)) :
    Calls Try.prog 34 #[.slice a n c, .slice a1 n1 c1, .slice a2 n2 c2, .int .i64 x] w (RetB w (epKeyM l l1 l2 x)) := by
  obtain ⟨F, hF⟩ : ∃ F, F = firstM (rootM l l1 l2) := ⟨_, rfl⟩
  have FL := firstM_le (rootM l l1 l2)
  rw [epKeyM]
  rw [← hF] at FL ⊢
  have HF := Lib.hid hF
  clear hF
  by_cases hz : F.length = 0
  · rw [if_pos hz]
    obtain rfl := List.eq_nil_of_length_eq_zero hz
    go_enter Try.func34, Try.ntmps34
    go_wp2_with (first
      | (go_at_call 37; refine (impl_RootKey _ _ _ _ _ _ _ _ _ _ _ _ _ r r1 r2).mono ?_; rintro e w3 ⟨a3, n3, c3, rfl, o3, g3⟩)
      | (go_at_call 36; refine (impl_FirstKey _ _ _ _ _ o3.rd).mono ?_; rw [← HF.out]; rintro e w4 ⟨a4, n4, c4, rfl, o4, g4⟩; obtain rfl : n4 = 0 := o4.blen.symm))
    go_ret
    first
      | exact ⟨_, _, _, rfl, Ow.nil _ _ _, gb_trans g3 g4⟩
      | exact ⟨_, _, _, rfl, o4.mono g3.size, gb_trans g3 g4⟩
  · rw [if_neg hz]
    have hz' : 0 < F.length := by omega
    go_enter Try.func34, Try.ntmps34
    go_wp2_with (first
      | (go_at_call 37; refine (impl_RootKey _ _ _ _ _ _ _ _ _ _ _ _ _ r r1 r2).mono ?_; rintro e w3 ⟨a3, n3, c3, rfl, o3, g3⟩)
      | (go_at_call 36; refine (impl_FirstKey _ _ _ _ _ o3.rd).mono ?_; rw [← HF.out]; rintro e w4 ⟨a4, n4, c4, rfl, o4, g4⟩; have e4 := o4.blen; have p4 : ((n4 : Int) == 0) = false := (by rw [beq_eq_false_iff_ne]; omega); have q4 : n4 ≠ 0 := (by omega))
      | (go_at_call 88; refine (impl_Chain _ _ _ F x _ o4.rd (by omega)).mono ?_; rintro e w5 ⟨a5, n5, c5, rfl, o5, g5⟩))
    go_ret
    exact retB o5 (gb_trans g3 g4).size (gb_trans (gb_trans g3 g4) g5) rfl
set_option maxRecDepth 1000000 in
theorem spec_EpochKey (a : Option Addr) (n c : Nat) (l : List UInt8) (a1 : Option Addr) (n1 c1 : Nat) (l1 : List UInt8) (a2 : Option Addr) (n2 c2 : Nat) (l2 : List UInt8) (x : Int) (w : World) (r : Rd w a n c (bys l)) (r1 : Rd w a1 n1 c1 (bys l1)) (r2 : Rd w a2 n2 c2 (bys l2)) :
    Calls Try.prog 35 #[.slice a n c, .slice a1 n1 c1, .slice a2 n2 c2, .int .i64 x] w (RetB w (epKeyM l l1 l2 x)) := by
  obtain ⟨F, hF⟩ : ∃ F, F = firstM (rootM l l1 l2) := ⟨_, rfl⟩
  have FL := firstM_le (rootM l l1 l2)
  rw [epKeyM]
  rw [← hF] at FL ⊢
  have HF := Lib.hid hF
  clear hF
  by_cases hz : F.length = 0
  · rw [if_pos hz]
    obtain rfl := List.eq_nil_of_length_eq_zero hz
    go_enter Try.func35, Try.ntmps35
    go_wp2_with (first
      | (go_at_call 90; refine (spec_RootKey _ _ _ _ _ _ _ _ _ _ _ _ _ r r1 r2).mono ?_; rintro e w3 ⟨a3, n3, c3, rfl, o3, g3⟩)
      | (go_at_call 89; refine (spec_FirstKey _ _ _ _ _ o3.rd).mono ?_; rw [← HF.out]; rintro e w4 ⟨a4, n4, c4, rfl, o4, g4⟩; obtain rfl : n4 = 0 := o4.blen.symm))
    go_ret
    first
      | exact ⟨_, _, _, rfl, Ow.nil _ _ _, gb_trans g3 g4⟩
      | exact ⟨_, _, _, rfl, o4.mono g3.size, gb_trans g3 g4⟩
  · rw [if_neg hz]
    have hz' : 0 < F.length := by omega
    go_enter Try.func35, Try.ntmps35
    go_wp2_with (first
      | (go_at_call 90; refine (spec_RootKey _ _ _ _ _ _ _ _ _ _ _ _ _ r r1 r2).mono ?_; rintro e w3 ⟨a3, n3, c3, rfl, o3, g3⟩)
      | (go_at_call 89; refine (spec_FirstKey _ _ _ _ _ o3.rd).mono ?_; rw [← HF.out]; rintro e w4 ⟨a4, n4, c4, rfl, o4, g4⟩; have e4 := o4.blen; have p4 : ((n4 : Int) == 0) = false := (by rw [beq_eq_false_iff_ne]; omega); have q4 : n4 ≠ 0 := (by omega))
      | (go_at_call 91; refine (spec_Chain _ _ _ F x _ o4.rd (by omega)).mono ?_; rintro e w5 ⟨a5, n5, c5, rfl, o5, g5⟩))
    go_ret
    exact retB o5 (gb_trans g3 g4).size (gb_trans (gb_trans g3 g4) g5) rfl
end Go.Proofs.Ytpkhmbibemfhhaa
