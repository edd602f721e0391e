/-
  Contracts of tags, of chains of keys, of proofs and of cookies. Conditions: none beside those that each theorem names.
-/
import Derived.Test.YtpfchphgbhgmmaaGreatKeys2
import Derived.Test.YtpfchphgbhgmmaaGreatMint
import Derived.Deep.RegionHeld3
namespace Go.Proofs.YtpfchphgbhgmmaaGreat
open Go.RowKit
def proofM (psk : List UInt8) (id : Int) (cn sn : List UInt8) (tick : Int) (ck : List UInt8) : List UInt8 :=
  if (finM psk).length = 0 ∨ (pbM id cn sn tick ck).length = 0 then [] else tagM (finM psk) (pbM id cn sn tick ck)
theorem proofM_le (psk : List UInt8) (id : Int) (cn sn : List UInt8) (tick : Int) (ck : List UInt8) : (proofM psk id cn sn tick ck).length ≤ 16 := by
  unfold proofM
  split
  · simp
  · exact tagM_le _ _
def cookM (secret : List UInt8) (h p id : Int) (cn sn : List UInt8) (tick : Int) : List UInt8 :=
  if secret.length = 32 ∧ (mintM h p id cn sn tick).length ≠ 0 then tagM secret (mintM h p id cn sn tick) else []
theorem cookM_le (secret : List UInt8) (h p id : Int) (cn sn : List UInt8) (tick : Int) : (cookM secret h p id cn sn tick).length ≤ 16 := by
  unfold cookM
  split
  · exact tagM_le _ _
  · simp
set_option maxRecDepth 1000000 in
theorem impl_Tag (a : Option Addr) (n c : Nat) (l : List UInt8) (b : Option Addr) (m d : Nat) (k : List UInt8) (w : World) (r1 : Rd w a n c (bys l)) (r2 : Rd w b m d (bys k)) (hn : n ≤ 1073741824) (hm : m ≤ 1073741824) : Calls Tryz.prog 57 #[.slice a n c, .slice b m d] w (RetB w (tagM l k)) := by
  have C := impl_Hmac a n c l b m d k w r1 r2 hn hm
  rcases hmacM_cases l k with hz | hz
  · rw [tagM, hz, List.take_nil]
    rw [hz] at C
    go_enter Tryz.func57, Tryz.ntmps57
    go_wp2_with (go_at_call 81; refine C.mono ?_; clear C; rintro e w1 ⟨a1, n1, c1, rfl, o1, g1⟩; obtain rfl : n1 = 0 := o1.blen.symm)
    go_ret
    exact ⟨_, _, _, rfl, Ow.nil _ _ _, g1⟩
  · obtain ⟨M, hM⟩ : ∃ M, M = hmacM l k := ⟨_, rfl⟩
    rw [tagM]
    rw [← hM] at C hz ⊢
    have ML := Lib.hid hz
    clear hM hz
    go_enter Tryz.func57, Tryz.ntmps57
    go_wp2_with (first
      | (go_at_call 81; refine C.mono ?_; clear C; rintro e w1 ⟨a1, n1, c1, rfl, o1, g1⟩; obtain rfl : n1 = 32 := o1.blen.symm.trans ML.out)
      | (refine wpList_slB rfl (.tmp 12) none (some (.const (.int .i64 16))) rfl a1 32 c1 M rfl o1.rd 0 16 (.inr ⟨rfl, rfl⟩) (.inl ⟨.i64, rfl⟩) (by omega) (by omega) ?_; intro b6 d6 hd6 r6 hp6; rw [List.drop_zero] at r6)
      | (go_at_call 35; refine (impl_clone _ _ _ _ _ r6 (by omega)).mono ?_; rintro e w7 ⟨a7, n7, c7, rfl, o7, g7⟩))
    go_ret
    exact retB o7 g1.size (gb_trans g1 g7) rfl
set_option maxRecDepth 1000000 in
theorem spec_Tag (a : Option Addr) (n c : Nat) (l : List UInt8) (b : Option Addr) (m d : Nat) (k : List UInt8) (w : World) (r1 : Rd w a n c (bys l)) (r2 : Rd w b m d (bys k)) (hn : n ≤ 1073741824) (hm : m ≤ 1073741824) : Calls Tryz.prog 63 #[.slice a n c, .slice b m d] w (RetB w (tagM l k)) := by
  have C := spec_Hmac a n c l b m d k w r1 r2 hn hm
  rcases hmacM_cases l k with hz | hz
  · rw [tagM, hz, List.take_nil]
    rw [hz] at C
    go_enter Tryz.func63, Tryz.ntmps63
    go_wp2_with (go_at_call 83; refine C.mono ?_; clear C; rintro e w1 ⟨a1, n1, c1, rfl, o1, g1⟩; obtain rfl : n1 = 0 := o1.blen.symm)
    go_ret
    exact ⟨_, _, _, rfl, (new_own _ _).mono g1.size, gb_alloc g1 _⟩
  · obtain ⟨M, hM⟩ : ∃ M, M = hmacM l k := ⟨_, rfl⟩
    rw [tagM]
    rw [← hM] at C hz ⊢
    have ML := Lib.hid hz
    clear hM hz
    go_enter Tryz.func63, Tryz.ntmps63
    go_wp2_with (first
      | (go_at_call 83; refine C.mono ?_; clear C; rintro e w1 ⟨a1, n1, c1, rfl, o1, g1⟩; obtain rfl : n1 = 32 := o1.blen.symm.trans ML.out)
      | (refine wpList_slB rfl (.tmp 14) none (some (.const (.int .i64 16))) rfl a1 32 c1 M rfl (o1.rd.keep0 (gb_alloc (gb_refl _) _)) 0 16 (.inr ⟨rfl, rfl⟩) (.inl ⟨.i64, rfl⟩) (by omega) (by omega) ?_; intro b6 d6 hd6 r6 hp6; rw [List.drop_zero] at r6)
      | (refine wpList_appB rfl (.tmp 13) (.tmp 15) rfl w1.heap.size _ _ _ [] rfl (new_own _ _) b6 _ d6 _ rfl r6 (by simp; omega) (by simp) ?_; intro a7 n7 c7 w7 o7 g7'; have g7 := gb_app (gb_alloc (gb_refl w1) (.cells #[] 5)) (new_own _ _) (Nat.le_refl _) g7'; rw [List.nil_append] at o7))
    go_ret
    exact retB o7 g1.size (gb_trans g1 g7) rfl
end Go.Proofs.YtpfchphgbhgmmaaGreat
