/-
  Contracts of the derived keys. Conditions: none beside those that each theorem names.
-/
import Derived.Test.YtjdaafemfpafdaaMac
import Derived.Laws.IdiomStrings
namespace Go.Proofs.Ytjdaafemfpafdaa
open Go.RowKit
def lstr (l : List UInt8) : ByteArray := ⟨l.toArray⟩
theorem rd_str (w : World) (e : TypeId) (s : List UInt8) (cap : Nat) (h : s.length ≤ cap) (fr : Nat × Nat) : Rd (w.drew.alloc (.cells (bytesRow (lstr s) cap) e fr)) (some ⟨w.heap.size, 0, none⟩) s.length cap (bys s) := by
  refine ⟨bys_len s, h, fun j hj => ⟨w.heap.size, 0, rfl, ?_⟩⟩
  rw [cell_of_row _ w.heap.size (0 + j) _ e fr (heap_alloc_new w.drew _), Nat.zero_add, bytesRow_at (lstr s) cap j (by simpa [lstr] using hj), bys_at s j hj]
  simp [lstr]
set_option maxRecDepth 1000000 in
set_option maxHeartbeats 2000000 in
theorem impl_Expand32 (a : Option Addr) (n c : Nat) (key : List UInt8) (b : Option Addr) (m d : Nat) (info : List UInt8) (w : World) (r1 : Rd w a n c (bys key)) (r2 : Rd w b m d (bys info)) (hn : n ≤ 1048576) (hm : m ≤ 100) :
    Calls Try.prog 76 #[.slice a n c, .slice b m d, .int .i64 32] w fun e w' => ∃ a' n' c', e = .returned (.tuple #[.slice a' n' c', .bool true]) ∧ Ow w.heap.size w' 5 a' n' c' (bys (hmacM key (info ++ [1]))) ∧ w.grownBy w' none := by
  have L1 := Lib.hid r1.blen
  have L2 := Lib.hid r2.blen
  have i1 : ¬ ((100 : Int) < (m : Int)) := by omega
  have i2 : ¬ ((1048576 : Int) < (n : Int)) := by omega
  have hI : inB 32 0 8160 = true := rfl
  obtain ⟨T, hT⟩ : ∃ T, T = hmacM key (info ++ [1]) := ⟨_, rfl⟩
  have TL : T.length = 32 := by rw [hT]; exact hmacM_len (by have := L1.out; omega) (by have := L2.out; simp; omega)
  have HT := Lib.hid hT
  have HL := Lib.hid TL
  rw [← hT]
  clear hT TL
  have R1 := Lib.hid r1
  have R2 := Lib.hid r2
  have gA := Lib.hid (gb_alloc (gb_alloc (gb_refl w) (.cells #[] 5)) (.cells #[] 5))
  have oA := Lib.hid ((new_own w 5).keep0 (gb_alloc (gb_refl _) (.cells #[] 5)))
  go_enter Try.func76, Try.ntmps76
  go_wp2_with (go_at_call 40; refine (impl_within _ _ _ _).mono ?_; rw [hI]; rintro e w' ⟨rfl, rfl⟩)
  go_loopw [8, 9, 10] (fun v1 v2 v3 wr => ∃ (n1 d1 n2 d2 : Nat) (q1 q2 : Option Addr) (x1 : List UInt8) (i : Nat), v1 = .slice q1 n1 d1 ∧ v2 = .slice q2 n2 d2 ∧ v3 = .int .i64 (i : Int) ∧ Ow w.heap.size wr 5 q1 n1 d1 (bys x1) ∧ Hid ((x1 = [] ∧ n2 = 0 ∧ i = 1) ∨ x1 = T) ∧ i ≤ 2 ∧ w.grownBy wr none) (fun v1 _ _ _ => 64 - lenOf v1)
  case atStart => exact ⟨0, _, 0, _, _, _, [], 1, rfl, rfl, rfl, oA.out, .inl ⟨rfl, rfl, rfl⟩, by omega, gA.out⟩
  case round =>
    obtain ⟨n1, d1, n2, d2, q1, q2, x1, i, rfl, rfl, rfl, o1, hx, hi, hg⟩ := hrel
    rcases hx.out with ⟨rfl, rfl, rfl⟩ | rfl
    · obtain rfl : n1 = 0 := by have := o1.blen; simpa using this.symm
      clear hx
      have ez := hg.size
      go_wp2_with (first
        | (go_at_call 42; refine Calls.mono (impl_joined _ _ _ [⟨q2, 0, d2, []⟩, ⟨b, m, d, info⟩, ⟨some ⟨wr.heap.size, 0, none⟩, 1, 1, [1]⟩] _ (Rd.ofBxV (cs := #[.slice q2 0 d2, .slice b m d, .slice (some ⟨wr.heap.size, 0, none⟩) 1 1]) (t := 22) (Bx.newk _ _ _ _ (by simp)) rfl rfl) (ok_cons (Rd.nil _ _ _) (ok_cons (R2.out.keep0 (gb_alloc (gb_alloc hg _) _)) (ok_cons (Rd.ofBxV (cs := #[.int .u8 1]) (t := 5) (Bx.old (Bx.new _ _ _) _) rfl rfl) ok_nil))) (by omega) (by have := L2.out; simp [cat]; omega)) ?_; rintro e w3 ⟨a3, n3, c3, rfl, o3, g3⟩; have R3 : Rd w3 a3 n3 c3 (bys (info ++ [1])) := (by simpa [cat] using o3.rd); have G3 := gb_trans (gb_alloc (gb_alloc hg (.cells #[.int .u8 1] 5)) (.cells #[.slice q2 0 d2, .slice b m d, .slice (some ⟨wr.heap.size, 0, none⟩) 1 1] 22)) g3)
        | (go_at_call 66; (with_reducible refine (impl_Hmac a n c key a3 n3 c3 _ w3 (R1.out.keep0 G3) R3 (by omega) (by have := R3.blen; have := L2.out; simp at *; omega)).mono ?_); rw [← HT.out]; rintro e w4 ⟨a4, n4, c4, rfl, o4, g4⟩; have G4 := gb_trans G3 g4; have p1 : Ow w.heap.size w4 5 q1 0 d1 (bys []) := o1.keep0 (gb_trans (gb_trans (gb_alloc (gb_alloc (gb_refl _) _) _) g3) g4))
        | (refine wpList_appB rfl (.tmp 41) (.tmp 42) rfl w.heap.size q1 0 d1 [] rfl p1 a4 n4 c4 T rfl o4.rd (by have := HL.out; simp; omega) G4.size ?_; intro a5 n5 c5 w5 o5 g5; have G5 := gb_app G4 p1 (Nat.le_refl _) g5; rw [List.nil_append] at o5))
      refine ⟨⟨_, _, _, _, _, _, T, 2, rfl, rfl, by go_num, o5, .inr rfl, by omega, G5⟩, ?_⟩
      have := o5.blen
      have := HL.out
      simp [lenOf]
      omega
    · obtain rfl : n1 = 32 := by have := o1.blen; have := HL.out; omega
      clear hx
      go_wp2_with (first
        | (refine wpList_slB rfl (.tmp 44) none (some (.tmp 45)) rfl q1 32 d1 _ rfl o1.rd 0 32 (.inr ⟨rfl, rfl⟩) (.inl ⟨.i64, rfl⟩) (by omega) (by omega) ?_; intro b6 d6 hd6 r6 hp6; rw [List.drop_zero, List.take_of_length_le (by have := HL.out; omega)] at r6)
        | (go_at_call 67; refine (impl_clone _ _ _ _ _ r6 (by omega)).mono ?_; rintro e w7 ⟨a7, n7, c7, rfl, o7, g7⟩))
      exact bodyPost_ret (v := .tuple #[.slice a7 n7 c7, .bool true]) (by simp [results, Try.results76, go_sem]) rfl ⟨_, _, _, rfl, o7.mono hg.size, gb_trans hg g7⟩
set_option maxRecDepth 1000000 in
theorem impl_Derive (a : Option Addr) (n c : Nat) (key : List UInt8) (lab : List UInt8) (w : World) (r : Rd w a n c (bys key)) (hn : n ≤ 1048576) (hl : lab.length ≤ 100) :
    Calls Try.prog 57 #[.slice a n c, .string (lstr lab)] w (RetB w (derM key lab)) := by
  have L := Lib.hid r.blen
  rw [derM, if_pos (by have := L.out; omega)]
  have hc := run_bytes_of_string (P := Try.prog) w 9 22 5 (lstr lab) Try.underlying9 Try.underlying22 Try.underlying5
  obtain ⟨cap, hcap⟩ : ∃ x, x = grownCap w (lstr lab).size 0 5 := ⟨_, rfl⟩
  have hge : lab.length ≤ cap := by rw [hcap]; exact grownCap_ge w (lstr lab).size 0 5
  rw [← hcap, show (lstr lab).size = lab.length from rfl] at hc
  have RS := Lib.hid (rd_str w 5 lab cap hge ((bytesRow (lstr lab) cap).size, (bytesRow (lstr lab) cap).size + 1))
  have G := Lib.hid (gb_alloc (gb_drew (gb_refl w)) (.cells (bytesRow (lstr lab) cap) 5 ((bytesRow (lstr lab) cap).size, (bytesRow (lstr lab) cap).size + 1)))
  clear hcap hge
  go_enter Try.func57, Try.ntmps57
  go_wp2_with (go_at_call 76; refine (impl_Expand32 _ _ _ _ _ _ _ _ _ (r.keep0 G.out) RS.out hn hl).mono ?_; rintro e w2 ⟨a2, n2, c2, rfl, o2, g2⟩)
  go_ret
  exact retB o2 G.out.size (gb_trans G.out g2) rfl
set_option maxRecDepth 1000000 in
set_option maxHeartbeats 2000000 in
theorem spec_Expand32 (a : Option Addr) (n c : Nat) (key : List UInt8) (b : Option Addr) (m d : Nat) (info : List UInt8) (w : World) (r1 : Rd w a n c (bys key)) (r2 : Rd w b m d (bys info)) (hn : n ≤ 1048576) (hm : m ≤ 100) :
    Calls Try.prog 87 #[.slice a n c, .slice b m d, .int .i64 32] w fun e w' => ∃ a' n' c', e = .returned (.tuple #[.slice a' n' c', .bool true]) ∧ Ow w.heap.size w' 5 a' n' c' (bys (hmacM key (info ++ [1]))) ∧ w.grownBy w' none := by
  have L1 := Lib.hid r1.blen
  have L2 := Lib.hid r2.blen
  have i1 : ¬ ((100 : Int) < (m : Int)) := by omega
  have i2 : ¬ ((1048576 : Int) < (n : Int)) := by omega
  have hI : inB 32 0 8160 = true := rfl
  obtain ⟨T, hT⟩ : ∃ T, T = hmacM key (info ++ [1]) := ⟨_, rfl⟩
  have TL : T.length = 32 := by rw [hT]; exact hmacM_len (by have := L1.out; omega) (by have := L2.out; simp; omega)
  have HT := Lib.hid hT
  have HL := Lib.hid TL
  rw [← hT]
  clear hT TL
  have R1 := Lib.hid r1
  have R2 := Lib.hid r2
  have gA := Lib.hid (gb_alloc (gb_alloc (gb_refl w) (.cells #[] 5)) (.cells #[] 5))
  have oA := Lib.hid ((new_own w 5).keep0 (gb_alloc (gb_refl _) (.cells #[] 5)))
  go_enter Try.func87, Try.ntmps87
  go_wp2_with (go_at_call 53; refine (spec_l1In _ _ _ _).mono ?_; rw [hI]; rintro e w' ⟨rfl, rfl⟩)
  go_loopw [8, 9, 10] (fun v1 v2 v3 wr => ∃ (n1 d1 n2 d2 : Nat) (q1 q2 : Option Addr) (x1 : List UInt8) (i : Nat), v1 = .slice q1 n1 d1 ∧ v2 = .slice q2 n2 d2 ∧ v3 = .int .i64 (i : Int) ∧ Ow w.heap.size wr 5 q1 n1 d1 (bys x1) ∧ Hid ((x1 = [] ∧ n2 = 0 ∧ i = 1) ∨ x1 = T) ∧ i ≤ 2 ∧ w.grownBy wr none) (fun v1 _ _ _ => 64 - lenOf v1)
  case atStart => exact ⟨0, _, 0, _, _, _, [], 1, rfl, rfl, rfl, oA.out, .inl ⟨rfl, rfl, rfl⟩, by omega, gA.out⟩
  case round =>
    obtain ⟨n1, d1, n2, d2, q1, q2, x1, i, rfl, rfl, rfl, o1, hx, hi, hg⟩ := hrel
    rcases hx.out with ⟨rfl, rfl, rfl⟩ | rfl
    · obtain rfl : n1 = 0 := by have := o1.blen; simpa using this.symm
      clear hx
      have ez := hg.size
      have n1 := new_own wr 5
      have h1 := gb_alloc (gb_refl wr) (.cells #[] 5)
      go_wp2_with (first
        | (refine wpList_appB rfl (.tmp 34) (.tmp 35) rfl wr.heap.size _ _ _ [] rfl n1 q2 0 d2 [] rfl (Rd.nil _ _ _) (by simp) (by simp) ?_; intro a6 n6 c6 w6 o6 g6; have h6 := gb_app h1 n1 (Nat.le_refl _) g6; rw [List.nil_append] at o6)
        | (refine wpList_appB rfl (.tmp 36) (.tmp 37) rfl wr.heap.size a6 n6 c6 [] rfl o6 b m d info rfl (R2.out.keep0 (gb_trans hg h6)) (by have := L2.out; simp; omega) h6.size ?_; intro a7 n7 c7 w7 o7 g7; have h7 := gb_app h6 o6 (Nat.le_refl _) g7; rw [List.nil_append] at o7)
        | (refine wpList_appB rfl (.tmp 38) (.tmp 41) rfl wr.heap.size a7 n7 c7 info rfl (o7.keep0 (gb_alloc (gb_refl _) _)) _ 1 1 [1] rfl (new_bys w7 _ #[.int .u8 1] [1] rfl) (by have := L2.out; simp; omega) (by have := h7.size; simp; omega) ?_; intro a3 n3 c3 w3 o3 g3; have h3 := gb_app (gb_alloc h7 _) (o7.keep0 (gb_alloc (gb_refl _) _)) (Nat.le_refl _) g3; have G3 := gb_trans hg h3)
        | (go_at_call 69; (with_reducible refine (spec_Hmac a n c key a3 n3 c3 _ w3 (R1.out.keep0 G3) o3.rd (by omega) (by have := o3.blen; have := L2.out; simp at *; omega)).mono ?_); rw [← HT.out]; rintro e w4 ⟨a4, n4, c4, rfl, o4, g4⟩; have G4 := gb_trans G3 g4; have p1 : Ow w.heap.size w4 5 q1 0 d1 (bys []) := o1.keep0 (gb_trans h3 g4))
        | (refine wpList_appB rfl (.tmp 44) (.tmp 45) rfl w.heap.size q1 0 d1 [] rfl p1 a4 n4 c4 T rfl o4.rd (by have := HL.out; simp; omega) G4.size ?_; intro a5 n5 c5 w5 o5 g5; have G5 := gb_app G4 p1 (Nat.le_refl _) g5; rw [List.nil_append] at o5))
      refine ⟨⟨_, _, _, _, _, _, T, 2, rfl, rfl, by go_num, o5, .inr rfl, by omega, G5⟩, ?_⟩
      have := o5.blen
      have := HL.out
      simp [lenOf]
      omega
    · obtain rfl : n1 = 32 := by have := o1.blen; have := HL.out; omega
      clear hx
      have gz := gb_alloc (gb_refl wr) (.cells #[] 5)
      go_wp2_with (first
        | (refine wpList_slB rfl (.tmp 48) none (some (.tmp 49)) rfl q1 32 d1 _ rfl (o1.rd.keep0 gz) 0 32 (.inr ⟨rfl, rfl⟩) (.inl ⟨.i64, rfl⟩) (by omega) (by omega) ?_; intro b6 d6 hd6 r6 hp6; rw [List.drop_zero, List.take_of_length_le (by have := HL.out; omega)] at r6)
        | (refine wpList_appB rfl (.tmp 47) (.tmp 50) rfl wr.heap.size _ _ _ [] rfl (new_own _ _) b6 _ d6 x1 rfl r6 (by have := HL.out; simp; omega) (by simp) ?_; intro a7 n7 c7 w7 o7 g7'; have g7 := gb_app gz (new_own _ _) (Nat.le_refl _) g7'; rw [List.nil_append] at o7))
      exact bodyPost_ret (v := .tuple #[.slice a7 n7 c7, .bool true]) (by simp [results, Try.results87, go_sem]) rfl ⟨_, _, _, rfl, o7.mono hg.size, gb_trans hg g7⟩
set_option maxRecDepth 1000000 in
theorem spec_Derive (a : Option Addr) (n c : Nat) (key : List UInt8) (lab : List UInt8) (w : World) (r : Rd w a n c (bys key)) (hn : n ≤ 1048576) (hl : lab.length ≤ 100) :
    Calls Try.prog 78 #[.slice a n c, .string (lstr lab)] w (RetB w (derM key lab)) := by
  have L := Lib.hid r.blen
  rw [derM, if_pos (by have := L.out; omega)]
  have hc := run_bytes_of_string (P := Try.prog) w 9 22 5 (lstr lab) Try.underlying9 Try.underlying22 Try.underlying5
  obtain ⟨cap, hcap⟩ : ∃ x, x = grownCap w (lstr lab).size 0 5 := ⟨_, rfl⟩
  have hge : lab.length ≤ cap := by rw [hcap]; exact grownCap_ge w (lstr lab).size 0 5
  rw [← hcap, show (lstr lab).size = lab.length from rfl] at hc
  have RS := Lib.hid (rd_str w 5 lab cap hge ((bytesRow (lstr lab) cap).size, (bytesRow (lstr lab) cap).size + 1))
  have G := Lib.hid (gb_alloc (gb_drew (gb_refl w)) (.cells (bytesRow (lstr lab) cap) 5 ((bytesRow (lstr lab) cap).size, (bytesRow (lstr lab) cap).size + 1)))
  clear hcap hge
  go_enter Try.func78, Try.ntmps78
  go_wp2_with (go_at_call 87; refine (spec_Expand32 _ _ _ _ _ _ _ _ _ (r.keep0 G.out) RS.out hn hl).mono ?_; rintro e w2 ⟨a2, n2, c2, rfl, o2, g2⟩)
  go_ret
  exact retB o2 G.out.size (gb_trans G.out g2) rfl
end Go.Proofs.Ytjdaafemfpafdaa
