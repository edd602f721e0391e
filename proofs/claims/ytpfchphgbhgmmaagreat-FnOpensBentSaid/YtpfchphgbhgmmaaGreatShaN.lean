/-
  Contracts of the padding, the blocks worked in one by one, the words as bytes. Conditions: none beside those that each theorem names.
-/
import Derived.Test.YtpfchphgbhgmmaaGreatShaK
namespace Go.Proofs.YtpfchphgbhgmmaaGreat
open Go.RowKit
def lenOf : Value → Nat
  | .slice _ n _ => n
  | _ => 0
theorem pad_snoc (j : Nat) : [128] ++ List.replicate j 0 ++ [0] = [128] ++ List.replicate (j + 1) (0 : UInt8) := by rw [List.replicate_succ', List.append_assoc]
theorem pad_go {n j : Nat} (h : j < padZ n) (hj : j < 64) : (n + (j + 1) + 8) % 64 ≠ 0 := by unfold padZ at h; omega
theorem pad_end {n j : Nat} (h : j = padZ n) : (n + (j + 1) + 8) % 64 = 0 := by unfold padZ at h; omega
theorem padZ_lt (n : Nat) : padZ n < 64 := Nat.mod_lt _ (by decide)
set_option maxRecDepth 1000000 in
set_option maxHeartbeats 1000000 in
theorem impl_Pad (n : Nat) (w : World) (hn : n ≤ 1048576) : Calls Tryz.prog 106 #[.int .i64 (n : Int)] w (RetB w (padM n)) := by
  have hI : inB (n : Int) 0 1048576 = true := inB_t (by omega) (by omega)
  have i1 : ¬ ((n : Int) < 0) := by omega
  have i2 : ¬ ((1048576 : Int) < (n : Int)) := by omega
  have z := padZ_lt n
  go_enter Tryz.func106, Tryz.ntmps106
  go_wp2_with (go_at_call 34; refine (impl_within _ _ _ _).mono ?_; rw [hI]; rintro e w' ⟨rfl, rfl⟩)
  go_loopw [3] (fun v wr => ∃ (j c : Nat) (aa : Option Addr), j ≤ padZ n ∧ v = .slice aa (j + 1) c ∧ Ow w.heap.size wr 5 aa (j + 1) c (bys ([128] ++ List.replicate j 0)) ∧ w.grownBy wr none) (fun v _ => 200 - lenOf v)
  case atStart => exact ⟨0, _, _, by omega, rfl, new_ownB w #[.int .u8 128] [128] rfl (by simp), gb_alloc (gb_refl w) _⟩
  case round =>
    obtain ⟨j, c, aa, hj, rfl, ho, hg⟩ := hrel
    by_cases hlt : j < padZ n
    · have e1 : ((n : Int) + ((j : Int) + 1) + 8) % 64 ≠ 0 := by have := pad_go hlt (by omega); omega
      have e2 : Int.tmod ((n : Int) + ((j : Int) + 1) + 8) 64 ≠ 0 := by rw [Int.tmod_eq_emod_of_nonneg (by omega)]; exact e1
      have ez := hg.size
      go_wp2_with (refine wpList_appB rfl (.tmp 15) (.tmp 16) rfl w.heap.size aa (j + 1) c _ rfl (ho.keep0 (gb_alloc (gb_refl _) _)) _ 1 1 [0] rfl (new_bys wr _ #[.int .u8 0] [0] rfl) (by simp; omega) (by simp; omega) ?_; intro a2 n2 c2 w2 o2 g2; have G2 := gb_app (gb_alloc hg _) (ho.keep0 (gb_alloc (gb_refl _) _)) (Nat.le_refl _) g2)
      rw [pad_snoc] at o2
      obtain rfl : n2 = j + 1 + 1 := by have := o2.blen; simp at this; omega
      refine ⟨⟨j + 1, _, _, by omega, rfl, o2, G2⟩, by simp [lenOf]; omega⟩
    · obtain rfl : j = padZ n := by omega
      have e1 : ((n : Int) + ((padZ n : Int) + 1) + 8) % 64 = 0 := by have := pad_end (n := n) rfl; omega
      have e2 : Int.tmod ((n : Int) + ((padZ n : Int) + 1) + 8) 64 = 0 := by rw [Int.tmod_eq_emod_of_nonneg (by omega)]; exact e1
      have ez := hg.size
      go_wp2_with (first
        | (refine wpList_appB rfl (.tmp 18) (.tmp 19) rfl w.heap.size aa (padZ n + 1) c _ rfl (ho.keep0 (gb_alloc (gb_refl _) _)) _ 2 2 [0, 0] rfl (new_bys wr _ #[.int .u8 0, .int .u8 0] [0, 0] rfl) (by simp; omega) (by simp; omega) ?_; intro a2 n2 c2 w2 o2 g2; have G2 := gb_app (gb_alloc hg _) (ho.keep0 (gb_alloc (gb_refl _) _)) (Nat.le_refl _) g2)
        | (go_at_call 80; refine (impl_PutN _ _ _ _ (8 * (n : Int)) 6 _ o2.rd (by have := o2.blen; simp at this; omega) (by omega) (by omega) (by omega) (by omega)).mono ?_; rintro e w3 ⟨a3, n3, c3, rfl, o3, g3⟩))
      go_ret
      refine retB o3 G2.size (gb_trans G2 g3) ?_
      rw [show (8 * (n : Int)).toNat = 8 * n by omega]
      exact padM_six hn
set_option maxRecDepth 1000000 in
set_option maxHeartbeats 1000000 in
theorem spec_Pad (n : Nat) (w : World) (hn : n ≤ 1048576) : Calls Tryz.prog 100 #[.int .i64 (n : Int)] w (RetB w (padM n)) := by
  have hI : inB (n : Int) 0 1048576 = true := inB_t (by omega) (by omega)
  have i1 : ¬ ((n : Int) < 0) := by omega
  have i2 : ¬ ((1048576 : Int) < (n : Int)) := by omega
  have z := padZ_lt n
  go_enter Tryz.func100, Tryz.ntmps100
  go_wp2_with (go_at_call 34; refine (impl_within _ _ _ _).mono ?_; rw [hI]; rintro e w' ⟨rfl, rfl⟩)
  go_loopw [3] (fun v wr => ∃ (j c : Nat) (aa : Option Addr), j ≤ padZ n ∧ v = .slice aa (j + 1) c ∧ Ow w.heap.size wr 5 aa (j + 1) c (bys ([128] ++ List.replicate j 0)) ∧ w.grownBy wr none) (fun v _ => 200 - lenOf v)
  case atStart => exact ⟨0, _, _, by omega, rfl, new_ownB w #[.int .u8 128] [128] rfl (by simp), gb_alloc (gb_refl w) _⟩
  case round =>
    obtain ⟨j, c, aa, hj, rfl, ho, hg⟩ := hrel
    by_cases hlt : j < padZ n
    · have e1 : ((n : Int) + ((j : Int) + 1) + 8) % 64 ≠ 0 := by have := pad_go hlt (by omega); omega
      have e2 : Int.tmod ((n : Int) + ((j : Int) + 1) + 8) 64 ≠ 0 := by rw [Int.tmod_eq_emod_of_nonneg (by omega)]; exact e1
      have ez := hg.size
      go_wp2_with (refine wpList_appB rfl (.tmp 19) (.tmp 20) rfl w.heap.size aa (j + 1) c _ rfl (ho.keep0 (gb_alloc (gb_refl _) _)) _ 1 1 [0] rfl (new_bys wr _ #[.int .u8 0] [0] rfl) (by simp; omega) (by simp; omega) ?_; intro a2 n2 c2 w2 o2 g2; have G2 := gb_app (gb_alloc hg _) (ho.keep0 (gb_alloc (gb_refl _) _)) (Nat.le_refl _) g2)
      rw [pad_snoc] at o2
      obtain rfl : n2 = j + 1 + 1 := by have := o2.blen; simp at this; omega
      refine ⟨⟨j + 1, _, _, by omega, rfl, o2, G2⟩, by simp [lenOf]; omega⟩
    · obtain rfl : j = padZ n := by omega
      have e1 : ((n : Int) + ((padZ n : Int) + 1) + 8) % 64 = 0 := by have := pad_end (n := n) rfl; omega
      have e2 : Int.tmod ((n : Int) + ((padZ n : Int) + 1) + 8) 64 = 0 := by rw [Int.tmod_eq_emod_of_nonneg (by omega)]; exact e1
      have ez := hg.size
      go_wp2_with (first
        | (go_at_call 61; refine (spec_PutN _ _ _ _ (8 * (n : Int)) 4 _ o2.rd (by have := o2.blen; simp [be_len] at this; omega) (by omega) (by omega) (by omega) (by omega)).mono ?_; rintro e w3 ⟨a3, n3, c3, rfl, o3, g3⟩)
        | (go_at_call 61; refine (spec_PutN _ _ _ _ 0 4 _ ho.rd (by omega) (by omega) (by omega) (by omega) (by omega)).mono ?_; rintro e w2 ⟨a2, n2, c2, rfl, o2, g2⟩))
      go_ret
      refine retB o3 (gb_trans hg g2).size (gb_trans (gb_trans hg g2) g3) ?_
      rw [show (8 * (n : Int)).toNat = 8 * n by omega]
      simp [padM]
theorem outB_snoc {h : List Nat} {j : Nat} (hj : j < h.length) : outB (h.take (j + 1)) = outB (h.take j) ++ be (h.getD j 0) 4 := by
  rw [take_succ_some (x := h.getD j 0) (by simp [List.getD, hj])]
  simp [outB]
set_option maxRecDepth 1000000 in
set_option maxHeartbeats 1000000 in
theorem impl_wordBytes (a : Option Addr) (n c : Nat) (h : List Nat) (w : World) (r : Rd w a n c (wds h)) (hn : n = 8) (hW : W32 h) : Calls Tryz.prog 107 #[.slice a n c] w (RetB w (outB h)) := by
  subst hn
  have hl := r.wlen
  have W := Lib.hid hW
  clear hW
  have R := Lib.hid r
  go_enter Tryz.func107, Tryz.ntmps107
  go_wp2
  go_loopw [3, 9] (fun v i9 wr => ∃ (j m d : Nat) (aa : Option Addr), j ≤ 8 ∧ i9 = .int .i64 (j : Int) ∧ v = .slice aa m d ∧ Ow w.heap.size wr 5 aa m d (bys (outB (h.take j))) ∧ w.grownBy wr none) (fun _ i9 _ => 8 - (intOf i9).toNat)
  case atStart => exact ⟨0, 0, _, _, by omega, rfl, rfl, new_own _ _, gb_alloc (gb_refl _) _⟩
  case round =>
    obtain ⟨j, m, d, aa, hj, rfl, rfl, ho, hg⟩ := hrel
    by_cases hlt : j < 8
    · obtain ⟨b, off, rfl, hc⟩ := (R.out.keep0 hg).word j hlt
      obtain ⟨x, hx⟩ : ∃ x, x = h.getD j 0 := ⟨_, rfl⟩
      have Bx : x < 4294967296 := by rw [hx]; exact W.out.at j
      rw [← hx] at hc
      have E := Lib.hid (show outB (h.take (j + 1)) = outB (h.take j) ++ be x 4 by rw [hx]; exact outB_snoc (by omega))
      have hm : m ≤ 1073741824 := by have := ho.blen; rw [outB_len, List.length_take] at this; omega
      clear hx
      go_wp2_with (go_at_call 80; refine (impl_PutN _ _ _ _ (x : Int) 4 _ ho.rd hm (by omega) (by omega) (by omega) (by omega)).mono ?_; rintro e w2 ⟨a2, n2, c2, rfl, o2, g2⟩)
      have o3 := o2.mono hg.size
      rw [show (x : Int).toNat = x by omega] at o3
      first
        | exact ⟨⟨j + 1, _, _, _, by omega, by go_num, rfl, by rw [E.out]; exact o3, gb_trans hg g2⟩, by simp [intOf]; omega⟩
        | (refine ⟨?_, ?measure⟩
           (repeat apply Exists.intro)
           refine ⟨?rel, rfl⟩
           case rel => exact ⟨j + 1, _, _, _, by omega, by go_num, rfl, by rw [E.out]; exact o3, gb_trans hg g2⟩
           case measure => simp [intOf]; omega)
    · obtain rfl : j = 8 := by omega
      rw [List.take_of_length_le (by omega)] at ho
      go_wp2
      go_ret
      exact ⟨_, _, _, rfl, ho, hg⟩
set_option maxRecDepth 1000000 in
set_option maxHeartbeats 1000000 in
theorem spec_l2Out (a : Option Addr) (n c : Nat) (h : List Nat) (w : World) (r : Rd w a n c (wds h)) (hn : n = 8) (hW : W32 h) : Calls Tryz.prog 103 #[.slice a n c] w (RetB w (outB h)) := by
  subst hn
  have hl := r.wlen
  have W := Lib.hid hW
  clear hW
  have R := Lib.hid r
  go_enter Tryz.func103, Tryz.ntmps103
  go_wp2
  go_loopw [3, 4] (fun v i9 wr => ∃ (j m d : Nat) (aa : Option Addr), j ≤ 8 ∧ i9 = .int .i64 (j : Int) ∧ v = .slice aa m d ∧ Ow w.heap.size wr 5 aa m d (bys (outB (h.take j))) ∧ w.grownBy wr none) (fun _ i9 _ => 8 - (intOf i9).toNat)
  case atStart => exact ⟨0, 0, _, _, by omega, rfl, rfl, new_own _ _, gb_alloc (gb_refl _) _⟩
  case round =>
    obtain ⟨j, m, d, aa, hj, rfl, rfl, ho, hg⟩ := hrel
    by_cases hlt : j < 8
    · obtain ⟨b, off, rfl, hc⟩ := (R.out.keep0 hg).word j hlt
      obtain ⟨x, hx⟩ : ∃ x, x = h.getD j 0 := ⟨_, rfl⟩
      have Bx : x < 4294967296 := by rw [hx]; exact W.out.at j
      rw [← hx] at hc
      have E := Lib.hid (show outB (h.take (j + 1)) = outB (h.take j) ++ be x 4 by rw [hx]; exact outB_snoc (by omega))
      have hm : m ≤ 1073741824 := by have := ho.blen; rw [outB_len, List.length_take] at this; omega
      clear hx
      go_wp2_with (go_at_call 61; refine (spec_PutN _ _ _ _ (x : Int) 4 _ ho.rd hm (by omega) (by omega) (by omega) (by omega)).mono ?_; rintro e w2 ⟨a2, n2, c2, rfl, o2, g2⟩)
      have o3 := o2.mono hg.size
      rw [show (x : Int).toNat = x by omega] at o3
      first
        | exact ⟨⟨j + 1, _, _, _, by omega, by go_num, rfl, by rw [E.out]; exact o3, gb_trans hg g2⟩, by simp [intOf]; omega⟩
        | (refine ⟨?_, ?measure⟩
           (repeat apply Exists.intro)
           refine ⟨?rel, rfl⟩
           case rel => exact ⟨j + 1, _, _, _, by omega, by go_num, rfl, by rw [E.out]; exact o3, gb_trans hg g2⟩
           case measure => simp [intOf]; omega)
    · obtain rfl : j = 8 := by omega
      rw [List.take_of_length_le (by omega)] at ho
      go_wp2
      go_ret
      exact ⟨_, _, _, rfl, ho, hg⟩
set_option maxRecDepth 1000000 in
theorem impl_Start (w : World) : Calls Tryz.prog 108 #[] w fun e w' => ∃ a c, e = .returned (.slice a 8 c) ∧ Ow w.heap.size w' 3 a 8 c (wds startL) ∧ w.grownBy w' none := by
  have O := Lib.hid (new_own1 w 3 (wds startL).toArray 8 (by rfl) (by unfold maxLen; omega))
  go_enter Tryz.func108, Tryz.ntmps108
  go_wp2
  go_ret
  exact ⟨_, _, rfl, O.out, gb_alloc (gb_refl w) _⟩
set_option maxRecDepth 1000000 in
theorem spec_Start (w : World) : Calls Tryz.prog 101 #[] w fun e w' => ∃ a c, e = .returned (.slice a 8 c) ∧ Ow w.heap.size w' 3 a 8 c (wds startL) ∧ w.grownBy w' none := by
  have O := Lib.hid (new_own1 w 3 (wds startL).toArray 8 (by rfl) (by unfold maxLen; omega))
  go_enter Tryz.func101, Tryz.ntmps101
  go_wp2
  go_ret
  exact ⟨_, _, rfl, O.out, gb_alloc (gb_refl w) _⟩
set_option maxRecDepth 1000000 in
set_option maxHeartbeats 1000000 in
theorem impl_compressAll (a : Option Addr) (n c : Nat) (h : List Nat) (b : Option Addr) (m d : Nat) (l : List UInt8) (w : World) (r1 : Rd w a n c (wds h)) (r2 : Rd w b m d (bys l)) (hn : n = 8) (hm : m ≤ 1073741824) (hW : W32 h) :
    Calls Tryz.prog 105 #[.slice a n c, .slice b m d] w fun e w' => ∃ a1 c1 a2 n2 c2, e = .returned (.tuple #[.slice a1 8 c1, .slice a2 n2 c2]) ∧ Rd w' a1 8 c1 (wds (cTo h l (l.length / 64))) ∧ Rd w' a2 n2 c2 (bys (l.drop (64 * (l.length / 64)))) ∧ w.grownBy w' none := by
  subst hn
  have hl := r1.wlen
  have W := Lib.hid hW
  have L := Lib.hid r2.blen
  clear hW
  have R1 := Lib.hid r1
  have R2 := Lib.hid r2
  clear r1 r2
  go_enter Tryz.func105, Tryz.ntmps105
  go_wp2
  go_loopw [0, 1] (fun v1 v2 wr => ∃ (j c1 n2 c2 : Nat) (a1 a2 : Option Addr), 64 * j ≤ m ∧ v1 = .slice a1 8 c1 ∧ v2 = .slice a2 n2 c2 ∧ n2 = m - 64 * j ∧ Rd wr a1 8 c1 (wds (cTo h l j)) ∧ Rd wr a2 n2 c2 (bys (l.drop (64 * j))) ∧ w.grownBy wr none) (fun _ v2 _ => lenOf v2)
  case atStart => exact ⟨0, _, _, _, _, _, by omega, rfl, rfl, by omega, R1.out, R2.out, gb_refl _⟩
  case round =>
    obtain ⟨j, c1, n2, c2, a1, a2, hj, rfl, rfl, hn2, h1, h2, hg⟩ := hrel
    have HN := Lib.hid hn2
    clear hn2
    by_cases hlt : 64 ≤ n2
    · have e1 : (64 : Int) ≤ (n2 : Int) := by omega
      have T := Lib.hid (cTo_len l hl j)
      have TW := Lib.hid (cTo_W l W.out j)
      go_wp2_with (first
        | (refine wpList_slB rfl (.tmp 10) none (some (.const (.int .i64 64))) rfl a2 n2 c2 _ rfl h2 0 64 (.inr ⟨rfl, rfl⟩) (.inl ⟨.i64, rfl⟩) (by omega) hlt ?_; intro b3 d3 hd3 r3 hp3; rw [List.drop_zero] at r3)
        | (go_at_call 113; refine (impl_Compress _ _ _ _ _ _ _ _ _ h1 r3 rfl rfl TW.out).mono ?_; rintro e w2 ⟨a4, c4, rfl, o4, g4⟩)
        | (refine wpList_slB rfl (.tmp 13) (some (.const (.int .i64 64))) none rfl a2 n2 c2 _ rfl (h2.keep0 g4) 64 n2 (.inl ⟨.i64, rfl⟩) (.inr ⟨rfl, rfl⟩) hlt (Nat.le_refl _) ?_; intro b5 d5 hd5 r5 hp5; rw [List.take_of_length_le (by rw [h2.blen]; exact Nat.le_refl _), List.drop_drop] at r5))
      have E := HN.out
      refine ⟨⟨j + 1, _, _, _, _, _, by omega, rfl, rfl, by omega, o4.rd, r5, gb_trans hg g4⟩, by simp [lenOf]; omega⟩
    · have e1 : ¬ (64 : Int) ≤ (n2 : Int) := by omega
      have E := Lib.hid (show j = l.length / 64 by have := HN.out; have := L.out; omega)
      go_wp2
      refine bodyPost_ret (v := .tuple #[.slice a1 8 c1, .slice a2 n2 c2]) (by simp [results, Tryz.results105, go_sem]) rfl ⟨_, _, _, _, _, rfl, ?_, ?_, hg⟩
      · rw [← E.out]; exact h1
      · rw [← E.out]; exact h2
end Go.Proofs.YtpfchphgbhgmmaaGreat
