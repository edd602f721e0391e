/-
  Contracts of the two listers of a window. Conditions: none beside those that each theorem names.
-/
import Derived.Test.YtdfdhijbafalaaaWin
namespace Go.Proofs.Ytdfdhijbafalaaa
open Go.RowKit
def winPart (f : WinM) (lo k : Nat) : List Int := ((List.range' lo (k - lo) : List Nat).filter (fun m => winBit f.bits m)).map (fun m : Nat => (m : Int))
def winList (f : WinM) : List Int := if winOk f then winPart f (least f.top).toNat (f.top + 1).toNat else []
theorem winPart_succ_t {f : WinM} {lo k : Nat} (h : lo ≤ k) (hb : winBit f.bits k = true) : winPart f lo (k + 1) = winPart f lo k ++ [(k : Int)] := by
  rw [winPart, show k + 1 - lo = (k - lo) + 1 by omega, List.range'_1_concat, List.filter_append, List.map_append, show lo + (k - lo) = k by omega]
  simp [hb, winPart]
theorem winPart_succ_f {f : WinM} {lo k : Nat} (h : lo ≤ k) (hb : winBit f.bits k = false) : winPart f lo (k + 1) = winPart f lo k := by
  rw [winPart, show k + 1 - lo = (k - lo) + 1 by omega, List.range'_1_concat, List.filter_append, List.map_append, show lo + (k - lo) = k by omega]
  simp [hb, winPart]
theorem winPart_nil (f : WinM) (lo : Nat) : winPart f lo lo = [] := by simp [winPart]
theorem winPart_len (f : WinM) (lo k : Nat) : (winPart f lo k).length ≤ k - lo := by
  rw [winPart, List.length_map]
  exact Nat.le_trans (List.length_filter_le _ _) (by simp)
theorem winList_len (f : WinM) : (winList f).length ≤ 1024 := by
  unfold winList
  split
  · rename_i h
    have hb := winOk_bd h
    refine Nat.le_trans (winPart_len _ _ _) ?_
    unfold least
    split <;> omega
  · simp
set_option maxRecDepth 100000 in
set_option maxHeartbeats 1000000 in
theorem impl_WinList (v : Value) (f : WinM) (w : World) (h : WinR w v f) (hn : f.bits.length ≤ 1073741824) :
    Calls Try.prog 12 #[v] w fun e w' => ∃ a n c, e = .returned (.slice a n c) ∧ Ow w.heap.size w' 3 a n c (ins (winList f)) ∧ w.grownBy w' none := by
  obtain ⟨a1, n1, c1, rfl, h1⟩ := h
  obtain ⟨i0, hi, hz0, hz1, hz2⟩ := info_parts inf_int
  have B0 := (bx1 w #[.int .i64 f.top, .slice a1 n1 c1] 27).old (.cells #[] 3)
  have g0 := gb_alloc (gb_alloc (gb_refl w) (.cells #[.int .i64 f.top, .slice a1 n1 c1] 27)) (.cells #[] 3)
  have O0 := new_own' (w.alloc (.cells #[.int .i64 f.top, .slice a1 n1 c1] 27)) 3 (w.heap.size + 1) (by simp)
  go_enter Try.func12, Try.ntmps12
  go_wp2_with fail
  refine (impl_WinOk _ f _ ⟨_, _, _, rfl, h1.keep0 g0⟩ hn).mono ?_
  rintro e w1 ⟨rfl, g1⟩
  replace B0 := B0.keep0 g1
  replace O0 := O0.keep0 g1
  have G1 := gb_trans g0 g1
  clear g0 g1
  have hcp := fun o => B0.cell o
  have hl0 := B0.lt
  by_cases hok : winOk f = true
  · obtain ⟨hb1, hb2, hb3⟩ := winOk_bd hok
    obtain ⟨lo, hlo, hlo2⟩ : ∃ lo : Nat, Hid ((least f.top).toNat = lo) ∧ (max 0 (f.top - 1024 + 1) = (lo : Int)) := ⟨_, rfl, by rw [max_least _ hb1]; unfold least; split <;> omega⟩
    have hlo3 : (lo : Int) ≤ f.top + 1 := by rw [← hlo2]; omega
    by_cases hd : 0 < f.top - 1024 + 1
    · have Hn := Lib.hid hn
      clear hn
      go_wp2
      go_loopw [3, 4] (fun sl i wr => ∃ (k : Nat) (a : Option Addr) (n c : Nat), i = .int .i64 k ∧ sl = .slice a n c ∧ lo ≤ k ∧ (k : Int) ≤ f.top + 1 ∧ w.grownBy wr none ∧ Bx wr w.heap.size 27 #[.int .i64 f.top, .slice a1 n1 c1] ∧ Ow (w.heap.size + 1) wr 3 a n c (ins (winPart f lo k)) ∧ n ≤ k - lo) (fun _ i _ => (f.top + 1 - intOf i).toNat)
      case atStart => exact ⟨lo, _, _, _, (by first | rfl | (congr 1; omega)), rfl, by omega, by omega, G1, B0, by rw [winPart_nil]; exact O0, by omega⟩
      case round =>
        obtain ⟨k, a, n, c, rfl, rfl, hk1, hk2, hg, hbx, hown, hlen⟩ := hrel
        clear hcp hl0 B0 O0
        have hcp := fun o => hbx.cell o
        have hlx := hbx.lt
        by_cases hlt : (k : Int) ≤ f.top
        · by_cases hbit : winBit f.bits k = true
          · go_wp2_with fail
            refine (impl_hasBit _ f k _ ⟨_, _, _, rfl, h1.keep0 hg⟩ hb3 (by omega) (by omega)).mono ?_
            rintro e w2 ⟨rfl, g2⟩
            rw [Int.toNat_natCast]
            have hown2 := hown.keep0 g2
            have hle2 := g2.size
            have hsz := hbx.lt
            have Hle : Hid (n + 1 ≤ 1073741824) := by simp only [Hid]; omega
            go_wp2_with (at_builtin; refine wpList_app rfl _ _ 24 24 rfl (w.heap.size + 1) 3 i0 (.int .i64 0) 8 Try.underlying24 hi hz0 hz1 hz2 rfl a n c (ins (winPart f lo k)) rfl (hown2.keep0 (gb_alloc (gb_refl _) _)) _ rfl 1 [.int .i64 k] (new_src Try.underlying24 w2 #[.int .i64 k] _ 1 rfl (by simp [Value.oneCell'])) (by have := Hle.out; unfold maxLen; omega) (by have := Hle.out; omega) (by simp; omega) ?_; intro a3 c3 w3 o3 g3 h3)
            have hb9 := ((hbx.keep0 g2).old (.cells #[.int .i64 k] 3)).keepRow g3 (fun hg => by obtain ⟨p, hp, h9⟩ := row_of hg; have := (hown.lt p hp).1; omega)
            have G3 : w.grownBy w3 none := gb_transr (gb_alloc (gb_trans hg g2) _) g3 (fun g hg => by obtain ⟨p, hp, h9⟩ := row_of hg; have := (hown.lt p hp).1; left; omega)
            refine ⟨⟨k + 1, a3, n + 1, c3, by go_num, rfl, by omega, by omega, G3, hb9, ?_, by omega⟩, by simp [intOf]; omega⟩
            rw [winPart_succ_t hk1 hbit, ins_app]
            exact o3
          · have hbf : winBit f.bits k = false := by simpa using hbit
            go_wp2_with fail
            refine (impl_hasBit _ f k _ ⟨_, _, _, rfl, h1.keep0 hg⟩ hb3 (by omega) (by omega)).mono ?_
            rintro e w2 ⟨rfl, g2⟩
            rw [Int.toNat_natCast]
            go_wp2
            refine ⟨⟨k + 1, a, n, c, by go_num, rfl, by omega, by omega, gb_trans hg g2, hbx.keep0 g2, ?_, by omega⟩, by simp [intOf]; omega⟩
            rw [winPart_succ_f hk1 hbf]
            exact hown.keep0 g2
        · obtain rfl : k = (f.top + 1).toNat := by omega
          go_wp2
          go_ret
          refine ⟨_, _, _, rfl, ?_, hg⟩
          rw [show winList f = winPart f lo (f.top + 1).toNat by simp [winList, hok, hlo.out]]
          exact hown.mono (by omega)
    · have Hn := Lib.hid hn
      clear hn
      go_wp2
      go_loopw [3, 4] (fun sl i wr => ∃ (k : Nat) (a : Option Addr) (n c : Nat), i = .int .i64 k ∧ sl = .slice a n c ∧ lo ≤ k ∧ (k : Int) ≤ f.top + 1 ∧ w.grownBy wr none ∧ Bx wr w.heap.size 27 #[.int .i64 f.top, .slice a1 n1 c1] ∧ Ow (w.heap.size + 1) wr 3 a n c (ins (winPart f lo k)) ∧ n ≤ k - lo) (fun _ i _ => (f.top + 1 - intOf i).toNat)
      case atStart => exact ⟨lo, _, _, _, (by first | rfl | (congr 1; omega)), rfl, by omega, by omega, G1, B0, by rw [winPart_nil]; exact O0, by omega⟩
      case round =>
        obtain ⟨k, a, n, c, rfl, rfl, hk1, hk2, hg, hbx, hown, hlen⟩ := hrel
        clear hcp hl0 B0 O0
        have hcp := fun o => hbx.cell o
        have hlx := hbx.lt
        by_cases hlt : (k : Int) ≤ f.top
        · by_cases hbit : winBit f.bits k = true
          · go_wp2_with fail
            refine (impl_hasBit _ f k _ ⟨_, _, _, rfl, h1.keep0 hg⟩ hb3 (by omega) (by omega)).mono ?_
            rintro e w2 ⟨rfl, g2⟩
            rw [Int.toNat_natCast]
            have hown2 := hown.keep0 g2
            have hle2 := g2.size
            have hsz := hbx.lt
            have Hle : Hid (n + 1 ≤ 1073741824) := by simp only [Hid]; omega
            go_wp2_with (at_builtin; refine wpList_app rfl _ _ 24 24 rfl (w.heap.size + 1) 3 i0 (.int .i64 0) 8 Try.underlying24 hi hz0 hz1 hz2 rfl a n c (ins (winPart f lo k)) rfl (hown2.keep0 (gb_alloc (gb_refl _) _)) _ rfl 1 [.int .i64 k] (new_src Try.underlying24 w2 #[.int .i64 k] _ 1 rfl (by simp [Value.oneCell'])) (by have := Hle.out; unfold maxLen; omega) (by have := Hle.out; omega) (by simp; omega) ?_; intro a3 c3 w3 o3 g3 h3)
            have hb9 := ((hbx.keep0 g2).old (.cells #[.int .i64 k] 3)).keepRow g3 (fun hg => by obtain ⟨p, hp, h9⟩ := row_of hg; have := (hown.lt p hp).1; omega)
            have G3 : w.grownBy w3 none := gb_transr (gb_alloc (gb_trans hg g2) _) g3 (fun g hg => by obtain ⟨p, hp, h9⟩ := row_of hg; have := (hown.lt p hp).1; left; omega)
            refine ⟨⟨k + 1, a3, n + 1, c3, by go_num, rfl, by omega, by omega, G3, hb9, ?_, by omega⟩, by simp [intOf]; omega⟩
            rw [winPart_succ_t hk1 hbit, ins_app]
            exact o3
          · have hbf : winBit f.bits k = false := by simpa using hbit
            go_wp2_with fail
            refine (impl_hasBit _ f k _ ⟨_, _, _, rfl, h1.keep0 hg⟩ hb3 (by omega) (by omega)).mono ?_
            rintro e w2 ⟨rfl, g2⟩
            rw [Int.toNat_natCast]
            go_wp2
            refine ⟨⟨k + 1, a, n, c, by go_num, rfl, by omega, by omega, gb_trans hg g2, hbx.keep0 g2, ?_, by omega⟩, by simp [intOf]; omega⟩
            rw [winPart_succ_f hk1 hbf]
            exact hown.keep0 g2
        · obtain rfl : k = (f.top + 1).toNat := by omega
          go_wp2
          go_ret
          refine ⟨_, _, _, rfl, ?_, hg⟩
          rw [show winList f = winPart f lo (f.top + 1).toNat by simp [winList, hok, hlo.out]]
          exact hown.mono (by omega)
  · have hf : winOk f = false := by simpa using hok
    go_wp2
    go_ret
    refine ⟨_, _, _, rfl, ?_, G1⟩
    rw [show winList f = [] by simp [winList, hf]]
    exact O0.mono (by omega)
end Go.Proofs.Ytdfdhijbafalaaa
