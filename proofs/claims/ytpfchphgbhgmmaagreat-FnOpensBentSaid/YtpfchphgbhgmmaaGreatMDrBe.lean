/-
  Draws of sealed frames and of epochs, and what they stand on. Conditions: none beside those that each theorem names.
-/
import Derived.Test.YtpfchphgbhgmmaaGreatWinA
import Derived.Test.YtpfchphgbhgmmaaGreatWinN
import Derived.Test.YtpfchphgbhgmmaaGreatDrw
import Derived.Test.YtpfchphgbhgmmaaGreatGet
import Derived.Test.YtpfchphgbhgmmaaGreatHelpS
import Derived.Test.YtpfchphgbhgmmaaGreatSet1
import Derived.Test.YtpfchphgbhgmmaaGreatEp
import Derived.Test.YtpfchphgbhgmmaaGreatGb
import Derived.Test.YtpfchphgbhgmmaaGreatKeys3
import Derived.Test.YtpfchphgbhgmmaaGreatTagS
import Derived.Test.YtpfchphgbhgmmaaGreatTagI
import Derived.Test.YtpfchphgbhgmmaaGreatStrm
import Derived.Test.YtpfchphgbhgmmaaGreatSealC
import Derived.Deep.RegionHeld3
import Derived.RegionTactic
import Derived.ChangeAlike
import Derived.Deep.RegionWith
/-
  Contract of the reference's function that adds a number to a window. Conditions: none beside those that each theorem names.
-/
namespace Go.Proofs.YtpfchphgbhgmmaaGreat
open Go.RowKit
theorem clr_step2 {l : List Int} {lo c : Nat} {x : Int} (hx : (clr l lo c)[(lo + c) % 1024 / 32]? = some x) :
    clr l lo (c + 1) = (clr l lo c).set ((lo + c) % 1024 / 32) (bits .andNot .i64 x (wrap64 (2 ^ ((lo + c) % 32)))) := by
  rw [clr, clearBit, List.getD_eq_getElem?_getD, hx]
  rfl
def winAddS (f : WinM) (n : Int) : WinM := if winMay f n then ⟨max f.top n, setBit (clr f.bits (f.top + 1).toNat (min (n.toNat + 1 - (f.top + 1).toNat) 1024)) n.toNat⟩ else f
set_option maxRecDepth 100000 in
set_option maxHeartbeats 2000000 in
theorem spec_WinAdd (v : Value) (f : WinM) (n : Int) (w : World) (h : WinR w v f) (hn : f.bits.length ≤ 1073741824) :
    Calls Tryz.prog 47 #[v, .int .i64 n] w fun e w' => ∃ v', e = .returned (.tuple #[v', .bool (winMay f n)]) ∧ WinO w.heap.size w'.heap.size w' v' (winAddS f n) ∧ w.grownBy w' none := by
  obtain ⟨a1, n1, c1, rfl, h1⟩ := h
  have B0 := bx2 w #[.int .i64 f.top, .slice a1 n1 c1] #[.int .i64 0, .slice none 0 0] 26 26
  have g0 := gb_alloc (gb_alloc (gb_refl w) (.cells #[.int .i64 f.top, .slice a1 n1 c1] 26)) (.cells #[.int .i64 0, .slice none 0 0] 26)
  obtain ⟨B1, B2⟩ := B0
  go_enter Tryz.func47, Tryz.ntmps47
  go_wp2_with fail
  refine (spec_l8Copy _ f _ ⟨_, _, _, rfl, h1.keep0 g0⟩ hn).mono ?_
  rintro e w1 ⟨v2, rfl, ho, g1⟩
  obtain ⟨a2, n2, c2, rfl, ho, hu⟩ := ho
  replace B1 := B1.keep0 g1
  replace B2 := B2.keep0 g1
  have lB1 := B1.lt
  have lB2 := B2.lt
  have c1a := fun o => B1.cell o
  have c2a := fun o => B2.cell o
  go_wp2_with fail
  refine (spec_WinMay _ f n _ ⟨_, _, _, rfl, (h1.keep0 (gb_trans g0 g1)).keep0 (gb_alloc (gb_refl _) _)⟩).mono ?_
  rintro e w2 ⟨rfl, g2⟩
  have B3 := (bx1 w1 _ _).keep0 g2
  replace B1 := (B1.old _).keep0 g2
  replace B2 := (B2.old _).keep0 g2
  replace ho := (ho.keep0 (gb_alloc (gb_refl _) _)).keep0 g2
  have G2 : w.grownBy w2 none := gb_trans (gb_alloc (gb_trans g0 g1) _) g2
  clear c1a c2a lB1 lB2
  have lB1 := B1.lt
  have lB2 := B2.lt
  have lB3 := B3.lt
  have c1a := fun o => B1.cell o
  have c2a := fun o => B2.cell o
  have c3a := fun o => B3.cell o
  have f2a := fun o => B2.frozen o
  by_cases hm : winMay f n = true
  · have hm2 := hm
    simp only [winMay, Bool.and_eq_true] at hm2
    obtain ⟨hb1, hb2, hb3⟩ := winOk_bd hm2.1.1
    have hi := inB_iff.1 hm2.1.2
    have hi1 := hi.1
    have hi2 := hi.2
    clear hi hm2
    obtain ⟨k0, rfl⟩ := Int.eq_ofNat_of_zero_le hi1
    obtain ⟨lo, hlo⟩ : ∃ lo : Nat, Hid ((f.top + 1).toNat = lo) := ⟨_, rfl⟩
    have hlo5 : (lo : Int) ≤ 281474976710656 := by have := hlo.out; omega
    go_wp2
    go_loopw [7, 8] (fun s7 s8 wr => ∃ c : Nat, s7 = .int .i64 c ∧ s8 = .int .i64 ((lo + c : Nat) : Int) ∧ c ≤ 1024 ∧ Hid (lo + c ≤ k0 + 1 ∨ c = 0) ∧ w.grownBy wr none ∧ Bx wr w.heap.size 26 #[.int .i64 f.top, .slice a1 n1 c1] ∧ Bx wr (w.heap.size + 1) 26 #[.int .i64 0, .slice none 0 0] ∧ Bx wr w1.heap.size 26 #[.int .i64 f.top, .slice a2 n2 c2] ∧ Ow (w.heap.size + 2) wr 3 a2 n2 c2 (ins (clr f.bits lo c))) (fun s7 _ _ => 1024 - (intOf s7).toNat)
    case atStart => exact ⟨0, rfl, by congr 1; have := hlo.out; omega, by omega, .inr rfl, G2, B1, B2, B3, ho.mono (by simp)⟩
    case round =>
      obtain ⟨c, rfl, rfl, hk2, hk3, hg, hx1, hx2, hx3, hown⟩ := hrel
      clear c1a c2a c3a f2a lB1 lB2 lB3 B1 B2 B3
      by_cases hA : lo + c ≤ k0
      · by_cases hB : c < 1024
        · have hn2 : n2 = 32 := by have := hown.ilen; rw [clr_len] at this; have := (areW_of hb3).1; omega
          obtain ⟨g, rfl⟩ := hown.head (by omega)
          have hi : (lo + c) % 1024 / 32 < n2 := by omega
          obtain ⟨hfz, u, hcl, hu2⟩ := hown.at ((lo + c) % 1024 / 32) hi
          obtain ⟨x, rfl, hx9⟩ := ins_some hu2
          have Hx9 := Lib.hid hx9
          have Hn2 := Lib.hid hn2
          clear hx9 hn2
          have hx3b := hx3.cell 1
          have hx3c : wr.cell? ⟨w1.heap.size, 1, none⟩ = some (.slice (some ⟨g, 0, none⟩) n2 c2) := hx3b
          clear hx3b
          have Hu2 := Lib.hid hu2
          clear hu2
          go_wp2
          have hg1 := (hown.lt _ rfl).1
          have hg2 := hu _ rfl
          have hu9 := Lib.hid hu
          clear hu
          go_region
          go_wp2
          refine ⟨⟨c + 1, by go_num, (by first | rfl | (congr 1; omega)), by omega, .inl (by omega), gb_drew (gb_set hg (p := ⟨g, (lo + c) % 1024 / 32, none⟩) (.inl (by simp at hg1; simp; omega)) _), (hx1.setO _ _ (by simp at hg1; simp; omega)).drew, (hx2.setO _ _ (by simp at hg1; simp; omega)).drew, (hx3.setO _ _ (by simp at hg2; simp; omega)).drew, ?_⟩, by simp [intOf]; omega⟩
          have := hown.set ((lo + c) % 1024 / 32) (.int .i64 (bits .andNot .i64 x (wrap64 (2 ^ ((lo + c) % 32)))))
          rw [ins_set, ← clr_step2 Hx9.out] at this
          exact this.drew
        · have hC : Hid (c = min (k0 + 1 - lo) 1024) := by simp only [Hid]; omega
          obtain ⟨L, hL⟩ : ∃ L, Hid (clr f.bits lo c = L) := ⟨_, rfl⟩
          rw [hL.out] at hown
          have hn2 : n2 = 32 := by have := hown.ilen; rw [← hL.out, clr_len] at this; have := (areW_of hb3).1; omega
          obtain ⟨g, rfl⟩ := hown.head (by omega)
          have hi : k0 % 1024 / 32 < n2 := by omega
          obtain ⟨hfz, u, hcl, hu2⟩ := hown.at (k0 % 1024 / 32) hi
          obtain ⟨x, rfl, hx9⟩ := ins_some hu2
          have Hx9 := Lib.hid hx9
          have Hn2 := Lib.hid hn2
          clear hx9 hn2
          have hx1a : wr.cell? ⟨w.heap.size, 0, none⟩ = some (.int .i64 f.top) := hx1.cell 0
          have hx3a : wr.cell? ⟨w1.heap.size, 0, none⟩ = some (.int .i64 f.top) := hx3.cell 0
          have hx3c : wr.cell? ⟨w1.heap.size, 1, none⟩ = some (.slice (some ⟨g, 0, none⟩) n2 c2) := hx3.cell 1
          have hx2a : wr.cell? ⟨w.heap.size + 1, 0, none⟩ = some (.int .i64 0) := hx2.cell 0
          have hx2b : wr.cell? ⟨w.heap.size + 1, 1, none⟩ = some (.slice none 0 0) := hx2.cell 1
          have hf2a := hx2.frozen 0
          have hf2b := hx2.frozen 1
          have hf3a := hx3.frozen 0
          have Hu2 := Lib.hid hu2
          clear hu2
          have hg1 : w.heap.size + 2 ≤ g := (hown.lt _ rfl).1
          have hg2 : g < w1.heap.size := hu _ rfl
          have hz1 := hx2.lt
          have ne1 : w.heap.size ≠ g := by omega
          have ne2 : w.heap.size + 1 ≠ g := by omega
          have ne3 : w1.heap.size ≠ g := by omega
          have ne1' : g ≠ w.heap.size := by omega
          have ne2' : g ≠ w.heap.size + 1 := by omega
          have ne3' : g ≠ w1.heap.size := by omega
          have hu9 := Lib.hid hu
          clear hu
          by_cases hd2 : f.top < (k0 : Int)
          · go_wp2
            go_region
            go_wp2
            refine bodyPost_ret (v := .tuple #[.agg #[.int .i64 k0, .slice (some ⟨g, 0, none⟩) n2 c2], .bool true]) (by simp [results, Tryz.results47, go_sem, hx2a, hx2b]) rfl ⟨_, by rw [hm], ?_, ?_⟩
            · have e1 : winAddS f k0 = ⟨(k0 : Int), setBit L k0⟩ := by
                simp only [winAddS, hm, if_true, Int.toNat_natCast, hlo.out, ← hC.out, hL.out]
                congr 1
                omega
              rw [e1]
              refine ⟨_, _, _, rfl, ?_, ?_⟩
              · have o9 := hown.set (k0 % 1024 / 32) (.int .i64 (bits .or .i64 x (wrap64 (2 ^ (k0 % 32)))))
                rw [ins_set, ← setBit_of Hx9.out] at o9
                refine (Ow.mono (B := w.heap.size + 2) ?_ (by omega)).drew
                exact ((o9.setO _ _ (by simp; omega)).setO _ _ (by simp; omega)).setO _ _ (by simp; omega)
              · intro p hp
                have := hown.lt p hp
                simpa using this.2
            · exact gb_drew (gb_set (gb_set (gb_set (gb_set hg (p := ⟨g, k0 % 1024 / 32, none⟩) (.inl (by simp; omega)) _) (p := ⟨w1.heap.size, 0, none⟩) (.inl (by simp; omega)) _) (p := ⟨w.heap.size + 1, 0, none⟩) (.inl (by simp)) _) (p := ⟨w.heap.size + 1, 1, none⟩) (.inl (by simp)) _)
          · go_wp2
            go_region
            go_wp2
            refine bodyPost_ret (v := .tuple #[.agg #[.int .i64 f.top, .slice (some ⟨g, 0, none⟩) n2 c2], .bool true]) (by simp [results, Tryz.results47, go_sem, hx2a, hx2b]) rfl ⟨_, by rw [hm], ?_, ?_⟩
            · have e1 : winAddS f k0 = ⟨f.top, setBit L k0⟩ := by
                simp only [winAddS, hm, if_true, Int.toNat_natCast, hlo.out, ← hC.out, hL.out]
                congr 1
                omega
              rw [e1]
              refine ⟨_, _, _, rfl, ?_, ?_⟩
              · have o9 := hown.set (k0 % 1024 / 32) (.int .i64 (bits .or .i64 x (wrap64 (2 ^ (k0 % 32)))))
                rw [ins_set, ← setBit_of Hx9.out] at o9
                refine (Ow.mono (B := w.heap.size + 2) ?_ (by omega)).drew
                exact (o9.setO _ _ (by simp; omega)).setO _ _ (by simp; omega)
              · intro p hp
                have := hown.lt p hp
                simpa using this.2
            · exact gb_drew (gb_set (gb_set (gb_set hg (p := ⟨g, k0 % 1024 / 32, none⟩) (.inl (by simp; omega)) _) (p := ⟨w.heap.size + 1, 0, none⟩) (.inl (by simp)) _) (p := ⟨w.heap.size + 1, 1, none⟩) (.inl (by simp)) _)
      · have hC : Hid (c = min (k0 + 1 - lo) 1024) := by simp only [Hid]; have := hk3.out; omega
        obtain ⟨L, hL⟩ : ∃ L, Hid (clr f.bits lo c = L) := ⟨_, rfl⟩
        rw [hL.out] at hown
        have hn2 : n2 = 32 := by have := hown.ilen; rw [← hL.out, clr_len] at this; have := (areW_of hb3).1; omega
        obtain ⟨g, rfl⟩ := hown.head (by omega)
        have hi : k0 % 1024 / 32 < n2 := by omega
        obtain ⟨hfz, u, hcl, hu2⟩ := hown.at (k0 % 1024 / 32) hi
        obtain ⟨x, rfl, hx9⟩ := ins_some hu2
        have Hx9 := Lib.hid hx9
        have Hn2 := Lib.hid hn2
        clear hx9 hn2
        have hx1a : wr.cell? ⟨w.heap.size, 0, none⟩ = some (.int .i64 f.top) := hx1.cell 0
        have hx3a : wr.cell? ⟨w1.heap.size, 0, none⟩ = some (.int .i64 f.top) := hx3.cell 0
        have hx3c : wr.cell? ⟨w1.heap.size, 1, none⟩ = some (.slice (some ⟨g, 0, none⟩) n2 c2) := hx3.cell 1
        have hx2a : wr.cell? ⟨w.heap.size + 1, 0, none⟩ = some (.int .i64 0) := hx2.cell 0
        have hx2b : wr.cell? ⟨w.heap.size + 1, 1, none⟩ = some (.slice none 0 0) := hx2.cell 1
        have hf2a := hx2.frozen 0
        have hf2b := hx2.frozen 1
        have hf3a := hx3.frozen 0
        have Hu2 := Lib.hid hu2
        clear hu2
        have hg1 : w.heap.size + 2 ≤ g := (hown.lt _ rfl).1
        have hg2 : g < w1.heap.size := hu _ rfl
        have hz1 := hx2.lt
        have ne1 : w.heap.size ≠ g := by omega
        have ne2 : w.heap.size + 1 ≠ g := by omega
        have ne3 : w1.heap.size ≠ g := by omega
        have ne1' : g ≠ w.heap.size := by omega
        have ne2' : g ≠ w.heap.size + 1 := by omega
        have ne3' : g ≠ w1.heap.size := by omega
        have hu9 := Lib.hid hu
        clear hu
        by_cases hd2 : f.top < (k0 : Int)
        · go_wp2
          go_region
          go_wp2
          refine bodyPost_ret (v := .tuple #[.agg #[.int .i64 k0, .slice (some ⟨g, 0, none⟩) n2 c2], .bool true]) (by simp [results, Tryz.results47, go_sem, hx2a, hx2b]) rfl ⟨_, by rw [hm], ?_, ?_⟩
          · have e1 : winAddS f k0 = ⟨(k0 : Int), setBit L k0⟩ := by
              simp only [winAddS, hm, if_true, Int.toNat_natCast, hlo.out, ← hC.out, hL.out]
              congr 1
              omega
            rw [e1]
            refine ⟨_, _, _, rfl, ?_, ?_⟩
            · have o9 := hown.set (k0 % 1024 / 32) (.int .i64 (bits .or .i64 x (wrap64 (2 ^ (k0 % 32)))))
              rw [ins_set, ← setBit_of Hx9.out] at o9
              refine (Ow.mono (B := w.heap.size + 2) ?_ (by omega)).drew
              exact ((o9.setO _ _ (by simp; omega)).setO _ _ (by simp; omega)).setO _ _ (by simp; omega)
            · intro p hp
              have := hown.lt p hp
              simpa using this.2
          · exact gb_drew (gb_set (gb_set (gb_set (gb_set hg (p := ⟨g, k0 % 1024 / 32, none⟩) (.inl (by simp; omega)) _) (p := ⟨w1.heap.size, 0, none⟩) (.inl (by simp; omega)) _) (p := ⟨w.heap.size + 1, 0, none⟩) (.inl (by simp)) _) (p := ⟨w.heap.size + 1, 1, none⟩) (.inl (by simp)) _)
        · go_wp2
          go_region
          go_wp2
          refine bodyPost_ret (v := .tuple #[.agg #[.int .i64 f.top, .slice (some ⟨g, 0, none⟩) n2 c2], .bool true]) (by simp [results, Tryz.results47, go_sem, hx2a, hx2b]) rfl ⟨_, by rw [hm], ?_, ?_⟩
          · have e1 : winAddS f k0 = ⟨f.top, setBit L k0⟩ := by
              simp only [winAddS, hm, if_true, Int.toNat_natCast, hlo.out, ← hC.out, hL.out]
              congr 1
              omega
            rw [e1]
            refine ⟨_, _, _, rfl, ?_, ?_⟩
            · have o9 := hown.set (k0 % 1024 / 32) (.int .i64 (bits .or .i64 x (wrap64 (2 ^ (k0 % 32)))))
              rw [ins_set, ← setBit_of Hx9.out] at o9
              refine (Ow.mono (B := w.heap.size + 2) ?_ (by omega)).drew
              exact (o9.setO _ _ (by simp; omega)).setO _ _ (by simp; omega)
            · intro p hp
              have := hown.lt p hp
              simpa using this.2
          · exact gb_drew (gb_set (gb_set (gb_set hg (p := ⟨g, k0 % 1024 / 32, none⟩) (.inl (by simp; omega)) _) (p := ⟨w.heap.size + 1, 0, none⟩) (.inl (by simp)) _) (p := ⟨w.heap.size + 1, 1, none⟩) (.inl (by simp)) _)
  · have hf : winMay f n = false := by simpa using hm
    go_wp2
    refine bodyPost_ret (v := .tuple #[.agg #[.int .i64 f.top, .slice a2 n2 c2], .bool false]) (by simp [results, Tryz.results47, go_sem, c2a]) rfl ⟨_, by rw [hf], ?_, ?_⟩
    · rw [show winAddS f n = f by simp [winAddS, hf]]
      refine ⟨_, _, _, rfl, ?_, ?_⟩
      · exact ((ho.keepSet (by simp) _).keepSet (by simp) _).mono (by simp <;> omega)
      · intro p hp
        have := ho.lt p hp
        simpa using this.2
    · exact gb_set (gb_set G2 (p := ⟨w.heap.size + 1, 0, none⟩) (.inl (by simp)) _) (p := ⟨w.heap.size + 1, 1, none⟩) (.inl (by simp)) _
end Go.Proofs.YtpfchphgbhgmmaaGreat

/-
  Plain facts on the bits of a window: what clearing and setting do; the two ways to add a number agree. Conditions: none beside those that each theorem names.
-/
namespace Go.Proofs.YtpfchphgbhgmmaaGreat
open Go.RowKit
theorem wrap_pow (k : Nat) (hk : k < 32) : wrap64 ((2 : Int) ^ k) = ((2 ^ k : Nat) : Int) := by
  have hp : (2 : Nat) ^ k < 2 ^ 32 := Nat.pow_lt_pow_right (by decide) hk
  have e : ((2 : Int) ^ k) = ((2 ^ k : Nat) : Int) := by simp
  rw [e]
  have h := cast63 (2 ^ k) (by omega)
  unfold wrap64
  rw [← IntKind.wrap_i64]
  exact h
theorem testBit_clear (x : Int) (k j : Nat) (h0 : 0 ≤ x) (h1 : x ≤ 4294967295) (hk : k < 32) (hj : j < 32) :
    0 ≤ bits .andNot .i64 x (wrap64 (2 ^ k)) ∧ bits .andNot .i64 x (wrap64 (2 ^ k)) ≤ 4294967295 ∧ (bits .andNot .i64 x (wrap64 (2 ^ k))).toNat.testBit j = (x.toNat.testBit j && !decide (k = j)) := by
  obtain ⟨m, rfl⟩ := Int.eq_ofNat_of_zero_le h0
  have hp : (2 : Nat) ^ k < 2 ^ 32 := Nat.pow_lt_pow_right (by decide) hk
  have hm : m < 2 ^ 32 := by omega
  rw [wrap_pow k hk, i64_andNot m (2 ^ k) (by omega) (by omega)]
  have hle : m &&& (2 ^ 64 - 1 - 2 ^ k) ≤ m := Nat.and_le_left
  refine ⟨by omega, by omega, ?_⟩
  rw [Int.toNat_natCast, Int.toNat_natCast, Nat.testBit_and, show 2 ^ 64 - 1 - 2 ^ k = 2 ^ 64 - (2 ^ k + 1) by omega, Nat.testBit_two_pow_sub_succ (by omega), Nat.testBit_two_pow, decide_eq_true (show j < 64 by omega), Bool.true_and]
theorem testBit_set (x : Int) (k j : Nat) (h0 : 0 ≤ x) (h1 : x ≤ 4294967295) (hk : k < 32) :
    0 ≤ bits .or .i64 x (wrap64 (2 ^ k)) ∧ bits .or .i64 x (wrap64 (2 ^ k)) ≤ 4294967295 ∧ (bits .or .i64 x (wrap64 (2 ^ k))).toNat.testBit j = (x.toNat.testBit j || decide (k = j)) := by
  obtain ⟨m, rfl⟩ := Int.eq_ofNat_of_zero_le h0
  have hp : (2 : Nat) ^ k < 2 ^ 32 := Nat.pow_lt_pow_right (by decide) hk
  have hm : m < 2 ^ 32 := by omega
  rw [wrap_pow k hk, i64_or m (2 ^ k) (by omega) (by omega)]
  have hle : m ||| 2 ^ k < 2 ^ 32 := Nat.or_lt_two_pow hm hp
  refine ⟨by omega, by omega, ?_⟩
  rw [Int.toNat_natCast, Int.toNat_natCast, Nat.testBit_or, Nat.testBit_two_pow]
theorem areW_mk {l : List Int} {n : Nat} (h1 : l.length = n) (h2 : ∀ x ∈ l, 0 ≤ x ∧ x ≤ 4294967295) : areW l n = true := by
  simp only [areW, Bool.and_eq_true, List.all_eq_true, beq_iff_eq, inB_iff]
  exact ⟨h2, h1⟩
theorem areW_set {l : List Int} {i : Nat} {y : Int} (h : areW l 32 = true) (h0 : 0 ≤ y) (h1 : y ≤ 4294967295) : areW (l.set i y) 32 = true := by
  have ha := areW_of h
  refine areW_mk (by rw [List.length_set]; exact ha.1) (fun x hx => ?_)
  rcases List.mem_or_eq_of_mem_set hx with h2 | h2
  · exact ha.2 x h2
  · subst h2; exact ⟨h0, h1⟩
theorem word_rng {l : List Int} (h : areW l 32 = true) (i : Nat) : 0 ≤ l.getD i 0 ∧ l.getD i 0 ≤ 4294967295 := by
  rw [List.getD_eq_getElem?_getD]
  cases hx : l[i]? with
  | none => simp
  | some x => exact (areW_of h).2 x (List.mem_of_getElem? hx)
theorem clearBit_ok {l : List Int} (h : areW l 32 = true) (k : Nat) : areW (clearBit l k) 32 = true ∧ ∀ m, winBit (clearBit l k) m = (winBit l m && !decide (k % 1024 = m % 1024)) := by
  have hr := word_rng h (k % 1024 / 32)
  have hl := (areW_of h).1
  have hq := fun j hj => testBit_clear _ (k % 32) j hr.1 hr.2 (Nat.mod_lt _ (by decide)) hj
  refine ⟨areW_set h (hq 0 (by decide)).1 (hq 0 (by decide)).2.1, fun m => ?_⟩
  have hm := (hq (m % 32) (Nat.mod_lt _ (by decide))).2.2
  simp only [winBit, clearBit, List.getD_eq_getElem?_getD] at hm ⊢
  by_cases e : k % 1024 / 32 = m % 1024 / 32
  · rw [← e, List.getElem?_set_self (by omega), Option.getD_some, hm]
    congr 2
    apply decide_eq_decide.2
    omega
  · rw [List.getElem?_set_ne e]
    rw [show decide (k % 1024 = m % 1024) = false by apply decide_eq_false; intro e2; exact e (by rw [e2])]
    simp
theorem setBit_ok {l : List Int} (h : areW l 32 = true) (k : Nat) : areW (setBit l k) 32 = true ∧ ∀ m, winBit (setBit l k) m = (winBit l m || decide (k % 1024 = m % 1024)) := by
  have hr := word_rng h (k % 1024 / 32)
  have hl := (areW_of h).1
  have hq := fun j => testBit_set _ (k % 32) j hr.1 hr.2 (Nat.mod_lt _ (by decide))
  refine ⟨areW_set h (hq 0).1 (hq 0).2.1, fun m => ?_⟩
  have hm := (hq (m % 32)).2.2
  simp only [winBit, setBit, List.getD_eq_getElem?_getD] at hm ⊢
  by_cases e : k % 1024 / 32 = m % 1024 / 32
  · rw [← e, List.getElem?_set_self (by omega), Option.getD_some, hm]
    congr 1
    apply decide_eq_decide.2
    omega
  · rw [List.getElem?_set_ne e]
    rw [show decide (k % 1024 = m % 1024) = false by apply decide_eq_false; intro e2; exact e (by rw [e2])]
    simp
theorem clr_ok {l : List Int} (h : areW l 32 = true) (a : Nat) : ∀ c, areW (clr l a c) 32 = true ∧ ∀ m, winBit (clr l a c) m = (winBit l m && !decide (∃ d, d < c ∧ (a + d) % 1024 = m % 1024))
  | 0 => ⟨h, fun m => by simp [clr]⟩
  | c + 1 => by
    obtain ⟨h1, h2⟩ := clr_ok h a c
    obtain ⟨h3, h4⟩ := clearBit_ok h1 (a + c)
    refine ⟨h3, fun m => ?_⟩
    rw [clr, h4, h2, Bool.and_assoc, ← Bool.not_or]
    congr 2
    rw [Bool.eq_iff_iff]
    simp only [Bool.or_eq_true, decide_eq_true_eq]
    constructor
    · rintro (⟨d, hd, e⟩ | e)
      · exact ⟨d, by omega, e⟩
      · exact ⟨c, by omega, e⟩
    · rintro ⟨d, hd, e⟩
      by_cases h9 : d = c
      · subst h9; exact .inr e
      · exact .inl ⟨d, by omega, e⟩
/-- windows that agree bit by bit are one -/
theorem word_ext {l r : List Int} (hl : areW l 32 = true) (hr : areW r 32 = true) (h : ∀ m, m < 1024 → winBit l m = winBit r m) : l = r := by
  have a := areW_of hl
  have b := areW_of hr
  apply List.ext_getElem?
  intro i
  by_cases hi : i < 32
  · have e1 : l[i]? = some (l.getD i 0) := by rw [List.getD_eq_getElem?_getD, List.getElem?_eq_getElem (by omega)]; rfl
    have e2 : r[i]? = some (r.getD i 0) := by rw [List.getD_eq_getElem?_getD, List.getElem?_eq_getElem (by omega)]; rfl
    rw [e1, e2]
    congr 1
    have r1 := word_rng hl i
    have r2 := word_rng hr i
    have : (l.getD i 0).toNat = (r.getD i 0).toNat := by
      apply Nat.eq_of_testBit_eq
      intro j
      by_cases hj : j < 32
      · have := h (32 * i + j) (by omega)
        simp only [winBit] at this
        rwa [show (32 * i + j) % 1024 / 32 = i by omega, show (32 * i + j) % 32 = j by omega] at this
      · rw [Nat.testBit_lt_two_pow, Nat.testBit_lt_two_pow]
        · exact Nat.lt_of_lt_of_le (show (r.getD i 0).toNat < 2 ^ 32 by omega) (Nat.pow_le_pow_right (by decide) (by omega))
        · exact Nat.lt_of_lt_of_le (show (l.getD i 0).toNat < 2 ^ 32 by omega) (Nat.pow_le_pow_right (by decide) (by omega))
    omega
  · rw [List.getElem?_eq_none (by omega), List.getElem?_eq_none (by omega)]
theorem winAddS_eq (f : WinM) (n : Int) : winAddS f n = winAddM f n := by
  unfold winAddS winAddM
  split
  · rename_i hm
    simp only [winMay, Bool.and_eq_true] at hm
    obtain ⟨hb1, hb2, hb3⟩ := winOk_bd hm.1.1
    have hi := inB_iff.1 hm.1.2
    congr 1
    obtain ⟨k0, rfl⟩ := Int.eq_ofNat_of_zero_le hi.1
    rw [Int.toNat_natCast]
    obtain ⟨p1, p2⟩ := clr_ok hb3 (f.top + 1).toNat (min (k0 + 1 - (f.top + 1).toNat) 1024)
    obtain ⟨q1, q2⟩ := clr_ok hb3 (addLo f k0) (k0 - addLo f k0)
    obtain ⟨p3, p4⟩ := setBit_ok p1 k0
    obtain ⟨q3, q4⟩ := setBit_ok q1 k0
    refine word_ext p3 q3 (fun m hm => ?_)
    rw [p4, q4, p2, q2]
    by_cases e : k0 % 1024 = m % 1024
    · simp [e]
    · rw [decide_eq_false e, Bool.or_false, Bool.or_false]
      congr 2
      apply decide_eq_decide.2
      have hlo : addLo f k0 = max (f.top + 1).toNat (k0 - 1023) := by unfold addLo; omega
      rw [hlo]
      generalize (f.top + 1).toNat = t
      constructor
      · rintro ⟨d, hd, e2⟩
        exact ⟨k0 - (k0 + 1024 - m % 1024) % 1024 - max t (k0 - 1023), by omega, by omega⟩
      · rintro ⟨d, hd, e2⟩
        exact ⟨(max t (k0 - 1023) + d - t) % 1024, by omega, by omega⟩
  · rfl
theorem winAddM_tot (f : WinM) (n : Int) : (winAddM f n).tot = f.tot := by
  unfold winAddM
  split
  · simp only [WinM.tot, setBit, List.length_set, clr_len]
  · rfl
end Go.Proofs.YtpfchphgbhgmmaaGreat

/-
  Contracts of the two functions that build a window out of numbers. Conditions: none beside those that each theorem names.
-/
namespace Go.Proofs.YtpfchphgbhgmmaaGreat
open Go.RowKit
def winOf (l : List Int) : WinM := l.foldl winAddM winNew
theorem winOf_succ {l : List Int} {j : Nat} {x : Int} (h : l[j]? = some x) : winOf (l.take (j + 1)) = winAddM (winOf (l.take j)) x := by
  rw [take_succ_some h, winOf, List.foldl_append]
  rfl
theorem winAddM_len (f : WinM) (n : Int) : (winAddM f n).bits.length = f.bits.length := by have := winAddM_tot f n; simpa [WinM.tot] using this
theorem winFold_len (l : List Int) : ∀ f : WinM, (l.foldl winAddM f).bits.length = f.bits.length := by
  induction l with
  | nil => intro f; rfl
  | cons x r ih => intro f; rw [List.foldl_cons, ih, winAddM_len]
theorem winOf_tot (l : List Int) : (winOf l).tot = 32 := by
  rw [WinM.tot, winOf, winFold_len]
  rfl
theorem spec_WinAddM (v : Value) (f : WinM) (n : Int) (w : World) (h : WinR w v f) (hn : f.bits.length ≤ 1073741824) : Calls Tryz.prog 47 #[v, .int .i64 n] w fun e w' => ∃ v', e = .returned (.tuple #[v', .bool (winMay f n)]) ∧ WinO w.heap.size w'.heap.size w' v' (winAddM f n) ∧ w.grownBy w' none := by
  rw [← winAddS_eq]
  exact spec_WinAdd v f n w h hn
set_option maxRecDepth 100000 in
set_option maxHeartbeats 1000000 in
theorem spec_WinOf (a0 : Option Addr) (n0 c0 : Nat) (l : List Int) (w : World) (h : Rd w a0 n0 c0 (ins l)) (hn : n0 ≤ 1048576) :
    Calls Tryz.prog 87 #[.slice a0 n0 c0] w fun e w' => ∃ v', e = .returned v' ∧ WinO w.heap.size w'.heap.size w' v' (winOf l) ∧ w.grownBy w' none := by
  have g0 := gb_alloc (gb_refl w) (.cells #[.int .i64 0, .slice none 0 0] 26)
  have B1 := bx1 w #[.int .i64 0, .slice none 0 0] 26
  go_enter Tryz.func87, Tryz.ntmps87
  go_wp2_with fail
  refine (spec_WinNew _).mono ?_
  rintro e w1 ⟨v2, rfl, ho, g1⟩
  obtain ⟨a2, n2, c2, rfl, ho, hu⟩ := ho
  replace B1 := B1.keep0 g1
  have G1 := gb_trans g0 g1
  have lB1 := B1.lt
  have B2 := bx1 w1 #[.int .i64 winNew.top, .slice a2 n2 c2] 26
  go_wp2
  go_loopw [4] (fun i wr => ∃ (j : Nat) (fj : WinM) (a : Option Addr) (n c : Nat), i = .int .i64 j ∧ j ≤ n0 ∧ Hid (winOf (l.take j) = fj) ∧ w.grownBy wr none ∧ Bx wr w.heap.size 26 #[.int .i64 0, .slice none 0 0] ∧ Bx wr w1.heap.size 26 #[.int .i64 fj.top, .slice a n c] ∧ Ow (w.heap.size + 1) wr 3 a n c (ins fj.bits) ∧ Hid (∀ p, a = some p → p.block ≠ w1.heap.size) ∧ Hid (fj.bits.length = 32)) (fun i _ => n0 - (intOf i).toNat)
  case atStart => exact ⟨0, winNew, a2, n2, c2, rfl, by omega, rfl, gb_alloc G1 _, B1.old _, B2, (ho.mono (by simp)).keep0 (gb_alloc (gb_refl _) _), fun p hp => by have := hu p hp; omega, rfl⟩
  case round =>
    obtain ⟨j, fj, a, n, c, rfl, hj, hfj, hg, hb1, hb2, hown, hne, hlen⟩ := hrel
    clear B1 B2
    have hc1 := fun o => hb1.cell o
    have hc2 := fun o => hb2.cell o
    have hf1 := fun o => hb1.frozen o
    by_cases hlt : j < n0
    · obtain ⟨b, off, x, rfl, hx, hc⟩ := (h.keep0 hg).int j hlt
      have hz3 := hb2.lt
      have hb2a : wr.cell? ⟨w1.heap.size, 0, none⟩ = some (.int .i64 fj.top) := hb2.cell 0
      have hb2b : wr.cell? ⟨w1.heap.size, 1, none⟩ = some (.slice a n c) := hb2.cell 1
      clear hc1 hc2 hf1
      go_wp2_with fail
      go_region_with (go_at_call 47; refine (spec_WinAddM _ fj x _ ⟨_, _, _, rfl, hown.rd.keep0 (gb_drew (gb_refl _))⟩ (by have := hlen.out; omega)).mono ?_; rintro e w3 ⟨v3, rfl, ho3, g3⟩; obtain ⟨a3, n3, c3, rfl, ho3, hu3⟩ := ho3; have hb9 := (hb2.drew).keep0 g3; have hc2 := fun o => hb9.cell o; have hf2 := fun o => hb9.frozen o)
      all_goals
        replace hb1 := (hb1.drew).keep0 g3
        have hz := hb9.lt
        have hz1 : wr.heap.size ≤ w3.heap.size := g3.size
        have hz2 := hg.size
        replace ho3 := ho3.mono (B' := wr.heap.size) (Nat.le_refl _)
        go_wp2
        have e3 : Hid (winOf (l.take (j + 1)) = winAddM fj x) := by simp only [Hid]; rw [winOf_succ hx.out, hfj.out]
        refine ⟨⟨j + 1, winAddM fj x, a3, n3, c3, by go_num, by omega, e3, ?_, ?_, ?_, ?_, ?_, ?_⟩, by simp [intOf]; omega⟩
        · exact gb_set (gb_set (gb_trans (gb_drew hg) g3) (p := ⟨w1.heap.size, 0, none⟩) (.inl (by simp; omega)) _) (p := ⟨w1.heap.size, 1, none⟩) (.inl (by simp; omega)) _
        · exact (hb1.setO _ _ (by simp; omega)).setO _ _ (by simp; omega)
        · exact (hb9.set 0 _).set 1 _
        · have hl3 := fun p hp => (ho3.lt p hp).1
          exact ((ho3.mono (show w.heap.size + 1 ≤ _ by omega)).setO _ _ (fun p hp => by have := hl3 p hp; simp; omega)).setO _ _ (fun p hp => by have := hl3 p hp; simp; omega)
        · exact fun p hp => by have := (ho3.lt p hp).1; omega
        · have := winAddM_len fj x
          have := hlen.out
          simp only [Hid]
          omega
    · obtain rfl : j = n0 := by omega
      have hz := hb2.lt
      have hL := hfj.out
      rw [List.take_of_length_le (by have := h.ilen; omega)] at hL
      have HL := Lib.hid hL
      clear hL
      go_wp2
      refine bodyPost_ret (v := .agg #[.int .i64 fj.top, .slice a n c]) (by simp [results, Tryz.results87, go_sem, hc1]) rfl ⟨_, rfl, ?_, ?_⟩
      · rw [HL.out]
        refine ⟨_, _, _, rfl, ?_, ?_⟩
        · exact ((hown.keepSet (by simp) _).keepSet (by simp) _).mono (by omega)
        · intro p hp
          have := hown.lt p hp
          simpa using this.2
      · exact gb_set (gb_set hg (p := ⟨w.heap.size, 0, none⟩) (.inl (by simp)) _) (p := ⟨w.heap.size, 1, none⟩) (.inl (by simp)) _
end Go.Proofs.YtpfchphgbhgmmaaGreat

/-
  A draw that bends bytes. Conditions: none beside those that each theorem names.
-/
namespace Go.Proofs.YtpfchphgbhgmmaaGreat
open Go.RowKit
theorem xor_u8 (x y : Int) : 0 ≤ bits .xor .u8 x y ∧ bits .xor .u8 x y < 256 := by
  have h : ∃ z : Int, bits .xor .u8 x y = z % 256 := ⟨_, rfl⟩
  obtain ⟨z, hz⟩ := h
  rw [hz]
  omega
theorem bys_setI (l : List UInt8) (k : Nat) (y : Int) (h : 0 ≤ y ∧ y < 256) : (bys l).set k (.int .u8 y) = bys (l.set k (UInt8.ofNat y.toNat)) := by
  rw [← bys_set, UInt8.toNat_ofNat', Nat.mod_eq_of_lt (by omega), Int.toNat_of_nonneg h.1]
def PBd (B cb : Nat) (w : World) (e : Ending) (w' : World) : Prop := ∃ a n c, e = .returned (.slice a n c) ∧ DE B cb w w' ∧ BR w w' a n c
theorem PBd.mk {B cb : Nat} {w w' : World} {a : Option Addr} {n c : Nat} {l : List UInt8} (cu : Cur B w' cb) (d : Dr cb w w') (o : Ow w.heap.size w' 5 a n c (bys l)) (hn : n ≤ 256) : PBd B cb w (.returned (.slice a n c)) w' :=
  ⟨a, n, c, rfl, ⟨cu, d⟩, l, o.rd, fun _ p hp => (o.lt p hp).1, hn⟩
set_option maxRecDepth 1000000 in
set_option maxHeartbeats 4000000 in
theorem spec_l1Bend (B cb : Nat) (a : Option Addr) (n c : Nat) (l : List UInt8) (w : World) (h : Cur B w cb) (r : Rd w a n c (bys l)) (hn : n ≤ 255) :
    Calls Tryz.prog 69 #[.pointer (some ⟨cb, 0, none⟩), .slice a n c] w (PBd B cb w) := by
  have hcb := h.lt
  have L := Lib.hid r.blen
  go_enter Tryz.func69, Tryz.ntmps69
  go_wp2_with (first
    | (at_builtin; refine wpList_appB rfl (.tmp 7) (.tmp 8) rfl w.heap.size _ 0 0 [] rfl (new_own _ _) a n c l rfl (r.keep0 (gb_alloc (gb_refl _) _)) (by have := L.out; simp; omega) (by simp) ?_; intro a2 n2 c2 w2 o2 g2; rw [List.nil_append] at o2; have G2 : w.grownBy w2 none := gb_app (gb_alloc (gb_refl _) _) (new_own w _) (Nat.le_refl _) g2; have e2 := o2.blen.symm.trans L.out; subst e2; clear g2)
    | (go_at_call 25; (with_reducible refine (spec_l1Below B cb _ w2 (h.keep0 G2)).mono ?_); rintro e w3 ⟨z, hz, rfl, cu, d⟩; replace o2 := o2.keepI d (fun p hp => .inr (by have := (o2.lt p hp).1; omega)); replace d := (Dr.of0 (cb := cb) G2).trans d; clear G2)
    | (go_at_call 25; (with_reducible refine (spec_l1Below B cb _ w3 cu).mono ?_); rintro e w4 ⟨i, hi, rfl, cu4, d4⟩; have o4 := o2.keepI d4 (fun p hp => .inr (by have := (o2.lt p hp).1; omega)); have hlt : i < n2 := (by omega); have D4 := d.trans d4)
    | (refine wpList_slB rfl (.tmp 38) none (some (.tmp 42)) rfl a2 n2 c2 l rfl o4.rd 0 i (.inr ⟨rfl, rfl⟩) (.inl ⟨.i64, rfl⟩) (by omega) (by omega) ?_; intro b5 d5 hd5 r5 hp5)
    | (go_at_call 50; (with_reducible refine (spec_l1Byte B cb w3 cu).mono ?_); rintro e w4 ⟨k, k1, rfl, cu4, d4⟩; have o4 := o2.keepI d4 (fun p hp => .inr (by have := (o2.lt p hp).1; omega)); have D4 := d.trans d4; have kk := Lib.hid (show [Value.int .u8 (k : Int)] = bys [UInt8.ofNat k] by rw [bys, List.map_singleton, UInt8.toNat_ofNat', Nat.mod_eq_of_lt (by omega)]))
    | (at_builtin; refine wpList_appB rfl (.tmp 46) (.tmp 50) rfl w.heap.size a2 n2 c2 l rfl (o4.keep0 (gb_alloc (gb_refl _) _)) _ 1 1 [UInt8.ofNat k] rfl (new_bys w4 _ #[.int .u8 (k : Int)] [UInt8.ofNat k] kk.out) (by have := L.out; simp; omega) (by have := D4.size; simp; omega) ?_; intro a9 n9 c9 w9 o9 g9; have e9 := o9.blen))
  all_goals first
    | (go_ret; exact PBd.mk cu d o2 (by have := L.out; omega))
    | (go_ret; exact ⟨_, _, _, rfl, ⟨cu4, D4⟩, _, r5, fun _ p hp => (by obtain ⟨q, hq, e⟩ := hp5 p hp; rw [← e]; exact (o4.lt q hq).1), (by have := L.out; omega)⟩)
    | (go_ret; exact PBd.mk ((cu4.alloc _).keepI (gbI.ofRow (B := w.heap.size) (S := blkS a2) g9 (fun g hg => by obtain ⟨p, hp, rfl⟩ := rowOf hg; exact ⟨(o4.lt p hp).1, blk_lt p hp⟩)) (by have := h.le; omega) (.inl hcb)) ((D4.alloc _).row2 g9 (fun g hg => by obtain ⟨p, hp, rfl⟩ := rowOf hg; exact (o4.lt p hp).1)) o9 (by have := L.out; simp at e9; omega))
    | skip
  obtain ⟨g, rfl⟩ := o4.head (by omega)
  obtain ⟨b, off, x, e, hx, hc⟩ := o4.rd.byte i hlt
  cases e
  rw [Nat.zero_add] at hc
  obtain ⟨hf, -⟩ := o4.at i hlt
  have hg := (o4.lt _ rfl).1
  simp only at hg
  go_region_with (go_at_call 25; refine (spec_l1Below B cb _ w4.drew cu4.drew).mono ?_; rintro e w5 ⟨k, hk, rfl, cu5, d5⟩; have o5 := (o4.keep0 (gb_drew (gb_refl w4))).keepI d5 (fun p hp => .inr (by have := (o4.lt p hp).1; omega)); have hc5 : w5.cell? ⟨g, i, none⟩ = some (.int .u8 (x.toNat : Int)) := (World.cell?_of_block (d5.block g (o4.lt _ rfl).2 (.inr (by omega)))).trans hc; obtain ⟨hf5, -⟩ := o5.at i hlt)
  all_goals go_wp2
  all_goals (go_ret; exact PBd.mk (cu5.keepI (gbI_set (p := ⟨g, i, none⟩) (gbI.refl g (g + 1) w5) (.inr ⟨Nat.le_refl _, Nat.lt_succ_self _⟩) _) (by have := h.le; omega) (.inl (by omega))) ((D4.drew.trans d5).set (p := ⟨g, i, none⟩) hg _) (by have h9 := o5.set i (.int .u8 (bits BinOp.xor IntKind.u8 (x.toNat : Int) (IntKind.u8.wrap (IntKind.i64.wrap (1 + (k : Int)))))); rw [bys_setI _ _ _ (xor_u8 _ _)] at h9; exact h9) (by omega))
end Go.Proofs.YtpfchphgbhgmmaaGreat

/-
  A draw that says yes once in so many times. Conditions: none beside those that each theorem names.
-/
namespace Go.Proofs.YtpfchphgbhgmmaaGreat
open Go.RowKit
theorem spec_l1Once (B cb : Nat) (x : Int) (w : World) (h : Cur B w cb) :
    Calls Tryz.prog 24 #[.pointer (some ⟨cb, 0, none⟩), .int .i64 x] w fun e w' => ∃ o : Bool, e = .returned (.bool o) ∧ DE B cb w w' := by
  go_enter Tryz.func24, Tryz.ntmps24
  go_wp2_with (go_at_call 25; refine (spec_l1Below B cb x w h).mono ?_; rintro e w1 ⟨z, hz, rfl, cu, d⟩)
  go_ret
  exact ⟨_, rfl, cu, d⟩
theorem d_l1Once {B cb : Nat} {w0 w : World} {bs : List Vb} {L : List Sv} {Q : Ending → World → Prop} {x : Int} (D : DS B cb w0 w bs L) (k : ∀ w' (o : Bool), DS B cb w0 w' bs L → Q (.returned (.bool o)) w') : Calls Tryz.prog 24 #[.pointer (some ⟨cb, 0, none⟩), .int .i64 x] w Q :=
  (spec_l1Once B cb x w D.cur).mono fun e w' ⟨o, he, E⟩ => by subst he; exact k w' o (D.by E)
end Go.Proofs.YtpfchphgbhgmmaaGreat

/-
  Draws of what is sealed. Conditions: none beside those that each theorem names.
-/
namespace Go.Proofs.YtpfchphgbhgmmaaGreat
open Go.RowKit
def PKi (B cb : Nat) (w : World) (e : Ending) (w' : World) : Prop := ∃ k a n c, e = .returned (.tuple #[.int .i64 k, .slice a n c]) ∧ DE B cb w w' ∧ BR w w' a n c
theorem d_PKi {f : FuncId} {B cb : Nat} {w0 w : World} {bs : List Vb} {L : List Sv} {Q : Ending → World → Prop} {args : Array Value} (D : DS B cb w0 w bs L) (H : Calls Tryz.prog f args w (PKi B cb w))
    (k : ∀ w' (x : Int) a n c l, DS B cb w0 w' bs (⟨a, n, c, bys l⟩ :: L) → Q (.returned (.tuple #[.int .i64 x, .slice a n c])) w') : Calls Tryz.prog f args w Q :=
  H.mono fun e w' ⟨x, a, n, c, he, E, h⟩ => by
    subst he
    obtain ⟨l, D1⟩ := D.adB (D.by E) h
    exact k w' x a n c l D1
set_option maxRecDepth 1000000 in
set_option maxHeartbeats 1000000 in
theorem spec_l9Kind (B cb : Nat) (w : World) (h : Cur B w cb) : Calls Tryz.prog 21 #[.pointer (some ⟨cb, 0, none⟩)] w (PKi B cb w) := by
  have D := DS.start h
  go_enter Tryz.func21, Tryz.ntmps21
  go_wp2_with (first | (go_at_call 25; (first | (with_reducible refine d_l1Below D ?_) | (with_reducible refine d_l1Below (D.set0 _ _) ?_) | (with_reducible refine d_l1Below (D.box _ _) ?_) | (with_reducible refine d_l1Below ((D.set0 _ _).set0 _ _) ?_) | (with_reducible refine d_l1Below ((D.box _ _).set0 _ _) ?_)); clear D; intro w1 z hz D; (try clear kc kf); (try simp only [List.setIfInBounds_toArray, List.set_cons_succ, List.set_cons_zero] at D); (try (have kc := fun o => DS.cell0 D o; have kf := fun o => DS.frz0 D o))) | (go_at_call 23; (first | (with_reducible refine d_l1Bytes D ?_ ?_) | (with_reducible refine d_l1Bytes (D.set0 _ _) ?_ ?_) | (with_reducible refine d_l1Bytes (D.box _ _) ?_ ?_) | (with_reducible refine d_l1Bytes ((D.set0 _ _).set0 _ _) ?_ ?_) | (with_reducible refine d_l1Bytes ((D.box _ _).set0 _ _) ?_ ?_)); (focus (first | omega | (have h9 := ofL.le hi (b := 256) (by decide); omega))); clear D; intro w1 a n c l hn D; (try clear kc kf); (try simp only [List.setIfInBounds_toArray, List.set_cons_succ, List.set_cons_zero] at D); (try (have kc := fun o => DS.cell0 D o; have kf := fun o => DS.frz0 D o))) | (go_at_call 22; (first | (with_reducible refine d_l1Int D ?_ ?_ ?_ ?_ ?_ ?_) | (with_reducible refine d_l1Int (D.set0 _ _) ?_ ?_ ?_ ?_ ?_ ?_) | (with_reducible refine d_l1Int (D.box _ _) ?_ ?_ ?_ ?_ ?_ ?_) | (with_reducible refine d_l1Int ((D.set0 _ _).set0 _ _) ?_ ?_ ?_ ?_ ?_ ?_) | (with_reducible refine d_l1Int ((D.box _ _).set0 _ _) ?_ ?_ ?_ ?_ ?_ ?_)); (focus (first | rfl | (simp; done))); (focus (exact rfl)); (focus rfl); (focus decide); (focus decide); clear D; intro w1 x hi D; (try clear kc kf); (try simp only [List.setIfInBounds_toArray, List.set_cons_succ, List.set_cons_zero] at D); (try (have kc := fun o => DS.cell0 D o; have kf := fun o => DS.frz0 D o))))
  all_goals (refine' bodyPost_ret ?_ rfl ?_; rotate_left; (focus (simp [results, Tryz.results21, go_sem]; rfl)); exact ⟨_, _, _, _, rfl, D.de, D.b0⟩)
end Go.Proofs.YtpfchphgbhgmmaaGreat

/-
  Draws of numbers near one another, with leaps. Conditions: none beside those that each theorem names.
-/
namespace Go.Proofs.YtpfchphgbhgmmaaGreat
open Go.RowKit
/-- append of one number onto numbers that the call owns -/
theorem wpList_appZ {w : World} {ops : Array Oper} {rest : List Oper} {o : Oper} {ac : Act} {Q : Exit → Act → World → Prop} (hgd : o.guard = none) (s x : Operand)
    (ho : o.op = .call { callee := .builtin .append, args := #[s, x], argTypes := #[24, 24] })
    (B : Nat) (a : Option Addr) (n c : Nat) (l : List Int) (hse : ac.eval s = .slice a n c) (hown : Ow B w 3 a n c (ins l)) (b : Option Addr) (m d : Nat) (k : List Int) (hx : ac.eval x = .slice b m d) (hs : Rd w b m d (ins k))
    (hsz : l.length + k.length ≤ 1073741824) (hbase : B ≤ w.heap.size)
    (h : ∀ a' n' c' w', Ow B w' 3 a' n' c' (ins (l ++ k)) → w.grownBy w' (a.map (·.block)) → wpList Tryz.prog ops Q rest (ac.put o.dst (.slice a' n' c')) w') : wpList Tryz.prog ops Q (o :: rest) ac w := by
  obtain ⟨i0, hi, hz0, hz1, hz2⟩ := info_parts inf_int
  have h1 := hown.rd.ilen
  have h2 := hs.ilen
  refine wpList_app hgd s x 24 24 ho B 3 i0 (.int .i64 0) 8 Tryz.underlying24 hi hz0 hz1 hz2 rfl a n c (ins l) hse hown _ hx m (ins k) (hs.src Tryz.underlying24 (by simp [ins, Value.oneCell'])) (by unfold maxLen; omega) (by omega) hbase ?_
  intro a' c' w' o' g' _
  rw [show ins l ++ ins k = ins (l ++ k) by simp [ins]] at o'
  exact h _ _ _ _ o' g'
/-- the cursor stands, and the numbers so far are the call's own -/
structure NS (B cb : Nat) (w0 w : World) (a : Option Addr) (n c : Nat) (l : List Int) : Prop where
  cur : Cur B w cb
  dr : Dr cb w0 w
  ow : Ow w0.heap.size w 3 a n c (ins l)
  lt : cb < w0.heap.size
section
variable {B cb : Nat} {w0 w w' : World} {a : Option Addr} {n c : Nat} {l : List Int}
theorem NS.by (N : NS B cb w0 w a n c l) (E : DE B cb w w') : NS B cb w0 w' a n c l :=
  ⟨E.cur, N.dr.trans E.dr, N.ow.keepI E.dr (fun p hp => .inr (by have := (N.ow.lt p hp).1; have := N.lt; omega)), N.lt⟩
theorem NS.new (h : Cur B w cb) : NS B cb w (w.alloc (.cells #[] 3)) (some ⟨w.heap.size, 0, none⟩) 0 0 [] :=
  ⟨h.alloc _, (Dr.refl _ _).alloc _, new_own _ _, h.lt⟩
theorem NS.grow (N : NS B cb w0 w a n c l) (g : w.grownBy w' none) : NS B cb w0 w' a n c l := N.by ⟨N.cur.keep0 g, Dr.of0 g⟩
theorem NS.app (N : NS B cb w0 w a n c l) {a' : Option Addr} {n' c' : Nat} {l' : List Int} (o : Ow w0.heap.size w' 3 a' n' c' (ins l')) (g : w.grownBy w' (a.map (·.block))) : NS B cb w0 w' a' n' c' l' :=
  ⟨N.cur.keepI (gbI.ofRow (B := w0.heap.size) (S := blkS a) g (fun g hg => by obtain ⟨p, hp, rfl⟩ := rowOf hg; exact ⟨(N.ow.lt p hp).1, blk_lt p hp⟩)) (by have := N.cur.le; have := N.lt; omega) (.inl N.lt),
    N.dr.row2 g (fun g hg => by obtain ⟨p, hp, rfl⟩ := rowOf hg; exact (N.ow.lt p hp).1), o, N.lt⟩
theorem NS.ds (N : NS B cb w0 w a n c l) : DS B cb w w [] [] := DS.start N.cur
end
theorem new_ins1 (w : World) (t : TypeId) (x : Int) : Rd (w.alloc (.cells #[.int .i64 x] t)) (some ⟨w.heap.size, 0, none⟩) 1 1 (ins [x]) := new_rd w #[.int .i64 x] t 1 rfl
def PNu (B cb : Nat) (w : World) (e : Ending) (w' : World) : Prop := ∃ a n c l, e = .returned (.slice a n c) ∧ NS B cb w w' a n c l ∧ n ≤ 256
set_option maxRecDepth 1000000 in
set_option maxHeartbeats 4000000 in
theorem spec_l8Nums (B cb : Nat) (x : Int) (w : World) (h : Cur B w cb) (h0 : 0 ≤ x) (hx : x ≤ 200) :
    Calls Tryz.prog 88 #[.pointer (some ⟨cb, 0, none⟩), .int .i64 x] w (PNu B cb w) := by
  have N := NS.new h
  go_enter Tryz.func88, Tryz.ntmps88
  go_wp2_with (first | (go_at_call 22; (with_reducible refine d_l1Int N.ds ?_ ?_ ?_ ?_ ?_ ?_); (focus (first | rfl | (simp; done))); (focus (exact rfl)); (focus rfl); (focus decide); (focus decide); intro w1 u hi D; replace N := N.by D.de; clear D hi) | (go_at_call 25; (with_reducible refine d_l1Below N.ds ?_); intro w1 z hz D; replace N := N.by D.de; clear D))
  go_loopw [5, 6, 7] (fun v b i wr => ∃ (j m cc : Nat) (aa : Option Addr) (l : List Int) (y : Int), ((j + m : Nat) : Int) ≤ max (x + 1) 0 ∧ i = .int .i64 (j : Int) ∧ b = .int .i64 y ∧ v = .slice aa m cc ∧ NS B cb w wr aa m cc l) (fun _ _ i _ => (intOf i).toNat)
  case atStart => exact ⟨_, _, _, _, _, _, by omega, rfl, rfl, rfl, N⟩
  case round =>
    clear N
    obtain ⟨j, m, cc, aa, l, y, hj, rfl, rfl, rfl, N⟩ := hrel
    have hm := Lib.hid N.ow.rd.ilen
    by_cases hlt : 0 < j
    · obtain ⟨j, rfl⟩ : ∃ i, j = i + 1 := ⟨j - 1, by omega⟩
      go_wp2_with (first | (go_at_call 22; (with_reducible refine d_l1Int N.ds ?_ ?_ ?_ ?_ ?_ ?_); (focus (first | rfl | (simp; done))); (focus (exact rfl)); (focus rfl); (focus decide); (focus decide); intro w1 u hi D; replace N := N.by D.de; clear D hi) | (go_at_call 25; (with_reducible refine d_l1Below N.ds ?_); intro w1 z hz D; replace N := N.by D.de; clear D) | (go_at_call 24; (with_reducible refine d_l1Once N.ds ?_); intro w1 o D; replace N := N.by D.de; clear D; cases o) | (at_builtin; refine wpList_appZ rfl (.tmp 27) (.tmp 36) rfl w.heap.size _ _ _ _ rfl (N.grow (gb_alloc (gb_refl _) _)).ow _ 1 1 _ rfl (new_ins1 _ _ _) (by have := N.ow.rd.ilen; simp; omega) (by have := N.dr.size; simp; omega) ?_; intro a9 n9 c9 w9 o9 g9; replace N := (N.grow (gb_alloc (gb_refl _) _)).app o9 g9; clear o9 g9))
      all_goals (refine ⟨⟨j, _, _, _, _, _, ?_, rfl, rfl, rfl, N⟩, by simp [intOf]⟩; (have h9 := N.ow.rd.ilen); (simp at h9); (have h8 := hm.out); omega)
    · obtain rfl : j = 0 := by omega
      go_wp2_with (first | (go_at_call 22; (with_reducible refine d_l1Int N.ds ?_ ?_ ?_ ?_ ?_ ?_); (focus (first | rfl | (simp; done))); (focus (exact rfl)); (focus rfl); (focus decide); (focus decide); intro w1 u hi D; replace N := N.by D.de; clear D hi) | (go_at_call 25; (with_reducible refine d_l1Below N.ds ?_); intro w1 z hz D; replace N := N.by D.de; clear D) | (go_at_call 24; (with_reducible refine d_l1Once N.ds ?_); intro w1 o D; replace N := N.by D.de; clear D; cases o) | (at_builtin; refine wpList_appZ rfl (.tmp 40) (.tmp 44) rfl w.heap.size _ _ _ _ rfl (N.grow (gb_alloc (gb_refl _) _)).ow _ 1 1 _ rfl (new_ins1 _ _ _) (by have := N.ow.rd.ilen; simp; omega) (by have := N.dr.size; simp; omega) ?_; intro a9 n9 c9 w9 o9 g9; replace N := (N.grow (gb_alloc (gb_refl _) _)).app o9 g9; clear o9 g9))
      all_goals (go_ret; refine ⟨_, _, _, _, rfl, N, ?_⟩; (have h9 := N.ow.rd.ilen); (try simp at h9); (have h8 := hm.out); omega)
end Go.Proofs.YtpfchphgbhgmmaaGreat

/-
  Draws of numbers, of a jar's bytes, of two times. Conditions: none beside those that each theorem names.
-/
namespace Go.Proofs.YtpfchphgbhgmmaaGreat
open Go.RowKit
end Go.Proofs.YtpfchphgbhgmmaaGreat

/-
  Draws of windows, right or bent. Conditions: none beside those that each theorem names.
-/
namespace Go.Proofs.YtpfchphgbhgmmaaGreat
open Go.RowKit
theorem run_bZ5 (w : World) : (Instr.buildSlice 24 5 #[(0, .int .i64 (-1)), (1, .int .i64 0), (2, .int .i64 1), (3, .int .i64 4294967295), (4, .int .i64 4294967296)]).run Tryz.prog w = .ok (.slice (some ⟨w.heap.size, 0, none⟩) 5 5) (w.alloc (.cells #[.int .i64 (-1), .int .i64 0, .int .i64 1, .int .i64 4294967295, .int .i64 4294967296] 3)) := by kernel_rfl
section
variable {w : World} {ops : Array Oper} {o : Oper} {ac : Act} {K : Act → World → Prop} {Q : Exit → Act → World → Prop} {E : Prop}
/-- five numbers laid inside a region that draws its order -/
theorem step_bZ5 (hgd : o.guard = none) (d : Option Tmp) (hd : o.dst = d) (ho : o.op = .buildSlice 24 5 #[(0, .const (.int .i64 (-1))), (1, .const (.int .i64 0)), (2, .const (.int .i64 1)), (3, .const (.int .i64 4294967295)), (4, .const (.int .i64 4294967296))])
    (h : ∀ q w', w.heap.size ≤ q → Rd w' (some ⟨q, 0, none⟩) 5 5 (ins [-1, 0, 1, 4294967295, 4294967296]) → w.grownBy w' none → K (ac.put d (.slice (some ⟨q, 0, none⟩) 5 5)) w') :
    if Region.wanted o (yielded ops ac.tmps) = true then Oper.wp Tryz.prog o ac w K Q else E := by
  have hw : Region.wanted o (yielded ops ac.tmps) = true := by simp [Region.wanted, hgd]
  rw [if_pos hw]
  subst hd
  have ev : ∀ v, ac.eval (.const v) = v := fun v => rfl
  unfold Oper.wp execOp
  simp only [ho, Sem.run_bind, Sem.run_pure, Result.andThen_ok, List.map_toArray, List.map_cons, List.map_nil, ev, run_bZ5]
  exact h _ _ (Nat.le_refl _) (new_rd w #[.int .i64 (-1), .int .i64 0, .int .i64 1, .int .i64 4294967295, .int .i64 4294967296] _ 5 rfl) (gb_alloc (gb_refl w) _)
/-- one cell of a slice that the call owns -/
theorem step_setS (hgd : o.guard = none) (hd : o.dst = none) (x y : Operand) (ho : o.op = .store 3 x y)
    {B g n c j : Nat} {e : TypeId} {xs : List Value} (u : Value) (hx : ac.eval x = .pointer (some ⟨g, j, none⟩)) (hy : ac.eval y = u) (hb : Ow B w e (some ⟨g, 0, none⟩) n c xs) (hj : j < n) (hu : u.cells = #[u]) (h1 : u.oneCell' = true)
    (h : K ac (w.setCell ⟨g, j, none⟩ u)) : if Region.wanted o (yielded ops ac.tmps) = true then Oper.wp Tryz.prog o ac w K Q else E := by
  have hw : Region.wanted o (yielded ops ac.tmps) = true := by simp [Region.wanted, hgd]
  rw [if_pos hw]
  obtain ⟨hf, v, hc, -⟩ := hb.at j hj
  have hs := run_storeCells_cells (P := Tryz.prog) g j [u] 0 w (fun i hi => by
    obtain rfl : i = 0 := by simpa using hi
    simp [hc]) (fun i hi => by
    obtain rfl : i = 0 := by simpa using hi
    simpa using hf) (fun v hv => by simp at hv; subst hv; exact h1)
  have hr : (storeVar 3 ⟨g, j, none⟩ u).run Tryz.prog w = .ok () (w.setCell ⟨g, j, none⟩ u) := by
    have hi := si_int
    cases hq : Tryz.prog.info? 3 with
    | none => simp [hq] at hi
    | some i =>
      have hz : i.size = 1 := by simpa [hq] using hi
      simp only [Nat.add_zero] at hs
      simp [storeVar, sizeOf, typeInfo, hq, hu, hz, hs, World.setCells]
  unfold Oper.wp execOp
  simp only [ho, hx, hy, Instr.storeAt, Instr.sureAddr, Sem.run_bind, Sem.run_pure, Result.andThen_ok, hr]
  have hp : ac.put o.dst undef = ac := by rw [hd]; rfl
  rw [← hp] at h
  exact h
/-- the first numbers of a slice, cut inside a region that draws its order -/
theorem step_slZ (hgd : o.guard = none) (d : Option Tmp) (hd : o.dst = d) (x : Operand) (hi : Operand) (ho : o.op = .slice 24 x none (some hi) none)
    (a : Option Addr) (n c k : Nat) (xs : List Value) (hx : ac.eval x = .slice a n c) (hh : ac.eval hi = .int .i64 (k : Int)) (hrd : Rd w a n c xs) (hk : k ≤ n)
    (h : ∀ a' c', Rd w a' k c' (xs.take k) → (∀ p, a' = some p → ∃ q, a = some q ∧ q.block = p.block) → K (ac.put d (.slice a' k c')) w) : if Region.wanted o (yielded ops ac.tmps) = true then Oper.wp Tryz.prog o ac w K Q else E := by
  have hw : Region.wanted o (yielded ops ac.tmps) = true := by simp [Region.wanted, hgd]
  rw [if_pos hw]
  subst hd
  obtain ⟨i0, hi0, hz0, hz1, hz2⟩ := info_parts inf_int
  have hr := run_sl (P := Tryz.prog) (w := w) 24 3 i0 Tryz.underlying24 hi0 hz1 a n c 0 k none (some (.int .i64 (k : Int))) (.inr ⟨rfl, rfl⟩) (.inl ⟨_, rfl⟩) (Nat.zero_le _) (by have := hrd.le; omega)
  unfold Oper.wp execOp
  simp only [ho, Sem.run_bind, Sem.run_pure, Option.map_none, Option.map_some, hx, hh, hr, Result.andThen_ok]
  refine h _ _ ?_ ?_
  · have := hrd.sub 0 k (Nat.zero_le _) hk
    simpa using this
  · intro p hp
    split at hp
    · exact ⟨p, hp, rfl⟩
    · cases a with
      | none => cases hp
      | some q =>
        simp only [Option.map_some, Option.some.injEq] at hp
        subst hp
        refine ⟨q, rfl, ?_⟩
        unfold Addr.add
        split <;> rfl
end
def PWi (B cb : Nat) (w : World) (e : Ending) (w' : World) : Prop := ∃ t a c l, e = .returned (.agg #[.int .i64 t, .slice a 32 c]) ∧ Ow w.heap.size w' 3 a 32 c (ins l) ∧ DE B cb w w'
set_option maxRecDepth 1000000 in
theorem spec_l8Draw (B cb : Nat) (w : World) (h : Cur B w cb) : Calls Tryz.prog 75 #[.pointer (some ⟨cb, 0, none⟩)] w (PWi B cb w) := by
  have hcb := h.lt
  have D := (DS.start h).box #[.int .i64 0, .slice none 0 0] 26
  go_enter Tryz.func75, Tryz.ntmps75
  go_wp2_with (first
    | (go_at_call 88; (with_reducible refine (spec_l8Nums B cb 12 _ D.cur (by decide) (by decide)).mono ?_); rintro e w1 ⟨a2, n2, c2, l2, rfl, N, hm⟩; replace D := D.by ⟨N.cur, N.dr⟩)
    | (go_at_call 87; (refine (spec_WinOf a2 n2 c2 l2 _ N.ow.rd (by omega)).mono ?_); rintro e w2 ⟨v, rfl, o, g⟩; have hz := winOf_tot l2; obtain ⟨⟨t, lb⟩, hf⟩ : ∃ f, f = winOf l2 := ⟨_, rfl⟩; rw [← hf] at o hz; obtain ⟨a3, n3, c3, rfl, o3, u3⟩ := o; simp only [WinM.tot] at hz; obtain rfl : n3 = 32 := o3.rd.ilen.symm.trans hz; have hl2 := (D.bx _ (List.mem_cons_self ..)).1.lt; replace D := D.grow g; clear u3 hf hz; have kc := fun o => DS.cell0 D o; have kf := fun o => DS.frz0 D o; simp only at o3))
  refine bodyPost_ret (v := .agg #[.int .i64 t, .slice a3 32 c3]) (by simp [results, Tryz.results75, go_sem, kc]) rfl ⟨t, a3, c3, lb, rfl, ?_, ((D.set0 0 _).set0 1 _).de⟩
  exact ((o3.keepSet (by simpa using hl2) _).keepSet (by simpa using hl2) _).mono (Nat.le_of_lt hl2)
theorem Rd.takeY {a : Option Addr} {n c : Nat} {l : List Int} {w : World} (r : Rd w a n c (ins l)) (M : Nat) (h : M ≤ n) : Rd w a M c (ins (l.take M)) := by
  have hl := r.ilen
  refine ⟨by rw [ins_len, List.length_take]; omega, by have := r.le; omega, fun j hj => ?_⟩
  obtain ⟨b, off, e, hc⟩ := r.cells j (by omega)
  exact ⟨b, off, e, by rw [hc, ins, ins, List.getElem?_map, List.getElem?_map, List.getElem?_take, if_pos hj]⟩
def PWd (B cb : Nat) (w : World) (e : Ending) (w' : World) : Prop := ∃ t a n c l, e = .returned (.agg #[.int .i64 t, .slice a n c]) ∧ Rd w' a n c (ins l) ∧ (∀ p, a = some p → w.heap.size ≤ p.block) ∧ n ≤ 32 ∧ DE B cb w w'
/-- the window's variable ahead of the result's: both are laid, the result is read -/
theorem PWd.mk {B cb q q2 : Nat} {w w1 : World} {t : Int} {a : Option Addr} {n c : Nat} {l : List Int} {old : Array Value} (D : DS B cb w w1 [⟨q, 26, #[.int .i64 t, .slice a n c]⟩, ⟨q2, 26, old⟩] []) (r : Rd w1 a n c (ins l)) (ha : ∀ p, a = some p → w.heap.size ≤ p.block ∧ p.block ≠ q2) (hn : n ≤ 32) :
    PWd B cb w (.returned (.agg #[.int .i64 t, .slice a n c])) ((w1.setCell ⟨q2, 0, none⟩ (.int .i64 t)).setCell ⟨q2, 1, none⟩ (.slice a n c)) :=
  ⟨t, a, n, c, l, rfl, (r.keepSet (q := ⟨q2, 0, none⟩) (fun p hp => (ha p hp).2) _).keepSet (q := ⟨q2, 1, none⟩) (fun p hp => (ha p hp).2) _, fun p hp => (ha p hp).1, hn, ((D.set1 0 _).set1 1 _).de⟩
theorem DS.setS {B cb g j : Nat} {w0 w : World} {bs : List Vb} (D : DS B cb w0 w bs []) (hg : w0.heap.size ≤ g) (hb : ∀ b ∈ bs, b.q ≠ g) (u : Value) (hc : cb < w0.heap.size) : DS B cb w0 (w.setCell ⟨g, j, none⟩ u) bs [] :=
  ⟨D.cur.keepI (gbI_set (p := ⟨g, j, none⟩) (gbI.refl g (g + 1) w) (.inr ⟨Nat.le_refl _, Nat.lt_succ_self _⟩) _) (by have := D.lb; omega) (.inl (by omega)), D.lb, D.dr.set (p := ⟨g, j, none⟩) hg _, by simp, fun b h => ⟨(D.bx b h).1.setO _ _ (hb b h), (D.bx b h).2⟩, D.dj⟩
set_option maxRecDepth 1000000 in
set_option maxHeartbeats 4000000 in
theorem spec_l8Any (B cb : Nat) (w : World) (h : Cur B w cb) : Calls Tryz.prog 49 #[.pointer (some ⟨cb, 0, none⟩)] w (PWd B cb w) := by
  have hcb := h.lt
  have D := (DS.start h).box #[.int .i64 0, .slice none 0 0] 26
  go_enter Tryz.func49, Tryz.ntmps49
  go_wp2_with (go_at_call 75; (with_reducible refine (spec_l8Draw B cb _ D.cur).mono ?_); rintro e w1 ⟨t, a, c, l, rfl, o, E⟩; have hl2 := (D.bx _ (List.mem_cons_self ..)).1.lt; have na : ∀ p, a = some p → p.block ≠ w.heap.size := fun p hp => Nat.ne_of_gt (Nat.lt_of_lt_of_le hl2 (o.lt p hp).1); have na2 : ∀ p, a = some p → p.block ≠ w1.heap.size := fun p hp => Nat.ne_of_lt (o.lt p hp).2; replace D := (D.by E).box #[.int .i64 t, .slice a 32 c] 26; replace o := (o.mono (Nat.le_of_lt hl2)).keep0 (gb_alloc (gb_refl _) (.cells #[.int .i64 t, .slice a 32 c] 26)); have hl3 : w.heap.size < w1.heap.size := Nat.lt_of_lt_of_le hl2 E.dr.size; clear E hl2)
  refine d_l1Below (DS.start D.cur) ?_
  intro w2 z hz D2
  replace o := o.keepI D2.de.dr (fun p hp => .inr (by have := (o.lt p hp).1; omega))
  replace D := D.by D2.de
  clear D2 hz
  have ha : ∀ p, a = some p → w.heap.size ≤ p.block ∧ p.block ≠ w.heap.size := fun p hp => ⟨(o.lt p hp).1, na p hp⟩
  cases z0 : ((z : Int) == 0)
  rotate_left
  · have kc := fun o => DS.cell0 D o; have kd := fun o => DS.cell1 D o; have kf := fun o => (D.bx _ (List.mem_cons_self ..)).1.frozen o; have kg := fun o => (D.bx _ (List.mem_cons_of_mem _ (List.mem_cons_self ..))).1.frozen o
    go_wp2_with ((go_at_call 22; (with_reducible refine d_l1Int (DS.start D.cur) ?_ ?_ ?_ ?_ ?_ ?_); (focus (first | rfl | (simp; done))); (focus (exact rfl)); (focus rfl); (focus decide); (focus decide); intro w3 u hi D2; replace o := o.keepI D2.de.dr (fun p hp => .inr (by have := (o.lt p hp).1; omega)); replace D := D.by D2.de; clear D2 hi kc kd kf kg; have kc := fun o => DS.cell0 D o; have kd := fun o => DS.cell1 D o; have kf := fun o => (D.bx _ (List.mem_cons_self ..)).1.frozen o; have kg := fun o => (D.bx _ (List.mem_cons_of_mem _ (List.mem_cons_self ..))).1.frozen o))
    refine bodyPost_ret (v := .agg #[.int .i64 u, .slice a 32 c]) (by simp [results, Tryz.results49, go_sem, kd]) rfl (PWd.mk (D.set0 0 (.int .i64 u)) (o.rd.keepSet (q := ⟨w1.heap.size, 0, none⟩) na2 _) ha (by decide))
  cases z1 : ((z : Int) == 1)
  rotate_left
  · go_wp2
    obtain ⟨g, rfl⟩ := o.head (by decide)
    have hg := (o.lt _ rfl).1
    have nb : ∀ b ∈ [(⟨w1.heap.size, 26, #[.int .i64 t, .slice (some ⟨g, 0, none⟩) 32 c]⟩ : Vb), ⟨w.heap.size, 26, #[.int .i64 0, .slice none 0 0]⟩], b.q ≠ g := by
      intro b hb
      have h1 := na2 _ rfl
      have h2 := na _ rfl
      simp only [List.mem_cons, List.not_mem_nil, or_false] at hb
      rcases hb with rfl | rfl
      · exact fun e => h1 e.symm
      · exact fun e => h2 e.symm
    replace o := o.drew
    replace D := D.drew
    have kS := DS.cell0 D 1
    refine wp_region_held_drew (S := (fun w' => w'.cell? ⟨w1.heap.size, 1, none⟩ = some (.slice (some ⟨g, 0, none⟩) 32 c))) (by kernel_rfl) ?_ (fun hHeld => ?_)
    · (try dsimp only)
      exact kS
    refine wpAnyH_takeD (i := 0) (some 16) (v := ?_) rfl rfl (by kernel_rfl) (by kernel_rfl) (by kernel_rfl) (fun _ _ _ h => h) (Or.inl ⟨by rfl, ?_⟩) (by assumption) ?_
    rotate_left
    (focus (intro w hSw; (try dsimp only at hSw); (first | (go_simp; done) | (go_simp; with_reducible rfl) | with_reducible rfl)))
    (try simp only [Act.put]); (try simp only [List.setIfInBounds_toArray]); (try simp only [List.set_cons_succ]); (try simp only [List.set_cons_zero])
    refine wpAnyH_takeD (i := 1) (some 17) (v := ?_) rfl rfl (by kernel_rfl) (by kernel_rfl) (by kernel_rfl) (fun _ _ _ h => h) (Or.inl ⟨by rfl, ?_⟩) (by assumption) ?_
    rotate_left
    (focus (intro w hSw; (try dsimp only at hSw); (first | (go_simp; done) | (go_simp; with_reducible rfl) | with_reducible rfl)))
    (try simp only [Act.put]); (try simp only [List.setIfInBounds_toArray]); (try simp only [List.set_cons_succ]); (try simp only [List.set_cons_zero])
    refine wpAnyH_takeD (i := 2) (some 18) (v := ?_) rfl rfl (by kernel_rfl) (by kernel_rfl) (by kernel_rfl) (fun _ _ _ h => h) (Or.inl ⟨by rfl, ?_⟩) (by assumption) ?_
    rotate_left
    (focus (intro w hSw; (try dsimp only at hSw); (first | (go_simp; done) | (go_simp; with_reducible rfl) | with_reducible rfl)))
    (try simp only [Act.put]); (try simp only [List.setIfInBounds_toArray]); (try simp only [List.set_cons_succ]); (try simp only [List.set_cons_zero])
    refine wpAnyH_takeD (i := 4) (some 20) (v := ?_) rfl rfl (by kernel_rfl) (by kernel_rfl) (by kernel_rfl) (fun _ _ _ h => h) (Or.inl ⟨by rfl, ?_⟩) (by assumption) ?_
    rotate_left
    (focus (intro w hSw; (try dsimp only at hSw); (first | (go_simp; done) | (go_simp; with_reducible rfl) | with_reducible rfl)))
    (try simp only [Act.put]); (try simp only [List.setIfInBounds_toArray]); (try simp only [List.set_cons_succ]); (try simp only [List.set_cons_zero])
    refine wpAnyH_ready (rs := [3, 5]) (by kernel_rfl) (by simp) (AllReadyH.cons rfl (fun K hK => ?_) (AllReadyH.cons rfl (fun K hK => ?_) AllReadyH.nil))
    · go_simp
      go_at_call 25
      refine d_l1Below (DS.start D.cur) ?_
      intro w4 i hi D2
      replace o := o.keepI D2.de.dr (fun p hp => .inr (by have := (o.lt p hp).1; omega))
      (try replace rL := rL.keepI D2.de.dr (fun p hp => .inr (by cases hp; exact hcq)))
      replace D := D.by D2.de
      replace kS := DS.cell0 D 1
      clear D2
      have hi9 : i < 32 := by omega
      have hi8 : (i : Int) < 32 := by omega
      have hi7 : (0 : Int) ≤ (i : Int) := by omega
      go_wp2_with fail
      refine hK.out _ _ ?_ (fun hHeld2 => ?_)
      · (try dsimp only)
        exact kS
      clear hK K hHeld
      have hHeld := hHeld2
      clear hHeld2
      (try simp only [Act.put]); (try simp only [List.setIfInBounds_toArray]); (try simp only [List.set_cons_succ]); (try simp only [List.set_cons_zero])
      refine wpAnyH_ready (rs := [5]) (by kernel_rfl) (by simp) (AllReadyH.cons rfl (fun K hK => ?_) AllReadyH.nil)
      refine step_bZ5 rfl (some 21) rfl rfl ?_
      intro q9 w5 hq9 rL g5
      have hcq : cb < q9 := Nat.lt_of_lt_of_le D.cur.lt hq9
      replace o := o.keep0 g5
      replace D := D.grow g5
      replace kS := DS.cell0 D 1
      refine hK.out _ _ ?_ (fun hHeld2 => ?_)
      · (try dsimp only)
        exact kS
      clear hK K hHeld
      have hHeld := hHeld2
      clear hHeld2
      (try simp only [Act.put]); (try simp only [List.setIfInBounds_toArray]); (try simp only [List.set_cons_succ]); (try simp only [List.set_cons_zero])
      refine wpAnyH_ready (rs := [6]) (by kernel_rfl) (by simp) (AllReadyH.cons rfl (fun K hK => ?_) AllReadyH.nil)
      go_simp
      go_at_call 22
      refine (spec_l1Int B cb _ 5 5 _ _ D.cur ⟨rL, fun p hp => by cases hp; exact hcq⟩ (by decide) (by decide)).mono ?_
      rintro e w6 ⟨u, hu, rfl, cu, d⟩
      replace o := o.keepI d (fun p hp => .inr (by have := (o.lt p hp).1; omega))
      replace D := D.by ⟨cu, d⟩
      replace kS := DS.cell0 D 1
      go_wp2_with fail
      refine hK.out _ _ ?_ (fun hHeld2 => ?_)
      · (try dsimp only)
        exact kS
      clear hK K hHeld
      have hHeld := hHeld2
      clear hHeld2
      (try simp only [Act.put]); (try simp only [List.setIfInBounds_toArray]); (try simp only [List.set_cons_succ]); (try simp only [List.set_cons_zero])
      refine wpAnyH_takeD (i := 7) (some 23) (v := ?_) rfl rfl (by kernel_rfl) (by kernel_rfl) (by kernel_rfl) (fun _ _ _ h => h) (Or.inl ⟨by rfl, ?_⟩) (by assumption) ?_
      rotate_left
      (focus (intro w hSw; (try dsimp only at hSw); (first | (go_simp; done) | (go_simp; with_reducible rfl) | with_reducible rfl)))
      (try simp only [Act.put]); (try simp only [List.setIfInBounds_toArray]); (try simp only [List.set_cons_succ]); (try simp only [List.set_cons_zero])
      refine wpAnyH_ready (rs := [8]) (by kernel_rfl) (by simp) (AllReadyH.cons rfl (fun K hK => ?_) AllReadyH.nil)
      refine step_setS rfl rfl (.tmp 23) (.tmp 22) rfl (.int .i64 u) rfl rfl o hi9 rfl rfl ?_
      replace o := o.set i (.int .i64 u)
      rw [ins_set] at o
      replace D := D.setS hg nb (.int .i64 u) hcb (j := i)
      replace kS := DS.cell0 D 1
      refine hK.out _ _ ?_ (fun hHeld2 => ?_)
      · (try dsimp only)
        exact kS
      clear hK K hHeld
      have hHeld := hHeld2
      clear hHeld2
      (try simp only [Act.put]); (try simp only [List.setIfInBounds_toArray]); (try simp only [List.set_cons_succ]); (try simp only [List.set_cons_zero])
      refine wpAnyH_done (by kernel_rfl) ?_ _
      (try dsimp only)
      have kc := fun o => DS.cell0 D o; have kd := fun o => DS.cell1 D o; have kf := fun o => (D.bx _ (List.mem_cons_self ..)).1.frozen o; have kg := fun o => (D.bx _ (List.mem_cons_of_mem _ (List.mem_cons_self ..))).1.frozen o
      go_wp2
      refine bodyPost_ret (v := .agg #[.int .i64 t, .slice (some ⟨g, 0, none⟩) 32 c]) (by simp [results, Tryz.results49, go_sem, kd]) rfl (PWd.mk D o.rd ha (by decide))
    · refine step_bZ5 rfl (some 21) rfl rfl ?_
      intro q9 w5 hq9 rL g5
      have hcq : cb < q9 := Nat.lt_of_lt_of_le D.cur.lt hq9
      replace o := o.keep0 g5
      replace D := D.grow g5
      replace kS := DS.cell0 D 1
      refine hK.out _ _ ?_ (fun hHeld2 => ?_)
      · (try dsimp only)
        exact kS
      clear hK K hHeld
      have hHeld := hHeld2
      clear hHeld2
      (try simp only [Act.put]); (try simp only [List.setIfInBounds_toArray]); (try simp only [List.set_cons_succ]); (try simp only [List.set_cons_zero])
      refine wpAnyH_ready (rs := [3]) (by kernel_rfl) (by simp) (AllReadyH.cons rfl (fun K hK => ?_) AllReadyH.nil)
      go_simp
      go_at_call 25
      refine d_l1Below (DS.start D.cur) ?_
      intro w4 i hi D2
      replace o := o.keepI D2.de.dr (fun p hp => .inr (by have := (o.lt p hp).1; omega))
      (try replace rL := rL.keepI D2.de.dr (fun p hp => .inr (by cases hp; exact hcq)))
      replace D := D.by D2.de
      replace kS := DS.cell0 D 1
      clear D2
      have hi9 : i < 32 := by omega
      have hi8 : (i : Int) < 32 := by omega
      have hi7 : (0 : Int) ≤ (i : Int) := by omega
      go_wp2_with fail
      refine hK.out _ _ ?_ (fun hHeld2 => ?_)
      · (try dsimp only)
        exact kS
      clear hK K hHeld
      have hHeld := hHeld2
      clear hHeld2
      (try simp only [Act.put]); (try simp only [List.setIfInBounds_toArray]); (try simp only [List.set_cons_succ]); (try simp only [List.set_cons_zero])
      refine wpAnyH_ready (rs := [6]) (by kernel_rfl) (by simp) (AllReadyH.cons rfl (fun K hK => ?_) AllReadyH.nil)
      go_simp
      go_at_call 22
      refine (spec_l1Int B cb _ 5 5 _ _ D.cur ⟨rL, fun p hp => by cases hp; exact hcq⟩ (by decide) (by decide)).mono ?_
      rintro e w6 ⟨u, hu, rfl, cu, d⟩
      replace o := o.keepI d (fun p hp => .inr (by have := (o.lt p hp).1; omega))
      replace D := D.by ⟨cu, d⟩
      replace kS := DS.cell0 D 1
      go_wp2_with fail
      refine hK.out _ _ ?_ (fun hHeld2 => ?_)
      · (try dsimp only)
        exact kS
      clear hK K hHeld
      have hHeld := hHeld2
      clear hHeld2
      (try simp only [Act.put]); (try simp only [List.setIfInBounds_toArray]); (try simp only [List.set_cons_succ]); (try simp only [List.set_cons_zero])
      refine wpAnyH_takeD (i := 7) (some 23) (v := ?_) rfl rfl (by kernel_rfl) (by kernel_rfl) (by kernel_rfl) (fun _ _ _ h => h) (Or.inl ⟨by rfl, ?_⟩) (by assumption) ?_
      rotate_left
      (focus (intro w hSw; (try dsimp only at hSw); (first | (go_simp; done) | (go_simp; with_reducible rfl) | with_reducible rfl)))
      (try simp only [Act.put]); (try simp only [List.setIfInBounds_toArray]); (try simp only [List.set_cons_succ]); (try simp only [List.set_cons_zero])
      refine wpAnyH_ready (rs := [8]) (by kernel_rfl) (by simp) (AllReadyH.cons rfl (fun K hK => ?_) AllReadyH.nil)
      refine step_setS rfl rfl (.tmp 23) (.tmp 22) rfl (.int .i64 u) rfl rfl o hi9 rfl rfl ?_
      replace o := o.set i (.int .i64 u)
      rw [ins_set] at o
      replace D := D.setS hg nb (.int .i64 u) hcb (j := i)
      replace kS := DS.cell0 D 1
      refine hK.out _ _ ?_ (fun hHeld2 => ?_)
      · (try dsimp only)
        exact kS
      clear hK K hHeld
      have hHeld := hHeld2
      clear hHeld2
      (try simp only [Act.put]); (try simp only [List.setIfInBounds_toArray]); (try simp only [List.set_cons_succ]); (try simp only [List.set_cons_zero])
      refine wpAnyH_done (by kernel_rfl) ?_ _
      (try dsimp only)
      have kc := fun o => DS.cell0 D o; have kd := fun o => DS.cell1 D o; have kf := fun o => (D.bx _ (List.mem_cons_self ..)).1.frozen o; have kg := fun o => (D.bx _ (List.mem_cons_of_mem _ (List.mem_cons_self ..))).1.frozen o
      go_wp2
      refine bodyPost_ret (v := .agg #[.int .i64 t, .slice (some ⟨g, 0, none⟩) 32 c]) (by simp [results, Tryz.results49, go_sem, kd]) rfl (PWd.mk D o.rd ha (by decide))
  cases z2 : ((z : Int) == 2)
  rotate_left
  · have kc := fun o => DS.cell0 D o; have kd := fun o => DS.cell1 D o; have kf := fun o => (D.bx _ (List.mem_cons_self ..)).1.frozen o; have kg := fun o => (D.bx _ (List.mem_cons_of_mem _ (List.mem_cons_self ..))).1.frozen o
    go_wp2
    obtain ⟨g, rfl⟩ := o.head (by decide)
    have h32 : 32 ≤ c := o.le
    go_region_with (go_at_call 25; refine d_l1Below (DS.start D.drew.cur) ?_; intro w4 i hi D2; replace o := o.drew.keepI D2.de.dr (fun p hp => .inr (by have := (o.lt p hp).1; omega)); replace D := D.drew.by D2.de; clear D2 kc kd kf kg; have kc := fun o => DS.cell0 D o; have kd := fun o => DS.cell1 D o; have kf := fun o => (D.bx _ (List.mem_cons_self ..)).1.frozen o; have kg := fun o => (D.bx _ (List.mem_cons_of_mem _ (List.mem_cons_self ..))).1.frozen o; have hi9 : i < 32 := (by omega); have hi8 : (i : Int) < 32 := (by omega))
    all_goals go_wp2
    all_goals refine bodyPost_ret (v := .agg #[.int .i64 t, .slice (some ⟨g, 0, none⟩) i c]) (by simp [results, Tryz.results49, go_sem, kd]) rfl (PWd.mk (D.set0 1 (.slice (some ⟨g, 0, none⟩) i c)) ((o.rd.takeY i (by omega)).keepSet (q := ⟨w1.heap.size, 1, none⟩) na2 _) ha (by omega))
  · have kc := fun o => DS.cell0 D o; have kd := fun o => DS.cell1 D o; have kf := fun o => (D.bx _ (List.mem_cons_self ..)).1.frozen o; have kg := fun o => (D.bx _ (List.mem_cons_of_mem _ (List.mem_cons_self ..))).1.frozen o
    go_wp2
    refine bodyPost_ret (v := .agg #[.int .i64 t, .slice a 32 c]) (by simp [results, Tryz.results49, go_sem, kd]) rfl (PWd.mk D o.rd ha (by decide))
end Go.Proofs.YtpfchphgbhgmmaaGreat

/-
  Draws of epochs, right or bent, and of what an epoch seals. Conditions: none beside those that each theorem names.
-/
namespace Go.Proofs.YtpfchphgbhgmmaaGreat
open Go.RowKit
def PEp (B cb : Nat) (w : World) (e : Ending) (w' : World) : Prop := ∃ en a1 n1 c1 es et a7 n7 c7, e = .returned (.agg #[.int .i64 en, .slice a1 n1 c1, .int .i64 es, .int .i64 et, .slice a7 n7 c7]) ∧ DE B cb w w' ∧ BR w w' a1 n1 c1 ∧ IR w w' a7 n7 c7
theorem d_PEp {f : FuncId} {B cb : Nat} {w0 w : World} {bs : List Vb} {L : List Sv} {Q : Ending → World → Prop} {args : Array Value} (D : DS B cb w0 w bs L) (H : Calls Tryz.prog f args w (PEp B cb w))
    (k : ∀ w' (en : Int) a1 n1 c1 l1 (es et : Int) a7 n7 c7 l7, DS B cb w0 w' bs (⟨a7, n7, c7, ins l7⟩ :: ⟨a1, n1, c1, bys l1⟩ :: L) → Q (.returned (.agg #[.int .i64 en, .slice a1 n1 c1, .int .i64 es, .int .i64 et, .slice a7 n7 c7])) w') : Calls Tryz.prog f args w Q :=
  H.mono fun e w' ⟨en, a1, n1, c1, es, et, a7, n7, c7, he, E, h1, h7⟩ => by
    subst he
    obtain ⟨l1, D1⟩ := D.adB (D.by E) h1
    obtain ⟨l7, D2⟩ := D.adI D1 h7
    exact k w' en a1 n1 c1 l1 es et a7 n7 c7 l7 D2
theorem d_PWi {f : FuncId} {B cb : Nat} {w0 w : World} {bs : List Vb} {L : List Sv} {Q : Ending → World → Prop} {args : Array Value} (D : DS B cb w0 w bs L) (H : Calls Tryz.prog f args w (PWi B cb w))
    (k : ∀ w' (t : Int) a c l, DS B cb w0 w' bs (⟨a, 32, c, ins l⟩ :: L) → Q (.returned (.agg #[.int .i64 t, .slice a 32 c])) w') : Calls Tryz.prog f args w Q :=
  H.mono fun e w' ⟨t, a, c, l, he, o, E⟩ => by
    subst he
    exact k w' t a c l (D.addO (D.by E) o (by decide))
theorem d_EpNew {B cb : Nat} {w0 w : World} {bs : List Vb} {L : List Sv} {Q : Ending → World → Prop} {x : Int} {a : Option Addr} {n c : Nat} {l : List UInt8} (D : DS B cb w0 w bs (⟨a, n, c, bys l⟩ :: L))
    (k : ∀ w' (en : Int) a1 n1 c1 l1 (es et : Int) a7 n7 c7 l7, DS B cb w0 w' bs (⟨a7, n7, c7, ins l7⟩ :: ⟨a1, n1, c1, bys l1⟩ :: ⟨a, n, c, bys l⟩ :: L) → Q (.returned (.agg #[.int .i64 en, .slice a1 n1 c1, .int .i64 es, .int .i64 et, .slice a7 n7 c7])) w') : Calls Tryz.prog 74 #[.int .i64 x, .slice a n c] w Q :=
  (spec_EpNew x a n c l w D.r0).mono fun e w' ⟨v, he, o, g⟩ => by
    subst he
    have hz := epNewM_tot x l
    obtain ⟨a1, n1, c1, a7, n7, c7, rfl, ⟨o1, u1⟩, ⟨o7, u7⟩, d17⟩ := o
    have h1 := o1.blen
    have h7 := o7.rd.ilen
    simp only [EpM.tot] at hz
    exact k w' _ a1 n1 c1 _ _ _ a7 n7 c7 _ (D.addO (D.addO (D.grow g) o1 (by omega)) o7 (by omega))
set_option maxRecDepth 1000000 in
set_option maxHeartbeats 2000000 in
theorem spec_l9Ep (B cb : Nat) (w : World) (h : Cur B w cb) : Calls Tryz.prog 48 #[.pointer (some ⟨cb, 0, none⟩)] w (PEp B cb w) := by
  have D := (DS.start h).box #[.int .i64 0, .slice none 0 0, .int .i64 0, .int .i64 0, .slice none 0 0] 28
  go_enter Tryz.func48, Tryz.ntmps48
  go_wp2_with (first
    | (go_at_call 23; (first | (with_reducible refine d_l1Bytes D ?_ ?_) | (with_reducible refine d_l1Bytes (D.set0 _ _) ?_ ?_) | (with_reducible refine d_l1Bytes (D.box _ _) ?_ ?_) | (with_reducible refine d_l1Bytes ((D.set0 _ _).set0 _ _) ?_ ?_) | (with_reducible refine d_l1Bytes ((D.box _ _).set0 _ _) ?_ ?_)); (focus (first | omega | (have h9 := ofL.le hi (b := 256) (by decide); omega))); clear D; intro w1 a n c l hn D; (try clear kc kf); (try simp only [List.setIfInBounds_toArray, List.set_cons_succ, List.set_cons_zero] at D); (try (have kc := fun o => DS.cell0 D o; have kf := fun o => DS.frz0 D o))) | (go_at_call 22; (first | (with_reducible refine d_l1Int D ?_ ?_ ?_ ?_ ?_ ?_) | (with_reducible refine d_l1Int (D.set0 _ _) ?_ ?_ ?_ ?_ ?_ ?_) | (with_reducible refine d_l1Int (D.box _ _) ?_ ?_ ?_ ?_ ?_ ?_) | (with_reducible refine d_l1Int ((D.set0 _ _).set0 _ _) ?_ ?_ ?_ ?_ ?_ ?_) | (with_reducible refine d_l1Int ((D.box _ _).set0 _ _) ?_ ?_ ?_ ?_ ?_ ?_)); (focus (first | rfl | (simp; done))); (focus (exact rfl)); (focus rfl); (focus decide); (focus decide); clear D; intro w1 x hi D; (try clear kc kf); (try simp only [List.setIfInBounds_toArray, List.set_cons_succ, List.set_cons_zero] at D); (try (have kc := fun o => DS.cell0 D o; have kf := fun o => DS.frz0 D o)))
    | (go_at_call 74; (with_reducible refine d_EpNew D ?_); clear D; intro w1 en a1 n1 c1 l1 es et a7 n7 c7 l7 D; replace D := D.box #[.int .i64 en, .slice a1 n1 c1, .int .i64 es, .int .i64 et, .slice a7 n7 c7] 28; (try clear kc kf); (try simp only [List.setIfInBounds_toArray, List.set_cons_succ, List.set_cons_zero] at D); (try (have kc := fun o => DS.cell0 D o; have kf := fun o => DS.frz0 D o)))
    | (go_at_call 24; (first | (with_reducible refine d_l1Once D ?_) | (with_reducible refine d_l1Once (D.set0 _ _) ?_) | (with_reducible refine d_l1Once (D.box _ _) ?_) | (with_reducible refine d_l1Once ((D.set0 _ _).set0 _ _) ?_) | (with_reducible refine d_l1Once ((D.box _ _).set0 _ _) ?_)); clear D; intro w1 o D; (try clear kc kf); (try simp only [List.setIfInBounds_toArray, List.set_cons_succ, List.set_cons_zero] at D); (try (have kc := fun o => DS.cell0 D o; have kf := fun o => DS.frz0 D o)); cases o) | (go_at_call 75; (first | (with_reducible refine d_PWi D (spec_l8Draw B cb _ (by first | exact D.cur | exact (D.set0 _ _).cur)) ?_) | (with_reducible refine d_PWi (D.set0 _ _) (spec_l8Draw B cb _ (by first | exact D.cur | exact (D.set0 _ _).cur)) ?_) | (with_reducible refine d_PWi (D.box _ _) (spec_l8Draw B cb _ (by first | exact D.cur | exact (D.set0 _ _).cur)) ?_) | (with_reducible refine d_PWi ((D.set0 _ _).set0 _ _) (spec_l8Draw B cb _ (by first | exact D.cur | exact (D.set0 _ _).cur)) ?_) | (with_reducible refine d_PWi ((D.box _ _).set0 _ _) (spec_l8Draw B cb _ (by first | exact D.cur | exact (D.set0 _ _).cur)) ?_)); clear D; intro w1 wt wa wc wl D; (try clear kc kf); (try simp only [List.setIfInBounds_toArray, List.set_cons_succ, List.set_cons_zero] at D); (try (have kc := fun o => DS.cell0 D o; have kf := fun o => DS.frz0 D o)))
    | ((with_reducible refine wpList_stD1 (D.set0 _ _) ?_ (.tmp 2) (.tmp 19) ?_ ?_ ?_ ?_ ?_ ?_ ?_ ?_); (focus rfl); (focus rfl); rotate_left; (focus rfl); (focus rfl); (focus (exact si_Ep)); (focus rfl); (focus (first | rfl | (simp [Value.oneCell']; done))); clear D; intro w1 D; (try simp only [Act.put]); (try simp only [List.setIfInBounds_toArray]); (try simp only [List.set_cons_succ]); (try simp only [List.set_cons_zero]); (try clear kc kf); have kr := fun o => DS.cell1 D o) | ((with_reducible refine wpList_stD1 ((D.set0 _ _).set0 _ _) ?_ (.tmp 2) (.tmp 19) ?_ ?_ ?_ ?_ ?_ ?_ ?_ ?_); (focus rfl); (focus rfl); rotate_left; (focus rfl); (focus rfl); (focus (exact si_Ep)); (focus rfl); (focus (first | rfl | (simp [Value.oneCell']; done))); clear D; intro w1 D; (try simp only [Act.put]); (try simp only [List.setIfInBounds_toArray]); (try simp only [List.set_cons_succ]); (try simp only [List.set_cons_zero]); (try clear kc kf); have kr := fun o => DS.cell1 D o) | ((with_reducible refine wpList_stD1 D ?_ (.tmp 2) (.tmp 19) ?_ ?_ ?_ ?_ ?_ ?_ ?_ ?_); (focus rfl); (focus rfl); rotate_left; (focus rfl); (focus rfl); (focus (exact si_Ep)); (focus rfl); (focus (first | rfl | (simp [Value.oneCell']; done))); clear D; intro w1 D; (try simp only [Act.put]); (try simp only [List.setIfInBounds_toArray]); (try simp only [List.set_cons_succ]); (try simp only [List.set_cons_zero]); (try clear kc kf); have kr := fun o => DS.cell1 D o))
  all_goals (refine' bodyPost_ret ?_ rfl ?_; rotate_left; (focus (simp [results, Tryz.results48, go_sem, kr]; rfl)); first | exact ⟨_, _, _, _, _, _, _, _, _, rfl, D.de, D.tl.b0, D.i0⟩ | exact ⟨_, _, _, _, _, _, _, _, _, rfl, D.de, D.tl.tl.b0, D.i0⟩)
theorem d_PWd {f : FuncId} {B cb : Nat} {w0 w : World} {bs : List Vb} {L : List Sv} {Q : Ending → World → Prop} {args : Array Value} (D : DS B cb w0 w bs L) (H : Calls Tryz.prog f args w (PWd B cb w))
    (k : ∀ w' (t : Int) a n c l, DS B cb w0 w' bs (⟨a, n, c, ins l⟩ :: L) → Q (.returned (.agg #[.int .i64 t, .slice a n c])) w') : Calls Tryz.prog f args w Q :=
  H.mono fun e w' ⟨t, a, n, c, l, he, r, hb, hn, E⟩ => by
    subst he
    exact k w' t a n c l (D.addF (D.by E) r (fun _ p hp => hb p hp) (by omega))
set_option maxRecDepth 1000000 in
set_option maxHeartbeats 4000000 in
theorem spec_l9Any (B cb : Nat) (w : World) (h : Cur B w cb) : Calls Tryz.prog 20 #[.pointer (some ⟨cb, 0, none⟩)] w (PEp B cb w) := by
  have D := (DS.start h).box #[.int .i64 0, .slice none 0 0, .int .i64 0, .int .i64 0, .slice none 0 0] 28
  go_enter Tryz.func20, Tryz.ntmps20
  go_wp2_with (first
    | (go_at_call 48; (with_reducible refine d_PEp D (spec_l9Ep B cb _ D.cur) ?_); clear D; intro w1 en a1 n1 c1 l1 es et a7 n7 c7 l7 D; replace D := D.box #[.int .i64 en, .slice a1 n1 c1, .int .i64 es, .int .i64 et, .slice a7 n7 c7] 28; (try clear kc kf); (try simp only [List.setIfInBounds_toArray, List.set_cons_succ, List.set_cons_zero] at D); (try (have kc := fun o => DS.cell0 D o; have kf := fun o => DS.frz0 D o)))
    | (go_at_call 25; (first | (with_reducible refine d_l1Below D ?_) | (with_reducible refine d_l1Below (D.set0 _ _) ?_) | (with_reducible refine d_l1Below (D.box _ _) ?_) | (with_reducible refine d_l1Below ((D.set0 _ _).set0 _ _) ?_) | (with_reducible refine d_l1Below ((D.box _ _).set0 _ _) ?_)); clear D; intro w1 z hz D; (try clear kc kf); (try simp only [List.setIfInBounds_toArray, List.set_cons_succ, List.set_cons_zero] at D); (try (have kc := fun o => DS.cell0 D o; have kf := fun o => DS.frz0 D o))) | (go_at_call 23; (first | (with_reducible refine d_l1Bytes D ?_ ?_) | (with_reducible refine d_l1Bytes (D.set0 _ _) ?_ ?_) | (with_reducible refine d_l1Bytes (D.box _ _) ?_ ?_) | (with_reducible refine d_l1Bytes ((D.set0 _ _).set0 _ _) ?_ ?_) | (with_reducible refine d_l1Bytes ((D.box _ _).set0 _ _) ?_ ?_)); (focus (first | omega | (have h9 := ofL.le hi (b := 256) (by decide); omega))); clear D; intro w1 a n c l hn D; (try clear kc kf); (try simp only [List.setIfInBounds_toArray, List.set_cons_succ, List.set_cons_zero] at D); (try (have kc := fun o => DS.cell0 D o; have kf := fun o => DS.frz0 D o))) | (go_at_call 22; (first | (with_reducible refine d_l1Int D ?_ ?_ ?_ ?_ ?_ ?_) | (with_reducible refine d_l1Int (D.set0 _ _) ?_ ?_ ?_ ?_ ?_ ?_) | (with_reducible refine d_l1Int (D.box _ _) ?_ ?_ ?_ ?_ ?_ ?_) | (with_reducible refine d_l1Int ((D.set0 _ _).set0 _ _) ?_ ?_ ?_ ?_ ?_ ?_) | (with_reducible refine d_l1Int ((D.box _ _).set0 _ _) ?_ ?_ ?_ ?_ ?_ ?_)); (focus (first | rfl | (simp; done))); (focus (exact rfl)); (focus rfl); (focus decide); (focus decide); clear D; intro w1 x hi D; (try clear kc kf); (try simp only [List.setIfInBounds_toArray, List.set_cons_succ, List.set_cons_zero] at D); (try (have kc := fun o => DS.cell0 D o; have kf := fun o => DS.frz0 D o)))
    | (go_at_call 49; (first | (with_reducible refine d_PWd D (spec_l8Any B cb _ (by first | exact D.cur | exact (D.set0 _ _).cur)) ?_) | (with_reducible refine d_PWd (D.set0 _ _) (spec_l8Any B cb _ (by first | exact D.cur | exact (D.set0 _ _).cur)) ?_) | (with_reducible refine d_PWd (D.box _ _) (spec_l8Any B cb _ (by first | exact D.cur | exact (D.set0 _ _).cur)) ?_) | (with_reducible refine d_PWd ((D.set0 _ _).set0 _ _) (spec_l8Any B cb _ (by first | exact D.cur | exact (D.set0 _ _).cur)) ?_) | (with_reducible refine d_PWd ((D.box _ _).set0 _ _) (spec_l8Any B cb _ (by first | exact D.cur | exact (D.set0 _ _).cur)) ?_)); clear D; intro w1 wt wa wn wc wl D; (try clear kc kf); (try simp only [List.setIfInBounds_toArray, List.set_cons_succ, List.set_cons_zero] at D); (try (have kc := fun o => DS.cell0 D o; have kf := fun o => DS.frz0 D o)))
    | ((with_reducible refine wpList_stD1 (D.set0 _ _) ?_ (.tmp 2) (.tmp 33) ?_ ?_ ?_ ?_ ?_ ?_ ?_ ?_); (focus rfl); (focus rfl); rotate_left; (focus rfl); (focus rfl); (focus (exact si_Ep)); (focus rfl); (focus (first | rfl | (simp [Value.oneCell']; done))); clear D; intro w1 D; (try simp only [Act.put]); (try simp only [List.setIfInBounds_toArray]); (try simp only [List.set_cons_succ]); (try simp only [List.set_cons_zero]); (try clear kc kf); have kr := fun o => DS.cell1 D o) | ((with_reducible refine wpList_stD1 ((D.set0 _ _).set0 _ _) ?_ (.tmp 2) (.tmp 33) ?_ ?_ ?_ ?_ ?_ ?_ ?_ ?_); (focus rfl); (focus rfl); rotate_left; (focus rfl); (focus rfl); (focus (exact si_Ep)); (focus rfl); (focus (first | rfl | (simp [Value.oneCell']; done))); clear D; intro w1 D; (try simp only [Act.put]); (try simp only [List.setIfInBounds_toArray]); (try simp only [List.set_cons_succ]); (try simp only [List.set_cons_zero]); (try clear kc kf); have kr := fun o => DS.cell1 D o) | ((with_reducible refine wpList_stD1 D ?_ (.tmp 2) (.tmp 33) ?_ ?_ ?_ ?_ ?_ ?_ ?_ ?_); (focus rfl); (focus rfl); rotate_left; (focus rfl); (focus rfl); (focus (exact si_Ep)); (focus rfl); (focus (first | rfl | (simp [Value.oneCell']; done))); clear D; intro w1 D; (try simp only [Act.put]); (try simp only [List.setIfInBounds_toArray]); (try simp only [List.set_cons_succ]); (try simp only [List.set_cons_zero]); (try clear kc kf); have kr := fun o => DS.cell1 D o))
  all_goals (refine' bodyPost_ret ?_ rfl ?_; rotate_left; (focus (simp [results, Tryz.results20, go_sem, kr]; rfl)); exact ⟨_, _, _, _, _, _, _, _, _, rfl, D.de, by (first | exact BR.nil _ _ | exact D.b0 | exact D.tl.b0 | exact D.tl.tl.b0 | exact D.tl.tl.tl.b0 | exact D.tl.tl.tl.tl.b0 | exact D.tl.tl.tl.tl.tl.b0 | exact D.tl.tl.tl.tl.tl.tl.b0), by (first | exact D.i0 | exact D.tl.i0 | exact D.tl.tl.i0 | exact D.tl.tl.tl.i0 | exact D.tl.tl.tl.tl.i0 | exact D.tl.tl.tl.tl.tl.i0)⟩)
theorem Rd.pbE {a : Option Addr} {n c : Nat} {xs : List Value} {w : World} (r : Rd w a n c xs) : 0 < n → ∀ p, a = some p → p.block < w.heap.size := by
  intro h0 p hp
  obtain ⟨b, off, h1, h2, -⟩ := r.pos h0
  rw [h1] at hp
  cases hp
  exact h2
def PES (w : World) (e : Ending) (w' : World) : Prop := ∃ en a1 n1 c1 es et a7 n7 c7 role a2 n2 c2 kind a4 n4 c4, e = .returned (.tuple #[.agg #[.int .i64 en, .slice a1 n1 c1, .int .i64 es, .int .i64 et, .slice a7 n7 c7], .int .i64 role, .slice a2 n2 c2, .int .i64 kind, .slice a4 n4 c4]) ∧ BR w w' a1 n1 c1 ∧ IR w w' a7 n7 c7 ∧ BR w w' a2 n2 c2 ∧ BR w w' a4 n4 c4 ∧ w.grownBy w' none
set_option maxRecDepth 1000000 in
set_option maxHeartbeats 4000000 in
theorem spec_DrawEpSeal (a : Option Addr) (n c : Nat) (l : List UInt8) (w : World) (r : Rd w a n c (bys l)) (hn : n ≤ 1048576) : Calls Tryz.prog 6 #[.slice a n c] w (PES w) := by
  go_enter Tryz.func6, Tryz.ntmps6
  go_wp2_with (first
    | (go_at_call 19; refine (spec_l1New a n c l w.heap.size _ (r.keep0 (gb_alloc (gb_refl _) _)) hn r.pbE (gb_alloc (gb_refl _) _).size).mono ?_; rintro e w1 ⟨cb, rfl, cu, hc, g⟩; have D := DS.init1 (Bx.new w _ _) cu (gb_alloc (gb_refl w) _) (Nat.le_refl _) hc g; have hcb : w.heap.size ≤ cb := Nat.le_trans (gb_alloc (gb_refl w) _).size hc; clear g hc cu)
    | (go_at_call 20; (with_reducible refine d_PEp D (spec_l9Any _ cb _ D.cur) ?_); clear D; intro w1 en a1 n1 c1 l1 es et a7 n7 c7 l7 D; replace D := D.box #[.int .i64 en, .slice a1 n1 c1, .int .i64 es, .int .i64 et, .slice a7 n7 c7] 28; (try clear kc kf); (try simp only [List.setIfInBounds_toArray, List.set_cons_succ, List.set_cons_zero] at D); (try (have kc := fun o => DS.cell0 D o; have kf := fun o => DS.frz0 D o)))
    | (go_at_call 21; (with_reducible refine d_PKi D (spec_l9Kind _ cb _ D.cur) ?_); clear D; intro w1 kd a4 n4 c4 l4 D; (try clear kc kf); (try simp only [List.setIfInBounds_toArray, List.set_cons_succ, List.set_cons_zero] at D); (try (have kc := fun o => DS.cell0 D o; have kf := fun o => DS.frz0 D o)))
    | (go_at_call 25; (first | (with_reducible refine d_l1Below D ?_) | (with_reducible refine d_l1Below (D.set0 _ _) ?_) | (with_reducible refine d_l1Below (D.box _ _) ?_) | (with_reducible refine d_l1Below ((D.set0 _ _).set0 _ _) ?_) | (with_reducible refine d_l1Below ((D.box _ _).set0 _ _) ?_)); clear D; intro w1 z hz D; (try clear kc kf); (try simp only [List.setIfInBounds_toArray, List.set_cons_succ, List.set_cons_zero] at D); (try (have kc := fun o => DS.cell0 D o; have kf := fun o => DS.frz0 D o))) | (go_at_call 23; (first | (with_reducible refine d_l1Bytes D ?_ ?_) | (with_reducible refine d_l1Bytes (D.set0 _ _) ?_ ?_) | (with_reducible refine d_l1Bytes (D.box _ _) ?_ ?_) | (with_reducible refine d_l1Bytes ((D.set0 _ _).set0 _ _) ?_ ?_) | (with_reducible refine d_l1Bytes ((D.box _ _).set0 _ _) ?_ ?_)); (focus (first | omega | (have h9 := ofL.le hi (b := 256) (by decide); omega))); clear D; intro w1 a n c l hn D; (try clear kc kf); (try simp only [List.setIfInBounds_toArray, List.set_cons_succ, List.set_cons_zero] at D); (try (have kc := fun o => DS.cell0 D o; have kf := fun o => DS.frz0 D o))) | (go_at_call 22; (first | (with_reducible refine d_l1Int D ?_ ?_ ?_ ?_ ?_ ?_) | (with_reducible refine d_l1Int (D.set0 _ _) ?_ ?_ ?_ ?_ ?_ ?_) | (with_reducible refine d_l1Int (D.box _ _) ?_ ?_ ?_ ?_ ?_ ?_) | (with_reducible refine d_l1Int ((D.set0 _ _).set0 _ _) ?_ ?_ ?_ ?_ ?_ ?_) | (with_reducible refine d_l1Int ((D.box _ _).set0 _ _) ?_ ?_ ?_ ?_ ?_ ?_)); (focus (first | rfl | (simp; done))); (focus (exact rfl)); (focus rfl); (focus decide); (focus decide); clear D; intro w1 x hi D; (try clear kc kf); (try simp only [List.setIfInBounds_toArray, List.set_cons_succ, List.set_cons_zero] at D); (try (have kc := fun o => DS.cell0 D o; have kf := fun o => DS.frz0 D o))) | (go_at_call 24; (first | (with_reducible refine d_l1Once D ?_) | (with_reducible refine d_l1Once (D.set0 _ _) ?_) | (with_reducible refine d_l1Once (D.box _ _) ?_) | (with_reducible refine d_l1Once ((D.set0 _ _).set0 _ _) ?_) | (with_reducible refine d_l1Once ((D.box _ _).set0 _ _) ?_)); clear D; intro w1 o D; (try clear kc kf); (try simp only [List.setIfInBounds_toArray, List.set_cons_succ, List.set_cons_zero] at D); (try (have kc := fun o => DS.cell0 D o; have kf := fun o => DS.frz0 D o)); cases o)
    | ((with_reducible refine wpList_stD1 D ?_ (.tmp 2) (.tmp 34) ?_ ?_ ?_ ?_ ?_ ?_ ?_ ?_); (focus rfl); (focus rfl); rotate_left; (focus rfl); (focus rfl); (focus (exact si_Ep)); (focus rfl); (focus (first | rfl | (simp [Value.oneCell']; done))); clear D; intro w1 D; (try simp only [Act.put]); (try simp only [List.setIfInBounds_toArray]); (try simp only [List.set_cons_succ]); (try simp only [List.set_cons_zero]); (try clear kc kf); have kr := fun o => DS.cell1 D o))
  all_goals (refine' bodyPost_ret ?_ rfl ?_; rotate_left; (focus (simp [results, Tryz.results6, go_sem, kr]; rfl)); exact ⟨_, _, _, _, _, _, _, _, _, _, _, _, _, _, _, _, _, rfl, by (first | exact BR.nil _ _ | exact D.b0 | exact D.tl.b0 | exact D.tl.tl.b0 | exact D.tl.tl.tl.b0 | exact D.tl.tl.tl.tl.b0 | exact D.tl.tl.tl.tl.tl.b0 | exact D.tl.tl.tl.tl.tl.tl.b0), by (first | exact D.i0 | exact D.tl.i0 | exact D.tl.tl.i0 | exact D.tl.tl.tl.i0 | exact D.tl.tl.tl.tl.i0 | exact D.tl.tl.tl.tl.tl.i0), by (first | exact BR.nil _ _ | exact D.b0 | exact D.tl.b0 | exact D.tl.tl.b0 | exact D.tl.tl.tl.b0 | exact D.tl.tl.tl.tl.b0 | exact D.tl.tl.tl.tl.tl.b0 | exact D.tl.tl.tl.tl.tl.tl.b0), by (first | exact BR.nil _ _ | exact D.b0 | exact D.tl.b0 | exact D.tl.tl.b0 | exact D.tl.tl.tl.b0 | exact D.tl.tl.tl.tl.b0 | exact D.tl.tl.tl.tl.tl.b0 | exact D.tl.tl.tl.tl.tl.tl.b0), D.gb hcb⟩)
end Go.Proofs.YtpfchphgbhgmmaaGreat

/-
  Contract of the reference's copier of a frame. Conditions: none beside those that each theorem names.
-/
namespace Go.Proofs.YtpfchphgbhgmmaaGreat
open Go.RowKit
theorem cpStep {w w1 w2 : World} {W j : Nat} {v : Value} {T t : TypeId} {cs : Array Value} (G : w.grownBy w1 none) (hW : w.heap.size ≤ W) (P : Bx w1 W T cs) (g : ((w1.setCell ⟨W, j, none⟩ v).alloc (.cells #[] t)).grownBy w2 (some w1.heap.size)) :
    w.grownBy w2 none ∧ Bx w2 W T (cs.setIfInBounds j v) ∧ gbI W (W + 1) w1 w2 ∧ w1.heap.size < w2.heap.size := by
  have h1 := G.size
  have h2 := P.lt
  have h3 : w1.heap.size < w2.heap.size := by have := g.size; simp at this; omega
  refine ⟨gb_transr (gb_alloc (gb_set G (.inl hW) v) _) g (fun q e => .inl (by cases e; exact h1)), ?_, ?_, h3⟩
  · exact Bx.keepRow ((P.set j v).old _) g (by intro e; cases e; exact absurd h2 (Nat.lt_irrefl _))
  · refine ⟨g.os, g.tape, g.output, Nat.le_of_lt h3, fun k hk hn => ?_⟩
    rw [g.block k (by simp; omega) (by intro e; cases e; exact absurd hk (Nat.lt_irrefl _)), Below.heap_alloc _ _ k (by simpa using hk), Below.heap_setCell _ _ _ _ (by simp only; omega)]
theorem cpFirst {w w1 w2 : World} {W B : Nat} {T t : TypeId} {cs : Array Value} (hB : w1.heap.size = B) (G : w.grownBy w1 none) (P : Bx w1 W T cs) (g : (w1.alloc (.cells #[] t)).grownBy w2 (some B)) :
    w.grownBy w2 none ∧ Bx w2 W T cs ∧ gbI W (W + 1) w1 w2 ∧ w1.heap.size < w2.heap.size := by
  subst hB
  have h1 := G.size
  have h2 := P.lt
  have h3 : w1.heap.size < w2.heap.size := by have := g.size; simp at this; omega
  refine ⟨gb_transr (gb_alloc G _) g (fun q e => .inl (by cases e; exact h1)), Bx.keepRow (P.old _) g (by intro e; cases e; exact absurd h2 (Nat.lt_irrefl _)), ?_, h3⟩
  refine ⟨g.os, g.tape, g.output, Nat.le_of_lt h3, fun k hk hn => ?_⟩
  rw [g.block k (by simp; omega) (by intro e; cases e; exact absurd hk (Nat.lt_irrefl _)), Below.heap_alloc _ _ k hk]
set_option maxRecDepth 1000000 in
set_option maxHeartbeats 4000000 in
theorem spec_l7Copy (v : Value) (f : FrameM) (w : World) (h : FrameR w v f) (hn : f.tot ≤ 1048576) :
    Calls Tryz.prog 68 #[v] w fun e w' => ∃ v', e = .returned v' ∧ FrameO w.heap.size w'.heap.size w' v' f ∧ w.grownBy w' none := by
  obtain ⟨a1, n1, c1, a2, n2, c2, a3, n3, c3, a4, n4, c4, a5, n5, c5, a6, n6, c6, rfl, r1, r2, r3, r4, r5, r6⟩ := h
  obtain ⟨kind, id, l1, l2, tick, l3, l4, epoch, seq, l5, l6⟩ := f
  simp only at r1 r2 r3 r4 r5 r6
  have t0 : l1.length + l2.length + l3.length + l4.length + l5.length + l6.length ≤ 1048576 := hn
  have g0 := gb_alloc (gb_alloc (gb_refl w) (.cells #[.int .i64 kind, .int .i64 id, .slice a1 n1 c1, .slice a2 n2 c2, .int .i64 tick, .slice a3 n3 c3, .slice a4 n4 c4, .int .i64 epoch, .int .i64 seq, .slice a5 n5 c5, .slice a6 n6 c6] 32)) (.cells #[.int .i64 0, .int .i64 0, .slice none 0 0, .slice none 0 0, .int .i64 0, .slice none 0 0, .slice none 0 0, .int .i64 0, .int .i64 0, .slice none 0 0, .slice none 0 0] 32)
  have bb := bx2 w #[.int .i64 kind, .int .i64 id, .slice a1 n1 c1, .slice a2 n2 c2, .int .i64 tick, .slice a3 n3 c3, .slice a4 n4 c4, .int .i64 epoch, .int .i64 seq, .slice a5 n5 c5, .slice a6 n6 c6] #[.int .i64 0, .int .i64 0, .slice none 0 0, .slice none 0 0, .int .i64 0, .slice none 0 0, .slice none 0 0, .int .i64 0, .int .i64 0, .slice none 0 0, .slice none 0 0] 32 32
  have T0 := Lib.hid t0
  have z0 : Hid (((w.alloc (.cells #[.int .i64 kind, .int .i64 id, .slice a1 n1 c1, .slice a2 n2 c2, .int .i64 tick, .slice a3 n3 c3, .slice a4 n4 c4, .int .i64 epoch, .int .i64 seq, .slice a5 n5 c5, .slice a6 n6 c6] 32)).alloc (.cells #[.int .i64 0, .int .i64 0, .slice none 0 0, .slice none 0 0, .int .i64 0, .slice none 0 0, .slice none 0 0, .int .i64 0, .int .i64 0, .slice none 0 0, .slice none 0 0] 32)).heap.size = w.heap.size + 2) := by simp [Hid]
  have P0 := bb.1
  have X0 := bb.2
  have cc := fun o => P0.cell o
  have ff := fun o => P0.frozen o
  have lw := P0.lt
  clear hn t0
  go_enter Tryz.func68, Tryz.ntmps68
  go_wp2_with (first
    | (at_builtin; refine wpList_appB rfl (.tmp 3) (.tmp 5) rfl (w.heap.size + 1 + 1) _ _ _ [] rfl (new_own' _ _ (w.heap.size + 1 + 1) (by simp)) _ _ _ l1 rfl (r1.keep0 (gb_alloc g0 _)) (by have := T0.out; rw [List.length_nil]; omega) (by first | (simp; done) | (simp; omega)) ?_; intro b1 m1 d1 w1 o1 G1; obtain ⟨g1, p1, h1, z1⟩ := cpFirst (by simp) g0 P0 G1; replace p1 : Bx w1 w.heap.size 32 #[.int .i64 kind, .int .i64 id, .slice a1 n1 c1, .slice a2 n2 c2, .int .i64 tick, .slice a3 n3 c3, .slice a4 n4 c4, .int .i64 epoch, .int .i64 seq, .slice a5 n5 c5, .slice a6 n6 c6] := p1; rw [List.nil_append] at o1; have e1 := o1.blen; have i1 := r1.blen; obtain rfl : n1 = m1 := i1.symm.trans e1; have u1 := fun p hp => (o1.lt p hp).2; clear cc ff lw e1 i1; have cc := fun o => p1.cell o; have ff := fun o => p1.frozen o; have lw := p1.lt; have x1 := X0.keepI h1 (.inr (Nat.le_refl _)))
    | (at_builtin; refine wpList_appB rfl (.tmp 8) (.tmp 10) rfl w1.heap.size _ _ _ [] rfl (new_own' _ _ w1.heap.size (by simp)) _ _ _ l2 rfl (r2.keep0 (gb_alloc (gb_set g1 (.inl (Nat.le_refl _)) _) _)) (by have := T0.out; rw [List.length_nil]; omega) (by first | (simp; done) | (simp; omega)) ?_; intro b2 m2 d2 w2 o2 G2; obtain ⟨g2, p2, h2, z2⟩ := cpStep g1 (Nat.le_refl _) p1 G2; replace p2 : Bx w2 w.heap.size 32 #[.int .i64 kind, .int .i64 id, .slice b1 n1 d1, .slice a2 n2 c2, .int .i64 tick, .slice a3 n3 c3, .slice a4 n4 c4, .int .i64 epoch, .int .i64 seq, .slice a5 n5 c5, .slice a6 n6 c6] := p2; rw [List.nil_append] at o2; have e2 := o2.blen; have i2 := r2.blen; obtain rfl : n2 = m2 := i2.symm.trans e2; have u2 := fun p hp => (o2.lt p hp).2; clear cc ff lw e2 i2; have cc := fun o => p2.cell o; have ff := fun o => p2.frozen o; have lw := p2.lt; have x2 := x1.keepI h2 (.inr (Nat.le_refl _)))
    | (at_builtin; refine wpList_appB rfl (.tmp 13) (.tmp 15) rfl w2.heap.size _ _ _ [] rfl (new_own' _ _ w2.heap.size (by simp)) _ _ _ l3 rfl (r3.keep0 (gb_alloc (gb_set g2 (.inl (Nat.le_refl _)) _) _)) (by have := T0.out; rw [List.length_nil]; omega) (by first | (simp; done) | (simp; omega)) ?_; intro b3 m3 d3 w3 o3 G3; obtain ⟨g3, p3, h3, z3⟩ := cpStep g2 (Nat.le_refl _) p2 G3; replace p3 : Bx w3 w.heap.size 32 #[.int .i64 kind, .int .i64 id, .slice b1 n1 d1, .slice b2 n2 d2, .int .i64 tick, .slice a3 n3 c3, .slice a4 n4 c4, .int .i64 epoch, .int .i64 seq, .slice a5 n5 c5, .slice a6 n6 c6] := p3; rw [List.nil_append] at o3; have e3 := o3.blen; have i3 := r3.blen; obtain rfl : n3 = m3 := i3.symm.trans e3; have u3 := fun p hp => (o3.lt p hp).2; clear cc ff lw e3 i3; have cc := fun o => p3.cell o; have ff := fun o => p3.frozen o; have lw := p3.lt; have x3 := x2.keepI h3 (.inr (Nat.le_refl _)))
    | (at_builtin; refine wpList_appB rfl (.tmp 18) (.tmp 20) rfl w3.heap.size _ _ _ [] rfl (new_own' _ _ w3.heap.size (by simp)) _ _ _ l4 rfl (r4.keep0 (gb_alloc (gb_set g3 (.inl (Nat.le_refl _)) _) _)) (by have := T0.out; rw [List.length_nil]; omega) (by first | (simp; done) | (simp; omega)) ?_; intro b4 m4 d4 w4 o4 G4; obtain ⟨g4, p4, h4, z4⟩ := cpStep g3 (Nat.le_refl _) p3 G4; replace p4 : Bx w4 w.heap.size 32 #[.int .i64 kind, .int .i64 id, .slice b1 n1 d1, .slice b2 n2 d2, .int .i64 tick, .slice b3 n3 d3, .slice a4 n4 c4, .int .i64 epoch, .int .i64 seq, .slice a5 n5 c5, .slice a6 n6 c6] := p4; rw [List.nil_append] at o4; have e4 := o4.blen; have i4 := r4.blen; obtain rfl : n4 = m4 := i4.symm.trans e4; have u4 := fun p hp => (o4.lt p hp).2; clear cc ff lw e4 i4; have cc := fun o => p4.cell o; have ff := fun o => p4.frozen o; have lw := p4.lt; have x4 := x3.keepI h4 (.inr (Nat.le_refl _)))
    | (at_builtin; refine wpList_appB rfl (.tmp 23) (.tmp 25) rfl w4.heap.size _ _ _ [] rfl (new_own' _ _ w4.heap.size (by simp)) _ _ _ l5 rfl (r5.keep0 (gb_alloc (gb_set g4 (.inl (Nat.le_refl _)) _) _)) (by have := T0.out; rw [List.length_nil]; omega) (by first | (simp; done) | (simp; omega)) ?_; intro b5 m5 d5 w5 o5 G5; obtain ⟨g5, p5, h5, z5⟩ := cpStep g4 (Nat.le_refl _) p4 G5; replace p5 : Bx w5 w.heap.size 32 #[.int .i64 kind, .int .i64 id, .slice b1 n1 d1, .slice b2 n2 d2, .int .i64 tick, .slice b3 n3 d3, .slice b4 n4 d4, .int .i64 epoch, .int .i64 seq, .slice a5 n5 c5, .slice a6 n6 c6] := p5; rw [List.nil_append] at o5; have e5 := o5.blen; have i5 := r5.blen; obtain rfl : n5 = m5 := i5.symm.trans e5; have u5 := fun p hp => (o5.lt p hp).2; clear cc ff lw e5 i5; have cc := fun o => p5.cell o; have ff := fun o => p5.frozen o; have lw := p5.lt; have x5 := x4.keepI h5 (.inr (Nat.le_refl _)))
    | (at_builtin; refine wpList_appB rfl (.tmp 28) (.tmp 30) rfl w5.heap.size _ _ _ [] rfl (new_own' _ _ w5.heap.size (by simp)) _ _ _ l6 rfl (r6.keep0 (gb_alloc (gb_set g5 (.inl (Nat.le_refl _)) _) _)) (by have := T0.out; rw [List.length_nil]; omega) (by first | (simp; done) | (simp; omega)) ?_; intro b6 m6 d6 w6 o6 G6; obtain ⟨g6, p6, h6, z6⟩ := cpStep g5 (Nat.le_refl _) p5 G6; replace p6 : Bx w6 w.heap.size 32 #[.int .i64 kind, .int .i64 id, .slice b1 n1 d1, .slice b2 n2 d2, .int .i64 tick, .slice b3 n3 d3, .slice b4 n4 d4, .int .i64 epoch, .int .i64 seq, .slice b5 n5 d5, .slice a6 n6 c6] := p6; rw [List.nil_append] at o6; have e6 := o6.blen; have i6 := r6.blen; obtain rfl : n6 = m6 := i6.symm.trans e6; have u6 := fun p hp => (o6.lt p hp).2; clear cc ff lw e6 i6; have cc := fun o => p6.cell o; have ff := fun o => p6.frozen o; have lw := p6.lt; have x6 := x5.keepI h6 (.inr (Nat.le_refl _)); have cx := fun o => x6.cell o; have fx := fun o => x6.frozen o; have lx := x6.lt))
  have ez := g6.size
  have v1 := x1.lt
  have v2 := x2.lt
  have v3 := x3.lt
  have v4 := x4.lt
  have v5 := x5.lt
  have v6 := x6.lt
  have O1 := o1.keepI (((((h2).trans h3).trans h4).trans h5).trans h6) (fun p hp => .inr (by have := (o1.lt p hp).1; have := p1.lt; have := p2.lt; have := p3.lt; have := p4.lt; have := p5.lt; omega))
  have O2 := o2.keepI ((((h3).trans h4).trans h5).trans h6) (fun p hp => .inr (by have := (o2.lt p hp).1; have := p1.lt; have := p2.lt; have := p3.lt; have := p4.lt; have := p5.lt; omega))
  have O3 := o3.keepI (((h4).trans h5).trans h6) (fun p hp => .inr (by have := (o3.lt p hp).1; have := p1.lt; have := p2.lt; have := p3.lt; have := p4.lt; have := p5.lt; omega))
  have O4 := o4.keepI ((h5).trans h6) (fun p hp => .inr (by have := (o4.lt p hp).1; have := p1.lt; have := p2.lt; have := p3.lt; have := p4.lt; have := p5.lt; omega))
  have O5 := o5.keepI (h6) (fun p hp => .inr (by have := (o5.lt p hp).1; have := p1.lt; have := p2.lt; have := p3.lt; have := p4.lt; have := p5.lt; omega))
  have O6 := o6
  refine bodyPost_ret (v := .agg #[.int .i64 kind, .int .i64 id, .slice b1 n1 d1, .slice b2 n2 d2, .int .i64 tick, .slice b3 n3 d3, .slice b4 n4 d4, .int .i64 epoch, .int .i64 seq, .slice b5 n5 d5, .slice b6 n6 d6]) (by simp [results, Tryz.results68, go_sem, cx]) rfl ⟨_, rfl, ⟨_, _, _, _, _, _, _, _, _, _, _, _, _, _, _, _, _, _, rfl, ⟨?_, ?_⟩, ⟨?_, ?_⟩, ⟨?_, ?_⟩, ⟨?_, ?_⟩, ⟨?_, ?_⟩, ⟨?_, ?_⟩, ?_, ?_, ?_, ?_, ?_, ?_, ?_, ?_, ?_, ?_, ?_, ?_, ?_, ?_, ?_⟩, ?_⟩
  · show Ow _ _ _ _ _ _ (bys l1)
    exact Ow.mono (B := w.heap.size + 1 + 1) (by repeat (first | with_reducible exact O1 | (refine Ow.keepSet ?_ ?_ _; rotate_left; focus (first | (simp; done) | (simp; omega))))) (by omega)
  · intro p hp; have := u1 p hp; simp; omega
  · show Ow _ _ _ _ _ _ (bys l2)
    exact Ow.mono (B := w1.heap.size) (by repeat (first | with_reducible exact O2 | (refine Ow.keepSet ?_ ?_ _; rotate_left; focus (first | (simp; done) | (simp; omega))))) (by omega)
  · intro p hp; have := u2 p hp; simp; omega
  · show Ow _ _ _ _ _ _ (bys l3)
    exact Ow.mono (B := w2.heap.size) (by repeat (first | with_reducible exact O3 | (refine Ow.keepSet ?_ ?_ _; rotate_left; focus (first | (simp; done) | (simp; omega))))) (by omega)
  · intro p hp; have := u3 p hp; simp; omega
  · show Ow _ _ _ _ _ _ (bys l4)
    exact Ow.mono (B := w3.heap.size) (by repeat (first | with_reducible exact O4 | (refine Ow.keepSet ?_ ?_ _; rotate_left; focus (first | (simp; done) | (simp; omega))))) (by omega)
  · intro p hp; have := u4 p hp; simp; omega
  · show Ow _ _ _ _ _ _ (bys l5)
    exact Ow.mono (B := w4.heap.size) (by repeat (first | with_reducible exact O5 | (refine Ow.keepSet ?_ ?_ _; rotate_left; focus (first | (simp; done) | (simp; omega))))) (by omega)
  · intro p hp; have := u5 p hp; simp; omega
  · show Ow _ _ _ _ _ _ (bys l6)
    exact Ow.mono (B := w5.heap.size) (by repeat (first | with_reducible exact O6 | (refine Ow.keepSet ?_ ?_ _; rotate_left; focus (first | (simp; done) | (simp; omega))))) (by omega)
  · intro p hp; have := u6 p hp; simp; omega
  · intro p q hp hq; have := u1 p hp; have := (o2.lt q hq).1; omega
  · intro p q hp hq; have := u1 p hp; have := (o3.lt q hq).1; omega
  · intro p q hp hq; have := u1 p hp; have := (o4.lt q hq).1; omega
  · intro p q hp hq; have := u1 p hp; have := (o5.lt q hq).1; omega
  · intro p q hp hq; have := u1 p hp; have := (o6.lt q hq).1; omega
  · intro p q hp hq; have := u2 p hp; have := (o3.lt q hq).1; omega
  · intro p q hp hq; have := u2 p hp; have := (o4.lt q hq).1; omega
  · intro p q hp hq; have := u2 p hp; have := (o5.lt q hq).1; omega
  · intro p q hp hq; have := u2 p hp; have := (o6.lt q hq).1; omega
  · intro p q hp hq; have := u3 p hp; have := (o4.lt q hq).1; omega
  · intro p q hp hq; have := u3 p hp; have := (o5.lt q hq).1; omega
  · intro p q hp hq; have := u3 p hp; have := (o6.lt q hq).1; omega
  · intro p q hp hq; have := u4 p hp; have := (o5.lt q hq).1; omega
  · intro p q hp hq; have := u4 p hp; have := (o6.lt q hq).1; omega
  · intro p q hp hq; have := u5 p hp; have := (o6.lt q hq).1; omega
  · repeat (first | with_reducible exact g6 | (refine gb_set ?_ (.inl ?_) _; rotate_left; focus (first | (simp; done) | (simp; omega))))
end Go.Proofs.YtpfchphgbhgmmaaGreat

/-
  Contracts of the functions that open a sealed frame. Conditions: none beside those that each theorem names.
-/
namespace Go.Proofs.YtpfchphgbhgmmaaGreat
open Go.RowKit
def unsealB (l : List UInt8) (x : Int) (f : FrameM) : Bool := ((l.length : Int) == 32) && (!(((tagInM x f).length : Int) == 0) && sameT f.tag (tagM l (tagInM x f)))
def unsealM (l : List UInt8) (x : Int) (f : FrameM) : List UInt8 := if unsealB l x f = true then mixM l (headM x f.sn f.epoch f.seq) f.body else []
theorem tagIn_ne {x : Int} {f : FrameM} (h : tagInM x f ≠ []) : roleB x = true ∧ sealedB f.kind = true ∧ frOk f = true := by
  unfold tagInM at h
  split at h
  · rename_i h2
    simp only [Bool.and_eq_true] at h2
    exact ⟨h2.1.1, h2.1.2, h2.2⟩
  · exact absurd rfl h
theorem unseal_len {l : List UInt8} {x : Int} {f : FrameM} (h : unsealB l x f = true) : l.length = 32 ∧ f.body.length ≤ 40 := by
  simp only [unsealB, Bool.and_eq_true, Bool.not_eq_true', beq_eq_false_iff_ne, beq_iff_eq] at h
  obtain ⟨h1, h2, -⟩ := h
  have h3 : tagInM x f ≠ [] := fun e => h2 (by rw [e]; rfl)
  obtain ⟨-, h4, h5⟩ := tagIn_ne h3
  exact ⟨by omega, (frOk_S h5 h4).2.2.1⟩
theorem unsealM_le (l : List UInt8) (x : Int) (f : FrameM) : (unsealM l x f).length ≤ 40 := by
  unfold unsealM
  split
  · rename_i h
    obtain ⟨h1, h2⟩ := unseal_len h
    rw [mixM_len (by omega) (Nat.le_trans (headM_len _ _ _ _) (by decide)) (by omega)]
    exact h2
  · simp
set_option maxRecDepth 1000000 in
set_option maxHeartbeats 4000000 in
theorem impl_Unseal (a : Option Addr) (n c : Nat) (l : List UInt8) (x : Int) (v : Value) (f : FrameM) (w : World) (r : Rd w a n c (bys l)) (h : FrameR w v f) :
    Calls Tryz.prog 39 #[.slice a n c, .int .i64 x, v] w fun e w' => ∃ a n c, e = .returned (.tuple #[.slice a n c, .bool (unsealB l x f)]) ∧ Ow w.heap.size w' 5 a n c (bys (unsealM l x f)) ∧ w.grownBy w' none := by
  have hR := h
  obtain ⟨a1, n1, c1, a2, n2, c2, a3, n3, c3, a4, n4, c4, a5, n5, c5, a6, n6, c6, rfl, r1, r2, r3, r4, r5, r6⟩ := h
  obtain ⟨kind, id, l1, l2, tick, l3, l4, epoch, seq, l5, l6⟩ := f
  simp only at r1 r2 r3 r4 r5 r6 hR
  obtain ⟨I, hI⟩ : ∃ I, I = tagInM x ⟨kind, id, l1, l2, tick, l3, l4, epoch, seq, l5, l6⟩ := ⟨_, rfl⟩
  have IL : I.length ≤ 65 := by rw [hI]; exact tagInM_len _ _
  have L := Lib.hid r.blen
  have G := gb_alloc (gb_refl w) (.cells #[.int .i64 kind, .int .i64 id, .slice a1 n1 c1, .slice a2 n2 c2, .int .i64 tick, .slice a3 n3 c3, .slice a4 n4 c4, .int .i64 epoch, .int .i64 seq, .slice a5 n5 c5, .slice a6 n6 c6] 32)
  have b0 := bx1 w #[.int .i64 kind, .int .i64 id, .slice a1 n1 c1, .slice a2 n2 c2, .int .i64 tick, .slice a3 n3 c3, .slice a4 n4 c4, .int .i64 epoch, .int .i64 seq, .slice a5 n5 c5, .slice a6 n6 c6] 32
  have C := Lib.hid (impl_TagInput x _ _ _ (hR.keep0 G))
  rw [← hI] at C
  have E := Lib.hid (show unsealB l x ⟨kind, id, l1, l2, tick, l3, l4, epoch, seq, l5, l6⟩ = (((n : Int) == 32) && (!((I.length : Int) == 0) && sameT l6 (tagM l I))) by rw [unsealB, ← hI, L.out])
  clear hR hI
  cases h1 : ((n : Int) == 32)
  · have E2 : unsealB l x ⟨kind, id, l1, l2, tick, l3, l4, epoch, seq, l5, l6⟩ = false := by rw [E.out, h1]; rfl
    rw [unsealM, E2]
    have h2 : ((n : Int) != 32) = true := by rw [bne, h1]; rfl
    clear r r1 r2 r3 r4 r5 r6 E2
    go_enter Tryz.func39, Tryz.ntmps39
    go_wp2_with (go_at_call 37; refine C.out.mono ?_; rintro e w1 ⟨b1, m1, d1, rfl, o1, g1⟩; have e1 := o1.blen; have q1 := b0.keep0 g1; have cc := fun o => q1.cell o; skip)
    go_quiet (fail)
    go_wp2
    go_ret2
    first | exact ⟨_, _, _, rfl, Ow.nil _ _ _, gb_drewN (gb_trans G g1) _⟩ | exact ⟨_, _, _, rfl, (new_own _ _).mono (gb_trans G g1).size, gb_alloc (gb_drewN (gb_trans G g1) _) _⟩
  obtain rfl : n = 32 := by simp at h1; omega
  clear h1
  by_cases hz : I.length = 0
  · have E2 : unsealB l x ⟨kind, id, l1, l2, tick, l3, l4, epoch, seq, l5, l6⟩ = false := by rw [E.out, hz]; rfl
    rw [unsealM, E2]
    obtain rfl := List.eq_nil_of_length_eq_zero hz
    clear r r1 r2 r3 r4 r5 r6 E2 E hz IL
    go_enter Tryz.func39, Tryz.ntmps39
    go_wp2_with (go_at_call 37; refine C.out.mono ?_; rintro e w1 ⟨b1, m1, d1, rfl, o1, g1⟩; have e1 := o1.blen; have q1 := b0.keep0 g1; have cc := fun o => q1.cell o; skip)
    obtain rfl : m1 = 0 := e1.symm
    go_quiet (fail)
    go_wp2
    go_ret2
    first | exact ⟨_, _, _, rfl, Ow.nil _ _ _, gb_drewN (gb_trans G g1) _⟩ | exact ⟨_, _, _, rfl, (new_own _ _).mono (gb_trans G g1).size, gb_alloc (gb_drewN (gb_trans G g1) _) _⟩
  have hz2 : ((I.length : Int) == 0) = false := by rw [beq_eq_false_iff_ne]; omega
  cases hs : sameT l6 (tagM l I)
  · have E2 : unsealB l x ⟨kind, id, l1, l2, tick, l3, l4, epoch, seq, l5, l6⟩ = false := by rw [E.out, hz2, hs]; rfl
    rw [unsealM, E2]
    clear r1 r2 r3 r4 r5 E2 E hz2
    go_enter Tryz.func39, Tryz.ntmps39
    go_wp2_with (go_at_call 37; refine C.out.mono ?_; rintro e w1 ⟨b1, m1, d1, rfl, o1, g1⟩; have e1 := o1.blen; have q1 := b0.keep0 g1; have cc := fun o => q1.cell o; skip)
    have hm : ((m1 : Int) == 0) = false := by rw [beq_eq_false_iff_ne]; omega
    have KX : Hid (∀ w', w1.grownBy w' none → (w'.cell? ⟨w.heap.size, 0, none⟩ = some (.int .i64 kind) ∧ w'.cell? ⟨w.heap.size, 1, none⟩ = some (.int .i64 id) ∧ w'.cell? ⟨w.heap.size, 2, none⟩ = some (.slice a1 n1 c1) ∧ w'.cell? ⟨w.heap.size, 3, none⟩ = some (.slice a2 n2 c2) ∧ w'.cell? ⟨w.heap.size, 4, none⟩ = some (.int .i64 tick) ∧ w'.cell? ⟨w.heap.size, 5, none⟩ = some (.slice a3 n3 c3) ∧ w'.cell? ⟨w.heap.size, 6, none⟩ = some (.slice a4 n4 c4) ∧ w'.cell? ⟨w.heap.size, 7, none⟩ = some (.int .i64 epoch) ∧ w'.cell? ⟨w.heap.size, 8, none⟩ = some (.int .i64 seq) ∧ w'.cell? ⟨w.heap.size, 9, none⟩ = some (.slice a5 n5 c5) ∧ w'.cell? ⟨w.heap.size, 10, none⟩ = some (.slice a6 n6 c6) ∧ w1.grownBy w' none)) := fun w' hg => ⟨(q1.keep0 hg).cell 0, (q1.keep0 hg).cell 1, (q1.keep0 hg).cell 2, (q1.keep0 hg).cell 3, (q1.keep0 hg).cell 4, (q1.keep0 hg).cell 5, (q1.keep0 hg).cell 6, (q1.keep0 hg).cell 7, (q1.keep0 hg).cell 8, (q1.keep0 hg).cell 9, (q1.keep0 hg).cell 10, hg⟩
    clear cc q1
    go_region_held3 (fun w' => w'.cell? ⟨w.heap.size, 0, none⟩ = some (.int .i64 kind) ∧ w'.cell? ⟨w.heap.size, 1, none⟩ = some (.int .i64 id) ∧ w'.cell? ⟨w.heap.size, 2, none⟩ = some (.slice a1 n1 c1) ∧ w'.cell? ⟨w.heap.size, 3, none⟩ = some (.slice a2 n2 c2) ∧ w'.cell? ⟨w.heap.size, 4, none⟩ = some (.int .i64 tick) ∧ w'.cell? ⟨w.heap.size, 5, none⟩ = some (.slice a3 n3 c3) ∧ w'.cell? ⟨w.heap.size, 6, none⟩ = some (.slice a4 n4 c4) ∧ w'.cell? ⟨w.heap.size, 7, none⟩ = some (.int .i64 epoch) ∧ w'.cell? ⟨w.heap.size, 8, none⟩ = some (.int .i64 seq) ∧ w'.cell? ⟨w.heap.size, 9, none⟩ = some (.slice a5 n5 c5) ∧ w'.cell? ⟨w.heap.size, 10, none⟩ = some (.slice a6 n6 c6) ∧ w1.grownBy w' none)
      ((refine KX.out _ ?_; (repeat (first | with_reducible exact gb_refl _ | with_reducible refine gb_alloc ?_ _ | with_reducible refine gb_drewN ?_ _ | with_reducible refine gb_drew ?_ | with_reducible refine gb_trans ?_ g2 | with_reducible refine gb_trans ?_ g3))))
      (first
        | (go_at_call 57; refine (impl_Tag a 32 c l b1 m1 d1 I _ (r.keep0 (by (repeat (first | with_reducible exact gb_refl _ | with_reducible exact G | with_reducible refine gb_alloc ?_ _ | with_reducible refine gb_drewN ?_ _ | with_reducible refine gb_drew ?_ | with_reducible refine gb_trans ?_ g1)))) (o1.rd.keep0 (by (repeat (first | with_reducible exact gb_refl _ | with_reducible refine gb_alloc ?_ _ | with_reducible refine gb_drewN ?_ _ | with_reducible refine gb_drew ?_)))) (by omega) (by omega)).mono ?_; rintro e w2 ⟨b2, m2, d2, rfl, o2, g2⟩; skip)
        | (go_at_call 66; refine (impl_SameTag a6 n6 c6 l6 b2 m2 d2 _ _ (r6.keep0 (by (repeat (first | with_reducible exact gb_refl _ | with_reducible exact G | with_reducible refine gb_alloc ?_ _ | with_reducible refine gb_drewN ?_ _ | with_reducible refine gb_drew ?_ | with_reducible refine gb_trans ?_ g1 | with_reducible refine gb_trans ?_ g2)))) (o2.rd.keep0 (by (repeat (first | with_reducible exact gb_refl _ | with_reducible refine gb_alloc ?_ _ | with_reducible refine gb_drewN ?_ _ | with_reducible refine gb_drew ?_))))).mono ?_; rw [hs]; rintro e w3 ⟨rfl, g3⟩; skip)
        | fail)
    go_wp2
    go_ret2
    first | exact ⟨_, _, _, rfl, Ow.nil _ _ _, by (repeat (first | with_reducible exact gb_refl _ | with_reducible exact G | with_reducible refine gb_alloc ?_ _ | with_reducible refine gb_drewN ?_ _ | with_reducible refine gb_drew ?_ | with_reducible refine gb_trans ?_ g1 | with_reducible refine gb_trans ?_ g2 | with_reducible refine gb_trans ?_ g3))⟩ | exact ⟨_, _, _, rfl, (new_own _ _).mono (World.grownBy.size (row := none) (by (repeat (first | with_reducible exact gb_refl _ | with_reducible exact G | with_reducible refine gb_alloc ?_ _ | with_reducible refine gb_drewN ?_ _ | with_reducible refine gb_drew ?_ | with_reducible refine gb_trans ?_ g1 | with_reducible refine gb_trans ?_ g2 | with_reducible refine gb_trans ?_ g3)))), by (repeat (first | with_reducible exact gb_refl _ | with_reducible exact G | with_reducible refine gb_alloc ?_ _ | with_reducible refine gb_drewN ?_ _ | with_reducible refine gb_drew ?_ | with_reducible refine gb_trans ?_ g1 | with_reducible refine gb_trans ?_ g2 | with_reducible refine gb_trans ?_ g3))⟩
  · have E2 : unsealB l x ⟨kind, id, l1, l2, tick, l3, l4, epoch, seq, l5, l6⟩ = true := by rw [E.out, hz2, hs]; rfl
    have bl := (unseal_len E2).2
    simp only at bl
    have hl := headM_len x l2 epoch seq
    have e5 := r5.blen
    rw [unsealM, E2, if_pos rfl]
    clear r1 r3 r4 E2 E hz2
    go_enter Tryz.func39, Tryz.ntmps39
    go_wp2_with (go_at_call 37; refine C.out.mono ?_; rintro e w1 ⟨b1, m1, d1, rfl, o1, g1⟩; have e1 := o1.blen; have q1 := b0.keep0 g1; have cc := fun o => q1.cell o; skip)
    have hm : ((m1 : Int) == 0) = false := by rw [beq_eq_false_iff_ne]; omega
    have KX : Hid (∀ w', w1.grownBy w' none → (w'.cell? ⟨w.heap.size, 0, none⟩ = some (.int .i64 kind) ∧ w'.cell? ⟨w.heap.size, 1, none⟩ = some (.int .i64 id) ∧ w'.cell? ⟨w.heap.size, 2, none⟩ = some (.slice a1 n1 c1) ∧ w'.cell? ⟨w.heap.size, 3, none⟩ = some (.slice a2 n2 c2) ∧ w'.cell? ⟨w.heap.size, 4, none⟩ = some (.int .i64 tick) ∧ w'.cell? ⟨w.heap.size, 5, none⟩ = some (.slice a3 n3 c3) ∧ w'.cell? ⟨w.heap.size, 6, none⟩ = some (.slice a4 n4 c4) ∧ w'.cell? ⟨w.heap.size, 7, none⟩ = some (.int .i64 epoch) ∧ w'.cell? ⟨w.heap.size, 8, none⟩ = some (.int .i64 seq) ∧ w'.cell? ⟨w.heap.size, 9, none⟩ = some (.slice a5 n5 c5) ∧ w'.cell? ⟨w.heap.size, 10, none⟩ = some (.slice a6 n6 c6) ∧ w1.grownBy w' none)) := fun w' hg => ⟨(q1.keep0 hg).cell 0, (q1.keep0 hg).cell 1, (q1.keep0 hg).cell 2, (q1.keep0 hg).cell 3, (q1.keep0 hg).cell 4, (q1.keep0 hg).cell 5, (q1.keep0 hg).cell 6, (q1.keep0 hg).cell 7, (q1.keep0 hg).cell 8, (q1.keep0 hg).cell 9, (q1.keep0 hg).cell 10, hg⟩
    clear cc q1
    go_region_held3 (fun w' => w'.cell? ⟨w.heap.size, 0, none⟩ = some (.int .i64 kind) ∧ w'.cell? ⟨w.heap.size, 1, none⟩ = some (.int .i64 id) ∧ w'.cell? ⟨w.heap.size, 2, none⟩ = some (.slice a1 n1 c1) ∧ w'.cell? ⟨w.heap.size, 3, none⟩ = some (.slice a2 n2 c2) ∧ w'.cell? ⟨w.heap.size, 4, none⟩ = some (.int .i64 tick) ∧ w'.cell? ⟨w.heap.size, 5, none⟩ = some (.slice a3 n3 c3) ∧ w'.cell? ⟨w.heap.size, 6, none⟩ = some (.slice a4 n4 c4) ∧ w'.cell? ⟨w.heap.size, 7, none⟩ = some (.int .i64 epoch) ∧ w'.cell? ⟨w.heap.size, 8, none⟩ = some (.int .i64 seq) ∧ w'.cell? ⟨w.heap.size, 9, none⟩ = some (.slice a5 n5 c5) ∧ w'.cell? ⟨w.heap.size, 10, none⟩ = some (.slice a6 n6 c6) ∧ w1.grownBy w' none)
      ((refine KX.out _ ?_; (repeat (first | with_reducible exact gb_refl _ | with_reducible refine gb_alloc ?_ _ | with_reducible refine gb_drewN ?_ _ | with_reducible refine gb_drew ?_ | with_reducible refine gb_trans ?_ g2 | with_reducible refine gb_trans ?_ g3))))
      (first
        | (go_at_call 57; refine (impl_Tag a 32 c l b1 m1 d1 I _ (r.keep0 (by (repeat (first | with_reducible exact gb_refl _ | with_reducible exact G | with_reducible refine gb_alloc ?_ _ | with_reducible refine gb_drewN ?_ _ | with_reducible refine gb_drew ?_ | with_reducible refine gb_trans ?_ g1)))) (o1.rd.keep0 (by (repeat (first | with_reducible exact gb_refl _ | with_reducible refine gb_alloc ?_ _ | with_reducible refine gb_drewN ?_ _ | with_reducible refine gb_drew ?_)))) (by omega) (by omega)).mono ?_; rintro e w2 ⟨b2, m2, d2, rfl, o2, g2⟩; skip)
        | (go_at_call 66; refine (impl_SameTag a6 n6 c6 l6 b2 m2 d2 _ _ (r6.keep0 (by (repeat (first | with_reducible exact gb_refl _ | with_reducible exact G | with_reducible refine gb_alloc ?_ _ | with_reducible refine gb_drewN ?_ _ | with_reducible refine gb_drew ?_ | with_reducible refine gb_trans ?_ g1 | with_reducible refine gb_trans ?_ g2)))) (o2.rd.keep0 (by (repeat (first | with_reducible exact gb_refl _ | with_reducible refine gb_alloc ?_ _ | with_reducible refine gb_drewN ?_ _ | with_reducible refine gb_drew ?_))))).mono ?_; rw [hs]; rintro e w3 ⟨rfl, g3⟩; skip)
        | fail)
    go_wp2
    go_region_held3 (fun w' => w'.cell? ⟨w.heap.size, 0, none⟩ = some (.int .i64 kind) ∧ w'.cell? ⟨w.heap.size, 1, none⟩ = some (.int .i64 id) ∧ w'.cell? ⟨w.heap.size, 2, none⟩ = some (.slice a1 n1 c1) ∧ w'.cell? ⟨w.heap.size, 3, none⟩ = some (.slice a2 n2 c2) ∧ w'.cell? ⟨w.heap.size, 4, none⟩ = some (.int .i64 tick) ∧ w'.cell? ⟨w.heap.size, 5, none⟩ = some (.slice a3 n3 c3) ∧ w'.cell? ⟨w.heap.size, 6, none⟩ = some (.slice a4 n4 c4) ∧ w'.cell? ⟨w.heap.size, 7, none⟩ = some (.int .i64 epoch) ∧ w'.cell? ⟨w.heap.size, 8, none⟩ = some (.int .i64 seq) ∧ w'.cell? ⟨w.heap.size, 9, none⟩ = some (.slice a5 n5 c5) ∧ w'.cell? ⟨w.heap.size, 10, none⟩ = some (.slice a6 n6 c6) ∧ w1.grownBy w' none)
      ((refine KX.out _ ?_; (repeat (first | with_reducible exact gb_refl _ | with_reducible refine gb_alloc ?_ _ | with_reducible refine gb_drewN ?_ _ | with_reducible refine gb_drew ?_ | with_reducible refine gb_trans ?_ g2 | with_reducible refine gb_trans ?_ g3 | with_reducible refine gb_trans ?_ g4 | with_reducible refine gb_trans ?_ g5))))
      (first
        | (go_at_call 56; refine (impl_HeadOf x a2 n2 c2 l2 epoch seq _ (r2.keep0 (by (repeat (first | with_reducible exact gb_refl _ | with_reducible exact G | with_reducible refine gb_alloc ?_ _ | with_reducible refine gb_drewN ?_ _ | with_reducible refine gb_drew ?_ | with_reducible refine gb_trans ?_ g1 | with_reducible refine gb_trans ?_ g2 | with_reducible refine gb_trans ?_ g3))))).mono ?_; rintro e w4 ⟨b4, m4, d4, rfl, o4, g4⟩; have e4 := o4.blen; skip)
        | (go_at_call 55; refine (impl_Mix a 32 c l b4 m4 d4 _ a5 n5 c5 l5 _ (r.keep0 (by (repeat (first | with_reducible exact gb_refl _ | with_reducible exact G | with_reducible refine gb_alloc ?_ _ | with_reducible refine gb_drewN ?_ _ | with_reducible refine gb_drew ?_ | with_reducible refine gb_trans ?_ g1 | with_reducible refine gb_trans ?_ g2 | with_reducible refine gb_trans ?_ g3 | with_reducible refine gb_trans ?_ g4)))) (o4.rd.keep0 (by (repeat (first | with_reducible exact gb_refl _ | with_reducible refine gb_alloc ?_ _ | with_reducible refine gb_drewN ?_ _ | with_reducible refine gb_drew ?_)))) (r5.keep0 (by (repeat (first | with_reducible exact gb_refl _ | with_reducible exact G | with_reducible refine gb_alloc ?_ _ | with_reducible refine gb_drewN ?_ _ | with_reducible refine gb_drew ?_ | with_reducible refine gb_trans ?_ g1 | with_reducible refine gb_trans ?_ g2 | with_reducible refine gb_trans ?_ g3 | with_reducible refine gb_trans ?_ g4)))) (by omega) (by omega) (by omega)).mono ?_; rintro e w5 ⟨b5, m5, d5, rfl, o5, g5⟩; skip)
        | fail)
    go_wp2
    go_ret2
    exact ⟨_, _, _, rfl, o5.mono (World.grownBy.size (row := none) (by (repeat (first | with_reducible exact gb_refl _ | with_reducible exact G | with_reducible refine gb_alloc ?_ _ | with_reducible refine gb_drewN ?_ _ | with_reducible refine gb_drew ?_ | with_reducible refine gb_trans ?_ g1 | with_reducible refine gb_trans ?_ g2 | with_reducible refine gb_trans ?_ g3 | with_reducible refine gb_trans ?_ g4)))), by (repeat (first | with_reducible exact gb_refl _ | with_reducible exact G | with_reducible refine gb_alloc ?_ _ | with_reducible refine gb_drewN ?_ _ | with_reducible refine gb_drew ?_ | with_reducible refine gb_trans ?_ g1 | with_reducible refine gb_trans ?_ g2 | with_reducible refine gb_trans ?_ g3 | with_reducible refine gb_trans ?_ g4 | with_reducible refine gb_trans ?_ g5))⟩
set_option maxRecDepth 1000000 in
set_option maxHeartbeats 4000000 in
theorem spec_Unseal (a : Option Addr) (n c : Nat) (l : List UInt8) (x : Int) (v : Value) (f : FrameM) (w : World) (r : Rd w a n c (bys l)) (h : FrameR w v f) :
    Calls Tryz.prog 46 #[.slice a n c, .int .i64 x, v] w fun e w' => ∃ a n c, e = .returned (.tuple #[.slice a n c, .bool (unsealB l x f)]) ∧ Ow w.heap.size w' 5 a n c (bys (unsealM l x f)) ∧ w.grownBy w' none := by
  have hR := h
  obtain ⟨a1, n1, c1, a2, n2, c2, a3, n3, c3, a4, n4, c4, a5, n5, c5, a6, n6, c6, rfl, r1, r2, r3, r4, r5, r6⟩ := h
  obtain ⟨kind, id, l1, l2, tick, l3, l4, epoch, seq, l5, l6⟩ := f
  simp only at r1 r2 r3 r4 r5 r6 hR
  obtain ⟨I, hI⟩ : ∃ I, I = tagInM x ⟨kind, id, l1, l2, tick, l3, l4, epoch, seq, l5, l6⟩ := ⟨_, rfl⟩
  have IL : I.length ≤ 65 := by rw [hI]; exact tagInM_len _ _
  have L := Lib.hid r.blen
  have G := gb_alloc (gb_refl w) (.cells #[.int .i64 kind, .int .i64 id, .slice a1 n1 c1, .slice a2 n2 c2, .int .i64 tick, .slice a3 n3 c3, .slice a4 n4 c4, .int .i64 epoch, .int .i64 seq, .slice a5 n5 c5, .slice a6 n6 c6] 32)
  have b0 := bx1 w #[.int .i64 kind, .int .i64 id, .slice a1 n1 c1, .slice a2 n2 c2, .int .i64 tick, .slice a3 n3 c3, .slice a4 n4 c4, .int .i64 epoch, .int .i64 seq, .slice a5 n5 c5, .slice a6 n6 c6] 32
  have C := Lib.hid (spec_TagInput x _ _ _ (hR.keep0 G))
  rw [← hI] at C
  have E := Lib.hid (show unsealB l x ⟨kind, id, l1, l2, tick, l3, l4, epoch, seq, l5, l6⟩ = (((n : Int) == 32) && (!((I.length : Int) == 0) && sameT l6 (tagM l I))) by rw [unsealB, ← hI, L.out])
  clear hR hI
  cases h1 : ((n : Int) == 32)
  · have E2 : unsealB l x ⟨kind, id, l1, l2, tick, l3, l4, epoch, seq, l5, l6⟩ = false := by rw [E.out, h1]; rfl
    rw [unsealM, E2]
    have h2 : ((n : Int) != 32) = true := by rw [bne, h1]; rfl
    clear r r1 r2 r3 r4 r5 r6 E2
    go_enter Tryz.func46, Tryz.ntmps46
    go_wp2_with (go_at_call 44; refine C.out.mono ?_; rintro e w1 ⟨b1, m1, d1, rfl, o1, g1⟩; have e1 := o1.blen; have q1 := b0.keep0 g1; have cc := fun o => q1.cell o; skip)
    go_quiet (fail)
    go_wp2
    go_ret2
    first | exact ⟨_, _, _, rfl, Ow.nil _ _ _, gb_drewN (gb_trans G g1) _⟩ | exact ⟨_, _, _, rfl, (new_own _ _).mono (gb_trans G g1).size, gb_alloc (gb_drewN (gb_trans G g1) _) _⟩
  obtain rfl : n = 32 := by simp at h1; omega
  clear h1
  by_cases hz : I.length = 0
  · have E2 : unsealB l x ⟨kind, id, l1, l2, tick, l3, l4, epoch, seq, l5, l6⟩ = false := by rw [E.out, hz]; rfl
    rw [unsealM, E2]
    obtain rfl := List.eq_nil_of_length_eq_zero hz
    clear r r1 r2 r3 r4 r5 r6 E2 E hz IL
    go_enter Tryz.func46, Tryz.ntmps46
    go_wp2_with (go_at_call 44; refine C.out.mono ?_; rintro e w1 ⟨b1, m1, d1, rfl, o1, g1⟩; have e1 := o1.blen; have q1 := b0.keep0 g1; have cc := fun o => q1.cell o; skip)
    obtain rfl : m1 = 0 := e1.symm
    go_quiet (fail)
    go_wp2
    go_ret2
    first | exact ⟨_, _, _, rfl, Ow.nil _ _ _, gb_drewN (gb_trans G g1) _⟩ | exact ⟨_, _, _, rfl, (new_own _ _).mono (gb_trans G g1).size, gb_alloc (gb_drewN (gb_trans G g1) _) _⟩
  have hz2 : ((I.length : Int) == 0) = false := by rw [beq_eq_false_iff_ne]; omega
  cases hs : sameT l6 (tagM l I)
  · have E2 : unsealB l x ⟨kind, id, l1, l2, tick, l3, l4, epoch, seq, l5, l6⟩ = false := by rw [E.out, hz2, hs]; rfl
    rw [unsealM, E2]
    clear r1 r2 r3 r4 r5 E2 E hz2
    go_enter Tryz.func46, Tryz.ntmps46
    go_wp2_with (go_at_call 44; refine C.out.mono ?_; rintro e w1 ⟨b1, m1, d1, rfl, o1, g1⟩; have e1 := o1.blen; have q1 := b0.keep0 g1; have cc := fun o => q1.cell o; skip)
    have hm : ((m1 : Int) == 0) = false := by rw [beq_eq_false_iff_ne]; omega
    have KX : Hid (∀ w', w1.grownBy w' none → (w'.cell? ⟨w.heap.size, 0, none⟩ = some (.int .i64 kind) ∧ w'.cell? ⟨w.heap.size, 1, none⟩ = some (.int .i64 id) ∧ w'.cell? ⟨w.heap.size, 2, none⟩ = some (.slice a1 n1 c1) ∧ w'.cell? ⟨w.heap.size, 3, none⟩ = some (.slice a2 n2 c2) ∧ w'.cell? ⟨w.heap.size, 4, none⟩ = some (.int .i64 tick) ∧ w'.cell? ⟨w.heap.size, 5, none⟩ = some (.slice a3 n3 c3) ∧ w'.cell? ⟨w.heap.size, 6, none⟩ = some (.slice a4 n4 c4) ∧ w'.cell? ⟨w.heap.size, 7, none⟩ = some (.int .i64 epoch) ∧ w'.cell? ⟨w.heap.size, 8, none⟩ = some (.int .i64 seq) ∧ w'.cell? ⟨w.heap.size, 9, none⟩ = some (.slice a5 n5 c5) ∧ w'.cell? ⟨w.heap.size, 10, none⟩ = some (.slice a6 n6 c6) ∧ w1.grownBy w' none)) := fun w' hg => ⟨(q1.keep0 hg).cell 0, (q1.keep0 hg).cell 1, (q1.keep0 hg).cell 2, (q1.keep0 hg).cell 3, (q1.keep0 hg).cell 4, (q1.keep0 hg).cell 5, (q1.keep0 hg).cell 6, (q1.keep0 hg).cell 7, (q1.keep0 hg).cell 8, (q1.keep0 hg).cell 9, (q1.keep0 hg).cell 10, hg⟩
    clear cc q1
    go_region_held3 (fun w' => w'.cell? ⟨w.heap.size, 0, none⟩ = some (.int .i64 kind) ∧ w'.cell? ⟨w.heap.size, 1, none⟩ = some (.int .i64 id) ∧ w'.cell? ⟨w.heap.size, 2, none⟩ = some (.slice a1 n1 c1) ∧ w'.cell? ⟨w.heap.size, 3, none⟩ = some (.slice a2 n2 c2) ∧ w'.cell? ⟨w.heap.size, 4, none⟩ = some (.int .i64 tick) ∧ w'.cell? ⟨w.heap.size, 5, none⟩ = some (.slice a3 n3 c3) ∧ w'.cell? ⟨w.heap.size, 6, none⟩ = some (.slice a4 n4 c4) ∧ w'.cell? ⟨w.heap.size, 7, none⟩ = some (.int .i64 epoch) ∧ w'.cell? ⟨w.heap.size, 8, none⟩ = some (.int .i64 seq) ∧ w'.cell? ⟨w.heap.size, 9, none⟩ = some (.slice a5 n5 c5) ∧ w'.cell? ⟨w.heap.size, 10, none⟩ = some (.slice a6 n6 c6) ∧ w1.grownBy w' none)
      ((refine KX.out _ ?_; (repeat (first | with_reducible exact gb_refl _ | with_reducible refine gb_alloc ?_ _ | with_reducible refine gb_drewN ?_ _ | with_reducible refine gb_drew ?_ | with_reducible refine gb_trans ?_ g2 | with_reducible refine gb_trans ?_ g3))))
      (first
        | (go_at_call 63; refine (spec_Tag a 32 c l b1 m1 d1 I _ (r.keep0 (by (repeat (first | with_reducible exact gb_refl _ | with_reducible exact G | with_reducible refine gb_alloc ?_ _ | with_reducible refine gb_drewN ?_ _ | with_reducible refine gb_drew ?_ | with_reducible refine gb_trans ?_ g1)))) (o1.rd.keep0 (by (repeat (first | with_reducible exact gb_refl _ | with_reducible refine gb_alloc ?_ _ | with_reducible refine gb_drewN ?_ _ | with_reducible refine gb_drew ?_)))) (by omega) (by omega)).mono ?_; rintro e w2 ⟨b2, m2, d2, rfl, o2, g2⟩; skip)
        | (go_at_call 73; refine (spec_SameTag a6 n6 c6 l6 b2 m2 d2 _ _ (r6.keep0 (by (repeat (first | with_reducible exact gb_refl _ | with_reducible exact G | with_reducible refine gb_alloc ?_ _ | with_reducible refine gb_drewN ?_ _ | with_reducible refine gb_drew ?_ | with_reducible refine gb_trans ?_ g1 | with_reducible refine gb_trans ?_ g2)))) (o2.rd.keep0 (by (repeat (first | with_reducible exact gb_refl _ | with_reducible refine gb_alloc ?_ _ | with_reducible refine gb_drewN ?_ _ | with_reducible refine gb_drew ?_))))).mono ?_; rw [hs]; rintro e w3 ⟨rfl, g3⟩; skip)
        | fail)
    go_wp2
    go_ret2
    first | exact ⟨_, _, _, rfl, Ow.nil _ _ _, by (repeat (first | with_reducible exact gb_refl _ | with_reducible exact G | with_reducible refine gb_alloc ?_ _ | with_reducible refine gb_drewN ?_ _ | with_reducible refine gb_drew ?_ | with_reducible refine gb_trans ?_ g1 | with_reducible refine gb_trans ?_ g2 | with_reducible refine gb_trans ?_ g3))⟩ | exact ⟨_, _, _, rfl, (new_own _ _).mono (World.grownBy.size (row := none) (by (repeat (first | with_reducible exact gb_refl _ | with_reducible exact G | with_reducible refine gb_alloc ?_ _ | with_reducible refine gb_drewN ?_ _ | with_reducible refine gb_drew ?_ | with_reducible refine gb_trans ?_ g1 | with_reducible refine gb_trans ?_ g2 | with_reducible refine gb_trans ?_ g3)))), by (repeat (first | with_reducible exact gb_refl _ | with_reducible exact G | with_reducible refine gb_alloc ?_ _ | with_reducible refine gb_drewN ?_ _ | with_reducible refine gb_drew ?_ | with_reducible refine gb_trans ?_ g1 | with_reducible refine gb_trans ?_ g2 | with_reducible refine gb_trans ?_ g3))⟩
  · have E2 : unsealB l x ⟨kind, id, l1, l2, tick, l3, l4, epoch, seq, l5, l6⟩ = true := by rw [E.out, hz2, hs]; rfl
    have bl := (unseal_len E2).2
    simp only at bl
    have hl := headM_len x l2 epoch seq
    have e5 := r5.blen
    rw [unsealM, E2, if_pos rfl]
    clear r1 r3 r4 E2 E hz2
    go_enter Tryz.func46, Tryz.ntmps46
    go_wp2_with (go_at_call 44; refine C.out.mono ?_; rintro e w1 ⟨b1, m1, d1, rfl, o1, g1⟩; have e1 := o1.blen; have q1 := b0.keep0 g1; have cc := fun o => q1.cell o; skip)
    have hm : ((m1 : Int) == 0) = false := by rw [beq_eq_false_iff_ne]; omega
    have KX : Hid (∀ w', w1.grownBy w' none → (w'.cell? ⟨w.heap.size, 0, none⟩ = some (.int .i64 kind) ∧ w'.cell? ⟨w.heap.size, 1, none⟩ = some (.int .i64 id) ∧ w'.cell? ⟨w.heap.size, 2, none⟩ = some (.slice a1 n1 c1) ∧ w'.cell? ⟨w.heap.size, 3, none⟩ = some (.slice a2 n2 c2) ∧ w'.cell? ⟨w.heap.size, 4, none⟩ = some (.int .i64 tick) ∧ w'.cell? ⟨w.heap.size, 5, none⟩ = some (.slice a3 n3 c3) ∧ w'.cell? ⟨w.heap.size, 6, none⟩ = some (.slice a4 n4 c4) ∧ w'.cell? ⟨w.heap.size, 7, none⟩ = some (.int .i64 epoch) ∧ w'.cell? ⟨w.heap.size, 8, none⟩ = some (.int .i64 seq) ∧ w'.cell? ⟨w.heap.size, 9, none⟩ = some (.slice a5 n5 c5) ∧ w'.cell? ⟨w.heap.size, 10, none⟩ = some (.slice a6 n6 c6) ∧ w1.grownBy w' none)) := fun w' hg => ⟨(q1.keep0 hg).cell 0, (q1.keep0 hg).cell 1, (q1.keep0 hg).cell 2, (q1.keep0 hg).cell 3, (q1.keep0 hg).cell 4, (q1.keep0 hg).cell 5, (q1.keep0 hg).cell 6, (q1.keep0 hg).cell 7, (q1.keep0 hg).cell 8, (q1.keep0 hg).cell 9, (q1.keep0 hg).cell 10, hg⟩
    clear cc q1
    go_region_held3 (fun w' => w'.cell? ⟨w.heap.size, 0, none⟩ = some (.int .i64 kind) ∧ w'.cell? ⟨w.heap.size, 1, none⟩ = some (.int .i64 id) ∧ w'.cell? ⟨w.heap.size, 2, none⟩ = some (.slice a1 n1 c1) ∧ w'.cell? ⟨w.heap.size, 3, none⟩ = some (.slice a2 n2 c2) ∧ w'.cell? ⟨w.heap.size, 4, none⟩ = some (.int .i64 tick) ∧ w'.cell? ⟨w.heap.size, 5, none⟩ = some (.slice a3 n3 c3) ∧ w'.cell? ⟨w.heap.size, 6, none⟩ = some (.slice a4 n4 c4) ∧ w'.cell? ⟨w.heap.size, 7, none⟩ = some (.int .i64 epoch) ∧ w'.cell? ⟨w.heap.size, 8, none⟩ = some (.int .i64 seq) ∧ w'.cell? ⟨w.heap.size, 9, none⟩ = some (.slice a5 n5 c5) ∧ w'.cell? ⟨w.heap.size, 10, none⟩ = some (.slice a6 n6 c6) ∧ w1.grownBy w' none)
      ((refine KX.out _ ?_; (repeat (first | with_reducible exact gb_refl _ | with_reducible refine gb_alloc ?_ _ | with_reducible refine gb_drewN ?_ _ | with_reducible refine gb_drew ?_ | with_reducible refine gb_trans ?_ g2 | with_reducible refine gb_trans ?_ g3))))
      (first
        | (go_at_call 63; refine (spec_Tag a 32 c l b1 m1 d1 I _ (r.keep0 (by (repeat (first | with_reducible exact gb_refl _ | with_reducible exact G | with_reducible refine gb_alloc ?_ _ | with_reducible refine gb_drewN ?_ _ | with_reducible refine gb_drew ?_ | with_reducible refine gb_trans ?_ g1)))) (o1.rd.keep0 (by (repeat (first | with_reducible exact gb_refl _ | with_reducible refine gb_alloc ?_ _ | with_reducible refine gb_drewN ?_ _ | with_reducible refine gb_drew ?_)))) (by omega) (by omega)).mono ?_; rintro e w2 ⟨b2, m2, d2, rfl, o2, g2⟩; skip)
        | (go_at_call 73; refine (spec_SameTag a6 n6 c6 l6 b2 m2 d2 _ _ (r6.keep0 (by (repeat (first | with_reducible exact gb_refl _ | with_reducible exact G | with_reducible refine gb_alloc ?_ _ | with_reducible refine gb_drewN ?_ _ | with_reducible refine gb_drew ?_ | with_reducible refine gb_trans ?_ g1 | with_reducible refine gb_trans ?_ g2)))) (o2.rd.keep0 (by (repeat (first | with_reducible exact gb_refl _ | with_reducible refine gb_alloc ?_ _ | with_reducible refine gb_drewN ?_ _ | with_reducible refine gb_drew ?_))))).mono ?_; rw [hs]; rintro e w3 ⟨rfl, g3⟩; skip)
        | fail)
    go_wp2
    go_region_held3 (fun w' => w'.cell? ⟨w.heap.size, 0, none⟩ = some (.int .i64 kind) ∧ w'.cell? ⟨w.heap.size, 1, none⟩ = some (.int .i64 id) ∧ w'.cell? ⟨w.heap.size, 2, none⟩ = some (.slice a1 n1 c1) ∧ w'.cell? ⟨w.heap.size, 3, none⟩ = some (.slice a2 n2 c2) ∧ w'.cell? ⟨w.heap.size, 4, none⟩ = some (.int .i64 tick) ∧ w'.cell? ⟨w.heap.size, 5, none⟩ = some (.slice a3 n3 c3) ∧ w'.cell? ⟨w.heap.size, 6, none⟩ = some (.slice a4 n4 c4) ∧ w'.cell? ⟨w.heap.size, 7, none⟩ = some (.int .i64 epoch) ∧ w'.cell? ⟨w.heap.size, 8, none⟩ = some (.int .i64 seq) ∧ w'.cell? ⟨w.heap.size, 9, none⟩ = some (.slice a5 n5 c5) ∧ w'.cell? ⟨w.heap.size, 10, none⟩ = some (.slice a6 n6 c6) ∧ w1.grownBy w' none)
      ((refine KX.out _ ?_; (repeat (first | with_reducible exact gb_refl _ | with_reducible refine gb_alloc ?_ _ | with_reducible refine gb_drewN ?_ _ | with_reducible refine gb_drew ?_ | with_reducible refine gb_trans ?_ g2 | with_reducible refine gb_trans ?_ g3 | with_reducible refine gb_trans ?_ g4 | with_reducible refine gb_trans ?_ g5))))
      (first
        | (go_at_call 30; refine (spec_HeadOf x a2 n2 c2 l2 epoch seq _ (r2.keep0 (by (repeat (first | with_reducible exact gb_refl _ | with_reducible exact G | with_reducible refine gb_alloc ?_ _ | with_reducible refine gb_drewN ?_ _ | with_reducible refine gb_drew ?_ | with_reducible refine gb_trans ?_ g1 | with_reducible refine gb_trans ?_ g2 | with_reducible refine gb_trans ?_ g3))))).mono ?_; rintro e w4 ⟨b4, m4, d4, rfl, o4, g4⟩; have e4 := o4.blen; skip)
        | (go_at_call 62; refine (spec_Mix a 32 c l b4 m4 d4 _ a5 n5 c5 l5 _ (r.keep0 (by (repeat (first | with_reducible exact gb_refl _ | with_reducible exact G | with_reducible refine gb_alloc ?_ _ | with_reducible refine gb_drewN ?_ _ | with_reducible refine gb_drew ?_ | with_reducible refine gb_trans ?_ g1 | with_reducible refine gb_trans ?_ g2 | with_reducible refine gb_trans ?_ g3 | with_reducible refine gb_trans ?_ g4)))) (o4.rd.keep0 (by (repeat (first | with_reducible exact gb_refl _ | with_reducible refine gb_alloc ?_ _ | with_reducible refine gb_drewN ?_ _ | with_reducible refine gb_drew ?_)))) (r5.keep0 (by (repeat (first | with_reducible exact gb_refl _ | with_reducible exact G | with_reducible refine gb_alloc ?_ _ | with_reducible refine gb_drewN ?_ _ | with_reducible refine gb_drew ?_ | with_reducible refine gb_trans ?_ g1 | with_reducible refine gb_trans ?_ g2 | with_reducible refine gb_trans ?_ g3 | with_reducible refine gb_trans ?_ g4)))) (by omega) (by omega) (by omega)).mono ?_; rintro e w5 ⟨b5, m5, d5, rfl, o5, g5⟩; skip)
        | fail)
    go_wp2
    go_ret2
    exact ⟨_, _, _, rfl, o5.mono (World.grownBy.size (row := none) (by (repeat (first | with_reducible exact gb_refl _ | with_reducible exact G | with_reducible refine gb_alloc ?_ _ | with_reducible refine gb_drewN ?_ _ | with_reducible refine gb_drew ?_ | with_reducible refine gb_trans ?_ g1 | with_reducible refine gb_trans ?_ g2 | with_reducible refine gb_trans ?_ g3 | with_reducible refine gb_trans ?_ g4)))), by (repeat (first | with_reducible exact gb_refl _ | with_reducible exact G | with_reducible refine gb_alloc ?_ _ | with_reducible refine gb_drewN ?_ _ | with_reducible refine gb_drew ?_ | with_reducible refine gb_trans ?_ g1 | with_reducible refine gb_trans ?_ g2 | with_reducible refine gb_trans ?_ g3 | with_reducible refine gb_trans ?_ g4 | with_reducible refine gb_trans ?_ g5))⟩
end Go.Proofs.YtpfchphgbhgmmaaGreat

/-
  Plain laws on sealing: what is sealed is opened as it was; with another tag it is not. Conditions: none beside those that each theorem names.
-/
namespace Go.Proofs.YtpfchphgbhgmmaaGreat
open Go.RowKit
theorem xor_xor8 (x y : UInt8) : x ^^^ (x ^^^ y) = y := by
  apply UInt8.toNat_inj.1
  simp only [UInt8.toNat_xor, ← Nat.xor_assoc, Nat.xor_self, Nat.zero_xor]
theorem mixL_mixL : ∀ (s b : List UInt8), b.length ≤ s.length → mixL s (mixL s b) = b
  | _, [], _ => by simp [mixL]
  | [], _ :: _, h => by simp at h
  | x :: s, y :: b, h => by
    have := mixL_mixL s b (by simpa using h)
    simp only [mixL, List.zipWith_cons_cons, xor_xor8] at this ⊢
    rw [this]
theorem mixM_mixM {key head b : List UInt8} (h : key.length ≤ 1048576) (h2 : head.length ≤ 100) (hb : b.length ≤ 200) : mixM key head (mixM key head b) = b := by
  have hl := mixM_len h h2 hb
  conv => lhs; rw [mixM]
  rw [hl, mixM]
  exact mixL_mixL _ _ (by rw [strM_len h h2 hb]; exact Nat.le_refl _)
theorem tagM_len {key b : List UInt8} (h : key.length = 32) (hb : b.length ≤ 65) : (tagM key b).length = 16 := by
  have := hmacM_len (key := key) (b := b) (by omega) (by omega)
  rw [tagM, List.length_take, this]
  rfl
theorem frOk_sealF {kind : Int} {sn : List UInt8} {epoch seq : Int} {b1 b2 t1 t2 : List UInt8} (hb : b1.length = b2.length) (ht : t1.length = t2.length) : frOk (sealF kind sn epoch seq b1 t1) = frOk (sealF kind sn epoch seq b2 t2) := by
  simp only [frOk, sealF, hb, ht]
theorem tagIn_sealF {x kind : Int} {sn : List UInt8} {epoch seq : Int} {b t1 t2 : List UInt8} (ht : t1.length = t2.length) : tagInM x (sealF kind sn epoch seq b t1) = tagInM x (sealF kind sn epoch seq b t2) := by
  unfold tagInM
  rw [frOk_sealF rfl ht]
  rfl
structure SealOk (l : List UInt8) (x : Int) (sn : List UInt8) (epoch seq kind : Int) (plain : List UInt8) (M T : List UInt8) : Prop where
  eq : sealM l x sn epoch seq kind plain = sealF kind sn epoch seq M T
  hM : M = mixM l (headM x sn epoch seq) plain
  hT : T = tagM l (tagInM x (sealF kind sn epoch seq M T))
  tl : T.length = 16
  ml : M.length = plain.length
  kl : l.length = 32
  pl : plain.length ≤ 40
  ok : frOk (sealF kind sn epoch seq M T) = true
  role : roleB x = true
  sealed : sealedB kind = true
theorem sealOk {l : List UInt8} {x : Int} {sn : List UInt8} {epoch seq kind : Int} {plain : List UInt8} (h : sealB l x sn epoch seq kind plain = true) : ∃ M T, SealOk l x sn epoch seq kind plain M T := by
  obtain ⟨h1, h2, h3, -⟩ := sealB_S h
  have h4 := h
  simp only [sealB, Bool.and_eq_true, beq_iff_eq] at h4
  obtain ⟨-, h5, h6, h7⟩ := h4
  have ml : (mixM l (headM x sn epoch seq) plain).length = plain.length := mixM_len (by omega) (Nat.le_trans (headM_len _ _ _ _) (by decide)) (by omega)
  have tl := tagM_len (b := tagInM x (sealF kind sn epoch seq (mixM l (headM x sn epoch seq) plain) z16)) h1 (tagInM_len _ _)
  refine ⟨_, _, ⟨by rw [sealM, if_pos h], rfl, ?_, tl, ml, h1, h3, ?_, h5, h6⟩⟩
  · rw [tagIn_sealF (t1 := tagM l _) (t2 := z16) (by rw [tl]; rfl)]
  · rw [frOk_sealF (b2 := plain) (t2 := z16) ml (by rw [tl]; rfl)]
    exact h7
theorem tagIn_pos {x : Int} {f : FrameM} (h1 : roleB x = true) (h2 : sealedB f.kind = true) (h3 : frOk f = true) : tagInM x f = [116] ++ headM x f.sn f.epoch f.seq ++ [b8 f.kind] ++ f.body := by
  unfold tagInM
  rw [h1, h2, h3]
  rfl
theorem SealOk.unseal {l : List UInt8} {x : Int} {sn : List UInt8} {epoch seq kind : Int} {plain M T : List UInt8} (h : SealOk l x sn epoch seq kind plain M T) : unsealB l x (sealF kind sn epoch seq M T) = true ∧ unsealM l x (sealF kind sn epoch seq M T) = plain := by
  have h1 : unsealB l x (sealF kind sn epoch seq M T) = true := by
    unfold unsealB
    rw [show (sealF kind sn epoch seq M T).tag = T from rfl, ← h.hT, tagIn_pos h.role h.sealed h.ok]
    simp [h.kl, sameT, h.tl]
    omega
  refine ⟨h1, ?_⟩
  rw [unsealM, if_pos h1]
  show mixM l (headM x sn epoch seq) M = plain
  rw [h.hM]
  exact mixM_mixM (by rw [h.kl]; decide) (Nat.le_trans (headM_len _ _ _ _) (by decide)) (by have := h.pl; omega)
theorem SealOk.bent {l : List UInt8} {x : Int} {sn : List UInt8} {epoch seq kind : Int} {plain M T T' : List UInt8} (h : SealOk l x sn epoch seq kind plain M T) (hl : T'.length = T.length) (hne : T' ≠ T) : unsealB l x (sealF kind sn epoch seq M T') = false := by
  unfold unsealB
  rw [show (sealF kind sn epoch seq M T').tag = T' from rfl, tagIn_sealF (t1 := T') (t2 := T) hl, ← h.hT]
  simp [sameT, hne]
end Go.Proofs.YtpfchphgbhgmmaaGreat

/-
  Draws of sealed frames, right or bent, and of what an epoch opens. Conditions: none beside those that each theorem names.
-/
namespace Go.Proofs.YtpfchphgbhgmmaaGreat.be
open Go.RowKit
def PFr (B cb : Nat) (w : World) (e : Ending) (w' : World) : Prop := ∃ kind id a1 n1 c1 a2 n2 c2 tick a3 n3 c3 a4 n4 c4 epoch seq a5 n5 c5 a6 n6 c6, e = .returned (.agg #[.int .i64 kind, .int .i64 id, .slice a1 n1 c1, .slice a2 n2 c2, .int .i64 tick, .slice a3 n3 c3, .slice a4 n4 c4, .int .i64 epoch, .int .i64 seq, .slice a5 n5 c5, .slice a6 n6 c6]) ∧ DE B cb w w' ∧ BR w w' a1 n1 c1 ∧ BR w w' a2 n2 c2 ∧ BR w w' a3 n3 c3 ∧ BR w w' a4 n4 c4 ∧ BR w w' a5 n5 c5 ∧ BR w w' a6 n6 c6
theorem d_PFr {f : FuncId} {B cb : Nat} {w0 w : World} {bs : List Vb} {L : List Sv} {Q : Ending → World → Prop} {args : Array Value} (D : DS B cb w0 w bs L) (H : Calls Tryz.prog f args w (PFr B cb w))
    (k : ∀ w' kind id a1 n1 c1 l1 a2 n2 c2 l2 tick a3 n3 c3 l3 a4 n4 c4 l4 epoch seq a5 n5 c5 l5 a6 n6 c6 l6, DS B cb w0 w' bs (⟨a6, n6, c6, bys l6⟩ :: ⟨a5, n5, c5, bys l5⟩ :: ⟨a4, n4, c4, bys l4⟩ :: ⟨a3, n3, c3, bys l3⟩ :: ⟨a2, n2, c2, bys l2⟩ :: ⟨a1, n1, c1, bys l1⟩ :: L) → Q (.returned (.agg #[.int .i64 kind, .int .i64 id, .slice a1 n1 c1, .slice a2 n2 c2, .int .i64 tick, .slice a3 n3 c3, .slice a4 n4 c4, .int .i64 epoch, .int .i64 seq, .slice a5 n5 c5, .slice a6 n6 c6])) w') : Calls Tryz.prog f args w Q :=
  H.mono fun e w' ⟨kind, id, a1, n1, c1, a2, n2, c2, tick, a3, n3, c3, a4, n4, c4, epoch, seq, a5, n5, c5, a6, n6, c6, he, E, h1, h2, h3, h4, h5, h6⟩ => by
    subst he
    have D0 := D.by E
    obtain ⟨l1, D1⟩ := D.adB D0 h1
    obtain ⟨l2, D2⟩ := D.adB D1 h2
    obtain ⟨l3, D3⟩ := D.adB D2 h3
    obtain ⟨l4, D4⟩ := D.adB D3 h4
    obtain ⟨l5, D5⟩ := D.adB D4 h5
    obtain ⟨l6, D6⟩ := D.adB D5 h6
    exact k w' _ _ _ _ _ l1 _ _ _ l2 _ _ _ _ l3 _ _ _ l4 _ _ _ _ _ l5 _ _ _ l6 D6
theorem d_PBd {f : FuncId} {B cb : Nat} {w0 w : World} {bs : List Vb} {L : List Sv} {Q : Ending → World → Prop} {args : Array Value} (D : DS B cb w0 w bs L) (H : Calls Tryz.prog f args w (PBd B cb w))
    (k : ∀ w' a n c l, DS B cb w0 w' bs (⟨a, n, c, bys l⟩ :: L) → Q (.returned (.slice a n c)) w') : Calls Tryz.prog f args w Q :=
  H.mono fun e w' ⟨a, n, c, he, E, h⟩ => by
    subst he
    obtain ⟨l, D1⟩ := D.adB (D.by E) h
    exact k w' a n c l D1
/-- numbers of a literal, drawn inside a region that draws its order -/
theorem d_l1IntD {B cb : Nat} {w0 w : World} {bs : List Vb} {L : List Sv} {Q : Ending → World → Prop} {g n : Nat} {cs : Array Value} (D : DS B cb w0 w bs L) (hg : w.heap.size = g) (hl : cs.toList = ins (cs.toList.map unI)) (hn : cs.size = n) (h0 : 0 < n) (hm : n ≤ 1048576) (k : ∀ w' x, ofL (cs.toList.map unI) x → DS B cb w0 w' bs L → Q (.returned (.int .i64 x)) w') :
    Calls Tryz.prog 22 #[.pointer (some ⟨cb, 0, none⟩), .slice (some ⟨g, 0, none⟩) n n] (w.alloc (.cells cs 3)).drew Q := by
  subst hg
  have D1 := (D.alloc (.cells cs 3)).drew
  have hcb := D.cur.lt
  refine (spec_l1Int B cb _ n n (cs.toList.map unI) _ D1.cur ⟨by rw [← hl]; exact (new_rd w cs _ n hn).keep0 (gb_drew (gb_refl _)), fun p hp => by cases hp; simp only; omega⟩ h0 hm).mono fun e w' ⟨x, h, he, c, d⟩ => ?_
  subst he
  exact k w' x h (D1.step c d)
/-- numbers laid inside a region that draws its order -/
theorem step_bL {w : World} {ops : Array Oper} {o : Oper} {ac : Act} {K : Act → World → Prop} {Q : Exit → Act → World → Prop} {E : Prop} (hgd : o.guard = none) (d : Option Tmp) (hd : o.dst = d) (k : Nat) (parts : Array (Nat × Operand)) (ho : o.op = .buildSlice 24 k parts) (cs : List Int)
    (hr : (Instr.buildSlice 24 k (parts.map fun (i, x) => (i, ac.eval x))).run Tryz.prog w = .ok (.slice (some ⟨w.heap.size, 0, none⟩) k k) (w.alloc (.cells (ins cs).toArray 3))) (hn : cs.length = k)
    (h : ∀ q w', w.heap.size ≤ q → Rd w' (some ⟨q, 0, none⟩) k k (ins cs) → w.grownBy w' none → K (ac.put d (.slice (some ⟨q, 0, none⟩) k k)) w') :
    if Region.wanted o (yielded ops ac.tmps) = true then Oper.wp Tryz.prog o ac w K Q else E := by
  have hw : Region.wanted o (yielded ops ac.tmps) = true := by simp [Region.wanted, hgd]
  rw [if_pos hw]
  subst hd
  unfold Oper.wp execOp
  simp only [ho, Sem.run_bind, hr, Sem.run_pure, Result.andThen_ok]
  exact h _ _ (Nat.le_refl _) (new_rd w (ins cs).toArray _ k (by simp [ins, hn])) (gb_alloc (gb_refl w) _)
set_option maxRecDepth 1000000 in
set_option maxHeartbeats 8000000 in
theorem spec_l9Bent (B cb : Nat) (kind id tick epoch seq : Int) (a1 a2 a3 a4 a5 a6 : Option Addr) (n1 c1 n2 c2 n3 c3 n4 c4 n5 c5 n6 c6 : Nat) (l1 l2 l3 l4 l5 l6 : List UInt8) (w : World) (h : Cur B w cb)
    (r1 : Rd w a1 n1 c1 (bys l1)) (r2 : Rd w a2 n2 c2 (bys l2)) (r3 : Rd w a3 n3 c3 (bys l3)) (r4 : Rd w a4 n4 c4 (bys l4)) (r5 : Rd w a5 n5 c5 (bys l5)) (r6 : Rd w a6 n6 c6 (bys l6))
    (hb : n1 ≤ 255 ∧ n2 ≤ 255 ∧ n3 ≤ 255 ∧ n4 ≤ 255 ∧ n5 ≤ 255 ∧ n6 ≤ 255) : Calls Tryz.prog 43 #[.pointer (some ⟨cb, 0, none⟩), .agg #[.int .i64 kind, .int .i64 id, .slice a1 n1 c1, .slice a2 n2 c2, .int .i64 tick, .slice a3 n3 c3, .slice a4 n4 c4, .int .i64 epoch, .int .i64 seq, .slice a5 n5 c5, .slice a6 n6 c6]] w (PFr B cb w) := by
  have D := ((DS.start h).box #[.int .i64 kind, .int .i64 id, .slice a1 n1 c1, .slice a2 n2 c2, .int .i64 tick, .slice a3 n3 c3, .slice a4 n4 c4, .int .i64 epoch, .int .i64 seq, .slice a5 n5 c5, .slice a6 n6 c6] 32).box #[.int .i64 0, .int .i64 0, .slice none 0 0, .slice none 0 0, .int .i64 0, .slice none 0 0, .slice none 0 0, .int .i64 0, .int .i64 0, .slice none 0 0, .slice none 0 0] 32
  have gB := gb_alloc (gb_alloc (gb_refl w) (.cells #[.int .i64 kind, .int .i64 id, .slice a1 n1 c1, .slice a2 n2 c2, .int .i64 tick, .slice a3 n3 c3, .slice a4 n4 c4, .int .i64 epoch, .int .i64 seq, .slice a5 n5 c5, .slice a6 n6 c6] 32)) (.cells #[.int .i64 0, .int .i64 0, .slice none 0 0, .slice none 0 0, .int .i64 0, .slice none 0 0, .slice none 0 0, .int .i64 0, .int .i64 0, .slice none 0 0, .slice none 0 0] 32)
  have hl : Hid (l1.length ≤ 255 ∧ l2.length ≤ 255 ∧ l3.length ≤ 255 ∧ l4.length ≤ 255 ∧ l5.length ≤ 255 ∧ l6.length ≤ 255) := by
    have := r1.blen; have := r2.blen; have := r3.blen; have := r4.blen; have := r5.blen; have := r6.blen
    refine ⟨?_, ?_, ?_, ?_, ?_, ?_⟩ <;> omega
  clear hb
  go_enter Tryz.func43, Tryz.ntmps43
  go_wp2_with fail
  refine (spec_l7Copy _ ⟨kind, id, l1, l2, tick, l3, l4, epoch, seq, l5, l6⟩ _ ⟨_, _, _, _, _, _, _, _, _, _, _, _, _, _, _, _, _, _, rfl, r1.keep0 gB, r2.keep0 gB, r3.keep0 gB, r4.keep0 gB, r5.keep0 gB, r6.keep0 gB⟩ (by have := hl.out; simp only [FrameM.tot]; omega)).mono ?_
  clear r1 r2 r3 r4 r5 r6 gB
  rintro e w1 ⟨v', rfl, o, g1⟩
  obtain ⟨a1, n1, c1, a2, n2, c2, a3, n3, c3, a4, n4, c4, a5, n5, c5, a6, n6, c6, rfl, ⟨o1, -⟩, ⟨o2, -⟩, ⟨o3, -⟩, ⟨o4, -⟩, ⟨o5, -⟩, ⟨o6, -⟩, -⟩ := o
  simp only at o1 o2 o3 o4 o5 o6 ⊢
  have h1 : n1 ≤ 255 := by have := o1.blen; have := hl.out.1; omega
  have h2 : n2 ≤ 255 := by have := o2.blen; have := hl.out.2.1; omega
  have h3 : n3 ≤ 255 := by have := o3.blen; have := hl.out.2.2.1; omega
  have h4 : n4 ≤ 255 := by have := o4.blen; have := hl.out.2.2.2.1; omega
  have h5 : n5 ≤ 255 := by have := o5.blen; have := hl.out.2.2.2.2.1; omega
  have h6 : n6 ≤ 255 := by have := o6.blen; have := hl.out.2.2.2.2.2; omega
  have D1 := D.addO (D.grow g1) o1 (by omega)
  have D2 := D.addO D1 o2 (by omega)
  have D3 := D.addO D2 o3 (by omega)
  have D4 := D.addO D3 o4 (by omega)
  have D5 := D.addO D4 o5 (by omega)
  replace D := D.addO D5 o6 (by omega)
  clear D1 D2 D3 D4 D5 o1 o2 o3 o4 o5 o6 hl g1
  go_wp2_with fail
  refine d_l1Below (D.box #[.int .i64 kind, .int .i64 id, .slice a1 n1 c1, .slice a2 n2 c2, .int .i64 tick, .slice a3 n3 c3, .slice a4 n4 c4, .int .i64 epoch, .int .i64 seq, .slice a5 n5 c5, .slice a6 n6 c6] 32) ?_
  clear D
  intro wB z hz D
  simp only [World.size_alloc] at D
  clear hz
  (try clear kc kf); (try simp only [List.setIfInBounds_toArray, List.set_cons_succ, List.set_cons_zero] at D); (try (have kc := fun o => DS.cell0 D o; have kf := fun o => DS.frz0 D o))
  cases z0 : ((z : Int) == 0)
  rotate_left
  · go_wp2_with fail
    replace D := D.drew
    (try clear kc kf); (try simp only [List.setIfInBounds_toArray, List.set_cons_succ, List.set_cons_zero] at D); (try (have kc := fun o => DS.cell0 D o; have kf := fun o => DS.frz0 D o))
    refine wp_region_held_drew (S := (fun _ => True)) (by kernel_rfl) ?_ (fun hHeld => ?_)
    · (try dsimp only)
      all_goals trivial
    refine wpAnyH_takeD (i := 0) (some 12) (v := ?_) rfl rfl (by kernel_rfl) (by kernel_rfl) (by kernel_rfl) (fun _ _ _ h => h) (Or.inl ⟨by rfl, ?_⟩) (by assumption) ?_
    rotate_left
    (focus (intro w hSw; (try dsimp only at hSw); (first | (go_simp; done) | (go_simp; with_reducible rfl) | with_reducible rfl)))
    (try simp only [Act.put]); (try simp only [List.setIfInBounds_toArray]); (try simp only [List.set_cons_succ]); (try simp only [List.set_cons_zero])
    refine wpAnyH_takeD (i := 2) (some 14) (v := ?_) rfl rfl (by kernel_rfl) (by kernel_rfl) (by kernel_rfl) (fun _ _ _ h => h) (Or.inl ⟨by rfl, ?_⟩) (by assumption) ?_
    rotate_left
    (focus (intro w hSw; (try dsimp only at hSw); (first | (go_simp; done) | (go_simp; with_reducible rfl) | with_reducible rfl)))
    (try simp only [Act.put]); (try simp only [List.setIfInBounds_toArray]); (try simp only [List.set_cons_succ]); (try simp only [List.set_cons_zero])
    refine wpAnyH_ready (rs := [1, 3]) (by kernel_rfl) (by simp) (AllReadyH.cons rfl (fun K hK => ?_) (AllReadyH.cons rfl (fun K hK => ?_) AllReadyH.nil))
    · go_simp
      refine hK.out _ _ ?_ (fun hHeld2 => ?_)
      · (try dsimp only)
        all_goals trivial
      clear hK K hHeld
      have hHeld := hHeld2
      clear hHeld2
      (try simp only [Act.put]); (try simp only [List.setIfInBounds_toArray]); (try simp only [List.set_cons_succ]); (try simp only [List.set_cons_zero])
      refine wpAnyH_ready (rs := [3]) (by kernel_rfl) (by simp) (AllReadyH.cons rfl (fun K hK => ?_) AllReadyH.nil)
      refine step_bL rfl (some 15) rfl 3 _ rfl [1, -1, 7] (by kernel_rfl) rfl ?_
      intro qa wa hqa rA ga
      have hcA : cb < qa := Nat.lt_of_lt_of_le D.cur.lt hqa
      replace D := D.grow ga
      (try clear kc kf); (try simp only [List.setIfInBounds_toArray, List.set_cons_succ, List.set_cons_zero] at D); (try (have kc := fun o => DS.cell0 D o; have kf := fun o => DS.frz0 D o))
      refine hK.out _ _ ?_ (fun hHeld2 => ?_)
      · (try dsimp only)
        all_goals trivial
      clear hK K hHeld
      have hHeld := hHeld2
      clear hHeld2
      (try simp only [Act.put]); (try simp only [List.setIfInBounds_toArray]); (try simp only [List.set_cons_succ]); (try simp only [List.set_cons_zero])
      refine wpAnyH_ready (rs := [4]) (by kernel_rfl) (by simp) (AllReadyH.cons rfl (fun K hK => ?_) AllReadyH.nil)
      go_simp
      go_at_call 22
      refine (spec_l1Int _ cb _ 3 3 _ _ D.cur ⟨rA, fun p hp => by cases hp; exact hcA⟩ (by decide) (by decide)).mono ?_
      rintro e wi ⟨dt, hdt, rfl, cu, d⟩
      replace D := D.step cu d
      (try clear kc kf); (try simp only [List.setIfInBounds_toArray, List.set_cons_succ, List.set_cons_zero] at D); (try (have kc := fun o => DS.cell0 D o; have kf := fun o => DS.frz0 D o))
      go_wp2_with fail
      refine hK.out _ _ ?_ (fun hHeld2 => ?_)
      · (try dsimp only)
        all_goals trivial
      clear hK K hHeld
      have hHeld := hHeld2
      clear hHeld2
      (try simp only [Act.put]); (try simp only [List.setIfInBounds_toArray]); (try simp only [List.set_cons_succ]); (try simp only [List.set_cons_zero])
      refine wpAnyH_takeD (i := 5) (some 17) (v := ?_) rfl rfl (by kernel_rfl) (by kernel_rfl) (by kernel_rfl) (fun _ _ _ h => h) (Or.inl ⟨by rfl, ?_⟩) (by assumption) ?_
      rotate_left
      (focus (intro w hSw; (try dsimp only at hSw); (first | (go_simp; done) | (go_simp; with_reducible rfl) | with_reducible rfl)))
      (try simp only [Act.put]); (try simp only [List.setIfInBounds_toArray]); (try simp only [List.set_cons_succ]); (try simp only [List.set_cons_zero])
      refine wpAnyH_takeD (i := 6) (some 18) (v := ?_) rfl rfl (by kernel_rfl) (by kernel_rfl) (by kernel_rfl) (fun _ _ _ h => h) (Or.inl ⟨by rfl, ?_⟩) (by assumption) ?_
      rotate_left
      (focus (intro w hSw; (try dsimp only at hSw); (first | (go_simp; done) | (go_simp; with_reducible rfl) | with_reducible rfl)))
      (try simp only [Act.put]); (try simp only [List.setIfInBounds_toArray]); (try simp only [List.set_cons_succ]); (try simp only [List.set_cons_zero])
      refine wpAnyH_ready (rs := [7]) (by kernel_rfl) (by simp) (AllReadyH.cons rfl (fun K hK => ?_) AllReadyH.nil)
      refine step_set1 rfl rfl 3 _ _ rfl w1.heap.size 8 (.int .i64 (IntKind.i64.wrap (seq + dt))) rfl rfl 32 _ (D.bx _ (List.mem_cons_self ..)).1 (by simp) si_int rfl rfl ?_
      intro w5 Bz g5
      replace D := D.row (b1 := []) rfl Bz g5
      (try clear kc kf); (try simp only [List.setIfInBounds_toArray, List.set_cons_succ, List.set_cons_zero] at D); (try (have kc := fun o => DS.cell0 D o; have kf := fun o => DS.frz0 D o))
      refine hK.out _ _ ?_ (fun hHeld2 => ?_)
      · (try dsimp only)
        all_goals trivial
      clear hK K hHeld
      have hHeld := hHeld2
      clear hHeld2
      (try simp only [Act.put]); (try simp only [List.setIfInBounds_toArray]); (try simp only [List.set_cons_succ]); (try simp only [List.set_cons_zero])
      refine wpAnyH_done (by kernel_rfl) ?_ _
      (try dsimp only)
      go_wp2_with (first | ((with_reducible refine wpList_stD1 D ?_ (.tmp 4) (.tmp 56) ?_ ?_ ?_ ?_ ?_ ?_ ?_ ?_); (focus rfl); (focus rfl); rotate_left; (focus rfl); (focus rfl); (focus (exact si_Frame)); (focus rfl); (focus (first | rfl | (simp [Value.oneCell']; done))); clear D; intro w1 D; (try simp only [Act.put]); (try simp only [List.setIfInBounds_toArray]); (try simp only [List.set_cons_succ]); (try simp only [List.set_cons_zero]); (try clear kc kf); have kr := fun o => DS.cell1 D o))
      (refine' bodyPost_ret ?_ rfl ?_; rotate_left; (focus (simp [results, Tryz.results43, go_sem, kr]; rfl)); exact ⟨_, _, _, _, _, _, _, _, _, _, _, _, _, _, _, _, _, _, _, _, _, _, _, rfl, D.de, by (first | exact BR.nil _ _ | exact D.b0 | exact D.tl.b0 | exact D.tl.tl.b0 | exact D.tl.tl.tl.b0 | exact D.tl.tl.tl.tl.b0 | exact D.tl.tl.tl.tl.tl.b0 | exact D.tl.tl.tl.tl.tl.tl.b0), by (first | exact BR.nil _ _ | exact D.b0 | exact D.tl.b0 | exact D.tl.tl.b0 | exact D.tl.tl.tl.b0 | exact D.tl.tl.tl.tl.b0 | exact D.tl.tl.tl.tl.tl.b0 | exact D.tl.tl.tl.tl.tl.tl.b0), by (first | exact BR.nil _ _ | exact D.b0 | exact D.tl.b0 | exact D.tl.tl.b0 | exact D.tl.tl.tl.b0 | exact D.tl.tl.tl.tl.b0 | exact D.tl.tl.tl.tl.tl.b0 | exact D.tl.tl.tl.tl.tl.tl.b0), by (first | exact BR.nil _ _ | exact D.b0 | exact D.tl.b0 | exact D.tl.tl.b0 | exact D.tl.tl.tl.b0 | exact D.tl.tl.tl.tl.b0 | exact D.tl.tl.tl.tl.tl.b0 | exact D.tl.tl.tl.tl.tl.tl.b0), by (first | exact BR.nil _ _ | exact D.b0 | exact D.tl.b0 | exact D.tl.tl.b0 | exact D.tl.tl.tl.b0 | exact D.tl.tl.tl.tl.b0 | exact D.tl.tl.tl.tl.tl.b0 | exact D.tl.tl.tl.tl.tl.tl.b0), by (first | exact BR.nil _ _ | exact D.b0 | exact D.tl.b0 | exact D.tl.tl.b0 | exact D.tl.tl.tl.b0 | exact D.tl.tl.tl.tl.b0 | exact D.tl.tl.tl.tl.tl.b0 | exact D.tl.tl.tl.tl.tl.tl.b0)⟩)
    · refine step_bL rfl (some 15) rfl 3 _ rfl [1, -1, 7] (by kernel_rfl) rfl ?_
      intro qa wa hqa rA ga
      have hcA : cb < qa := Nat.lt_of_lt_of_le D.cur.lt hqa
      replace D := D.grow ga
      (try clear kc kf); (try simp only [List.setIfInBounds_toArray, List.set_cons_succ, List.set_cons_zero] at D); (try (have kc := fun o => DS.cell0 D o; have kf := fun o => DS.frz0 D o))
      refine hK.out _ _ ?_ (fun hHeld2 => ?_)
      · (try dsimp only)
        all_goals trivial
      clear hK K hHeld
      have hHeld := hHeld2
      clear hHeld2
      (try simp only [Act.put]); (try simp only [List.setIfInBounds_toArray]); (try simp only [List.set_cons_succ]); (try simp only [List.set_cons_zero])
      refine wpAnyH_ready (rs := [1, 4]) (by kernel_rfl) (by simp) (AllReadyH.cons rfl (fun K hK => ?_) (AllReadyH.cons rfl (fun K hK => ?_) AllReadyH.nil))
      · go_simp
        refine hK.out _ _ ?_ (fun hHeld2 => ?_)
        · (try dsimp only)
          all_goals trivial
        clear hK K hHeld
        have hHeld := hHeld2
        clear hHeld2
        (try simp only [Act.put]); (try simp only [List.setIfInBounds_toArray]); (try simp only [List.set_cons_succ]); (try simp only [List.set_cons_zero])
        refine wpAnyH_ready (rs := [4]) (by kernel_rfl) (by simp) (AllReadyH.cons rfl (fun K hK => ?_) AllReadyH.nil)
        go_simp
        go_at_call 22
        refine (spec_l1Int _ cb _ 3 3 _ _ D.cur ⟨rA, fun p hp => by cases hp; exact hcA⟩ (by decide) (by decide)).mono ?_
        rintro e wi ⟨dt, hdt, rfl, cu, d⟩
        replace D := D.step cu d
        (try clear kc kf); (try simp only [List.setIfInBounds_toArray, List.set_cons_succ, List.set_cons_zero] at D); (try (have kc := fun o => DS.cell0 D o; have kf := fun o => DS.frz0 D o))
        go_wp2_with fail
        refine hK.out _ _ ?_ (fun hHeld2 => ?_)
        · (try dsimp only)
          all_goals trivial
        clear hK K hHeld
        have hHeld := hHeld2
        clear hHeld2
        (try simp only [Act.put]); (try simp only [List.setIfInBounds_toArray]); (try simp only [List.set_cons_succ]); (try simp only [List.set_cons_zero])
        refine wpAnyH_takeD (i := 5) (some 17) (v := ?_) rfl rfl (by kernel_rfl) (by kernel_rfl) (by kernel_rfl) (fun _ _ _ h => h) (Or.inl ⟨by rfl, ?_⟩) (by assumption) ?_
        rotate_left
        (focus (intro w hSw; (try dsimp only at hSw); (first | (go_simp; done) | (go_simp; with_reducible rfl) | with_reducible rfl)))
        (try simp only [Act.put]); (try simp only [List.setIfInBounds_toArray]); (try simp only [List.set_cons_succ]); (try simp only [List.set_cons_zero])
        refine wpAnyH_takeD (i := 6) (some 18) (v := ?_) rfl rfl (by kernel_rfl) (by kernel_rfl) (by kernel_rfl) (fun _ _ _ h => h) (Or.inl ⟨by rfl, ?_⟩) (by assumption) ?_
        rotate_left
        (focus (intro w hSw; (try dsimp only at hSw); (first | (go_simp; done) | (go_simp; with_reducible rfl) | with_reducible rfl)))
        (try simp only [Act.put]); (try simp only [List.setIfInBounds_toArray]); (try simp only [List.set_cons_succ]); (try simp only [List.set_cons_zero])
        refine wpAnyH_ready (rs := [7]) (by kernel_rfl) (by simp) (AllReadyH.cons rfl (fun K hK => ?_) AllReadyH.nil)
        refine step_set1 rfl rfl 3 _ _ rfl w1.heap.size 8 (.int .i64 (IntKind.i64.wrap (seq + dt))) rfl rfl 32 _ (D.bx _ (List.mem_cons_self ..)).1 (by simp) si_int rfl rfl ?_
        intro w5 Bz g5
        replace D := D.row (b1 := []) rfl Bz g5
        (try clear kc kf); (try simp only [List.setIfInBounds_toArray, List.set_cons_succ, List.set_cons_zero] at D); (try (have kc := fun o => DS.cell0 D o; have kf := fun o => DS.frz0 D o))
        refine hK.out _ _ ?_ (fun hHeld2 => ?_)
        · (try dsimp only)
          all_goals trivial
        clear hK K hHeld
        have hHeld := hHeld2
        clear hHeld2
        (try simp only [Act.put]); (try simp only [List.setIfInBounds_toArray]); (try simp only [List.set_cons_succ]); (try simp only [List.set_cons_zero])
        refine wpAnyH_done (by kernel_rfl) ?_ _
        (try dsimp only)
        go_wp2_with (first | ((with_reducible refine wpList_stD1 D ?_ (.tmp 4) (.tmp 56) ?_ ?_ ?_ ?_ ?_ ?_ ?_ ?_); (focus rfl); (focus rfl); rotate_left; (focus rfl); (focus rfl); (focus (exact si_Frame)); (focus rfl); (focus (first | rfl | (simp [Value.oneCell']; done))); clear D; intro w1 D; (try simp only [Act.put]); (try simp only [List.setIfInBounds_toArray]); (try simp only [List.set_cons_succ]); (try simp only [List.set_cons_zero]); (try clear kc kf); have kr := fun o => DS.cell1 D o))
        (refine' bodyPost_ret ?_ rfl ?_; rotate_left; (focus (simp [results, Tryz.results43, go_sem, kr]; rfl)); exact ⟨_, _, _, _, _, _, _, _, _, _, _, _, _, _, _, _, _, _, _, _, _, _, _, rfl, D.de, by (first | exact BR.nil _ _ | exact D.b0 | exact D.tl.b0 | exact D.tl.tl.b0 | exact D.tl.tl.tl.b0 | exact D.tl.tl.tl.tl.b0 | exact D.tl.tl.tl.tl.tl.b0 | exact D.tl.tl.tl.tl.tl.tl.b0), by (first | exact BR.nil _ _ | exact D.b0 | exact D.tl.b0 | exact D.tl.tl.b0 | exact D.tl.tl.tl.b0 | exact D.tl.tl.tl.tl.b0 | exact D.tl.tl.tl.tl.tl.b0 | exact D.tl.tl.tl.tl.tl.tl.b0), by (first | exact BR.nil _ _ | exact D.b0 | exact D.tl.b0 | exact D.tl.tl.b0 | exact D.tl.tl.tl.b0 | exact D.tl.tl.tl.tl.b0 | exact D.tl.tl.tl.tl.tl.b0 | exact D.tl.tl.tl.tl.tl.tl.b0), by (first | exact BR.nil _ _ | exact D.b0 | exact D.tl.b0 | exact D.tl.tl.b0 | exact D.tl.tl.tl.b0 | exact D.tl.tl.tl.tl.b0 | exact D.tl.tl.tl.tl.tl.b0 | exact D.tl.tl.tl.tl.tl.tl.b0), by (first | exact BR.nil _ _ | exact D.b0 | exact D.tl.b0 | exact D.tl.tl.b0 | exact D.tl.tl.tl.b0 | exact D.tl.tl.tl.tl.b0 | exact D.tl.tl.tl.tl.tl.b0 | exact D.tl.tl.tl.tl.tl.tl.b0), by (first | exact BR.nil _ _ | exact D.b0 | exact D.tl.b0 | exact D.tl.tl.b0 | exact D.tl.tl.tl.b0 | exact D.tl.tl.tl.tl.b0 | exact D.tl.tl.tl.tl.tl.b0 | exact D.tl.tl.tl.tl.tl.tl.b0)⟩)
      · go_simp
        go_at_call 22
        refine (spec_l1Int _ cb _ 3 3 _ _ D.cur ⟨rA, fun p hp => by cases hp; exact hcA⟩ (by decide) (by decide)).mono ?_
        rintro e wi ⟨dt, hdt, rfl, cu, d⟩
        replace D := D.step cu d
        (try clear kc kf); (try simp only [List.setIfInBounds_toArray, List.set_cons_succ, List.set_cons_zero] at D); (try (have kc := fun o => DS.cell0 D o; have kf := fun o => DS.frz0 D o))
        go_wp2_with fail
        refine hK.out _ _ ?_ (fun hHeld2 => ?_)
        · (try dsimp only)
          all_goals trivial
        clear hK K hHeld
        have hHeld := hHeld2
        clear hHeld2
        (try simp only [Act.put]); (try simp only [List.setIfInBounds_toArray]); (try simp only [List.set_cons_succ]); (try simp only [List.set_cons_zero])
        refine wpAnyH_ready (rs := [1]) (by kernel_rfl) (by simp) (AllReadyH.cons rfl (fun K hK => ?_) AllReadyH.nil)
        go_simp
        refine hK.out _ _ ?_ (fun hHeld2 => ?_)
        · (try dsimp only)
          all_goals trivial
        clear hK K hHeld
        have hHeld := hHeld2
        clear hHeld2
        (try simp only [Act.put]); (try simp only [List.setIfInBounds_toArray]); (try simp only [List.set_cons_succ]); (try simp only [List.set_cons_zero])
        refine wpAnyH_takeD (i := 5) (some 17) (v := ?_) rfl rfl (by kernel_rfl) (by kernel_rfl) (by kernel_rfl) (fun _ _ _ h => h) (Or.inl ⟨by rfl, ?_⟩) (by assumption) ?_
        rotate_left
        (focus (intro w hSw; (try dsimp only at hSw); (first | (go_simp; done) | (go_simp; with_reducible rfl) | with_reducible rfl)))
        (try simp only [Act.put]); (try simp only [List.setIfInBounds_toArray]); (try simp only [List.set_cons_succ]); (try simp only [List.set_cons_zero])
        refine wpAnyH_takeD (i := 6) (some 18) (v := ?_) rfl rfl (by kernel_rfl) (by kernel_rfl) (by kernel_rfl) (fun _ _ _ h => h) (Or.inl ⟨by rfl, ?_⟩) (by assumption) ?_
        rotate_left
        (focus (intro w hSw; (try dsimp only at hSw); (first | (go_simp; done) | (go_simp; with_reducible rfl) | with_reducible rfl)))
        (try simp only [Act.put]); (try simp only [List.setIfInBounds_toArray]); (try simp only [List.set_cons_succ]); (try simp only [List.set_cons_zero])
        refine wpAnyH_ready (rs := [7]) (by kernel_rfl) (by simp) (AllReadyH.cons rfl (fun K hK => ?_) AllReadyH.nil)
        refine step_set1 rfl rfl 3 _ _ rfl w1.heap.size 8 (.int .i64 (IntKind.i64.wrap (seq + dt))) rfl rfl 32 _ (D.bx _ (List.mem_cons_self ..)).1 (by simp) si_int rfl rfl ?_
        intro w5 Bz g5
        replace D := D.row (b1 := []) rfl Bz g5
        (try clear kc kf); (try simp only [List.setIfInBounds_toArray, List.set_cons_succ, List.set_cons_zero] at D); (try (have kc := fun o => DS.cell0 D o; have kf := fun o => DS.frz0 D o))
        refine hK.out _ _ ?_ (fun hHeld2 => ?_)
        · (try dsimp only)
          all_goals trivial
        clear hK K hHeld
        have hHeld := hHeld2
        clear hHeld2
        (try simp only [Act.put]); (try simp only [List.setIfInBounds_toArray]); (try simp only [List.set_cons_succ]); (try simp only [List.set_cons_zero])
        refine wpAnyH_done (by kernel_rfl) ?_ _
        (try dsimp only)
        go_wp2_with (first | ((with_reducible refine wpList_stD1 D ?_ (.tmp 4) (.tmp 56) ?_ ?_ ?_ ?_ ?_ ?_ ?_ ?_); (focus rfl); (focus rfl); rotate_left; (focus rfl); (focus rfl); (focus (exact si_Frame)); (focus rfl); (focus (first | rfl | (simp [Value.oneCell']; done))); clear D; intro w1 D; (try simp only [Act.put]); (try simp only [List.setIfInBounds_toArray]); (try simp only [List.set_cons_succ]); (try simp only [List.set_cons_zero]); (try clear kc kf); have kr := fun o => DS.cell1 D o))
        (refine' bodyPost_ret ?_ rfl ?_; rotate_left; (focus (simp [results, Tryz.results43, go_sem, kr]; rfl)); exact ⟨_, _, _, _, _, _, _, _, _, _, _, _, _, _, _, _, _, _, _, _, _, _, _, rfl, D.de, by (first | exact BR.nil _ _ | exact D.b0 | exact D.tl.b0 | exact D.tl.tl.b0 | exact D.tl.tl.tl.b0 | exact D.tl.tl.tl.tl.b0 | exact D.tl.tl.tl.tl.tl.b0 | exact D.tl.tl.tl.tl.tl.tl.b0), by (first | exact BR.nil _ _ | exact D.b0 | exact D.tl.b0 | exact D.tl.tl.b0 | exact D.tl.tl.tl.b0 | exact D.tl.tl.tl.tl.b0 | exact D.tl.tl.tl.tl.tl.b0 | exact D.tl.tl.tl.tl.tl.tl.b0), by (first | exact BR.nil _ _ | exact D.b0 | exact D.tl.b0 | exact D.tl.tl.b0 | exact D.tl.tl.tl.b0 | exact D.tl.tl.tl.tl.b0 | exact D.tl.tl.tl.tl.tl.b0 | exact D.tl.tl.tl.tl.tl.tl.b0), by (first | exact BR.nil _ _ | exact D.b0 | exact D.tl.b0 | exact D.tl.tl.b0 | exact D.tl.tl.tl.b0 | exact D.tl.tl.tl.tl.b0 | exact D.tl.tl.tl.tl.tl.b0 | exact D.tl.tl.tl.tl.tl.tl.b0), by (first | exact BR.nil _ _ | exact D.b0 | exact D.tl.b0 | exact D.tl.tl.b0 | exact D.tl.tl.tl.b0 | exact D.tl.tl.tl.tl.b0 | exact D.tl.tl.tl.tl.tl.b0 | exact D.tl.tl.tl.tl.tl.tl.b0), by (first | exact BR.nil _ _ | exact D.b0 | exact D.tl.b0 | exact D.tl.tl.b0 | exact D.tl.tl.tl.b0 | exact D.tl.tl.tl.tl.b0 | exact D.tl.tl.tl.tl.tl.b0 | exact D.tl.tl.tl.tl.tl.tl.b0)⟩)
  cases z1 : ((z : Int) == 1)
  rotate_left
  · go_wp2_with fail
    replace D := D.drew
    (try clear kc kf); (try simp only [List.setIfInBounds_toArray, List.set_cons_succ, List.set_cons_zero] at D); (try (have kc := fun o => DS.cell0 D o; have kf := fun o => DS.frz0 D o))
    refine wp_region_held_drew (S := (fun _ => True)) (by kernel_rfl) ?_ (fun hHeld => ?_)
    · (try dsimp only)
      all_goals trivial
    refine wpAnyH_takeD (i := 0) (some 21) (v := ?_) rfl rfl (by kernel_rfl) (by kernel_rfl) (by kernel_rfl) (fun _ _ _ h => h) (Or.inl ⟨by rfl, ?_⟩) (by assumption) ?_
    rotate_left
    (focus (intro w hSw; (try dsimp only at hSw); (first | (go_simp; done) | (go_simp; with_reducible rfl) | with_reducible rfl)))
    (try simp only [Act.put]); (try simp only [List.setIfInBounds_toArray]); (try simp only [List.set_cons_succ]); (try simp only [List.set_cons_zero])
    refine wpAnyH_takeD (i := 2) (some 23) (v := ?_) rfl rfl (by kernel_rfl) (by kernel_rfl) (by kernel_rfl) (fun _ _ _ h => h) (Or.inl ⟨by rfl, ?_⟩) (by assumption) ?_
    rotate_left
    (focus (intro w hSw; (try dsimp only at hSw); (first | (go_simp; done) | (go_simp; with_reducible rfl) | with_reducible rfl)))
    (try simp only [Act.put]); (try simp only [List.setIfInBounds_toArray]); (try simp only [List.set_cons_succ]); (try simp only [List.set_cons_zero])
    refine wpAnyH_ready (rs := [1, 3]) (by kernel_rfl) (by simp) (AllReadyH.cons rfl (fun K hK => ?_) (AllReadyH.cons rfl (fun K hK => ?_) AllReadyH.nil))
    · go_simp
      refine hK.out _ _ ?_ (fun hHeld2 => ?_)
      · (try dsimp only)
        all_goals trivial
      clear hK K hHeld
      have hHeld := hHeld2
      clear hHeld2
      (try simp only [Act.put]); (try simp only [List.setIfInBounds_toArray]); (try simp only [List.set_cons_succ]); (try simp only [List.set_cons_zero])
      refine wpAnyH_ready (rs := [3]) (by kernel_rfl) (by simp) (AllReadyH.cons rfl (fun K hK => ?_) AllReadyH.nil)
      refine step_bL rfl (some 24) rfl 2 _ rfl [1, -1] (by kernel_rfl) rfl ?_
      intro qa wa hqa rA ga
      have hcA : cb < qa := Nat.lt_of_lt_of_le D.cur.lt hqa
      replace D := D.grow ga
      (try clear kc kf); (try simp only [List.setIfInBounds_toArray, List.set_cons_succ, List.set_cons_zero] at D); (try (have kc := fun o => DS.cell0 D o; have kf := fun o => DS.frz0 D o))
      refine hK.out _ _ ?_ (fun hHeld2 => ?_)
      · (try dsimp only)
        all_goals trivial
      clear hK K hHeld
      have hHeld := hHeld2
      clear hHeld2
      (try simp only [Act.put]); (try simp only [List.setIfInBounds_toArray]); (try simp only [List.set_cons_succ]); (try simp only [List.set_cons_zero])
      refine wpAnyH_ready (rs := [4]) (by kernel_rfl) (by simp) (AllReadyH.cons rfl (fun K hK => ?_) AllReadyH.nil)
      go_simp
      go_at_call 22
      refine (spec_l1Int _ cb _ 2 2 _ _ D.cur ⟨rA, fun p hp => by cases hp; exact hcA⟩ (by decide) (by decide)).mono ?_
      rintro e wi ⟨dt, hdt, rfl, cu, d⟩
      replace D := D.step cu d
      (try clear kc kf); (try simp only [List.setIfInBounds_toArray, List.set_cons_succ, List.set_cons_zero] at D); (try (have kc := fun o => DS.cell0 D o; have kf := fun o => DS.frz0 D o))
      go_wp2_with fail
      refine hK.out _ _ ?_ (fun hHeld2 => ?_)
      · (try dsimp only)
        all_goals trivial
      clear hK K hHeld
      have hHeld := hHeld2
      clear hHeld2
      (try simp only [Act.put]); (try simp only [List.setIfInBounds_toArray]); (try simp only [List.set_cons_succ]); (try simp only [List.set_cons_zero])
      refine wpAnyH_takeD (i := 5) (some 26) (v := ?_) rfl rfl (by kernel_rfl) (by kernel_rfl) (by kernel_rfl) (fun _ _ _ h => h) (Or.inl ⟨by rfl, ?_⟩) (by assumption) ?_
      rotate_left
      (focus (intro w hSw; (try dsimp only at hSw); (first | (go_simp; done) | (go_simp; with_reducible rfl) | with_reducible rfl)))
      (try simp only [Act.put]); (try simp only [List.setIfInBounds_toArray]); (try simp only [List.set_cons_succ]); (try simp only [List.set_cons_zero])
      refine wpAnyH_takeD (i := 6) (some 27) (v := ?_) rfl rfl (by kernel_rfl) (by kernel_rfl) (by kernel_rfl) (fun _ _ _ h => h) (Or.inl ⟨by rfl, ?_⟩) (by assumption) ?_
      rotate_left
      (focus (intro w hSw; (try dsimp only at hSw); (first | (go_simp; done) | (go_simp; with_reducible rfl) | with_reducible rfl)))
      (try simp only [Act.put]); (try simp only [List.setIfInBounds_toArray]); (try simp only [List.set_cons_succ]); (try simp only [List.set_cons_zero])
      refine wpAnyH_ready (rs := [7]) (by kernel_rfl) (by simp) (AllReadyH.cons rfl (fun K hK => ?_) AllReadyH.nil)
      refine step_set1 rfl rfl 3 _ _ rfl w1.heap.size 7 (.int .i64 (IntKind.i64.wrap (epoch + dt))) rfl rfl 32 _ (D.bx _ (List.mem_cons_self ..)).1 (by simp) si_int rfl rfl ?_
      intro w5 Bz g5
      replace D := D.row (b1 := []) rfl Bz g5
      (try clear kc kf); (try simp only [List.setIfInBounds_toArray, List.set_cons_succ, List.set_cons_zero] at D); (try (have kc := fun o => DS.cell0 D o; have kf := fun o => DS.frz0 D o))
      refine hK.out _ _ ?_ (fun hHeld2 => ?_)
      · (try dsimp only)
        all_goals trivial
      clear hK K hHeld
      have hHeld := hHeld2
      clear hHeld2
      (try simp only [Act.put]); (try simp only [List.setIfInBounds_toArray]); (try simp only [List.set_cons_succ]); (try simp only [List.set_cons_zero])
      refine wpAnyH_done (by kernel_rfl) ?_ _
      (try dsimp only)
      go_wp2_with (first | ((with_reducible refine wpList_stD1 D ?_ (.tmp 4) (.tmp 56) ?_ ?_ ?_ ?_ ?_ ?_ ?_ ?_); (focus rfl); (focus rfl); rotate_left; (focus rfl); (focus rfl); (focus (exact si_Frame)); (focus rfl); (focus (first | rfl | (simp [Value.oneCell']; done))); clear D; intro w1 D; (try simp only [Act.put]); (try simp only [List.setIfInBounds_toArray]); (try simp only [List.set_cons_succ]); (try simp only [List.set_cons_zero]); (try clear kc kf); have kr := fun o => DS.cell1 D o))
      (refine' bodyPost_ret ?_ rfl ?_; rotate_left; (focus (simp [results, Tryz.results43, go_sem, kr]; rfl)); exact ⟨_, _, _, _, _, _, _, _, _, _, _, _, _, _, _, _, _, _, _, _, _, _, _, rfl, D.de, by (first | exact BR.nil _ _ | exact D.b0 | exact D.tl.b0 | exact D.tl.tl.b0 | exact D.tl.tl.tl.b0 | exact D.tl.tl.tl.tl.b0 | exact D.tl.tl.tl.tl.tl.b0 | exact D.tl.tl.tl.tl.tl.tl.b0), by (first | exact BR.nil _ _ | exact D.b0 | exact D.tl.b0 | exact D.tl.tl.b0 | exact D.tl.tl.tl.b0 | exact D.tl.tl.tl.tl.b0 | exact D.tl.tl.tl.tl.tl.b0 | exact D.tl.tl.tl.tl.tl.tl.b0), by (first | exact BR.nil _ _ | exact D.b0 | exact D.tl.b0 | exact D.tl.tl.b0 | exact D.tl.tl.tl.b0 | exact D.tl.tl.tl.tl.b0 | exact D.tl.tl.tl.tl.tl.b0 | exact D.tl.tl.tl.tl.tl.tl.b0), by (first | exact BR.nil _ _ | exact D.b0 | exact D.tl.b0 | exact D.tl.tl.b0 | exact D.tl.tl.tl.b0 | exact D.tl.tl.tl.tl.b0 | exact D.tl.tl.tl.tl.tl.b0 | exact D.tl.tl.tl.tl.tl.tl.b0), by (first | exact BR.nil _ _ | exact D.b0 | exact D.tl.b0 | exact D.tl.tl.b0 | exact D.tl.tl.tl.b0 | exact D.tl.tl.tl.tl.b0 | exact D.tl.tl.tl.tl.tl.b0 | exact D.tl.tl.tl.tl.tl.tl.b0), by (first | exact BR.nil _ _ | exact D.b0 | exact D.tl.b0 | exact D.tl.tl.b0 | exact D.tl.tl.tl.b0 | exact D.tl.tl.tl.tl.b0 | exact D.tl.tl.tl.tl.tl.b0 | exact D.tl.tl.tl.tl.tl.tl.b0)⟩)
    · refine step_bL rfl (some 24) rfl 2 _ rfl [1, -1] (by kernel_rfl) rfl ?_
      intro qa wa hqa rA ga
      have hcA : cb < qa := Nat.lt_of_lt_of_le D.cur.lt hqa
      replace D := D.grow ga
      (try clear kc kf); (try simp only [List.setIfInBounds_toArray, List.set_cons_succ, List.set_cons_zero] at D); (try (have kc := fun o => DS.cell0 D o; have kf := fun o => DS.frz0 D o))
      refine hK.out _ _ ?_ (fun hHeld2 => ?_)
      · (try dsimp only)
        all_goals trivial
      clear hK K hHeld
      have hHeld := hHeld2
      clear hHeld2
      (try simp only [Act.put]); (try simp only [List.setIfInBounds_toArray]); (try simp only [List.set_cons_succ]); (try simp only [List.set_cons_zero])
      refine wpAnyH_ready (rs := [1, 4]) (by kernel_rfl) (by simp) (AllReadyH.cons rfl (fun K hK => ?_) (AllReadyH.cons rfl (fun K hK => ?_) AllReadyH.nil))
      · go_simp
        refine hK.out _ _ ?_ (fun hHeld2 => ?_)
        · (try dsimp only)
          all_goals trivial
        clear hK K hHeld
        have hHeld := hHeld2
        clear hHeld2
        (try simp only [Act.put]); (try simp only [List.setIfInBounds_toArray]); (try simp only [List.set_cons_succ]); (try simp only [List.set_cons_zero])
        refine wpAnyH_ready (rs := [4]) (by kernel_rfl) (by simp) (AllReadyH.cons rfl (fun K hK => ?_) AllReadyH.nil)
        go_simp
        go_at_call 22
        refine (spec_l1Int _ cb _ 2 2 _ _ D.cur ⟨rA, fun p hp => by cases hp; exact hcA⟩ (by decide) (by decide)).mono ?_
        rintro e wi ⟨dt, hdt, rfl, cu, d⟩
        replace D := D.step cu d
        (try clear kc kf); (try simp only [List.setIfInBounds_toArray, List.set_cons_succ, List.set_cons_zero] at D); (try (have kc := fun o => DS.cell0 D o; have kf := fun o => DS.frz0 D o))
        go_wp2_with fail
        refine hK.out _ _ ?_ (fun hHeld2 => ?_)
        · (try dsimp only)
          all_goals trivial
        clear hK K hHeld
        have hHeld := hHeld2
        clear hHeld2
        (try simp only [Act.put]); (try simp only [List.setIfInBounds_toArray]); (try simp only [List.set_cons_succ]); (try simp only [List.set_cons_zero])
        refine wpAnyH_takeD (i := 5) (some 26) (v := ?_) rfl rfl (by kernel_rfl) (by kernel_rfl) (by kernel_rfl) (fun _ _ _ h => h) (Or.inl ⟨by rfl, ?_⟩) (by assumption) ?_
        rotate_left
        (focus (intro w hSw; (try dsimp only at hSw); (first | (go_simp; done) | (go_simp; with_reducible rfl) | with_reducible rfl)))
        (try simp only [Act.put]); (try simp only [List.setIfInBounds_toArray]); (try simp only [List.set_cons_succ]); (try simp only [List.set_cons_zero])
        refine wpAnyH_takeD (i := 6) (some 27) (v := ?_) rfl rfl (by kernel_rfl) (by kernel_rfl) (by kernel_rfl) (fun _ _ _ h => h) (Or.inl ⟨by rfl, ?_⟩) (by assumption) ?_
        rotate_left
        (focus (intro w hSw; (try dsimp only at hSw); (first | (go_simp; done) | (go_simp; with_reducible rfl) | with_reducible rfl)))
        (try simp only [Act.put]); (try simp only [List.setIfInBounds_toArray]); (try simp only [List.set_cons_succ]); (try simp only [List.set_cons_zero])
        refine wpAnyH_ready (rs := [7]) (by kernel_rfl) (by simp) (AllReadyH.cons rfl (fun K hK => ?_) AllReadyH.nil)
        refine step_set1 rfl rfl 3 _ _ rfl w1.heap.size 7 (.int .i64 (IntKind.i64.wrap (epoch + dt))) rfl rfl 32 _ (D.bx _ (List.mem_cons_self ..)).1 (by simp) si_int rfl rfl ?_
        intro w5 Bz g5
        replace D := D.row (b1 := []) rfl Bz g5
        (try clear kc kf); (try simp only [List.setIfInBounds_toArray, List.set_cons_succ, List.set_cons_zero] at D); (try (have kc := fun o => DS.cell0 D o; have kf := fun o => DS.frz0 D o))
        refine hK.out _ _ ?_ (fun hHeld2 => ?_)
        · (try dsimp only)
          all_goals trivial
        clear hK K hHeld
        have hHeld := hHeld2
        clear hHeld2
        (try simp only [Act.put]); (try simp only [List.setIfInBounds_toArray]); (try simp only [List.set_cons_succ]); (try simp only [List.set_cons_zero])
        refine wpAnyH_done (by kernel_rfl) ?_ _
        (try dsimp only)
        go_wp2_with (first | ((with_reducible refine wpList_stD1 D ?_ (.tmp 4) (.tmp 56) ?_ ?_ ?_ ?_ ?_ ?_ ?_ ?_); (focus rfl); (focus rfl); rotate_left; (focus rfl); (focus rfl); (focus (exact si_Frame)); (focus rfl); (focus (first | rfl | (simp [Value.oneCell']; done))); clear D; intro w1 D; (try simp only [Act.put]); (try simp only [List.setIfInBounds_toArray]); (try simp only [List.set_cons_succ]); (try simp only [List.set_cons_zero]); (try clear kc kf); have kr := fun o => DS.cell1 D o))
        (refine' bodyPost_ret ?_ rfl ?_; rotate_left; (focus (simp [results, Tryz.results43, go_sem, kr]; rfl)); exact ⟨_, _, _, _, _, _, _, _, _, _, _, _, _, _, _, _, _, _, _, _, _, _, _, rfl, D.de, by (first | exact BR.nil _ _ | exact D.b0 | exact D.tl.b0 | exact D.tl.tl.b0 | exact D.tl.tl.tl.b0 | exact D.tl.tl.tl.tl.b0 | exact D.tl.tl.tl.tl.tl.b0 | exact D.tl.tl.tl.tl.tl.tl.b0), by (first | exact BR.nil _ _ | exact D.b0 | exact D.tl.b0 | exact D.tl.tl.b0 | exact D.tl.tl.tl.b0 | exact D.tl.tl.tl.tl.b0 | exact D.tl.tl.tl.tl.tl.b0 | exact D.tl.tl.tl.tl.tl.tl.b0), by (first | exact BR.nil _ _ | exact D.b0 | exact D.tl.b0 | exact D.tl.tl.b0 | exact D.tl.tl.tl.b0 | exact D.tl.tl.tl.tl.b0 | exact D.tl.tl.tl.tl.tl.b0 | exact D.tl.tl.tl.tl.tl.tl.b0), by (first | exact BR.nil _ _ | exact D.b0 | exact D.tl.b0 | exact D.tl.tl.b0 | exact D.tl.tl.tl.b0 | exact D.tl.tl.tl.tl.b0 | exact D.tl.tl.tl.tl.tl.b0 | exact D.tl.tl.tl.tl.tl.tl.b0), by (first | exact BR.nil _ _ | exact D.b0 | exact D.tl.b0 | exact D.tl.tl.b0 | exact D.tl.tl.tl.b0 | exact D.tl.tl.tl.tl.b0 | exact D.tl.tl.tl.tl.tl.b0 | exact D.tl.tl.tl.tl.tl.tl.b0), by (first | exact BR.nil _ _ | exact D.b0 | exact D.tl.b0 | exact D.tl.tl.b0 | exact D.tl.tl.tl.b0 | exact D.tl.tl.tl.tl.b0 | exact D.tl.tl.tl.tl.tl.b0 | exact D.tl.tl.tl.tl.tl.tl.b0)⟩)
      · go_simp
        go_at_call 22
        refine (spec_l1Int _ cb _ 2 2 _ _ D.cur ⟨rA, fun p hp => by cases hp; exact hcA⟩ (by decide) (by decide)).mono ?_
        rintro e wi ⟨dt, hdt, rfl, cu, d⟩
        replace D := D.step cu d
        (try clear kc kf); (try simp only [List.setIfInBounds_toArray, List.set_cons_succ, List.set_cons_zero] at D); (try (have kc := fun o => DS.cell0 D o; have kf := fun o => DS.frz0 D o))
        go_wp2_with fail
        refine hK.out _ _ ?_ (fun hHeld2 => ?_)
        · (try dsimp only)
          all_goals trivial
        clear hK K hHeld
        have hHeld := hHeld2
        clear hHeld2
        (try simp only [Act.put]); (try simp only [List.setIfInBounds_toArray]); (try simp only [List.set_cons_succ]); (try simp only [List.set_cons_zero])
        refine wpAnyH_ready (rs := [1]) (by kernel_rfl) (by simp) (AllReadyH.cons rfl (fun K hK => ?_) AllReadyH.nil)
        go_simp
        refine hK.out _ _ ?_ (fun hHeld2 => ?_)
        · (try dsimp only)
          all_goals trivial
        clear hK K hHeld
        have hHeld := hHeld2
        clear hHeld2
        (try simp only [Act.put]); (try simp only [List.setIfInBounds_toArray]); (try simp only [List.set_cons_succ]); (try simp only [List.set_cons_zero])
        refine wpAnyH_takeD (i := 5) (some 26) (v := ?_) rfl rfl (by kernel_rfl) (by kernel_rfl) (by kernel_rfl) (fun _ _ _ h => h) (Or.inl ⟨by rfl, ?_⟩) (by assumption) ?_
        rotate_left
        (focus (intro w hSw; (try dsimp only at hSw); (first | (go_simp; done) | (go_simp; with_reducible rfl) | with_reducible rfl)))
        (try simp only [Act.put]); (try simp only [List.setIfInBounds_toArray]); (try simp only [List.set_cons_succ]); (try simp only [List.set_cons_zero])
        refine wpAnyH_takeD (i := 6) (some 27) (v := ?_) rfl rfl (by kernel_rfl) (by kernel_rfl) (by kernel_rfl) (fun _ _ _ h => h) (Or.inl ⟨by rfl, ?_⟩) (by assumption) ?_
        rotate_left
        (focus (intro w hSw; (try dsimp only at hSw); (first | (go_simp; done) | (go_simp; with_reducible rfl) | with_reducible rfl)))
        (try simp only [Act.put]); (try simp only [List.setIfInBounds_toArray]); (try simp only [List.set_cons_succ]); (try simp only [List.set_cons_zero])
        refine wpAnyH_ready (rs := [7]) (by kernel_rfl) (by simp) (AllReadyH.cons rfl (fun K hK => ?_) AllReadyH.nil)
        refine step_set1 rfl rfl 3 _ _ rfl w1.heap.size 7 (.int .i64 (IntKind.i64.wrap (epoch + dt))) rfl rfl 32 _ (D.bx _ (List.mem_cons_self ..)).1 (by simp) si_int rfl rfl ?_
        intro w5 Bz g5
        replace D := D.row (b1 := []) rfl Bz g5
        (try clear kc kf); (try simp only [List.setIfInBounds_toArray, List.set_cons_succ, List.set_cons_zero] at D); (try (have kc := fun o => DS.cell0 D o; have kf := fun o => DS.frz0 D o))
        refine hK.out _ _ ?_ (fun hHeld2 => ?_)
        · (try dsimp only)
          all_goals trivial
        clear hK K hHeld
        have hHeld := hHeld2
        clear hHeld2
        (try simp only [Act.put]); (try simp only [List.setIfInBounds_toArray]); (try simp only [List.set_cons_succ]); (try simp only [List.set_cons_zero])
        refine wpAnyH_done (by kernel_rfl) ?_ _
        (try dsimp only)
        go_wp2_with (first | ((with_reducible refine wpList_stD1 D ?_ (.tmp 4) (.tmp 56) ?_ ?_ ?_ ?_ ?_ ?_ ?_ ?_); (focus rfl); (focus rfl); rotate_left; (focus rfl); (focus rfl); (focus (exact si_Frame)); (focus rfl); (focus (first | rfl | (simp [Value.oneCell']; done))); clear D; intro w1 D; (try simp only [Act.put]); (try simp only [List.setIfInBounds_toArray]); (try simp only [List.set_cons_succ]); (try simp only [List.set_cons_zero]); (try clear kc kf); have kr := fun o => DS.cell1 D o))
        (refine' bodyPost_ret ?_ rfl ?_; rotate_left; (focus (simp [results, Tryz.results43, go_sem, kr]; rfl)); exact ⟨_, _, _, _, _, _, _, _, _, _, _, _, _, _, _, _, _, _, _, _, _, _, _, rfl, D.de, by (first | exact BR.nil _ _ | exact D.b0 | exact D.tl.b0 | exact D.tl.tl.b0 | exact D.tl.tl.tl.b0 | exact D.tl.tl.tl.tl.b0 | exact D.tl.tl.tl.tl.tl.b0 | exact D.tl.tl.tl.tl.tl.tl.b0), by (first | exact BR.nil _ _ | exact D.b0 | exact D.tl.b0 | exact D.tl.tl.b0 | exact D.tl.tl.tl.b0 | exact D.tl.tl.tl.tl.b0 | exact D.tl.tl.tl.tl.tl.b0 | exact D.tl.tl.tl.tl.tl.tl.b0), by (first | exact BR.nil _ _ | exact D.b0 | exact D.tl.b0 | exact D.tl.tl.b0 | exact D.tl.tl.tl.b0 | exact D.tl.tl.tl.tl.b0 | exact D.tl.tl.tl.tl.tl.b0 | exact D.tl.tl.tl.tl.tl.tl.b0), by (first | exact BR.nil _ _ | exact D.b0 | exact D.tl.b0 | exact D.tl.tl.b0 | exact D.tl.tl.tl.b0 | exact D.tl.tl.tl.tl.b0 | exact D.tl.tl.tl.tl.tl.b0 | exact D.tl.tl.tl.tl.tl.tl.b0), by (first | exact BR.nil _ _ | exact D.b0 | exact D.tl.b0 | exact D.tl.tl.b0 | exact D.tl.tl.tl.b0 | exact D.tl.tl.tl.tl.b0 | exact D.tl.tl.tl.tl.tl.b0 | exact D.tl.tl.tl.tl.tl.tl.b0), by (first | exact BR.nil _ _ | exact D.b0 | exact D.tl.b0 | exact D.tl.tl.b0 | exact D.tl.tl.tl.b0 | exact D.tl.tl.tl.tl.b0 | exact D.tl.tl.tl.tl.tl.b0 | exact D.tl.tl.tl.tl.tl.tl.b0)⟩)
  go_wp2_with (first | (go_at_call 69; (first | (with_reducible refine d_PBd D (spec_l1Bend _ cb a2 n2 c2 l2 _ D.cur D.tl.tl.tl.tl.r0 h2) ?_) | (with_reducible refine d_PBd D (spec_l1Bend _ cb a5 n5 c5 l5 _ D.cur D.tl.r0 h5) ?_) | (with_reducible refine d_PBd D (spec_l1Bend _ cb a6 n6 c6 l6 _ D.cur D.r0 h6) ?_)); clear D; intro w1 a n c l D; (try clear kc kf); (try simp only [List.setIfInBounds_toArray, List.set_cons_succ, List.set_cons_zero] at D); (try (have kc := fun o => DS.cell0 D o; have kf := fun o => DS.frz0 D o))) | (go_at_call 25; (first | (with_reducible refine d_l1Below D ?_) | (with_reducible refine d_l1Below (D.set0 _ _) ?_) | (with_reducible refine d_l1Below (D.box _ _) ?_) | (with_reducible refine d_l1Below ((D.set0 _ _).set0 _ _) ?_) | (with_reducible refine d_l1Below ((D.box _ _).set0 _ _) ?_)); clear D; intro w1 z hz D; (try clear kc kf); (try simp only [List.setIfInBounds_toArray, List.set_cons_succ, List.set_cons_zero] at D); (try (have kc := fun o => DS.cell0 D o; have kf := fun o => DS.frz0 D o))) | ((with_reducible refine wpList_stD1 (D.set0 _ _) ?_ (.tmp 4) (.tmp 56) ?_ ?_ ?_ ?_ ?_ ?_ ?_ ?_); (focus rfl); (focus rfl); rotate_left; (focus rfl); (focus rfl); (focus (exact si_Frame)); (focus rfl); (focus (first | rfl | (simp [Value.oneCell']; done))); clear D; intro w1 D; (try simp only [Act.put]); (try simp only [List.setIfInBounds_toArray]); (try simp only [List.set_cons_succ]); (try simp only [List.set_cons_zero]); (try clear kc kf); have kr := fun o => DS.cell1 D o) | ((with_reducible refine wpList_stD1 D ?_ (.tmp 4) (.tmp 56) ?_ ?_ ?_ ?_ ?_ ?_ ?_ ?_); (focus rfl); (focus rfl); rotate_left; (focus rfl); (focus rfl); (focus (exact si_Frame)); (focus rfl); (focus (first | rfl | (simp [Value.oneCell']; done))); clear D; intro w1 D; (try simp only [Act.put]); (try simp only [List.setIfInBounds_toArray]); (try simp only [List.set_cons_succ]); (try simp only [List.set_cons_zero]); (try clear kc kf); have kr := fun o => DS.cell1 D o))
  all_goals (refine' bodyPost_ret ?_ rfl ?_; rotate_left; (focus (simp [results, Tryz.results43, go_sem, kr]; rfl)); exact ⟨_, _, _, _, _, _, _, _, _, _, _, _, _, _, _, _, _, _, _, _, _, _, _, rfl, D.de, by (first | exact BR.nil _ _ | exact D.b0 | exact D.tl.b0 | exact D.tl.tl.b0 | exact D.tl.tl.tl.b0 | exact D.tl.tl.tl.tl.b0 | exact D.tl.tl.tl.tl.tl.b0 | exact D.tl.tl.tl.tl.tl.tl.b0), by (first | exact BR.nil _ _ | exact D.b0 | exact D.tl.b0 | exact D.tl.tl.b0 | exact D.tl.tl.tl.b0 | exact D.tl.tl.tl.tl.b0 | exact D.tl.tl.tl.tl.tl.b0 | exact D.tl.tl.tl.tl.tl.tl.b0), by (first | exact BR.nil _ _ | exact D.b0 | exact D.tl.b0 | exact D.tl.tl.b0 | exact D.tl.tl.tl.b0 | exact D.tl.tl.tl.tl.b0 | exact D.tl.tl.tl.tl.tl.b0 | exact D.tl.tl.tl.tl.tl.tl.b0), by (first | exact BR.nil _ _ | exact D.b0 | exact D.tl.b0 | exact D.tl.tl.b0 | exact D.tl.tl.tl.b0 | exact D.tl.tl.tl.tl.b0 | exact D.tl.tl.tl.tl.tl.b0 | exact D.tl.tl.tl.tl.tl.tl.b0), by (first | exact BR.nil _ _ | exact D.b0 | exact D.tl.b0 | exact D.tl.tl.b0 | exact D.tl.tl.tl.b0 | exact D.tl.tl.tl.tl.b0 | exact D.tl.tl.tl.tl.tl.b0 | exact D.tl.tl.tl.tl.tl.tl.b0), by (first | exact BR.nil _ _ | exact D.b0 | exact D.tl.b0 | exact D.tl.tl.b0 | exact D.tl.tl.tl.b0 | exact D.tl.tl.tl.tl.b0 | exact D.tl.tl.tl.tl.tl.b0 | exact D.tl.tl.tl.tl.tl.tl.b0)⟩)
theorem sealM_255 {l : List UInt8} {x : Int} {sn : List UInt8} {epoch seq kind : Int} {plain : List UInt8} :
    (sealM l x sn epoch seq kind plain).cn.length ≤ 255 ∧ (sealM l x sn epoch seq kind plain).sn.length ≤ 255 ∧ (sealM l x sn epoch seq kind plain).cookie.length ≤ 255 ∧ (sealM l x sn epoch seq kind plain).proof.length ≤ 255 ∧ (sealM l x sn epoch seq kind plain).body.length ≤ 255 ∧ (sealM l x sn epoch seq kind plain).tag.length ≤ 255 := by
  cases h : sealB l x sn epoch seq kind plain
  · rw [sealM, if_neg (by rw [h]; decide)]
    simp [zeroF]
  · obtain ⟨M, T, k⟩ := sealOk h
    rw [k.eq]
    have := k.tl
    have := k.ml
    have := k.pl
    have := (sealB_S h).2.1
    simp only [sealF, List.length_nil]
    omega
theorem d_SealB {a0 : Option Addr} {n0 c0 : Nat} {l0 : List UInt8} {x1 : Int} {a2 : Option Addr} {n2 c2 : Nat} {l2 : List UInt8} {x3 x4 x5 : Int} {a6 : Option Addr} {n6 c6 : Nat} {l6 : List UInt8} {B cb : Nat} {w0 w : World} {bs : List Vb} {L : List Sv} {Q : Ending → World → Prop} (D : DS B cb w0 w bs L)
    (r0 : Rd w a0 n0 c0 (bys l0)) (r2 : Rd w a2 n2 c2 (bys l2)) (r6 : Rd w a6 n6 c6 (bys l6)) (h2 : n2 ≤ 256) (h6 : n6 ≤ 256)
    (k : ∀ w' kind id a1 n1 c1 l1 a2 n2 c2 l2 tick a3 n3 c3 l3 a4 n4 c4 l4 epoch seq a5 n5 c5 l5 a6 n6 c6 l6 ok, Hid (n1 ≤ 255 ∧ n2 ≤ 255 ∧ n3 ≤ 255 ∧ n4 ≤ 255 ∧ n5 ≤ 255 ∧ n6 ≤ 255) → DS B cb w0 w' bs (⟨a6, n6, c6, bys l6⟩ :: ⟨a5, n5, c5, bys l5⟩ :: ⟨a4, n4, c4, bys l4⟩ :: ⟨a3, n3, c3, bys l3⟩ :: ⟨a2, n2, c2, bys l2⟩ :: ⟨a1, n1, c1, bys l1⟩ :: L) → Q (.returned (.tuple #[.agg #[.int .i64 kind, .int .i64 id, .slice a1 n1 c1, .slice a2 n2 c2, .int .i64 tick, .slice a3 n3 c3, .slice a4 n4 c4, .int .i64 epoch, .int .i64 seq, .slice a5 n5 c5, .slice a6 n6 c6], .bool ok])) w') :
    Calls Tryz.prog 33 #[.slice a0 n0 c0, .int .i64 x1, .slice a2 n2 c2, .int .i64 x3, .int .i64 x4, .int .i64 x5, .slice a6 n6 c6] w Q := by
  have e2 := r2.blen
  have e6 := r6.blen
  refine (spec_Seal a0 n0 c0 l0 x1 a2 n2 c2 l2 x3 x4 x5 a6 n6 c6 l6 w r0 r2 r6 (by omega) (by omega)).mono ?_
  rintro e w' ⟨v', rfl, o, g⟩
  obtain ⟨s1, s2, s3, s4, s5, s6⟩ := sealM_255 (l := l0) (x := x1) (sn := l2) (epoch := x3) (seq := x4) (kind := x5) (plain := l6)
  revert o s1 s2 s3 s4 s5 s6
  generalize sealM l0 x1 l2 x3 x4 x5 l6 = F
  obtain ⟨kind, id, l1, l2', tick, l3, l4, epoch, seq, l5, l6'⟩ := F
  rintro ⟨b1, m1, d1, b2, m2, d2, b3, m3, d3, b4, m4, d4, b5, m5, d5, b6, m6, d6, rfl, ⟨o1, -⟩, ⟨o2, -⟩, ⟨o3, -⟩, ⟨o4, -⟩, ⟨o5, -⟩, ⟨o6, -⟩, -⟩ s1 s2 s3 s4 s5 s6
  simp only at o1 o2 o3 o4 o5 o6 s1 s2 s3 s4 s5 s6
  have t1 := o1.blen
  have t2 := o2.blen
  have t3 := o3.blen
  have t4 := o4.blen
  have t5 := o5.blen
  have t6 := o6.blen
  have D0 := D.grow g
  have D1 := D.addO D0 o1 (by omega)
  have D2 := D.addO D1 o2 (by omega)
  have D3 := D.addO D2 o3 (by omega)
  have D4 := D.addO D3 o4 (by omega)
  have D5 := D.addO D4 o5 (by omega)
  have D6 := D.addO D5 o6 (by omega)
  exact k w' _ _ _ _ _ l1 _ _ _ l2' _ _ _ _ l3 _ _ _ l4 _ _ _ _ _ l5 _ _ _ l6' _ ⟨by omega, by omega, by omega, by omega, by omega, by omega⟩ D6
section
variable {B cb : Nat} {w0 w : World} {L : List Sv} {b b' b'' : Vb} {q : Nat} {T : TypeId} {cs : Array Value} {b2 bs : List Vb}
theorem addBox (D : DS B cb w0 w bs []) (h : Bx w q T cs) (hq : w0.heap.size ≤ q) (hc : q ≠ cb) (hn : ∀ b ∈ bs, q ≠ b.q) : DS B cb w0 w (⟨q, T, cs⟩ :: bs) [] :=
  ⟨D.cur, D.lb, D.dr, by simp, fun b hb => by
    rcases List.mem_cons.1 hb with rfl | hb
    · exact ⟨h, hq, hc⟩
    · exact D.bx b hb, List.pairwise_cons.2 ⟨hn, D.dj⟩⟩
theorem mem1 (D : DS B cb w0 w (b :: ⟨q, T, cs⟩ :: b2) L) : Bx w q T cs := (D.bx _ (List.mem_cons_of_mem _ (List.mem_cons_self ..))).1
theorem mem2 (D : DS B cb w0 w (b :: b' :: ⟨q, T, cs⟩ :: b2) L) : Bx w q T cs := (D.bx _ (List.mem_cons_of_mem _ (List.mem_cons_of_mem _ (List.mem_cons_self ..)))).1
theorem mem3 (D : DS B cb w0 w (b :: b' :: b'' :: ⟨q, T, cs⟩ :: b2) L) : Bx w q T cs := (D.bx _ (List.mem_cons_of_mem _ (List.mem_cons_of_mem _ (List.mem_cons_of_mem _ (List.mem_cons_self ..))))).1
theorem bm (D : DS B cb w0 w bs L) {a : Option Addr} {n c : Nat} {l : List UInt8} (hm : (⟨a, n, c, bys l⟩ : Sv) ∈ L) : BR w0 w a n c :=
  have h := D.rs _ hm
  ⟨l, h.1, fun h0 p hp => (h.2.1 h0 p hp).1.1, h.2.2⟩
theorem im (D : DS B cb w0 w bs L) {a : Option Addr} {n c : Nat} {l : List Int} (hm : (⟨a, n, c, ins l⟩ : Sv) ∈ L) : IR w0 w a n c :=
  have h := D.rs _ hm
  ⟨l, h.1, fun h0 p hp => (h.2.1 h0 p hp).1.1, h.2.2⟩
end
def PEO (w : World) (e : Ending) (w' : World) : Prop := ∃ en k1 m1 d1 es et k7 m7 d7 role v f, e = .returned (.tuple #[.agg #[.int .i64 en, .slice k1 m1 d1, .int .i64 es, .int .i64 et, .slice k7 m7 d7], .int .i64 role, v]) ∧ BR w w' k1 m1 d1 ∧ IR w w' k7 m7 d7 ∧ FrameR w' v f ∧ w.grownBy w' none
theorem PEO.mk {w w' : World} {en es et role : Int} {k1 k7 : Option Addr} {m1 d1 m7 d7 : Nat} {kind id tick epoch seq : Int} {a1 a2 a3 a4 a5 a6 : Option Addr} {n1 c1 n2 c2 n3 c3 n4 c4 n5 c5 n6 c6 : Nat} (g : w.grownBy w' none)
    (hk : BR w w' k1 m1 d1) (hw : IR w w' k7 m7 d7) (h1 : BR w w' a1 n1 c1) (h2 : BR w w' a2 n2 c2) (h3 : BR w w' a3 n3 c3) (h4 : BR w w' a4 n4 c4) (h5 : BR w w' a5 n5 c5) (h6 : BR w w' a6 n6 c6) :
    PEO w (.returned (.tuple #[.agg #[.int .i64 en, .slice k1 m1 d1, .int .i64 es, .int .i64 et, .slice k7 m7 d7], .int .i64 role, .agg #[.int .i64 kind, .int .i64 id, .slice a1 n1 c1, .slice a2 n2 c2, .int .i64 tick, .slice a3 n3 c3, .slice a4 n4 c4, .int .i64 epoch, .int .i64 seq, .slice a5 n5 c5, .slice a6 n6 c6]])) w' := by
  obtain ⟨l1, r1, -, b1⟩ := h1
  obtain ⟨l2, r2, -, b2⟩ := h2
  obtain ⟨l3, r3, -, b3⟩ := h3
  obtain ⟨l4, r4, -, b4⟩ := h4
  obtain ⟨l5, r5, -, b5⟩ := h5
  obtain ⟨l6, r6, -, b6⟩ := h6
  exact ⟨en, k1, m1, d1, es, et, k7, m7, d7, role, _, ⟨kind, id, l1, l2, tick, l3, l4, epoch, seq, l5, l6⟩, rfl, hk, hw, ⟨_, _, _, _, _, _, _, _, _, _, _, _, _, _, _, _, _, _, rfl, r1, r2, r3, r4, r5, r6⟩, g⟩
theorem pbE {a : Option Addr} {n c : Nat} {xs : List Value} {w : World} (r : Rd w a n c xs) : 0 < n → ∀ p, a = some p → p.block < w.heap.size := by
  intro h0 p hp
  obtain ⟨b, off, h1, h2, -⟩ := r.pos h0
  rw [h1] at hp
  cases hp
  exact h2
set_option maxRecDepth 1000000 in
set_option maxHeartbeats 16000000 in
theorem spec_DrawEpOpen (a : Option Addr) (n c : Nat) (l : List UInt8) (w : World) (r : Rd w a n c (bys l)) (hn : n ≤ 1048576) : Calls Tryz.prog 17 #[.slice a n c] w (PEO w) := by
  have hp := pbE r
  have gW := gb_alloc (gb_alloc (gb_refl w) (.cells #[.int .i64 0, .slice none 0 0, .int .i64 0, .int .i64 0, .slice none 0 0] 28)) (.cells #[.int .i64 0, .int .i64 0, .slice none 0 0, .slice none 0 0, .int .i64 0, .slice none 0 0, .slice none 0 0, .int .i64 0, .int .i64 0, .slice none 0 0, .slice none 0 0] 32)
  have b2 := bx2 w #[.int .i64 0, .slice none 0 0, .int .i64 0, .int .i64 0, .slice none 0 0] #[.int .i64 0, .int .i64 0, .slice none 0 0, .slice none 0 0, .int .i64 0, .slice none 0 0, .slice none 0 0, .int .i64 0, .int .i64 0, .slice none 0 0, .slice none 0 0] 28 32
  go_enter Tryz.func17, Tryz.ntmps17
  go_wp2_with (first
    | (go_at_call 19; refine (spec_l1New a n c l w.heap.size _ (r.keep0 gW) hn (fun h0 p h1 => Nat.lt_of_lt_of_le (hp h0 p h1) (by first | exact gW.size | exact Nat.le_refl _)) gW.size).mono ?_; rintro e w1 ⟨cb, rfl, cu, hc, g⟩; have hcb2 : w.heap.size + 2 ≤ cb := (by have h9 := hc; simp only [World.size_alloc] at h9; omega); have D := addBox (addBox (DS.init cu (gb_trans gW g)) (b2.1.keep0 g) (Nat.le_refl _) (by omega) (by simp)) (b2.2.keep0 g) (by omega) (by omega) (by simp); have hcb : w.heap.size ≤ cb := (by omega); clear g hc cu gW b2)
    | (go_at_call 20; (with_reducible refine d_PEp D (spec_l9Any _ cb _ D.cur) ?_); clear D; intro wE en k1 m1 d1 lk1 es et k7 m7 d7 lk7 D; replace D := D.box #[.int .i64 en, .slice k1 m1 d1, .int .i64 es, .int .i64 et, .slice k7 m7 d7] 28; (try clear kc kf); (try simp only [List.setIfInBounds_toArray, List.set_cons_succ, List.set_cons_zero] at D); (try (have kc := fun o => DS.cell0 D o; have kf := fun o => DS.frz0 D o)))
    | (go_at_call 21; (with_reducible refine d_PKi D (spec_l9Kind _ cb _ D.cur) ?_); clear D; intro w1 kd ap np cp lp D; (try clear kc kf); (try simp only [List.setIfInBounds_toArray, List.set_cons_succ, List.set_cons_zero] at D); (try (have kc := fun o => DS.cell0 D o; have kf := fun o => DS.frz0 D o)))
    | (go_at_call 25; (with_reducible refine d_l1Below D ?_); clear D; intro wR z hz D; (try clear kc kf); (try simp only [List.setIfInBounds_toArray, List.set_cons_succ, List.set_cons_zero] at D); (try (have kc := fun o => DS.cell0 D o; have kf := fun o => DS.frz0 D o))))
  replace D := D.drew
  clear kc kf
  have kS : _ = some (Value.int .i64 et) := DS.cell0 D 3
  refine wp_region_held_drew (S := (fun w' => w'.cell? ⟨wE.heap.size, 3, none⟩ = some (.int .i64 et))) (by kernel_rfl) ?_ (fun hHeld => ?_)
  · (try dsimp only)
    exact kS
  refine wpAnyH_takeD (i := 0) (some 24) (v := ?_) rfl rfl (by kernel_rfl) (by kernel_rfl) (by kernel_rfl) (fun _ _ _ h => h) (Or.inl ⟨by rfl, ?_⟩) (by assumption) ?_
  rotate_left
  (focus (intro w hSw; (try dsimp only at hSw); (first | (go_simp; done) | (go_simp; with_reducible rfl) | with_reducible rfl)))
  (try simp only [Act.put]); (try simp only [List.setIfInBounds_toArray]); (try simp only [List.set_cons_succ]); (try simp only [List.set_cons_zero])
  refine wpAnyH_takeD (i := 1) (some 25) (v := ?_) rfl rfl (by kernel_rfl) (by kernel_rfl) (by kernel_rfl) (fun _ _ _ h => h) (Or.inl ⟨by rfl, ?_⟩) (by assumption) ?_
  rotate_left
  (focus (intro w hSw; (try dsimp only at hSw); (first | (go_simp; done) | (go_simp; with_reducible rfl) | with_reducible rfl)))
  (try simp only [Act.put]); (try simp only [List.setIfInBounds_toArray]); (try simp only [List.set_cons_succ]); (try simp only [List.set_cons_zero])
  refine wpAnyH_takeD (i := 2) (some 26) (v := ?_) rfl rfl (by kernel_rfl) (by kernel_rfl) (by kernel_rfl) (fun _ _ _ h => h) (Or.inl ⟨by rfl, ?_⟩) (by assumption) ?_
  rotate_left
  (focus (intro w hSw; (try dsimp only at hSw); (first | (go_simp; done) | (go_simp; with_reducible rfl) | with_reducible rfl)))
  (try simp only [Act.put]); (try simp only [List.setIfInBounds_toArray]); (try simp only [List.set_cons_succ]); (try simp only [List.set_cons_zero])
  refine wpAnyH_takeD (i := 3) (some 27) (v := ?_) rfl rfl (by kernel_rfl) (by kernel_rfl) (by kernel_rfl) (fun _ _ _ h => h) (Or.inl ⟨by rfl, ?_⟩) (by assumption) ?_
  rotate_left
  (focus (intro w hSw; (try dsimp only at hSw); (first | (go_simp; done) | (go_simp; with_reducible rfl) | with_reducible rfl)))
  (try simp only [Act.put]); (try simp only [List.setIfInBounds_toArray]); (try simp only [List.set_cons_succ]); (try simp only [List.set_cons_zero])
  refine wpAnyH_ready (rs := [4]) (by kernel_rfl) (by simp) (AllReadyH.cons rfl (fun K hK => ?_) AllReadyH.nil)
  refine step_bL rfl (some 28) rfl 8 _ rfl [1, 1, 2, 0, -1, -2, -1023, -1024] (by kernel_rfl) rfl ?_
  intro qa wa hqa rA ga
  have hcA : cb < qa := Nat.lt_of_lt_of_le D.cur.lt hqa
  replace D := D.grow ga
  clear kS
  have kS : _ = some (Value.int .i64 et) := DS.cell0 D 3
  refine hK.out _ _ ?_ (fun hHeld2 => ?_)
  · (try dsimp only)
    exact kS
  clear hK K hHeld
  have hHeld := hHeld2
  clear hHeld2
  (try simp only [Act.put]); (try simp only [List.setIfInBounds_toArray]); (try simp only [List.set_cons_succ]); (try simp only [List.set_cons_zero])
  refine wpAnyH_ready (rs := [5]) (by kernel_rfl) (by simp) (AllReadyH.cons rfl (fun K hK => ?_) AllReadyH.nil)
  go_simp
  go_at_call 22
  refine (spec_l1Int _ cb _ 8 8 _ _ D.cur ⟨rA, fun p hp => by cases hp; exact hcA⟩ (by decide) (by decide)).mono ?_
  rintro e wi ⟨dt, hdt, rfl, cu, d⟩
  replace D := D.step cu d
  clear kS
  have kS : _ = some (Value.int .i64 et) := DS.cell0 D 3
  go_wp2_with fail
  refine hK.out _ _ ?_ (fun hHeld2 => ?_)
  · (try dsimp only)
    exact kS
  clear hK K hHeld
  have hHeld := hHeld2
  clear hHeld2
  (try simp only [Act.put]); (try simp only [List.setIfInBounds_toArray]); (try simp only [List.set_cons_succ]); (try simp only [List.set_cons_zero])
  refine wpAnyH_takeD (i := 6) (some 30) (v := ?_) rfl rfl (by kernel_rfl) (by kernel_rfl) (by kernel_rfl) (fun _ _ _ h => h) (Or.inl ⟨by rfl, ?_⟩) (by assumption) ?_
  rotate_left
  (focus (intro w hSw; (try dsimp only at hSw); (first | (go_simp; done) | (go_simp; with_reducible rfl) | with_reducible rfl)))
  (try simp only [Act.put]); (try simp only [List.setIfInBounds_toArray]); (try simp only [List.set_cons_succ]); (try simp only [List.set_cons_zero])
  refine wpAnyH_takeD (i := 7) (some 10) (v := ?_) rfl rfl (by kernel_rfl) (by kernel_rfl) (by kernel_rfl) (fun _ _ _ h => h) (Or.inl ⟨by rfl, ?_⟩) (by assumption) ?_
  rotate_left
  (focus (intro w hSw; (try dsimp only at hSw); (first | (go_simp; done) | (go_simp; with_reducible rfl) | with_reducible rfl)))
  (try simp only [Act.put]); (try simp only [List.setIfInBounds_toArray]); (try simp only [List.set_cons_succ]); (try simp only [List.set_cons_zero])
  refine wpAnyH_done (by kernel_rfl) ?_ _
  (try dsimp only)
  (try dsimp only)
  clear rA hdt cu d kS hz
  obtain ⟨s0, hs0⟩ : ∃ s, IntKind.i64.wrap (et + dt) = s := ⟨_, rfl⟩
  rw [hs0]
  clear hs0
  (try clear kc kf); (try simp only [List.setIfInBounds_toArray, List.set_cons_succ, List.set_cons_zero] at D); (try (have kc := fun o => DS.cell0 D o; have kf := fun o => DS.frz0 D o))
  by_cases hs : s0 < 0
  · go_wp2_with (first | (go_at_call 25; (with_reducible refine d_l1Below D ?_); clear D; intro wR z2 hz2 D; clear hz2; (try clear kc kf); (try simp only [List.setIfInBounds_toArray, List.set_cons_succ, List.set_cons_zero] at D); (try (have kc := fun o => DS.cell0 D o; have kf := fun o => DS.frz0 D o))))
    replace D := D.drew
    clear kc kf
    refine wp_region_held_drew (S := (fun w' => w'.cell? ⟨wE.heap.size, 1, none⟩ = some (.slice k1 m1 d1) ∧ w'.cell? ⟨wE.heap.size, 0, none⟩ = some (.int .i64 en))) (by kernel_rfl) ?_ (fun hHeld => ?_)
    · (try dsimp only)
      first | exact ⟨DS.cell0 D 1, DS.cell0 D 0⟩ | exact ⟨DS.cell1 D 1, DS.cell1 D 0⟩
    refine wpAnyH_takeD (i := 0) (some 36) (v := ?_) rfl rfl (by kernel_rfl) (by kernel_rfl) (by kernel_rfl) (fun _ _ _ h => h) (Or.inl ⟨by rfl, ?_⟩) (by assumption) ?_
    rotate_left
    (focus (intro w hSw; (try dsimp only at hSw); (first | (go_simp; done) | (go_simp; with_reducible rfl) | with_reducible rfl)))
    (try simp only [Act.put]); (try simp only [List.setIfInBounds_toArray]); (try simp only [List.set_cons_succ]); (try simp only [List.set_cons_zero])
    refine wpAnyH_takeD (i := 1) (some 37) (v := ?_) rfl rfl (by kernel_rfl) (by kernel_rfl) (by kernel_rfl) (fun _ _ _ h => h) (Or.inl ⟨by rfl, ?_⟩) (by assumption) ?_
    rotate_left
    (focus (intro w hSw; (try dsimp only at hSw); (first | (go_simp; done) | (go_simp; with_reducible rfl) | with_reducible rfl)))
    (try simp only [Act.put]); (try simp only [List.setIfInBounds_toArray]); (try simp only [List.set_cons_succ]); (try simp only [List.set_cons_zero])
    refine wpAnyH_takeD (i := 2) (some 38) (v := ?_) rfl rfl (by kernel_rfl) (by kernel_rfl) (by kernel_rfl) (fun _ _ _ h => h) (Or.inl ⟨by rfl, ?_⟩) (by assumption) ?_
    rotate_left
    (focus (intro w hSw; (try dsimp only at hSw); (first | (go_simp; done) | (go_simp; with_reducible rfl) | with_reducible rfl)))
    (try simp only [Act.put]); (try simp only [List.setIfInBounds_toArray]); (try simp only [List.set_cons_succ]); (try simp only [List.set_cons_zero])
    refine wpAnyH_takeD (i := 3) (some 39) (v := ?_) rfl rfl (by kernel_rfl) (by kernel_rfl) (by kernel_rfl) (fun _ _ _ h => h) (Or.inl ⟨by rfl, ?_⟩) (by assumption) ?_
    rotate_left
    (focus (intro w hSw; (try dsimp only at hSw); (first | (go_simp; done) | (go_simp; with_reducible rfl) | with_reducible rfl)))
    (try simp only [Act.put]); (try simp only [List.setIfInBounds_toArray]); (try simp only [List.set_cons_succ]); (try simp only [List.set_cons_zero])
    refine wpAnyH_takeD (i := 5) (some 41) (v := ?_) rfl rfl (by kernel_rfl) (by kernel_rfl) (by kernel_rfl) (fun _ _ _ h => h) (Or.inl ⟨by rfl, ?_⟩) (by assumption) ?_
    rotate_left
    (focus (intro w hSw; (try dsimp only at hSw); (first | (go_simp; done) | (go_simp; with_reducible rfl) | with_reducible rfl)))
    (try simp only [Act.put]); (try simp only [List.setIfInBounds_toArray]); (try simp only [List.set_cons_succ]); (try simp only [List.set_cons_zero])
    refine wpAnyH_takeD (i := 6) (some 42) (v := ?_) rfl rfl (by kernel_rfl) (by kernel_rfl) (by kernel_rfl) (fun _ _ _ h => h) (Or.inl ⟨by rfl, ?_⟩) (by assumption) ?_
    rotate_left
    (focus (intro w hSw; (try dsimp only at hSw); (first | (go_simp; done) | (go_simp; with_reducible rfl) | with_reducible rfl)))
    (try simp only [Act.put]); (try simp only [List.setIfInBounds_toArray]); (try simp only [List.set_cons_succ]); (try simp only [List.set_cons_zero])
    refine wpAnyH_takeD (i := 7) (some 43) (v := ?_) rfl rfl (by kernel_rfl) (by kernel_rfl) (by kernel_rfl) (fun _ _ _ h => h) (Or.inl ⟨by rfl, ?_⟩) (by assumption) ?_
    rotate_left
    (focus (intro w hSw; (try dsimp only at hSw); (first | (go_simp; done) | (go_simp; with_reducible rfl) | with_reducible rfl)))
    (try simp only [Act.put]); (try simp only [List.setIfInBounds_toArray]); (try simp only [List.set_cons_succ]); (try simp only [List.set_cons_zero])
    refine wpAnyH_takeD (i := 8) (some 44) (v := ?_) rfl rfl (by kernel_rfl) (by kernel_rfl) (by kernel_rfl) (fun _ _ _ h => h) (Or.inl ⟨by rfl, ?_⟩) (by assumption) ?_
    rotate_left
    (focus (intro w hSw; (try dsimp only at hSw); (first | (go_simp; done) | (go_simp; with_reducible rfl) | with_reducible rfl)))
    (try simp only [Act.put]); (try simp only [List.setIfInBounds_toArray]); (try simp only [List.set_cons_succ]); (try simp only [List.set_cons_zero])
    refine wpAnyH_takeD (i := 9) (some 45) (v := ?_) rfl rfl (by kernel_rfl) (by kernel_rfl) (by kernel_rfl) (fun _ _ _ h => h) (Or.inl ⟨by rfl, ?_⟩) (by assumption) ?_
    rotate_left
    (focus (intro w hSw; (try dsimp only at hSw); (first | (go_simp; done) | (go_simp; with_reducible rfl) | with_reducible rfl)))
    (try simp only [Act.put]); (try simp only [List.setIfInBounds_toArray]); (try simp only [List.set_cons_succ]); (try simp only [List.set_cons_zero])
    refine wpAnyH_ready (rs := [4, 14]) (by kernel_rfl) (by simp) (AllReadyH.cons rfl (fun K hK => ?_) (AllReadyH.cons rfl (fun K hK => ?_) AllReadyH.nil))
    · go_simp
      go_at_call 23
      refine d_l1Bytes D (by decide) ?_
      clear D
      intro wS sA sN sC ls hns D
      go_wp2_with fail
      refine hK.out _ _ ?_ (fun hHeld2 => ?_)
      · (try dsimp only)
        first | exact ⟨DS.cell0 D 1, DS.cell0 D 0⟩ | exact ⟨DS.cell1 D 1, DS.cell1 D 0⟩
      clear hK K hHeld
      have hHeld := hHeld2
      clear hHeld2
      (try simp only [Act.put]); (try simp only [List.setIfInBounds_toArray]); (try simp only [List.set_cons_succ]); (try simp only [List.set_cons_zero])
      refine wpAnyH_ready (rs := [10, 14]) (by kernel_rfl) (by simp) (AllReadyH.cons rfl (fun K hK => ?_) (AllReadyH.cons rfl (fun K hK => ?_) AllReadyH.nil))
      · go_simp
        go_at_call 33
        refine d_SealB D D.tl.tl.tl.r0 D.r0 D.tl.r0 (D.rs _ (List.mem_cons_self ..)).2.2 (D.tl.rs _ (List.mem_cons_self ..)).2.2 ?_
        clear D
        intro wF kind id a1 n1 c1 l1 a2 n2 c2 l2 tick a3 n3 c3 l3 a4 n4 c4 l4 epoch seq a5 n5 c5 l5 a6 n6 c6 l6 ok hb D
        go_wp2_with fail
        refine hK.out _ _ ?_ (fun hHeld2 => ?_)
        · (try dsimp only)
          first | exact ⟨DS.cell0 D 1, DS.cell0 D 0⟩ | exact ⟨DS.cell1 D 1, DS.cell1 D 0⟩
        clear hK K hHeld
        have hHeld := hHeld2
        clear hHeld2
        (try simp only [Act.put]); (try simp only [List.setIfInBounds_toArray]); (try simp only [List.set_cons_succ]); (try simp only [List.set_cons_zero])
        refine wpAnyH_takeD (i := 11) (some 35) (v := ?_) rfl rfl (by kernel_rfl) (by kernel_rfl) (by kernel_rfl) (fun _ _ _ h => h) (Or.inl ⟨by rfl, ?_⟩) (by assumption) ?_
        rotate_left
        (focus (intro w hSw; (try dsimp only at hSw); (first | (go_simp; done) | (go_simp; with_reducible rfl) | with_reducible rfl)))
        (try simp only [Act.put]); (try simp only [List.setIfInBounds_toArray]); (try simp only [List.set_cons_succ]); (try simp only [List.set_cons_zero])
        refine wpAnyH_takeD (i := 12) (some 47) (v := ?_) rfl rfl (by kernel_rfl) (by kernel_rfl) (by kernel_rfl) (fun _ _ _ h => h) (Or.inl ⟨by rfl, ?_⟩) (by assumption) ?_
        rotate_left
        (focus (intro w hSw; (try dsimp only at hSw); (first | (go_simp; done) | (go_simp; with_reducible rfl) | with_reducible rfl)))
        (try simp only [Act.put]); (try simp only [List.setIfInBounds_toArray]); (try simp only [List.set_cons_succ]); (try simp only [List.set_cons_zero])
        refine wpAnyH_takeD (i := 13) (some 48) (v := ?_) rfl rfl (by kernel_rfl) (by kernel_rfl) (by kernel_rfl) (fun _ _ _ h => h) (Or.inl ⟨by rfl, ?_⟩) (by assumption) ?_
        rotate_left
        (focus (intro w hSw; (try dsimp only at hSw); (first | (go_simp; done) | (go_simp; with_reducible rfl) | with_reducible rfl)))
        (try simp only [Act.put]); (try simp only [List.setIfInBounds_toArray]); (try simp only [List.set_cons_succ]); (try simp only [List.set_cons_zero])
        refine wpAnyH_ready (rs := [14]) (by kernel_rfl) (by simp) (AllReadyH.cons rfl (fun K hK => ?_) AllReadyH.nil)
        refine step_alD rfl (some 11) rfl 32 _ rfl al_Frame ?_
        intro qF wG hqF BF gF
        replace D := D.boxG hqF BF gF
        clear BF gF hqF
        refine hK.out _ _ ?_ (fun hHeld2 => ?_)
        · (try dsimp only)
          first | exact ⟨DS.cell0 D 1, DS.cell0 D 0⟩ | exact ⟨DS.cell1 D 1, DS.cell1 D 0⟩
        clear hK K hHeld
        have hHeld := hHeld2
        clear hHeld2
        (try simp only [Act.put]); (try simp only [List.setIfInBounds_toArray]); (try simp only [List.set_cons_succ]); (try simp only [List.set_cons_zero])
        refine wpAnyH_ready (rs := [15]) (by kernel_rfl) (by simp) (AllReadyH.cons rfl (fun K hK => ?_) AllReadyH.nil)
        refine step_stRD rfl rfl 32 (.tmp 11) (.tmp 47) rfl qF _ _ rfl rfl (D.bx _ (List.mem_cons_self ..)).1 si_Frame rfl (by first | rfl | (simp [Value.oneCell']; done)) ?_
        intro w5 Bz g5
        replace D := D.row (b1 := []) rfl Bz g5
        clear Bz g5
        refine hK.out _ _ ?_ (fun hHeld2 => ?_)
        · (try dsimp only)
          first | exact ⟨DS.cell0 D 1, DS.cell0 D 0⟩ | exact ⟨DS.cell1 D 1, DS.cell1 D 0⟩
        clear hK K hHeld
        have hHeld := hHeld2
        clear hHeld2
        (try simp only [Act.put]); (try simp only [List.setIfInBounds_toArray]); (try simp only [List.set_cons_succ]); (try simp only [List.set_cons_zero])
        refine wpAnyH_takeD (i := 16) (some 12) (v := ?_) rfl rfl (by kernel_rfl) (by kernel_rfl) (by kernel_rfl) (fun _ _ _ h => h) (Or.inl ⟨by rfl, ?_⟩) (by assumption) ?_
        rotate_left
        (focus (intro w hSw; (try dsimp only at hSw); (first | (go_simp; done) | (go_simp; with_reducible rfl) | with_reducible rfl)))
        (try simp only [Act.put]); (try simp only [List.setIfInBounds_toArray]); (try simp only [List.set_cons_succ]); (try simp only [List.set_cons_zero])
        refine wpAnyH_done (by kernel_rfl) ?_ _
        (try dsimp only)
        (try go_wp2_with fail)
        (try clear kc kf); (try simp only [List.setIfInBounds_toArray, List.set_cons_succ, List.set_cons_zero] at D); (try (have kc := fun o => DS.cell0 D o; have kf := fun o => DS.frz0 D o))
        refine d_l1Once D ?_
        clear D
        intro w1 o D
        (try clear kc kf); (try simp only [List.setIfInBounds_toArray, List.set_cons_succ, List.set_cons_zero] at D); (try (have kc := fun o => DS.cell0 D o; have kf := fun o => DS.frz0 D o))
        cases o
        all_goals
          go_wp2_with (first
            | (go_at_call 22; (first | (with_reducible refine d_l1Int D ?_ ?_ ?_ ?_ ?_ ?_) | (with_reducible refine d_l1Int (D.set0 _ _) ?_ ?_ ?_ ?_ ?_ ?_) | (with_reducible refine d_l1Int (D.box _ _) ?_ ?_ ?_ ?_ ?_ ?_) | (with_reducible refine d_l1Int ((D.set0 _ _).set0 _ _) ?_ ?_ ?_ ?_ ?_ ?_) | (with_reducible refine d_l1Int ((D.box _ _).set0 _ _) ?_ ?_ ?_ ?_ ?_ ?_)); (focus (first | rfl | (simp; done))); (focus (exact rfl)); (focus rfl); (focus decide); (focus decide); clear D; intro w1 x hi D; (try clear kc kf); (try simp only [List.setIfInBounds_toArray, List.set_cons_succ, List.set_cons_zero] at D); (try (have kc := fun o => DS.cell0 D o; have kf := fun o => DS.frz0 D o)))
            | (go_at_call 24; (with_reducible refine d_l1Once D ?_); clear D; intro w1 o D; (try clear kc kf); (try simp only [List.setIfInBounds_toArray, List.set_cons_succ, List.set_cons_zero] at D); (try (have kc := fun o => DS.cell0 D o; have kf := fun o => DS.frz0 D o)); cases o)
            | (go_at_call 43; (with_reducible refine d_PFr D (spec_l9Bent _ cb kind id tick epoch seq a1 a2 a3 a4 a5 a6 n1 c1 n2 c2 n3 c3 n4 c4 n5 c5 n6 c6 l1 l2 l3 l4 l5 l6 _ D.cur D.tl.tl.tl.tl.tl.r0 D.tl.tl.tl.tl.r0 D.tl.tl.tl.r0 D.tl.tl.r0 D.tl.r0 D.r0 hb.out) ?_); clear D hb; intro w1 kind id a1 n1 c1 l1 a2 n2 c2 l2 tick a3 n3 c3 l3 a4 n4 c4 l4 epoch seq a5 n5 c5 l5 a6 n6 c6 l6 D; (try clear kc kf); (try simp only [List.setIfInBounds_toArray, List.set_cons_succ, List.set_cons_zero] at D); (try (have kc := fun o => DS.cell0 D o; have kf := fun o => DS.frz0 D o)))
            | ((with_reducible refine wpList_stD0 D ?_ (.tmp 11) (.tmp 58) ?_ ?_ ?_ ?_ ?_ ?_ ?_ ?_); (focus rfl); (focus rfl); rotate_left; (focus rfl); (focus rfl); (focus (exact si_Frame)); (focus rfl); (focus (first | rfl | (simp [Value.oneCell']; done))); clear D; intro w1 D; (try simp only [Act.put]); (try simp only [List.setIfInBounds_toArray]); (try simp only [List.set_cons_succ]); (try simp only [List.set_cons_zero]); (try clear kc kf); have kr := fun o => DS.cell0 D o))
        all_goals
          replace D := D.drew
          (try clear kc kf)
          (try clear kr)
          refine wp_region_held_drew (S := (fun w' => (w'.cell? ⟨qF, 0, none⟩ = some (.int .i64 kind) ∧ w'.cell? ⟨qF, 1, none⟩ = some (.int .i64 id) ∧ w'.cell? ⟨qF, 2, none⟩ = some (.slice a1 n1 c1) ∧ w'.cell? ⟨qF, 3, none⟩ = some (.slice a2 n2 c2) ∧ w'.cell? ⟨qF, 4, none⟩ = some (.int .i64 tick) ∧ w'.cell? ⟨qF, 5, none⟩ = some (.slice a3 n3 c3) ∧ w'.cell? ⟨qF, 6, none⟩ = some (.slice a4 n4 c4) ∧ w'.cell? ⟨qF, 7, none⟩ = some (.int .i64 epoch) ∧ w'.cell? ⟨qF, 8, none⟩ = some (.int .i64 seq) ∧ w'.cell? ⟨qF, 9, none⟩ = some (.slice a5 n5 c5) ∧ w'.cell? ⟨qF, 10, none⟩ = some (.slice a6 n6 c6)) ∧ w'.cell? ⟨wE.heap.size, 0, none⟩ = some (.int .i64 en) ∧ w'.cell? ⟨wE.heap.size, 1, none⟩ = some (.slice k1 m1 d1) ∧ w'.cell? ⟨wE.heap.size, 2, none⟩ = some (.int .i64 es) ∧ w'.cell? ⟨wE.heap.size, 3, none⟩ = some (.int .i64 et) ∧ w'.cell? ⟨wE.heap.size, 4, none⟩ = some (.slice k7 m7 d7))) (by kernel_rfl) ?_ (fun hHeld => ?_)
          · (try dsimp only)
            exact ⟨⟨DS.cell0 D 0, DS.cell0 D 1, DS.cell0 D 2, DS.cell0 D 3, DS.cell0 D 4, DS.cell0 D 5, DS.cell0 D 6, DS.cell0 D 7, DS.cell0 D 8, DS.cell0 D 9, DS.cell0 D 10⟩, DS.cell1 D 0, DS.cell1 D 1, DS.cell1 D 2, DS.cell1 D 3, DS.cell1 D 4⟩
          refine wpAnyH_takeD (i := 0) (some 59) (v := ?_) rfl rfl (by kernel_rfl) (by kernel_rfl) (by kernel_rfl) (fun _ _ _ h => h) (Or.inl ⟨by rfl, ?_⟩) (by assumption) ?_
          rotate_left
          (focus (intro w hSw; (try dsimp only at hSw); (first | (go_simp; done) | (go_simp; with_reducible rfl) | with_reducible rfl)))
          (try simp only [Act.put]); (try simp only [List.setIfInBounds_toArray]); (try simp only [List.set_cons_succ]); (try simp only [List.set_cons_zero])
          refine wpAnyH_takeD (i := 1) (some 60) (v := ?_) rfl rfl (by kernel_rfl) (by kernel_rfl) (by kernel_rfl) (fun _ _ _ h => h) (Or.inl ⟨by rfl, ?_⟩) (by assumption) ?_
          rotate_left
          (focus (intro w hSw; (try dsimp only at hSw); (first | (go_simp; done) | (go_simp; with_reducible rfl) | with_reducible rfl)))
          (try simp only [Act.put]); (try simp only [List.setIfInBounds_toArray]); (try simp only [List.set_cons_succ]); (try simp only [List.set_cons_zero])
          refine wpAnyH_takeD (i := 2) (some 61) (v := ?_) rfl rfl (by kernel_rfl) (by kernel_rfl) (by kernel_rfl) (fun _ _ _ h => h) (Or.inl ⟨by rfl, ?_⟩) (by assumption) ?_
          rotate_left
          (focus (intro w hSw; (try dsimp only at hSw); (first | (go_simp; done) | (go_simp; with_reducible rfl) | with_reducible rfl)))
          (try simp only [Act.put]); (try simp only [List.setIfInBounds_toArray]); (try simp only [List.set_cons_succ]); (try simp only [List.set_cons_zero])
          refine wpAnyH_ready (rs := [3]) (by kernel_rfl) (by simp) (AllReadyH.cons rfl (fun K hK => ?_) AllReadyH.nil)
          refine step_stRD rfl rfl 28 (.tmp 2) (.tmp 59) rfl w.heap.size _ _ rfl rfl (mem3 D) si_Ep rfl (by first | rfl | (simp [Value.oneCell']; done)) ?_
          intro w8 Bz g8
          replace D := D.row (b1 := [_, _, _]) rfl Bz g8
          clear Bz g8
          refine hK.out _ _ ?_ (fun hHeld2 => ?_)
          · (try dsimp only)
            exact ⟨⟨DS.cell0 D 0, DS.cell0 D 1, DS.cell0 D 2, DS.cell0 D 3, DS.cell0 D 4, DS.cell0 D 5, DS.cell0 D 6, DS.cell0 D 7, DS.cell0 D 8, DS.cell0 D 9, DS.cell0 D 10⟩, DS.cell1 D 0, DS.cell1 D 1, DS.cell1 D 2, DS.cell1 D 3, DS.cell1 D 4⟩
          clear hK K hHeld
          have hHeld := hHeld2
          clear hHeld2
          (try simp only [Act.put]); (try simp only [List.setIfInBounds_toArray]); (try simp only [List.set_cons_succ]); (try simp only [List.set_cons_zero])
          refine wpAnyH_takeD (i := 4) (some 3) (v := ?_) rfl rfl (by kernel_rfl) (by kernel_rfl) (by kernel_rfl) (fun _ _ _ h => h) (Or.inl ⟨by rfl, ?_⟩) (by assumption) ?_
          rotate_left
          (focus (intro w hSw; (try dsimp only at hSw); (first | (go_simp; done) | (go_simp; with_reducible rfl) | with_reducible rfl)))
          (try simp only [Act.put]); (try simp only [List.setIfInBounds_toArray]); (try simp only [List.set_cons_succ]); (try simp only [List.set_cons_zero])
          refine wpAnyH_ready (rs := [5]) (by kernel_rfl) (by simp) (AllReadyH.cons rfl (fun K hK => ?_) AllReadyH.nil)
          refine step_stRD rfl rfl 32 (.tmp 4) (.tmp 61) rfl (w.heap.size + 1) _ _ rfl rfl (mem2 D) si_Frame rfl (by first | rfl | (simp [Value.oneCell']; done)) ?_
          intro w9 Bz g9
          replace D := D.row (b1 := [_, _]) rfl Bz g9
          clear Bz g9
          refine hK.out _ _ ?_ (fun hHeld2 => ?_)
          · (try dsimp only)
            exact ⟨⟨DS.cell0 D 0, DS.cell0 D 1, DS.cell0 D 2, DS.cell0 D 3, DS.cell0 D 4, DS.cell0 D 5, DS.cell0 D 6, DS.cell0 D 7, DS.cell0 D 8, DS.cell0 D 9, DS.cell0 D 10⟩, DS.cell1 D 0, DS.cell1 D 1, DS.cell1 D 2, DS.cell1 D 3, DS.cell1 D 4⟩
          clear hK K hHeld
          have hHeld := hHeld2
          clear hHeld2
          (try simp only [Act.put]); (try simp only [List.setIfInBounds_toArray]); (try simp only [List.set_cons_succ]); (try simp only [List.set_cons_zero])
          refine wpAnyH_done (by kernel_rfl) ?_ _
          (try dsimp only)
          have h3 := fun o => (mem3 D).cell o
          have h2 := fun o => (mem2 D).cell o
          (try go_wp2)
          refine' bodyPost_ret ?_ rfl ?_
          rotate_left
          (focus (simp [results, Tryz.results17, go_sem, h3, h2]; rfl))
          exact PEO.mk (D.gb hcb) (bm D (l := lk1) (by (repeat (first | with_reducible exact List.mem_cons_self .. | with_reducible refine List.mem_cons_of_mem _ ?_)))) (im D (l := lk7) (by (repeat (first | with_reducible exact List.mem_cons_self .. | with_reducible refine List.mem_cons_of_mem _ ?_)))) (bm D (l := l1) (by (repeat (first | with_reducible exact List.mem_cons_self .. | with_reducible refine List.mem_cons_of_mem _ ?_)))) (bm D (l := l2) (by (repeat (first | with_reducible exact List.mem_cons_self .. | with_reducible refine List.mem_cons_of_mem _ ?_)))) (bm D (l := l3) (by (repeat (first | with_reducible exact List.mem_cons_self .. | with_reducible refine List.mem_cons_of_mem _ ?_)))) (bm D (l := l4) (by (repeat (first | with_reducible exact List.mem_cons_self .. | with_reducible refine List.mem_cons_of_mem _ ?_)))) (bm D (l := l5) (by (repeat (first | with_reducible exact List.mem_cons_self .. | with_reducible refine List.mem_cons_of_mem _ ?_)))) (bm D (l := l6) (by (repeat (first | with_reducible exact List.mem_cons_self .. | with_reducible refine List.mem_cons_of_mem _ ?_))))
      · refine step_alD rfl (some 11) rfl 32 _ rfl al_Frame ?_
        intro qF wG hqF BF gF
        replace D := D.boxG hqF BF gF
        clear BF gF hqF
        refine hK.out _ _ ?_ (fun hHeld2 => ?_)
        · (try dsimp only)
          first | exact ⟨DS.cell0 D 1, DS.cell0 D 0⟩ | exact ⟨DS.cell1 D 1, DS.cell1 D 0⟩
        clear hK K hHeld
        have hHeld := hHeld2
        clear hHeld2
        (try simp only [Act.put]); (try simp only [List.setIfInBounds_toArray]); (try simp only [List.set_cons_succ]); (try simp only [List.set_cons_zero])
        refine wpAnyH_ready (rs := [10]) (by kernel_rfl) (by simp) (AllReadyH.cons rfl (fun K hK => ?_) AllReadyH.nil)
        go_simp
        go_at_call 33
        refine d_SealB D D.tl.tl.tl.r0 D.r0 D.tl.r0 (D.rs _ (List.mem_cons_self ..)).2.2 (D.tl.rs _ (List.mem_cons_self ..)).2.2 ?_
        clear D
        intro wF kind id a1 n1 c1 l1 a2 n2 c2 l2 tick a3 n3 c3 l3 a4 n4 c4 l4 epoch seq a5 n5 c5 l5 a6 n6 c6 l6 ok hb D
        go_wp2_with fail
        refine hK.out _ _ ?_ (fun hHeld2 => ?_)
        · (try dsimp only)
          first | exact ⟨DS.cell0 D 1, DS.cell0 D 0⟩ | exact ⟨DS.cell1 D 1, DS.cell1 D 0⟩
        clear hK K hHeld
        have hHeld := hHeld2
        clear hHeld2
        (try simp only [Act.put]); (try simp only [List.setIfInBounds_toArray]); (try simp only [List.set_cons_succ]); (try simp only [List.set_cons_zero])
        refine wpAnyH_takeD (i := 11) (some 35) (v := ?_) rfl rfl (by kernel_rfl) (by kernel_rfl) (by kernel_rfl) (fun _ _ _ h => h) (Or.inl ⟨by rfl, ?_⟩) (by assumption) ?_
        rotate_left
        (focus (intro w hSw; (try dsimp only at hSw); (first | (go_simp; done) | (go_simp; with_reducible rfl) | with_reducible rfl)))
        (try simp only [Act.put]); (try simp only [List.setIfInBounds_toArray]); (try simp only [List.set_cons_succ]); (try simp only [List.set_cons_zero])
        refine wpAnyH_takeD (i := 12) (some 47) (v := ?_) rfl rfl (by kernel_rfl) (by kernel_rfl) (by kernel_rfl) (fun _ _ _ h => h) (Or.inl ⟨by rfl, ?_⟩) (by assumption) ?_
        rotate_left
        (focus (intro w hSw; (try dsimp only at hSw); (first | (go_simp; done) | (go_simp; with_reducible rfl) | with_reducible rfl)))
        (try simp only [Act.put]); (try simp only [List.setIfInBounds_toArray]); (try simp only [List.set_cons_succ]); (try simp only [List.set_cons_zero])
        refine wpAnyH_takeD (i := 13) (some 48) (v := ?_) rfl rfl (by kernel_rfl) (by kernel_rfl) (by kernel_rfl) (fun _ _ _ h => h) (Or.inl ⟨by rfl, ?_⟩) (by assumption) ?_
        rotate_left
        (focus (intro w hSw; (try dsimp only at hSw); (first | (go_simp; done) | (go_simp; with_reducible rfl) | with_reducible rfl)))
        (try simp only [Act.put]); (try simp only [List.setIfInBounds_toArray]); (try simp only [List.set_cons_succ]); (try simp only [List.set_cons_zero])
        refine wpAnyH_ready (rs := [15]) (by kernel_rfl) (by simp) (AllReadyH.cons rfl (fun K hK => ?_) AllReadyH.nil)
        refine step_stRD rfl rfl 32 (.tmp 11) (.tmp 47) rfl qF _ _ rfl rfl (D.bx _ (List.mem_cons_self ..)).1 si_Frame rfl (by first | rfl | (simp [Value.oneCell']; done)) ?_
        intro w5 Bz g5
        replace D := D.row (b1 := []) rfl Bz g5
        clear Bz g5
        refine hK.out _ _ ?_ (fun hHeld2 => ?_)
        · (try dsimp only)
          first | exact ⟨DS.cell0 D 1, DS.cell0 D 0⟩ | exact ⟨DS.cell1 D 1, DS.cell1 D 0⟩
        clear hK K hHeld
        have hHeld := hHeld2
        clear hHeld2
        (try simp only [Act.put]); (try simp only [List.setIfInBounds_toArray]); (try simp only [List.set_cons_succ]); (try simp only [List.set_cons_zero])
        refine wpAnyH_takeD (i := 16) (some 12) (v := ?_) rfl rfl (by kernel_rfl) (by kernel_rfl) (by kernel_rfl) (fun _ _ _ h => h) (Or.inl ⟨by rfl, ?_⟩) (by assumption) ?_
        rotate_left
        (focus (intro w hSw; (try dsimp only at hSw); (first | (go_simp; done) | (go_simp; with_reducible rfl) | with_reducible rfl)))
        (try simp only [Act.put]); (try simp only [List.setIfInBounds_toArray]); (try simp only [List.set_cons_succ]); (try simp only [List.set_cons_zero])
        refine wpAnyH_done (by kernel_rfl) ?_ _
        (try dsimp only)
        (try go_wp2_with fail)
        (try clear kc kf); (try simp only [List.setIfInBounds_toArray, List.set_cons_succ, List.set_cons_zero] at D); (try (have kc := fun o => DS.cell0 D o; have kf := fun o => DS.frz0 D o))
        refine d_l1Once D ?_
        clear D
        intro w1 o D
        (try clear kc kf); (try simp only [List.setIfInBounds_toArray, List.set_cons_succ, List.set_cons_zero] at D); (try (have kc := fun o => DS.cell0 D o; have kf := fun o => DS.frz0 D o))
        cases o
        all_goals
          go_wp2_with (first
            | (go_at_call 22; (first | (with_reducible refine d_l1Int D ?_ ?_ ?_ ?_ ?_ ?_) | (with_reducible refine d_l1Int (D.set0 _ _) ?_ ?_ ?_ ?_ ?_ ?_) | (with_reducible refine d_l1Int (D.box _ _) ?_ ?_ ?_ ?_ ?_ ?_) | (with_reducible refine d_l1Int ((D.set0 _ _).set0 _ _) ?_ ?_ ?_ ?_ ?_ ?_) | (with_reducible refine d_l1Int ((D.box _ _).set0 _ _) ?_ ?_ ?_ ?_ ?_ ?_)); (focus (first | rfl | (simp; done))); (focus (exact rfl)); (focus rfl); (focus decide); (focus decide); clear D; intro w1 x hi D; (try clear kc kf); (try simp only [List.setIfInBounds_toArray, List.set_cons_succ, List.set_cons_zero] at D); (try (have kc := fun o => DS.cell0 D o; have kf := fun o => DS.frz0 D o)))
            | (go_at_call 24; (with_reducible refine d_l1Once D ?_); clear D; intro w1 o D; (try clear kc kf); (try simp only [List.setIfInBounds_toArray, List.set_cons_succ, List.set_cons_zero] at D); (try (have kc := fun o => DS.cell0 D o; have kf := fun o => DS.frz0 D o)); cases o)
            | (go_at_call 43; (with_reducible refine d_PFr D (spec_l9Bent _ cb kind id tick epoch seq a1 a2 a3 a4 a5 a6 n1 c1 n2 c2 n3 c3 n4 c4 n5 c5 n6 c6 l1 l2 l3 l4 l5 l6 _ D.cur D.tl.tl.tl.tl.tl.r0 D.tl.tl.tl.tl.r0 D.tl.tl.tl.r0 D.tl.tl.r0 D.tl.r0 D.r0 hb.out) ?_); clear D hb; intro w1 kind id a1 n1 c1 l1 a2 n2 c2 l2 tick a3 n3 c3 l3 a4 n4 c4 l4 epoch seq a5 n5 c5 l5 a6 n6 c6 l6 D; (try clear kc kf); (try simp only [List.setIfInBounds_toArray, List.set_cons_succ, List.set_cons_zero] at D); (try (have kc := fun o => DS.cell0 D o; have kf := fun o => DS.frz0 D o)))
            | ((with_reducible refine wpList_stD0 D ?_ (.tmp 11) (.tmp 58) ?_ ?_ ?_ ?_ ?_ ?_ ?_ ?_); (focus rfl); (focus rfl); rotate_left; (focus rfl); (focus rfl); (focus (exact si_Frame)); (focus rfl); (focus (first | rfl | (simp [Value.oneCell']; done))); clear D; intro w1 D; (try simp only [Act.put]); (try simp only [List.setIfInBounds_toArray]); (try simp only [List.set_cons_succ]); (try simp only [List.set_cons_zero]); (try clear kc kf); have kr := fun o => DS.cell0 D o))
        all_goals
          replace D := D.drew
          (try clear kc kf)
          (try clear kr)
          refine wp_region_held_drew (S := (fun w' => (w'.cell? ⟨qF, 0, none⟩ = some (.int .i64 kind) ∧ w'.cell? ⟨qF, 1, none⟩ = some (.int .i64 id) ∧ w'.cell? ⟨qF, 2, none⟩ = some (.slice a1 n1 c1) ∧ w'.cell? ⟨qF, 3, none⟩ = some (.slice a2 n2 c2) ∧ w'.cell? ⟨qF, 4, none⟩ = some (.int .i64 tick) ∧ w'.cell? ⟨qF, 5, none⟩ = some (.slice a3 n3 c3) ∧ w'.cell? ⟨qF, 6, none⟩ = some (.slice a4 n4 c4) ∧ w'.cell? ⟨qF, 7, none⟩ = some (.int .i64 epoch) ∧ w'.cell? ⟨qF, 8, none⟩ = some (.int .i64 seq) ∧ w'.cell? ⟨qF, 9, none⟩ = some (.slice a5 n5 c5) ∧ w'.cell? ⟨qF, 10, none⟩ = some (.slice a6 n6 c6)) ∧ w'.cell? ⟨wE.heap.size, 0, none⟩ = some (.int .i64 en) ∧ w'.cell? ⟨wE.heap.size, 1, none⟩ = some (.slice k1 m1 d1) ∧ w'.cell? ⟨wE.heap.size, 2, none⟩ = some (.int .i64 es) ∧ w'.cell? ⟨wE.heap.size, 3, none⟩ = some (.int .i64 et) ∧ w'.cell? ⟨wE.heap.size, 4, none⟩ = some (.slice k7 m7 d7))) (by kernel_rfl) ?_ (fun hHeld => ?_)
          · (try dsimp only)
            exact ⟨⟨DS.cell0 D 0, DS.cell0 D 1, DS.cell0 D 2, DS.cell0 D 3, DS.cell0 D 4, DS.cell0 D 5, DS.cell0 D 6, DS.cell0 D 7, DS.cell0 D 8, DS.cell0 D 9, DS.cell0 D 10⟩, DS.cell1 D 0, DS.cell1 D 1, DS.cell1 D 2, DS.cell1 D 3, DS.cell1 D 4⟩
          refine wpAnyH_takeD (i := 0) (some 59) (v := ?_) rfl rfl (by kernel_rfl) (by kernel_rfl) (by kernel_rfl) (fun _ _ _ h => h) (Or.inl ⟨by rfl, ?_⟩) (by assumption) ?_
          rotate_left
          (focus (intro w hSw; (try dsimp only at hSw); (first | (go_simp; done) | (go_simp; with_reducible rfl) | with_reducible rfl)))
          (try simp only [Act.put]); (try simp only [List.setIfInBounds_toArray]); (try simp only [List.set_cons_succ]); (try simp only [List.set_cons_zero])
          refine wpAnyH_takeD (i := 1) (some 60) (v := ?_) rfl rfl (by kernel_rfl) (by kernel_rfl) (by kernel_rfl) (fun _ _ _ h => h) (Or.inl ⟨by rfl, ?_⟩) (by assumption) ?_
          rotate_left
          (focus (intro w hSw; (try dsimp only at hSw); (first | (go_simp; done) | (go_simp; with_reducible rfl) | with_reducible rfl)))
          (try simp only [Act.put]); (try simp only [List.setIfInBounds_toArray]); (try simp only [List.set_cons_succ]); (try simp only [List.set_cons_zero])
          refine wpAnyH_takeD (i := 2) (some 61) (v := ?_) rfl rfl (by kernel_rfl) (by kernel_rfl) (by kernel_rfl) (fun _ _ _ h => h) (Or.inl ⟨by rfl, ?_⟩) (by assumption) ?_
          rotate_left
          (focus (intro w hSw; (try dsimp only at hSw); (first | (go_simp; done) | (go_simp; with_reducible rfl) | with_reducible rfl)))
          (try simp only [Act.put]); (try simp only [List.setIfInBounds_toArray]); (try simp only [List.set_cons_succ]); (try simp only [List.set_cons_zero])
          refine wpAnyH_ready (rs := [3]) (by kernel_rfl) (by simp) (AllReadyH.cons rfl (fun K hK => ?_) AllReadyH.nil)
          refine step_stRD rfl rfl 28 (.tmp 2) (.tmp 59) rfl w.heap.size _ _ rfl rfl (mem3 D) si_Ep rfl (by first | rfl | (simp [Value.oneCell']; done)) ?_
          intro w8 Bz g8
          replace D := D.row (b1 := [_, _, _]) rfl Bz g8
          clear Bz g8
          refine hK.out _ _ ?_ (fun hHeld2 => ?_)
          · (try dsimp only)
            exact ⟨⟨DS.cell0 D 0, DS.cell0 D 1, DS.cell0 D 2, DS.cell0 D 3, DS.cell0 D 4, DS.cell0 D 5, DS.cell0 D 6, DS.cell0 D 7, DS.cell0 D 8, DS.cell0 D 9, DS.cell0 D 10⟩, DS.cell1 D 0, DS.cell1 D 1, DS.cell1 D 2, DS.cell1 D 3, DS.cell1 D 4⟩
          clear hK K hHeld
          have hHeld := hHeld2
          clear hHeld2
          (try simp only [Act.put]); (try simp only [List.setIfInBounds_toArray]); (try simp only [List.set_cons_succ]); (try simp only [List.set_cons_zero])
          refine wpAnyH_takeD (i := 4) (some 3) (v := ?_) rfl rfl (by kernel_rfl) (by kernel_rfl) (by kernel_rfl) (fun _ _ _ h => h) (Or.inl ⟨by rfl, ?_⟩) (by assumption) ?_
          rotate_left
          (focus (intro w hSw; (try dsimp only at hSw); (first | (go_simp; done) | (go_simp; with_reducible rfl) | with_reducible rfl)))
          (try simp only [Act.put]); (try simp only [List.setIfInBounds_toArray]); (try simp only [List.set_cons_succ]); (try simp only [List.set_cons_zero])
          refine wpAnyH_ready (rs := [5]) (by kernel_rfl) (by simp) (AllReadyH.cons rfl (fun K hK => ?_) AllReadyH.nil)
          refine step_stRD rfl rfl 32 (.tmp 4) (.tmp 61) rfl (w.heap.size + 1) _ _ rfl rfl (mem2 D) si_Frame rfl (by first | rfl | (simp [Value.oneCell']; done)) ?_
          intro w9 Bz g9
          replace D := D.row (b1 := [_, _]) rfl Bz g9
          clear Bz g9
          refine hK.out _ _ ?_ (fun hHeld2 => ?_)
          · (try dsimp only)
            exact ⟨⟨DS.cell0 D 0, DS.cell0 D 1, DS.cell0 D 2, DS.cell0 D 3, DS.cell0 D 4, DS.cell0 D 5, DS.cell0 D 6, DS.cell0 D 7, DS.cell0 D 8, DS.cell0 D 9, DS.cell0 D 10⟩, DS.cell1 D 0, DS.cell1 D 1, DS.cell1 D 2, DS.cell1 D 3, DS.cell1 D 4⟩
          clear hK K hHeld
          have hHeld := hHeld2
          clear hHeld2
          (try simp only [Act.put]); (try simp only [List.setIfInBounds_toArray]); (try simp only [List.set_cons_succ]); (try simp only [List.set_cons_zero])
          refine wpAnyH_done (by kernel_rfl) ?_ _
          (try dsimp only)
          have h3 := fun o => (mem3 D).cell o
          have h2 := fun o => (mem2 D).cell o
          (try go_wp2)
          refine' bodyPost_ret ?_ rfl ?_
          rotate_left
          (focus (simp [results, Tryz.results17, go_sem, h3, h2]; rfl))
          exact PEO.mk (D.gb hcb) (bm D (l := lk1) (by (repeat (first | with_reducible exact List.mem_cons_self .. | with_reducible refine List.mem_cons_of_mem _ ?_)))) (im D (l := lk7) (by (repeat (first | with_reducible exact List.mem_cons_self .. | with_reducible refine List.mem_cons_of_mem _ ?_)))) (bm D (l := l1) (by (repeat (first | with_reducible exact List.mem_cons_self .. | with_reducible refine List.mem_cons_of_mem _ ?_)))) (bm D (l := l2) (by (repeat (first | with_reducible exact List.mem_cons_self .. | with_reducible refine List.mem_cons_of_mem _ ?_)))) (bm D (l := l3) (by (repeat (first | with_reducible exact List.mem_cons_self .. | with_reducible refine List.mem_cons_of_mem _ ?_)))) (bm D (l := l4) (by (repeat (first | with_reducible exact List.mem_cons_self .. | with_reducible refine List.mem_cons_of_mem _ ?_)))) (bm D (l := l5) (by (repeat (first | with_reducible exact List.mem_cons_self .. | with_reducible refine List.mem_cons_of_mem _ ?_)))) (bm D (l := l6) (by (repeat (first | with_reducible exact List.mem_cons_self .. | with_reducible refine List.mem_cons_of_mem _ ?_))))
    · refine step_alD rfl (some 11) rfl 32 _ rfl al_Frame ?_
      intro qF wG hqF BF gF
      replace D := D.boxG hqF BF gF
      clear BF gF hqF
      refine hK.out _ _ ?_ (fun hHeld2 => ?_)
      · (try dsimp only)
        first | exact ⟨DS.cell0 D 1, DS.cell0 D 0⟩ | exact ⟨DS.cell1 D 1, DS.cell1 D 0⟩
      clear hK K hHeld
      have hHeld := hHeld2
      clear hHeld2
      (try simp only [Act.put]); (try simp only [List.setIfInBounds_toArray]); (try simp only [List.set_cons_succ]); (try simp only [List.set_cons_zero])
      refine wpAnyH_ready (rs := [4]) (by kernel_rfl) (by simp) (AllReadyH.cons rfl (fun K hK => ?_) AllReadyH.nil)
      go_simp
      go_at_call 23
      refine d_l1Bytes D (by decide) ?_
      clear D
      intro wS sA sN sC ls hns D
      go_wp2_with fail
      refine hK.out _ _ ?_ (fun hHeld2 => ?_)
      · (try dsimp only)
        first | exact ⟨DS.cell0 D 1, DS.cell0 D 0⟩ | exact ⟨DS.cell1 D 1, DS.cell1 D 0⟩
      clear hK K hHeld
      have hHeld := hHeld2
      clear hHeld2
      (try simp only [Act.put]); (try simp only [List.setIfInBounds_toArray]); (try simp only [List.set_cons_succ]); (try simp only [List.set_cons_zero])
      refine wpAnyH_ready (rs := [10]) (by kernel_rfl) (by simp) (AllReadyH.cons rfl (fun K hK => ?_) AllReadyH.nil)
      go_simp
      go_at_call 33
      refine d_SealB D D.tl.tl.tl.r0 D.r0 D.tl.r0 (D.rs _ (List.mem_cons_self ..)).2.2 (D.tl.rs _ (List.mem_cons_self ..)).2.2 ?_
      clear D
      intro wF kind id a1 n1 c1 l1 a2 n2 c2 l2 tick a3 n3 c3 l3 a4 n4 c4 l4 epoch seq a5 n5 c5 l5 a6 n6 c6 l6 ok hb D
      go_wp2_with fail
      refine hK.out _ _ ?_ (fun hHeld2 => ?_)
      · (try dsimp only)
        first | exact ⟨DS.cell0 D 1, DS.cell0 D 0⟩ | exact ⟨DS.cell1 D 1, DS.cell1 D 0⟩
      clear hK K hHeld
      have hHeld := hHeld2
      clear hHeld2
      (try simp only [Act.put]); (try simp only [List.setIfInBounds_toArray]); (try simp only [List.set_cons_succ]); (try simp only [List.set_cons_zero])
      refine wpAnyH_takeD (i := 11) (some 35) (v := ?_) rfl rfl (by kernel_rfl) (by kernel_rfl) (by kernel_rfl) (fun _ _ _ h => h) (Or.inl ⟨by rfl, ?_⟩) (by assumption) ?_
      rotate_left
      (focus (intro w hSw; (try dsimp only at hSw); (first | (go_simp; done) | (go_simp; with_reducible rfl) | with_reducible rfl)))
      (try simp only [Act.put]); (try simp only [List.setIfInBounds_toArray]); (try simp only [List.set_cons_succ]); (try simp only [List.set_cons_zero])
      refine wpAnyH_takeD (i := 12) (some 47) (v := ?_) rfl rfl (by kernel_rfl) (by kernel_rfl) (by kernel_rfl) (fun _ _ _ h => h) (Or.inl ⟨by rfl, ?_⟩) (by assumption) ?_
      rotate_left
      (focus (intro w hSw; (try dsimp only at hSw); (first | (go_simp; done) | (go_simp; with_reducible rfl) | with_reducible rfl)))
      (try simp only [Act.put]); (try simp only [List.setIfInBounds_toArray]); (try simp only [List.set_cons_succ]); (try simp only [List.set_cons_zero])
      refine wpAnyH_takeD (i := 13) (some 48) (v := ?_) rfl rfl (by kernel_rfl) (by kernel_rfl) (by kernel_rfl) (fun _ _ _ h => h) (Or.inl ⟨by rfl, ?_⟩) (by assumption) ?_
      rotate_left
      (focus (intro w hSw; (try dsimp only at hSw); (first | (go_simp; done) | (go_simp; with_reducible rfl) | with_reducible rfl)))
      (try simp only [Act.put]); (try simp only [List.setIfInBounds_toArray]); (try simp only [List.set_cons_succ]); (try simp only [List.set_cons_zero])
      refine wpAnyH_ready (rs := [15]) (by kernel_rfl) (by simp) (AllReadyH.cons rfl (fun K hK => ?_) AllReadyH.nil)
      refine step_stRD rfl rfl 32 (.tmp 11) (.tmp 47) rfl qF _ _ rfl rfl (D.bx _ (List.mem_cons_self ..)).1 si_Frame rfl (by first | rfl | (simp [Value.oneCell']; done)) ?_
      intro w5 Bz g5
      replace D := D.row (b1 := []) rfl Bz g5
      clear Bz g5
      refine hK.out _ _ ?_ (fun hHeld2 => ?_)
      · (try dsimp only)
        first | exact ⟨DS.cell0 D 1, DS.cell0 D 0⟩ | exact ⟨DS.cell1 D 1, DS.cell1 D 0⟩
      clear hK K hHeld
      have hHeld := hHeld2
      clear hHeld2
      (try simp only [Act.put]); (try simp only [List.setIfInBounds_toArray]); (try simp only [List.set_cons_succ]); (try simp only [List.set_cons_zero])
      refine wpAnyH_takeD (i := 16) (some 12) (v := ?_) rfl rfl (by kernel_rfl) (by kernel_rfl) (by kernel_rfl) (fun _ _ _ h => h) (Or.inl ⟨by rfl, ?_⟩) (by assumption) ?_
      rotate_left
      (focus (intro w hSw; (try dsimp only at hSw); (first | (go_simp; done) | (go_simp; with_reducible rfl) | with_reducible rfl)))
      (try simp only [Act.put]); (try simp only [List.setIfInBounds_toArray]); (try simp only [List.set_cons_succ]); (try simp only [List.set_cons_zero])
      refine wpAnyH_done (by kernel_rfl) ?_ _
      (try dsimp only)
      (try go_wp2_with fail)
      (try clear kc kf); (try simp only [List.setIfInBounds_toArray, List.set_cons_succ, List.set_cons_zero] at D); (try (have kc := fun o => DS.cell0 D o; have kf := fun o => DS.frz0 D o))
      refine d_l1Once D ?_
      clear D
      intro w1 o D
      (try clear kc kf); (try simp only [List.setIfInBounds_toArray, List.set_cons_succ, List.set_cons_zero] at D); (try (have kc := fun o => DS.cell0 D o; have kf := fun o => DS.frz0 D o))
      cases o
      all_goals
        go_wp2_with (first
          | (go_at_call 22; (first | (with_reducible refine d_l1Int D ?_ ?_ ?_ ?_ ?_ ?_) | (with_reducible refine d_l1Int (D.set0 _ _) ?_ ?_ ?_ ?_ ?_ ?_) | (with_reducible refine d_l1Int (D.box _ _) ?_ ?_ ?_ ?_ ?_ ?_) | (with_reducible refine d_l1Int ((D.set0 _ _).set0 _ _) ?_ ?_ ?_ ?_ ?_ ?_) | (with_reducible refine d_l1Int ((D.box _ _).set0 _ _) ?_ ?_ ?_ ?_ ?_ ?_)); (focus (first | rfl | (simp; done))); (focus (exact rfl)); (focus rfl); (focus decide); (focus decide); clear D; intro w1 x hi D; (try clear kc kf); (try simp only [List.setIfInBounds_toArray, List.set_cons_succ, List.set_cons_zero] at D); (try (have kc := fun o => DS.cell0 D o; have kf := fun o => DS.frz0 D o)))
          | (go_at_call 24; (with_reducible refine d_l1Once D ?_); clear D; intro w1 o D; (try clear kc kf); (try simp only [List.setIfInBounds_toArray, List.set_cons_succ, List.set_cons_zero] at D); (try (have kc := fun o => DS.cell0 D o; have kf := fun o => DS.frz0 D o)); cases o)
          | (go_at_call 43; (with_reducible refine d_PFr D (spec_l9Bent _ cb kind id tick epoch seq a1 a2 a3 a4 a5 a6 n1 c1 n2 c2 n3 c3 n4 c4 n5 c5 n6 c6 l1 l2 l3 l4 l5 l6 _ D.cur D.tl.tl.tl.tl.tl.r0 D.tl.tl.tl.tl.r0 D.tl.tl.tl.r0 D.tl.tl.r0 D.tl.r0 D.r0 hb.out) ?_); clear D hb; intro w1 kind id a1 n1 c1 l1 a2 n2 c2 l2 tick a3 n3 c3 l3 a4 n4 c4 l4 epoch seq a5 n5 c5 l5 a6 n6 c6 l6 D; (try clear kc kf); (try simp only [List.setIfInBounds_toArray, List.set_cons_succ, List.set_cons_zero] at D); (try (have kc := fun o => DS.cell0 D o; have kf := fun o => DS.frz0 D o)))
          | ((with_reducible refine wpList_stD0 D ?_ (.tmp 11) (.tmp 58) ?_ ?_ ?_ ?_ ?_ ?_ ?_ ?_); (focus rfl); (focus rfl); rotate_left; (focus rfl); (focus rfl); (focus (exact si_Frame)); (focus rfl); (focus (first | rfl | (simp [Value.oneCell']; done))); clear D; intro w1 D; (try simp only [Act.put]); (try simp only [List.setIfInBounds_toArray]); (try simp only [List.set_cons_succ]); (try simp only [List.set_cons_zero]); (try clear kc kf); have kr := fun o => DS.cell0 D o))
      all_goals
        replace D := D.drew
        (try clear kc kf)
        (try clear kr)
        refine wp_region_held_drew (S := (fun w' => (w'.cell? ⟨qF, 0, none⟩ = some (.int .i64 kind) ∧ w'.cell? ⟨qF, 1, none⟩ = some (.int .i64 id) ∧ w'.cell? ⟨qF, 2, none⟩ = some (.slice a1 n1 c1) ∧ w'.cell? ⟨qF, 3, none⟩ = some (.slice a2 n2 c2) ∧ w'.cell? ⟨qF, 4, none⟩ = some (.int .i64 tick) ∧ w'.cell? ⟨qF, 5, none⟩ = some (.slice a3 n3 c3) ∧ w'.cell? ⟨qF, 6, none⟩ = some (.slice a4 n4 c4) ∧ w'.cell? ⟨qF, 7, none⟩ = some (.int .i64 epoch) ∧ w'.cell? ⟨qF, 8, none⟩ = some (.int .i64 seq) ∧ w'.cell? ⟨qF, 9, none⟩ = some (.slice a5 n5 c5) ∧ w'.cell? ⟨qF, 10, none⟩ = some (.slice a6 n6 c6)) ∧ w'.cell? ⟨wE.heap.size, 0, none⟩ = some (.int .i64 en) ∧ w'.cell? ⟨wE.heap.size, 1, none⟩ = some (.slice k1 m1 d1) ∧ w'.cell? ⟨wE.heap.size, 2, none⟩ = some (.int .i64 es) ∧ w'.cell? ⟨wE.heap.size, 3, none⟩ = some (.int .i64 et) ∧ w'.cell? ⟨wE.heap.size, 4, none⟩ = some (.slice k7 m7 d7))) (by kernel_rfl) ?_ (fun hHeld => ?_)
        · (try dsimp only)
          exact ⟨⟨DS.cell0 D 0, DS.cell0 D 1, DS.cell0 D 2, DS.cell0 D 3, DS.cell0 D 4, DS.cell0 D 5, DS.cell0 D 6, DS.cell0 D 7, DS.cell0 D 8, DS.cell0 D 9, DS.cell0 D 10⟩, DS.cell1 D 0, DS.cell1 D 1, DS.cell1 D 2, DS.cell1 D 3, DS.cell1 D 4⟩
        refine wpAnyH_takeD (i := 0) (some 59) (v := ?_) rfl rfl (by kernel_rfl) (by kernel_rfl) (by kernel_rfl) (fun _ _ _ h => h) (Or.inl ⟨by rfl, ?_⟩) (by assumption) ?_
        rotate_left
        (focus (intro w hSw; (try dsimp only at hSw); (first | (go_simp; done) | (go_simp; with_reducible rfl) | with_reducible rfl)))
        (try simp only [Act.put]); (try simp only [List.setIfInBounds_toArray]); (try simp only [List.set_cons_succ]); (try simp only [List.set_cons_zero])
        refine wpAnyH_takeD (i := 1) (some 60) (v := ?_) rfl rfl (by kernel_rfl) (by kernel_rfl) (by kernel_rfl) (fun _ _ _ h => h) (Or.inl ⟨by rfl, ?_⟩) (by assumption) ?_
        rotate_left
        (focus (intro w hSw; (try dsimp only at hSw); (first | (go_simp; done) | (go_simp; with_reducible rfl) | with_reducible rfl)))
        (try simp only [Act.put]); (try simp only [List.setIfInBounds_toArray]); (try simp only [List.set_cons_succ]); (try simp only [List.set_cons_zero])
        refine wpAnyH_takeD (i := 2) (some 61) (v := ?_) rfl rfl (by kernel_rfl) (by kernel_rfl) (by kernel_rfl) (fun _ _ _ h => h) (Or.inl ⟨by rfl, ?_⟩) (by assumption) ?_
        rotate_left
        (focus (intro w hSw; (try dsimp only at hSw); (first | (go_simp; done) | (go_simp; with_reducible rfl) | with_reducible rfl)))
        (try simp only [Act.put]); (try simp only [List.setIfInBounds_toArray]); (try simp only [List.set_cons_succ]); (try simp only [List.set_cons_zero])
        refine wpAnyH_ready (rs := [3]) (by kernel_rfl) (by simp) (AllReadyH.cons rfl (fun K hK => ?_) AllReadyH.nil)
        refine step_stRD rfl rfl 28 (.tmp 2) (.tmp 59) rfl w.heap.size _ _ rfl rfl (mem3 D) si_Ep rfl (by first | rfl | (simp [Value.oneCell']; done)) ?_
        intro w8 Bz g8
        replace D := D.row (b1 := [_, _, _]) rfl Bz g8
        clear Bz g8
        refine hK.out _ _ ?_ (fun hHeld2 => ?_)
        · (try dsimp only)
          exact ⟨⟨DS.cell0 D 0, DS.cell0 D 1, DS.cell0 D 2, DS.cell0 D 3, DS.cell0 D 4, DS.cell0 D 5, DS.cell0 D 6, DS.cell0 D 7, DS.cell0 D 8, DS.cell0 D 9, DS.cell0 D 10⟩, DS.cell1 D 0, DS.cell1 D 1, DS.cell1 D 2, DS.cell1 D 3, DS.cell1 D 4⟩
        clear hK K hHeld
        have hHeld := hHeld2
        clear hHeld2
        (try simp only [Act.put]); (try simp only [List.setIfInBounds_toArray]); (try simp only [List.set_cons_succ]); (try simp only [List.set_cons_zero])
        refine wpAnyH_takeD (i := 4) (some 3) (v := ?_) rfl rfl (by kernel_rfl) (by kernel_rfl) (by kernel_rfl) (fun _ _ _ h => h) (Or.inl ⟨by rfl, ?_⟩) (by assumption) ?_
        rotate_left
        (focus (intro w hSw; (try dsimp only at hSw); (first | (go_simp; done) | (go_simp; with_reducible rfl) | with_reducible rfl)))
        (try simp only [Act.put]); (try simp only [List.setIfInBounds_toArray]); (try simp only [List.set_cons_succ]); (try simp only [List.set_cons_zero])
        refine wpAnyH_ready (rs := [5]) (by kernel_rfl) (by simp) (AllReadyH.cons rfl (fun K hK => ?_) AllReadyH.nil)
        refine step_stRD rfl rfl 32 (.tmp 4) (.tmp 61) rfl (w.heap.size + 1) _ _ rfl rfl (mem2 D) si_Frame rfl (by first | rfl | (simp [Value.oneCell']; done)) ?_
        intro w9 Bz g9
        replace D := D.row (b1 := [_, _]) rfl Bz g9
        clear Bz g9
        refine hK.out _ _ ?_ (fun hHeld2 => ?_)
        · (try dsimp only)
          exact ⟨⟨DS.cell0 D 0, DS.cell0 D 1, DS.cell0 D 2, DS.cell0 D 3, DS.cell0 D 4, DS.cell0 D 5, DS.cell0 D 6, DS.cell0 D 7, DS.cell0 D 8, DS.cell0 D 9, DS.cell0 D 10⟩, DS.cell1 D 0, DS.cell1 D 1, DS.cell1 D 2, DS.cell1 D 3, DS.cell1 D 4⟩
        clear hK K hHeld
        have hHeld := hHeld2
        clear hHeld2
        (try simp only [Act.put]); (try simp only [List.setIfInBounds_toArray]); (try simp only [List.set_cons_succ]); (try simp only [List.set_cons_zero])
        refine wpAnyH_done (by kernel_rfl) ?_ _
        (try dsimp only)
        have h3 := fun o => (mem3 D).cell o
        have h2 := fun o => (mem2 D).cell o
        (try go_wp2)
        refine' bodyPost_ret ?_ rfl ?_
        rotate_left
        (focus (simp [results, Tryz.results17, go_sem, h3, h2]; rfl))
        exact PEO.mk (D.gb hcb) (bm D (l := lk1) (by (repeat (first | with_reducible exact List.mem_cons_self .. | with_reducible refine List.mem_cons_of_mem _ ?_)))) (im D (l := lk7) (by (repeat (first | with_reducible exact List.mem_cons_self .. | with_reducible refine List.mem_cons_of_mem _ ?_)))) (bm D (l := l1) (by (repeat (first | with_reducible exact List.mem_cons_self .. | with_reducible refine List.mem_cons_of_mem _ ?_)))) (bm D (l := l2) (by (repeat (first | with_reducible exact List.mem_cons_self .. | with_reducible refine List.mem_cons_of_mem _ ?_)))) (bm D (l := l3) (by (repeat (first | with_reducible exact List.mem_cons_self .. | with_reducible refine List.mem_cons_of_mem _ ?_)))) (bm D (l := l4) (by (repeat (first | with_reducible exact List.mem_cons_self .. | with_reducible refine List.mem_cons_of_mem _ ?_)))) (bm D (l := l5) (by (repeat (first | with_reducible exact List.mem_cons_self .. | with_reducible refine List.mem_cons_of_mem _ ?_)))) (bm D (l := l6) (by (repeat (first | with_reducible exact List.mem_cons_self .. | with_reducible refine List.mem_cons_of_mem _ ?_))))
  · go_wp2_with fail
    replace D := D.drew
    clear kc kf
    refine wp_region_held_drew (S := (fun w' => w'.cell? ⟨wE.heap.size, 1, none⟩ = some (.slice k1 m1 d1) ∧ w'.cell? ⟨wE.heap.size, 0, none⟩ = some (.int .i64 en))) (by kernel_rfl) ?_ (fun hHeld => ?_)
    · (try dsimp only)
      first | exact ⟨DS.cell0 D 1, DS.cell0 D 0⟩ | exact ⟨DS.cell1 D 1, DS.cell1 D 0⟩
    refine wpAnyH_takeD (i := 0) (some 36) (v := ?_) rfl rfl (by kernel_rfl) (by kernel_rfl) (by kernel_rfl) (fun _ _ _ h => h) (Or.inl ⟨by rfl, ?_⟩) (by assumption) ?_
    rotate_left
    (focus (intro w hSw; (try dsimp only at hSw); (first | (go_simp; done) | (go_simp; with_reducible rfl) | with_reducible rfl)))
    (try simp only [Act.put]); (try simp only [List.setIfInBounds_toArray]); (try simp only [List.set_cons_succ]); (try simp only [List.set_cons_zero])
    refine wpAnyH_takeD (i := 1) (some 37) (v := ?_) rfl rfl (by kernel_rfl) (by kernel_rfl) (by kernel_rfl) (fun _ _ _ h => h) (Or.inl ⟨by rfl, ?_⟩) (by assumption) ?_
    rotate_left
    (focus (intro w hSw; (try dsimp only at hSw); (first | (go_simp; done) | (go_simp; with_reducible rfl) | with_reducible rfl)))
    (try simp only [Act.put]); (try simp only [List.setIfInBounds_toArray]); (try simp only [List.set_cons_succ]); (try simp only [List.set_cons_zero])
    refine wpAnyH_takeD (i := 2) (some 38) (v := ?_) rfl rfl (by kernel_rfl) (by kernel_rfl) (by kernel_rfl) (fun _ _ _ h => h) (Or.inl ⟨by rfl, ?_⟩) (by assumption) ?_
    rotate_left
    (focus (intro w hSw; (try dsimp only at hSw); (first | (go_simp; done) | (go_simp; with_reducible rfl) | with_reducible rfl)))
    (try simp only [Act.put]); (try simp only [List.setIfInBounds_toArray]); (try simp only [List.set_cons_succ]); (try simp only [List.set_cons_zero])
    refine wpAnyH_takeD (i := 3) (some 39) (v := ?_) rfl rfl (by kernel_rfl) (by kernel_rfl) (by kernel_rfl) (fun _ _ _ h => h) (Or.inl ⟨by rfl, ?_⟩) (by assumption) ?_
    rotate_left
    (focus (intro w hSw; (try dsimp only at hSw); (first | (go_simp; done) | (go_simp; with_reducible rfl) | with_reducible rfl)))
    (try simp only [Act.put]); (try simp only [List.setIfInBounds_toArray]); (try simp only [List.set_cons_succ]); (try simp only [List.set_cons_zero])
    refine wpAnyH_takeD (i := 5) (some 41) (v := ?_) rfl rfl (by kernel_rfl) (by kernel_rfl) (by kernel_rfl) (fun _ _ _ h => h) (Or.inl ⟨by rfl, ?_⟩) (by assumption) ?_
    rotate_left
    (focus (intro w hSw; (try dsimp only at hSw); (first | (go_simp; done) | (go_simp; with_reducible rfl) | with_reducible rfl)))
    (try simp only [Act.put]); (try simp only [List.setIfInBounds_toArray]); (try simp only [List.set_cons_succ]); (try simp only [List.set_cons_zero])
    refine wpAnyH_takeD (i := 6) (some 42) (v := ?_) rfl rfl (by kernel_rfl) (by kernel_rfl) (by kernel_rfl) (fun _ _ _ h => h) (Or.inl ⟨by rfl, ?_⟩) (by assumption) ?_
    rotate_left
    (focus (intro w hSw; (try dsimp only at hSw); (first | (go_simp; done) | (go_simp; with_reducible rfl) | with_reducible rfl)))
    (try simp only [Act.put]); (try simp only [List.setIfInBounds_toArray]); (try simp only [List.set_cons_succ]); (try simp only [List.set_cons_zero])
    refine wpAnyH_takeD (i := 7) (some 43) (v := ?_) rfl rfl (by kernel_rfl) (by kernel_rfl) (by kernel_rfl) (fun _ _ _ h => h) (Or.inl ⟨by rfl, ?_⟩) (by assumption) ?_
    rotate_left
    (focus (intro w hSw; (try dsimp only at hSw); (first | (go_simp; done) | (go_simp; with_reducible rfl) | with_reducible rfl)))
    (try simp only [Act.put]); (try simp only [List.setIfInBounds_toArray]); (try simp only [List.set_cons_succ]); (try simp only [List.set_cons_zero])
    refine wpAnyH_takeD (i := 8) (some 44) (v := ?_) rfl rfl (by kernel_rfl) (by kernel_rfl) (by kernel_rfl) (fun _ _ _ h => h) (Or.inl ⟨by rfl, ?_⟩) (by assumption) ?_
    rotate_left
    (focus (intro w hSw; (try dsimp only at hSw); (first | (go_simp; done) | (go_simp; with_reducible rfl) | with_reducible rfl)))
    (try simp only [Act.put]); (try simp only [List.setIfInBounds_toArray]); (try simp only [List.set_cons_succ]); (try simp only [List.set_cons_zero])
    refine wpAnyH_takeD (i := 9) (some 45) (v := ?_) rfl rfl (by kernel_rfl) (by kernel_rfl) (by kernel_rfl) (fun _ _ _ h => h) (Or.inl ⟨by rfl, ?_⟩) (by assumption) ?_
    rotate_left
    (focus (intro w hSw; (try dsimp only at hSw); (first | (go_simp; done) | (go_simp; with_reducible rfl) | with_reducible rfl)))
    (try simp only [Act.put]); (try simp only [List.setIfInBounds_toArray]); (try simp only [List.set_cons_succ]); (try simp only [List.set_cons_zero])
    refine wpAnyH_ready (rs := [4, 14]) (by kernel_rfl) (by simp) (AllReadyH.cons rfl (fun K hK => ?_) (AllReadyH.cons rfl (fun K hK => ?_) AllReadyH.nil))
    · go_simp
      go_at_call 23
      refine d_l1Bytes D (by decide) ?_
      clear D
      intro wS sA sN sC ls hns D
      go_wp2_with fail
      refine hK.out _ _ ?_ (fun hHeld2 => ?_)
      · (try dsimp only)
        first | exact ⟨DS.cell0 D 1, DS.cell0 D 0⟩ | exact ⟨DS.cell1 D 1, DS.cell1 D 0⟩
      clear hK K hHeld
      have hHeld := hHeld2
      clear hHeld2
      (try simp only [Act.put]); (try simp only [List.setIfInBounds_toArray]); (try simp only [List.set_cons_succ]); (try simp only [List.set_cons_zero])
      refine wpAnyH_ready (rs := [10, 14]) (by kernel_rfl) (by simp) (AllReadyH.cons rfl (fun K hK => ?_) (AllReadyH.cons rfl (fun K hK => ?_) AllReadyH.nil))
      · go_simp
        go_at_call 33
        refine d_SealB D D.tl.tl.tl.r0 D.r0 D.tl.r0 (D.rs _ (List.mem_cons_self ..)).2.2 (D.tl.rs _ (List.mem_cons_self ..)).2.2 ?_
        clear D
        intro wF kind id a1 n1 c1 l1 a2 n2 c2 l2 tick a3 n3 c3 l3 a4 n4 c4 l4 epoch seq a5 n5 c5 l5 a6 n6 c6 l6 ok hb D
        go_wp2_with fail
        refine hK.out _ _ ?_ (fun hHeld2 => ?_)
        · (try dsimp only)
          first | exact ⟨DS.cell0 D 1, DS.cell0 D 0⟩ | exact ⟨DS.cell1 D 1, DS.cell1 D 0⟩
        clear hK K hHeld
        have hHeld := hHeld2
        clear hHeld2
        (try simp only [Act.put]); (try simp only [List.setIfInBounds_toArray]); (try simp only [List.set_cons_succ]); (try simp only [List.set_cons_zero])
        refine wpAnyH_takeD (i := 11) (some 35) (v := ?_) rfl rfl (by kernel_rfl) (by kernel_rfl) (by kernel_rfl) (fun _ _ _ h => h) (Or.inl ⟨by rfl, ?_⟩) (by assumption) ?_
        rotate_left
        (focus (intro w hSw; (try dsimp only at hSw); (first | (go_simp; done) | (go_simp; with_reducible rfl) | with_reducible rfl)))
        (try simp only [Act.put]); (try simp only [List.setIfInBounds_toArray]); (try simp only [List.set_cons_succ]); (try simp only [List.set_cons_zero])
        refine wpAnyH_takeD (i := 12) (some 47) (v := ?_) rfl rfl (by kernel_rfl) (by kernel_rfl) (by kernel_rfl) (fun _ _ _ h => h) (Or.inl ⟨by rfl, ?_⟩) (by assumption) ?_
        rotate_left
        (focus (intro w hSw; (try dsimp only at hSw); (first | (go_simp; done) | (go_simp; with_reducible rfl) | with_reducible rfl)))
        (try simp only [Act.put]); (try simp only [List.setIfInBounds_toArray]); (try simp only [List.set_cons_succ]); (try simp only [List.set_cons_zero])
        refine wpAnyH_takeD (i := 13) (some 48) (v := ?_) rfl rfl (by kernel_rfl) (by kernel_rfl) (by kernel_rfl) (fun _ _ _ h => h) (Or.inl ⟨by rfl, ?_⟩) (by assumption) ?_
        rotate_left
        (focus (intro w hSw; (try dsimp only at hSw); (first | (go_simp; done) | (go_simp; with_reducible rfl) | with_reducible rfl)))
        (try simp only [Act.put]); (try simp only [List.setIfInBounds_toArray]); (try simp only [List.set_cons_succ]); (try simp only [List.set_cons_zero])
        refine wpAnyH_ready (rs := [14]) (by kernel_rfl) (by simp) (AllReadyH.cons rfl (fun K hK => ?_) AllReadyH.nil)
        refine step_alD rfl (some 11) rfl 32 _ rfl al_Frame ?_
        intro qF wG hqF BF gF
        replace D := D.boxG hqF BF gF
        clear BF gF hqF
        refine hK.out _ _ ?_ (fun hHeld2 => ?_)
        · (try dsimp only)
          first | exact ⟨DS.cell0 D 1, DS.cell0 D 0⟩ | exact ⟨DS.cell1 D 1, DS.cell1 D 0⟩
        clear hK K hHeld
        have hHeld := hHeld2
        clear hHeld2
        (try simp only [Act.put]); (try simp only [List.setIfInBounds_toArray]); (try simp only [List.set_cons_succ]); (try simp only [List.set_cons_zero])
        refine wpAnyH_ready (rs := [15]) (by kernel_rfl) (by simp) (AllReadyH.cons rfl (fun K hK => ?_) AllReadyH.nil)
        refine step_stRD rfl rfl 32 (.tmp 11) (.tmp 47) rfl qF _ _ rfl rfl (D.bx _ (List.mem_cons_self ..)).1 si_Frame rfl (by first | rfl | (simp [Value.oneCell']; done)) ?_
        intro w5 Bz g5
        replace D := D.row (b1 := []) rfl Bz g5
        clear Bz g5
        refine hK.out _ _ ?_ (fun hHeld2 => ?_)
        · (try dsimp only)
          first | exact ⟨DS.cell0 D 1, DS.cell0 D 0⟩ | exact ⟨DS.cell1 D 1, DS.cell1 D 0⟩
        clear hK K hHeld
        have hHeld := hHeld2
        clear hHeld2
        (try simp only [Act.put]); (try simp only [List.setIfInBounds_toArray]); (try simp only [List.set_cons_succ]); (try simp only [List.set_cons_zero])
        refine wpAnyH_takeD (i := 16) (some 12) (v := ?_) rfl rfl (by kernel_rfl) (by kernel_rfl) (by kernel_rfl) (fun _ _ _ h => h) (Or.inl ⟨by rfl, ?_⟩) (by assumption) ?_
        rotate_left
        (focus (intro w hSw; (try dsimp only at hSw); (first | (go_simp; done) | (go_simp; with_reducible rfl) | with_reducible rfl)))
        (try simp only [Act.put]); (try simp only [List.setIfInBounds_toArray]); (try simp only [List.set_cons_succ]); (try simp only [List.set_cons_zero])
        refine wpAnyH_done (by kernel_rfl) ?_ _
        (try dsimp only)
        (try go_wp2_with fail)
        (try clear kc kf); (try simp only [List.setIfInBounds_toArray, List.set_cons_succ, List.set_cons_zero] at D); (try (have kc := fun o => DS.cell0 D o; have kf := fun o => DS.frz0 D o))
        refine d_l1Once D ?_
        clear D
        intro w1 o D
        (try clear kc kf); (try simp only [List.setIfInBounds_toArray, List.set_cons_succ, List.set_cons_zero] at D); (try (have kc := fun o => DS.cell0 D o; have kf := fun o => DS.frz0 D o))
        cases o
        all_goals
          go_wp2_with (first
            | (go_at_call 22; (first | (with_reducible refine d_l1Int D ?_ ?_ ?_ ?_ ?_ ?_) | (with_reducible refine d_l1Int (D.set0 _ _) ?_ ?_ ?_ ?_ ?_ ?_) | (with_reducible refine d_l1Int (D.box _ _) ?_ ?_ ?_ ?_ ?_ ?_) | (with_reducible refine d_l1Int ((D.set0 _ _).set0 _ _) ?_ ?_ ?_ ?_ ?_ ?_) | (with_reducible refine d_l1Int ((D.box _ _).set0 _ _) ?_ ?_ ?_ ?_ ?_ ?_)); (focus (first | rfl | (simp; done))); (focus (exact rfl)); (focus rfl); (focus decide); (focus decide); clear D; intro w1 x hi D; (try clear kc kf); (try simp only [List.setIfInBounds_toArray, List.set_cons_succ, List.set_cons_zero] at D); (try (have kc := fun o => DS.cell0 D o; have kf := fun o => DS.frz0 D o)))
            | (go_at_call 24; (with_reducible refine d_l1Once D ?_); clear D; intro w1 o D; (try clear kc kf); (try simp only [List.setIfInBounds_toArray, List.set_cons_succ, List.set_cons_zero] at D); (try (have kc := fun o => DS.cell0 D o; have kf := fun o => DS.frz0 D o)); cases o)
            | (go_at_call 43; (with_reducible refine d_PFr D (spec_l9Bent _ cb kind id tick epoch seq a1 a2 a3 a4 a5 a6 n1 c1 n2 c2 n3 c3 n4 c4 n5 c5 n6 c6 l1 l2 l3 l4 l5 l6 _ D.cur D.tl.tl.tl.tl.tl.r0 D.tl.tl.tl.tl.r0 D.tl.tl.tl.r0 D.tl.tl.r0 D.tl.r0 D.r0 hb.out) ?_); clear D hb; intro w1 kind id a1 n1 c1 l1 a2 n2 c2 l2 tick a3 n3 c3 l3 a4 n4 c4 l4 epoch seq a5 n5 c5 l5 a6 n6 c6 l6 D; (try clear kc kf); (try simp only [List.setIfInBounds_toArray, List.set_cons_succ, List.set_cons_zero] at D); (try (have kc := fun o => DS.cell0 D o; have kf := fun o => DS.frz0 D o)))
            | ((with_reducible refine wpList_stD0 D ?_ (.tmp 11) (.tmp 58) ?_ ?_ ?_ ?_ ?_ ?_ ?_ ?_); (focus rfl); (focus rfl); rotate_left; (focus rfl); (focus rfl); (focus (exact si_Frame)); (focus rfl); (focus (first | rfl | (simp [Value.oneCell']; done))); clear D; intro w1 D; (try simp only [Act.put]); (try simp only [List.setIfInBounds_toArray]); (try simp only [List.set_cons_succ]); (try simp only [List.set_cons_zero]); (try clear kc kf); have kr := fun o => DS.cell0 D o))
        all_goals
          replace D := D.drew
          (try clear kc kf)
          (try clear kr)
          refine wp_region_held_drew (S := (fun w' => (w'.cell? ⟨qF, 0, none⟩ = some (.int .i64 kind) ∧ w'.cell? ⟨qF, 1, none⟩ = some (.int .i64 id) ∧ w'.cell? ⟨qF, 2, none⟩ = some (.slice a1 n1 c1) ∧ w'.cell? ⟨qF, 3, none⟩ = some (.slice a2 n2 c2) ∧ w'.cell? ⟨qF, 4, none⟩ = some (.int .i64 tick) ∧ w'.cell? ⟨qF, 5, none⟩ = some (.slice a3 n3 c3) ∧ w'.cell? ⟨qF, 6, none⟩ = some (.slice a4 n4 c4) ∧ w'.cell? ⟨qF, 7, none⟩ = some (.int .i64 epoch) ∧ w'.cell? ⟨qF, 8, none⟩ = some (.int .i64 seq) ∧ w'.cell? ⟨qF, 9, none⟩ = some (.slice a5 n5 c5) ∧ w'.cell? ⟨qF, 10, none⟩ = some (.slice a6 n6 c6)) ∧ w'.cell? ⟨wE.heap.size, 0, none⟩ = some (.int .i64 en) ∧ w'.cell? ⟨wE.heap.size, 1, none⟩ = some (.slice k1 m1 d1) ∧ w'.cell? ⟨wE.heap.size, 2, none⟩ = some (.int .i64 es) ∧ w'.cell? ⟨wE.heap.size, 3, none⟩ = some (.int .i64 et) ∧ w'.cell? ⟨wE.heap.size, 4, none⟩ = some (.slice k7 m7 d7))) (by kernel_rfl) ?_ (fun hHeld => ?_)
          · (try dsimp only)
            exact ⟨⟨DS.cell0 D 0, DS.cell0 D 1, DS.cell0 D 2, DS.cell0 D 3, DS.cell0 D 4, DS.cell0 D 5, DS.cell0 D 6, DS.cell0 D 7, DS.cell0 D 8, DS.cell0 D 9, DS.cell0 D 10⟩, DS.cell1 D 0, DS.cell1 D 1, DS.cell1 D 2, DS.cell1 D 3, DS.cell1 D 4⟩
          refine wpAnyH_takeD (i := 0) (some 59) (v := ?_) rfl rfl (by kernel_rfl) (by kernel_rfl) (by kernel_rfl) (fun _ _ _ h => h) (Or.inl ⟨by rfl, ?_⟩) (by assumption) ?_
          rotate_left
          (focus (intro w hSw; (try dsimp only at hSw); (first | (go_simp; done) | (go_simp; with_reducible rfl) | with_reducible rfl)))
          (try simp only [Act.put]); (try simp only [List.setIfInBounds_toArray]); (try simp only [List.set_cons_succ]); (try simp only [List.set_cons_zero])
          refine wpAnyH_takeD (i := 1) (some 60) (v := ?_) rfl rfl (by kernel_rfl) (by kernel_rfl) (by kernel_rfl) (fun _ _ _ h => h) (Or.inl ⟨by rfl, ?_⟩) (by assumption) ?_
          rotate_left
          (focus (intro w hSw; (try dsimp only at hSw); (first | (go_simp; done) | (go_simp; with_reducible rfl) | with_reducible rfl)))
          (try simp only [Act.put]); (try simp only [List.setIfInBounds_toArray]); (try simp only [List.set_cons_succ]); (try simp only [List.set_cons_zero])
          refine wpAnyH_takeD (i := 2) (some 61) (v := ?_) rfl rfl (by kernel_rfl) (by kernel_rfl) (by kernel_rfl) (fun _ _ _ h => h) (Or.inl ⟨by rfl, ?_⟩) (by assumption) ?_
          rotate_left
          (focus (intro w hSw; (try dsimp only at hSw); (first | (go_simp; done) | (go_simp; with_reducible rfl) | with_reducible rfl)))
          (try simp only [Act.put]); (try simp only [List.setIfInBounds_toArray]); (try simp only [List.set_cons_succ]); (try simp only [List.set_cons_zero])
          refine wpAnyH_ready (rs := [3]) (by kernel_rfl) (by simp) (AllReadyH.cons rfl (fun K hK => ?_) AllReadyH.nil)
          refine step_stRD rfl rfl 28 (.tmp 2) (.tmp 59) rfl w.heap.size _ _ rfl rfl (mem3 D) si_Ep rfl (by first | rfl | (simp [Value.oneCell']; done)) ?_
          intro w8 Bz g8
          replace D := D.row (b1 := [_, _, _]) rfl Bz g8
          clear Bz g8
          refine hK.out _ _ ?_ (fun hHeld2 => ?_)
          · (try dsimp only)
            exact ⟨⟨DS.cell0 D 0, DS.cell0 D 1, DS.cell0 D 2, DS.cell0 D 3, DS.cell0 D 4, DS.cell0 D 5, DS.cell0 D 6, DS.cell0 D 7, DS.cell0 D 8, DS.cell0 D 9, DS.cell0 D 10⟩, DS.cell1 D 0, DS.cell1 D 1, DS.cell1 D 2, DS.cell1 D 3, DS.cell1 D 4⟩
          clear hK K hHeld
          have hHeld := hHeld2
          clear hHeld2
          (try simp only [Act.put]); (try simp only [List.setIfInBounds_toArray]); (try simp only [List.set_cons_succ]); (try simp only [List.set_cons_zero])
          refine wpAnyH_takeD (i := 4) (some 3) (v := ?_) rfl rfl (by kernel_rfl) (by kernel_rfl) (by kernel_rfl) (fun _ _ _ h => h) (Or.inl ⟨by rfl, ?_⟩) (by assumption) ?_
          rotate_left
          (focus (intro w hSw; (try dsimp only at hSw); (first | (go_simp; done) | (go_simp; with_reducible rfl) | with_reducible rfl)))
          (try simp only [Act.put]); (try simp only [List.setIfInBounds_toArray]); (try simp only [List.set_cons_succ]); (try simp only [List.set_cons_zero])
          refine wpAnyH_ready (rs := [5]) (by kernel_rfl) (by simp) (AllReadyH.cons rfl (fun K hK => ?_) AllReadyH.nil)
          refine step_stRD rfl rfl 32 (.tmp 4) (.tmp 61) rfl (w.heap.size + 1) _ _ rfl rfl (mem2 D) si_Frame rfl (by first | rfl | (simp [Value.oneCell']; done)) ?_
          intro w9 Bz g9
          replace D := D.row (b1 := [_, _]) rfl Bz g9
          clear Bz g9
          refine hK.out _ _ ?_ (fun hHeld2 => ?_)
          · (try dsimp only)
            exact ⟨⟨DS.cell0 D 0, DS.cell0 D 1, DS.cell0 D 2, DS.cell0 D 3, DS.cell0 D 4, DS.cell0 D 5, DS.cell0 D 6, DS.cell0 D 7, DS.cell0 D 8, DS.cell0 D 9, DS.cell0 D 10⟩, DS.cell1 D 0, DS.cell1 D 1, DS.cell1 D 2, DS.cell1 D 3, DS.cell1 D 4⟩
          clear hK K hHeld
          have hHeld := hHeld2
          clear hHeld2
          (try simp only [Act.put]); (try simp only [List.setIfInBounds_toArray]); (try simp only [List.set_cons_succ]); (try simp only [List.set_cons_zero])
          refine wpAnyH_done (by kernel_rfl) ?_ _
          (try dsimp only)
          have h3 := fun o => (mem3 D).cell o
          have h2 := fun o => (mem2 D).cell o
          (try go_wp2)
          refine' bodyPost_ret ?_ rfl ?_
          rotate_left
          (focus (simp [results, Tryz.results17, go_sem, h3, h2]; rfl))
          exact PEO.mk (D.gb hcb) (bm D (l := lk1) (by (repeat (first | with_reducible exact List.mem_cons_self .. | with_reducible refine List.mem_cons_of_mem _ ?_)))) (im D (l := lk7) (by (repeat (first | with_reducible exact List.mem_cons_self .. | with_reducible refine List.mem_cons_of_mem _ ?_)))) (bm D (l := l1) (by (repeat (first | with_reducible exact List.mem_cons_self .. | with_reducible refine List.mem_cons_of_mem _ ?_)))) (bm D (l := l2) (by (repeat (first | with_reducible exact List.mem_cons_self .. | with_reducible refine List.mem_cons_of_mem _ ?_)))) (bm D (l := l3) (by (repeat (first | with_reducible exact List.mem_cons_self .. | with_reducible refine List.mem_cons_of_mem _ ?_)))) (bm D (l := l4) (by (repeat (first | with_reducible exact List.mem_cons_self .. | with_reducible refine List.mem_cons_of_mem _ ?_)))) (bm D (l := l5) (by (repeat (first | with_reducible exact List.mem_cons_self .. | with_reducible refine List.mem_cons_of_mem _ ?_)))) (bm D (l := l6) (by (repeat (first | with_reducible exact List.mem_cons_self .. | with_reducible refine List.mem_cons_of_mem _ ?_))))
      · refine step_alD rfl (some 11) rfl 32 _ rfl al_Frame ?_
        intro qF wG hqF BF gF
        replace D := D.boxG hqF BF gF
        clear BF gF hqF
        refine hK.out _ _ ?_ (fun hHeld2 => ?_)
        · (try dsimp only)
          first | exact ⟨DS.cell0 D 1, DS.cell0 D 0⟩ | exact ⟨DS.cell1 D 1, DS.cell1 D 0⟩
        clear hK K hHeld
        have hHeld := hHeld2
        clear hHeld2
        (try simp only [Act.put]); (try simp only [List.setIfInBounds_toArray]); (try simp only [List.set_cons_succ]); (try simp only [List.set_cons_zero])
        refine wpAnyH_ready (rs := [10]) (by kernel_rfl) (by simp) (AllReadyH.cons rfl (fun K hK => ?_) AllReadyH.nil)
        go_simp
        go_at_call 33
        refine d_SealB D D.tl.tl.tl.r0 D.r0 D.tl.r0 (D.rs _ (List.mem_cons_self ..)).2.2 (D.tl.rs _ (List.mem_cons_self ..)).2.2 ?_
        clear D
        intro wF kind id a1 n1 c1 l1 a2 n2 c2 l2 tick a3 n3 c3 l3 a4 n4 c4 l4 epoch seq a5 n5 c5 l5 a6 n6 c6 l6 ok hb D
        go_wp2_with fail
        refine hK.out _ _ ?_ (fun hHeld2 => ?_)
        · (try dsimp only)
          first | exact ⟨DS.cell0 D 1, DS.cell0 D 0⟩ | exact ⟨DS.cell1 D 1, DS.cell1 D 0⟩
        clear hK K hHeld
        have hHeld := hHeld2
        clear hHeld2
        (try simp only [Act.put]); (try simp only [List.setIfInBounds_toArray]); (try simp only [List.set_cons_succ]); (try simp only [List.set_cons_zero])
        refine wpAnyH_takeD (i := 11) (some 35) (v := ?_) rfl rfl (by kernel_rfl) (by kernel_rfl) (by kernel_rfl) (fun _ _ _ h => h) (Or.inl ⟨by rfl, ?_⟩) (by assumption) ?_
        rotate_left
        (focus (intro w hSw; (try dsimp only at hSw); (first | (go_simp; done) | (go_simp; with_reducible rfl) | with_reducible rfl)))
        (try simp only [Act.put]); (try simp only [List.setIfInBounds_toArray]); (try simp only [List.set_cons_succ]); (try simp only [List.set_cons_zero])
        refine wpAnyH_takeD (i := 12) (some 47) (v := ?_) rfl rfl (by kernel_rfl) (by kernel_rfl) (by kernel_rfl) (fun _ _ _ h => h) (Or.inl ⟨by rfl, ?_⟩) (by assumption) ?_
        rotate_left
        (focus (intro w hSw; (try dsimp only at hSw); (first | (go_simp; done) | (go_simp; with_reducible rfl) | with_reducible rfl)))
        (try simp only [Act.put]); (try simp only [List.setIfInBounds_toArray]); (try simp only [List.set_cons_succ]); (try simp only [List.set_cons_zero])
        refine wpAnyH_takeD (i := 13) (some 48) (v := ?_) rfl rfl (by kernel_rfl) (by kernel_rfl) (by kernel_rfl) (fun _ _ _ h => h) (Or.inl ⟨by rfl, ?_⟩) (by assumption) ?_
        rotate_left
        (focus (intro w hSw; (try dsimp only at hSw); (first | (go_simp; done) | (go_simp; with_reducible rfl) | with_reducible rfl)))
        (try simp only [Act.put]); (try simp only [List.setIfInBounds_toArray]); (try simp only [List.set_cons_succ]); (try simp only [List.set_cons_zero])
        refine wpAnyH_ready (rs := [15]) (by kernel_rfl) (by simp) (AllReadyH.cons rfl (fun K hK => ?_) AllReadyH.nil)
        refine step_stRD rfl rfl 32 (.tmp 11) (.tmp 47) rfl qF _ _ rfl rfl (D.bx _ (List.mem_cons_self ..)).1 si_Frame rfl (by first | rfl | (simp [Value.oneCell']; done)) ?_
        intro w5 Bz g5
        replace D := D.row (b1 := []) rfl Bz g5
        clear Bz g5
        refine hK.out _ _ ?_ (fun hHeld2 => ?_)
        · (try dsimp only)
          first | exact ⟨DS.cell0 D 1, DS.cell0 D 0⟩ | exact ⟨DS.cell1 D 1, DS.cell1 D 0⟩
        clear hK K hHeld
        have hHeld := hHeld2
        clear hHeld2
        (try simp only [Act.put]); (try simp only [List.setIfInBounds_toArray]); (try simp only [List.set_cons_succ]); (try simp only [List.set_cons_zero])
        refine wpAnyH_takeD (i := 16) (some 12) (v := ?_) rfl rfl (by kernel_rfl) (by kernel_rfl) (by kernel_rfl) (fun _ _ _ h => h) (Or.inl ⟨by rfl, ?_⟩) (by assumption) ?_
        rotate_left
        (focus (intro w hSw; (try dsimp only at hSw); (first | (go_simp; done) | (go_simp; with_reducible rfl) | with_reducible rfl)))
        (try simp only [Act.put]); (try simp only [List.setIfInBounds_toArray]); (try simp only [List.set_cons_succ]); (try simp only [List.set_cons_zero])
        refine wpAnyH_done (by kernel_rfl) ?_ _
        (try dsimp only)
        (try go_wp2_with fail)
        (try clear kc kf); (try simp only [List.setIfInBounds_toArray, List.set_cons_succ, List.set_cons_zero] at D); (try (have kc := fun o => DS.cell0 D o; have kf := fun o => DS.frz0 D o))
        refine d_l1Once D ?_
        clear D
        intro w1 o D
        (try clear kc kf); (try simp only [List.setIfInBounds_toArray, List.set_cons_succ, List.set_cons_zero] at D); (try (have kc := fun o => DS.cell0 D o; have kf := fun o => DS.frz0 D o))
        cases o
        all_goals
          go_wp2_with (first
            | (go_at_call 22; (first | (with_reducible refine d_l1Int D ?_ ?_ ?_ ?_ ?_ ?_) | (with_reducible refine d_l1Int (D.set0 _ _) ?_ ?_ ?_ ?_ ?_ ?_) | (with_reducible refine d_l1Int (D.box _ _) ?_ ?_ ?_ ?_ ?_ ?_) | (with_reducible refine d_l1Int ((D.set0 _ _).set0 _ _) ?_ ?_ ?_ ?_ ?_ ?_) | (with_reducible refine d_l1Int ((D.box _ _).set0 _ _) ?_ ?_ ?_ ?_ ?_ ?_)); (focus (first | rfl | (simp; done))); (focus (exact rfl)); (focus rfl); (focus decide); (focus decide); clear D; intro w1 x hi D; (try clear kc kf); (try simp only [List.setIfInBounds_toArray, List.set_cons_succ, List.set_cons_zero] at D); (try (have kc := fun o => DS.cell0 D o; have kf := fun o => DS.frz0 D o)))
            | (go_at_call 24; (with_reducible refine d_l1Once D ?_); clear D; intro w1 o D; (try clear kc kf); (try simp only [List.setIfInBounds_toArray, List.set_cons_succ, List.set_cons_zero] at D); (try (have kc := fun o => DS.cell0 D o; have kf := fun o => DS.frz0 D o)); cases o)
            | (go_at_call 43; (with_reducible refine d_PFr D (spec_l9Bent _ cb kind id tick epoch seq a1 a2 a3 a4 a5 a6 n1 c1 n2 c2 n3 c3 n4 c4 n5 c5 n6 c6 l1 l2 l3 l4 l5 l6 _ D.cur D.tl.tl.tl.tl.tl.r0 D.tl.tl.tl.tl.r0 D.tl.tl.tl.r0 D.tl.tl.r0 D.tl.r0 D.r0 hb.out) ?_); clear D hb; intro w1 kind id a1 n1 c1 l1 a2 n2 c2 l2 tick a3 n3 c3 l3 a4 n4 c4 l4 epoch seq a5 n5 c5 l5 a6 n6 c6 l6 D; (try clear kc kf); (try simp only [List.setIfInBounds_toArray, List.set_cons_succ, List.set_cons_zero] at D); (try (have kc := fun o => DS.cell0 D o; have kf := fun o => DS.frz0 D o)))
            | ((with_reducible refine wpList_stD0 D ?_ (.tmp 11) (.tmp 58) ?_ ?_ ?_ ?_ ?_ ?_ ?_ ?_); (focus rfl); (focus rfl); rotate_left; (focus rfl); (focus rfl); (focus (exact si_Frame)); (focus rfl); (focus (first | rfl | (simp [Value.oneCell']; done))); clear D; intro w1 D; (try simp only [Act.put]); (try simp only [List.setIfInBounds_toArray]); (try simp only [List.set_cons_succ]); (try simp only [List.set_cons_zero]); (try clear kc kf); have kr := fun o => DS.cell0 D o))
        all_goals
          replace D := D.drew
          (try clear kc kf)
          (try clear kr)
          refine wp_region_held_drew (S := (fun w' => (w'.cell? ⟨qF, 0, none⟩ = some (.int .i64 kind) ∧ w'.cell? ⟨qF, 1, none⟩ = some (.int .i64 id) ∧ w'.cell? ⟨qF, 2, none⟩ = some (.slice a1 n1 c1) ∧ w'.cell? ⟨qF, 3, none⟩ = some (.slice a2 n2 c2) ∧ w'.cell? ⟨qF, 4, none⟩ = some (.int .i64 tick) ∧ w'.cell? ⟨qF, 5, none⟩ = some (.slice a3 n3 c3) ∧ w'.cell? ⟨qF, 6, none⟩ = some (.slice a4 n4 c4) ∧ w'.cell? ⟨qF, 7, none⟩ = some (.int .i64 epoch) ∧ w'.cell? ⟨qF, 8, none⟩ = some (.int .i64 seq) ∧ w'.cell? ⟨qF, 9, none⟩ = some (.slice a5 n5 c5) ∧ w'.cell? ⟨qF, 10, none⟩ = some (.slice a6 n6 c6)) ∧ w'.cell? ⟨wE.heap.size, 0, none⟩ = some (.int .i64 en) ∧ w'.cell? ⟨wE.heap.size, 1, none⟩ = some (.slice k1 m1 d1) ∧ w'.cell? ⟨wE.heap.size, 2, none⟩ = some (.int .i64 es) ∧ w'.cell? ⟨wE.heap.size, 3, none⟩ = some (.int .i64 et) ∧ w'.cell? ⟨wE.heap.size, 4, none⟩ = some (.slice k7 m7 d7))) (by kernel_rfl) ?_ (fun hHeld => ?_)
          · (try dsimp only)
            exact ⟨⟨DS.cell0 D 0, DS.cell0 D 1, DS.cell0 D 2, DS.cell0 D 3, DS.cell0 D 4, DS.cell0 D 5, DS.cell0 D 6, DS.cell0 D 7, DS.cell0 D 8, DS.cell0 D 9, DS.cell0 D 10⟩, DS.cell1 D 0, DS.cell1 D 1, DS.cell1 D 2, DS.cell1 D 3, DS.cell1 D 4⟩
          refine wpAnyH_takeD (i := 0) (some 59) (v := ?_) rfl rfl (by kernel_rfl) (by kernel_rfl) (by kernel_rfl) (fun _ _ _ h => h) (Or.inl ⟨by rfl, ?_⟩) (by assumption) ?_
          rotate_left
          (focus (intro w hSw; (try dsimp only at hSw); (first | (go_simp; done) | (go_simp; with_reducible rfl) | with_reducible rfl)))
          (try simp only [Act.put]); (try simp only [List.setIfInBounds_toArray]); (try simp only [List.set_cons_succ]); (try simp only [List.set_cons_zero])
          refine wpAnyH_takeD (i := 1) (some 60) (v := ?_) rfl rfl (by kernel_rfl) (by kernel_rfl) (by kernel_rfl) (fun _ _ _ h => h) (Or.inl ⟨by rfl, ?_⟩) (by assumption) ?_
          rotate_left
          (focus (intro w hSw; (try dsimp only at hSw); (first | (go_simp; done) | (go_simp; with_reducible rfl) | with_reducible rfl)))
          (try simp only [Act.put]); (try simp only [List.setIfInBounds_toArray]); (try simp only [List.set_cons_succ]); (try simp only [List.set_cons_zero])
          refine wpAnyH_takeD (i := 2) (some 61) (v := ?_) rfl rfl (by kernel_rfl) (by kernel_rfl) (by kernel_rfl) (fun _ _ _ h => h) (Or.inl ⟨by rfl, ?_⟩) (by assumption) ?_
          rotate_left
          (focus (intro w hSw; (try dsimp only at hSw); (first | (go_simp; done) | (go_simp; with_reducible rfl) | with_reducible rfl)))
          (try simp only [Act.put]); (try simp only [List.setIfInBounds_toArray]); (try simp only [List.set_cons_succ]); (try simp only [List.set_cons_zero])
          refine wpAnyH_ready (rs := [3]) (by kernel_rfl) (by simp) (AllReadyH.cons rfl (fun K hK => ?_) AllReadyH.nil)
          refine step_stRD rfl rfl 28 (.tmp 2) (.tmp 59) rfl w.heap.size _ _ rfl rfl (mem3 D) si_Ep rfl (by first | rfl | (simp [Value.oneCell']; done)) ?_
          intro w8 Bz g8
          replace D := D.row (b1 := [_, _, _]) rfl Bz g8
          clear Bz g8
          refine hK.out _ _ ?_ (fun hHeld2 => ?_)
          · (try dsimp only)
            exact ⟨⟨DS.cell0 D 0, DS.cell0 D 1, DS.cell0 D 2, DS.cell0 D 3, DS.cell0 D 4, DS.cell0 D 5, DS.cell0 D 6, DS.cell0 D 7, DS.cell0 D 8, DS.cell0 D 9, DS.cell0 D 10⟩, DS.cell1 D 0, DS.cell1 D 1, DS.cell1 D 2, DS.cell1 D 3, DS.cell1 D 4⟩
          clear hK K hHeld
          have hHeld := hHeld2
          clear hHeld2
          (try simp only [Act.put]); (try simp only [List.setIfInBounds_toArray]); (try simp only [List.set_cons_succ]); (try simp only [List.set_cons_zero])
          refine wpAnyH_takeD (i := 4) (some 3) (v := ?_) rfl rfl (by kernel_rfl) (by kernel_rfl) (by kernel_rfl) (fun _ _ _ h => h) (Or.inl ⟨by rfl, ?_⟩) (by assumption) ?_
          rotate_left
          (focus (intro w hSw; (try dsimp only at hSw); (first | (go_simp; done) | (go_simp; with_reducible rfl) | with_reducible rfl)))
          (try simp only [Act.put]); (try simp only [List.setIfInBounds_toArray]); (try simp only [List.set_cons_succ]); (try simp only [List.set_cons_zero])
          refine wpAnyH_ready (rs := [5]) (by kernel_rfl) (by simp) (AllReadyH.cons rfl (fun K hK => ?_) AllReadyH.nil)
          refine step_stRD rfl rfl 32 (.tmp 4) (.tmp 61) rfl (w.heap.size + 1) _ _ rfl rfl (mem2 D) si_Frame rfl (by first | rfl | (simp [Value.oneCell']; done)) ?_
          intro w9 Bz g9
          replace D := D.row (b1 := [_, _]) rfl Bz g9
          clear Bz g9
          refine hK.out _ _ ?_ (fun hHeld2 => ?_)
          · (try dsimp only)
            exact ⟨⟨DS.cell0 D 0, DS.cell0 D 1, DS.cell0 D 2, DS.cell0 D 3, DS.cell0 D 4, DS.cell0 D 5, DS.cell0 D 6, DS.cell0 D 7, DS.cell0 D 8, DS.cell0 D 9, DS.cell0 D 10⟩, DS.cell1 D 0, DS.cell1 D 1, DS.cell1 D 2, DS.cell1 D 3, DS.cell1 D 4⟩
          clear hK K hHeld
          have hHeld := hHeld2
          clear hHeld2
          (try simp only [Act.put]); (try simp only [List.setIfInBounds_toArray]); (try simp only [List.set_cons_succ]); (try simp only [List.set_cons_zero])
          refine wpAnyH_done (by kernel_rfl) ?_ _
          (try dsimp only)
          have h3 := fun o => (mem3 D).cell o
          have h2 := fun o => (mem2 D).cell o
          (try go_wp2)
          refine' bodyPost_ret ?_ rfl ?_
          rotate_left
          (focus (simp [results, Tryz.results17, go_sem, h3, h2]; rfl))
          exact PEO.mk (D.gb hcb) (bm D (l := lk1) (by (repeat (first | with_reducible exact List.mem_cons_self .. | with_reducible refine List.mem_cons_of_mem _ ?_)))) (im D (l := lk7) (by (repeat (first | with_reducible exact List.mem_cons_self .. | with_reducible refine List.mem_cons_of_mem _ ?_)))) (bm D (l := l1) (by (repeat (first | with_reducible exact List.mem_cons_self .. | with_reducible refine List.mem_cons_of_mem _ ?_)))) (bm D (l := l2) (by (repeat (first | with_reducible exact List.mem_cons_self .. | with_reducible refine List.mem_cons_of_mem _ ?_)))) (bm D (l := l3) (by (repeat (first | with_reducible exact List.mem_cons_self .. | with_reducible refine List.mem_cons_of_mem _ ?_)))) (bm D (l := l4) (by (repeat (first | with_reducible exact List.mem_cons_self .. | with_reducible refine List.mem_cons_of_mem _ ?_)))) (bm D (l := l5) (by (repeat (first | with_reducible exact List.mem_cons_self .. | with_reducible refine List.mem_cons_of_mem _ ?_)))) (bm D (l := l6) (by (repeat (first | with_reducible exact List.mem_cons_self .. | with_reducible refine List.mem_cons_of_mem _ ?_))))
    · refine step_alD rfl (some 11) rfl 32 _ rfl al_Frame ?_
      intro qF wG hqF BF gF
      replace D := D.boxG hqF BF gF
      clear BF gF hqF
      refine hK.out _ _ ?_ (fun hHeld2 => ?_)
      · (try dsimp only)
        first | exact ⟨DS.cell0 D 1, DS.cell0 D 0⟩ | exact ⟨DS.cell1 D 1, DS.cell1 D 0⟩
      clear hK K hHeld
      have hHeld := hHeld2
      clear hHeld2
      (try simp only [Act.put]); (try simp only [List.setIfInBounds_toArray]); (try simp only [List.set_cons_succ]); (try simp only [List.set_cons_zero])
      refine wpAnyH_ready (rs := [4]) (by kernel_rfl) (by simp) (AllReadyH.cons rfl (fun K hK => ?_) AllReadyH.nil)
      go_simp
      go_at_call 23
      refine d_l1Bytes D (by decide) ?_
      clear D
      intro wS sA sN sC ls hns D
      go_wp2_with fail
      refine hK.out _ _ ?_ (fun hHeld2 => ?_)
      · (try dsimp only)
        first | exact ⟨DS.cell0 D 1, DS.cell0 D 0⟩ | exact ⟨DS.cell1 D 1, DS.cell1 D 0⟩
      clear hK K hHeld
      have hHeld := hHeld2
      clear hHeld2
      (try simp only [Act.put]); (try simp only [List.setIfInBounds_toArray]); (try simp only [List.set_cons_succ]); (try simp only [List.set_cons_zero])
      refine wpAnyH_ready (rs := [10]) (by kernel_rfl) (by simp) (AllReadyH.cons rfl (fun K hK => ?_) AllReadyH.nil)
      go_simp
      go_at_call 33
      refine d_SealB D D.tl.tl.tl.r0 D.r0 D.tl.r0 (D.rs _ (List.mem_cons_self ..)).2.2 (D.tl.rs _ (List.mem_cons_self ..)).2.2 ?_
      clear D
      intro wF kind id a1 n1 c1 l1 a2 n2 c2 l2 tick a3 n3 c3 l3 a4 n4 c4 l4 epoch seq a5 n5 c5 l5 a6 n6 c6 l6 ok hb D
      go_wp2_with fail
      refine hK.out _ _ ?_ (fun hHeld2 => ?_)
      · (try dsimp only)
        first | exact ⟨DS.cell0 D 1, DS.cell0 D 0⟩ | exact ⟨DS.cell1 D 1, DS.cell1 D 0⟩
      clear hK K hHeld
      have hHeld := hHeld2
      clear hHeld2
      (try simp only [Act.put]); (try simp only [List.setIfInBounds_toArray]); (try simp only [List.set_cons_succ]); (try simp only [List.set_cons_zero])
      refine wpAnyH_takeD (i := 11) (some 35) (v := ?_) rfl rfl (by kernel_rfl) (by kernel_rfl) (by kernel_rfl) (fun _ _ _ h => h) (Or.inl ⟨by rfl, ?_⟩) (by assumption) ?_
      rotate_left
      (focus (intro w hSw; (try dsimp only at hSw); (first | (go_simp; done) | (go_simp; with_reducible rfl) | with_reducible rfl)))
      (try simp only [Act.put]); (try simp only [List.setIfInBounds_toArray]); (try simp only [List.set_cons_succ]); (try simp only [List.set_cons_zero])
      refine wpAnyH_takeD (i := 12) (some 47) (v := ?_) rfl rfl (by kernel_rfl) (by kernel_rfl) (by kernel_rfl) (fun _ _ _ h => h) (Or.inl ⟨by rfl, ?_⟩) (by assumption) ?_
      rotate_left
      (focus (intro w hSw; (try dsimp only at hSw); (first | (go_simp; done) | (go_simp; with_reducible rfl) | with_reducible rfl)))
      (try simp only [Act.put]); (try simp only [List.setIfInBounds_toArray]); (try simp only [List.set_cons_succ]); (try simp only [List.set_cons_zero])
      refine wpAnyH_takeD (i := 13) (some 48) (v := ?_) rfl rfl (by kernel_rfl) (by kernel_rfl) (by kernel_rfl) (fun _ _ _ h => h) (Or.inl ⟨by rfl, ?_⟩) (by assumption) ?_
      rotate_left
      (focus (intro w hSw; (try dsimp only at hSw); (first | (go_simp; done) | (go_simp; with_reducible rfl) | with_reducible rfl)))
      (try simp only [Act.put]); (try simp only [List.setIfInBounds_toArray]); (try simp only [List.set_cons_succ]); (try simp only [List.set_cons_zero])
      refine wpAnyH_ready (rs := [15]) (by kernel_rfl) (by simp) (AllReadyH.cons rfl (fun K hK => ?_) AllReadyH.nil)
      refine step_stRD rfl rfl 32 (.tmp 11) (.tmp 47) rfl qF _ _ rfl rfl (D.bx _ (List.mem_cons_self ..)).1 si_Frame rfl (by first | rfl | (simp [Value.oneCell']; done)) ?_
      intro w5 Bz g5
      replace D := D.row (b1 := []) rfl Bz g5
      clear Bz g5
      refine hK.out _ _ ?_ (fun hHeld2 => ?_)
      · (try dsimp only)
        first | exact ⟨DS.cell0 D 1, DS.cell0 D 0⟩ | exact ⟨DS.cell1 D 1, DS.cell1 D 0⟩
      clear hK K hHeld
      have hHeld := hHeld2
      clear hHeld2
      (try simp only [Act.put]); (try simp only [List.setIfInBounds_toArray]); (try simp only [List.set_cons_succ]); (try simp only [List.set_cons_zero])
      refine wpAnyH_takeD (i := 16) (some 12) (v := ?_) rfl rfl (by kernel_rfl) (by kernel_rfl) (by kernel_rfl) (fun _ _ _ h => h) (Or.inl ⟨by rfl, ?_⟩) (by assumption) ?_
      rotate_left
      (focus (intro w hSw; (try dsimp only at hSw); (first | (go_simp; done) | (go_simp; with_reducible rfl) | with_reducible rfl)))
      (try simp only [Act.put]); (try simp only [List.setIfInBounds_toArray]); (try simp only [List.set_cons_succ]); (try simp only [List.set_cons_zero])
      refine wpAnyH_done (by kernel_rfl) ?_ _
      (try dsimp only)
      (try go_wp2_with fail)
      (try clear kc kf); (try simp only [List.setIfInBounds_toArray, List.set_cons_succ, List.set_cons_zero] at D); (try (have kc := fun o => DS.cell0 D o; have kf := fun o => DS.frz0 D o))
      refine d_l1Once D ?_
      clear D
      intro w1 o D
      (try clear kc kf); (try simp only [List.setIfInBounds_toArray, List.set_cons_succ, List.set_cons_zero] at D); (try (have kc := fun o => DS.cell0 D o; have kf := fun o => DS.frz0 D o))
      cases o
      all_goals
        go_wp2_with (first
          | (go_at_call 22; (first | (with_reducible refine d_l1Int D ?_ ?_ ?_ ?_ ?_ ?_) | (with_reducible refine d_l1Int (D.set0 _ _) ?_ ?_ ?_ ?_ ?_ ?_) | (with_reducible refine d_l1Int (D.box _ _) ?_ ?_ ?_ ?_ ?_ ?_) | (with_reducible refine d_l1Int ((D.set0 _ _).set0 _ _) ?_ ?_ ?_ ?_ ?_ ?_) | (with_reducible refine d_l1Int ((D.box _ _).set0 _ _) ?_ ?_ ?_ ?_ ?_ ?_)); (focus (first | rfl | (simp; done))); (focus (exact rfl)); (focus rfl); (focus decide); (focus decide); clear D; intro w1 x hi D; (try clear kc kf); (try simp only [List.setIfInBounds_toArray, List.set_cons_succ, List.set_cons_zero] at D); (try (have kc := fun o => DS.cell0 D o; have kf := fun o => DS.frz0 D o)))
          | (go_at_call 24; (with_reducible refine d_l1Once D ?_); clear D; intro w1 o D; (try clear kc kf); (try simp only [List.setIfInBounds_toArray, List.set_cons_succ, List.set_cons_zero] at D); (try (have kc := fun o => DS.cell0 D o; have kf := fun o => DS.frz0 D o)); cases o)
          | (go_at_call 43; (with_reducible refine d_PFr D (spec_l9Bent _ cb kind id tick epoch seq a1 a2 a3 a4 a5 a6 n1 c1 n2 c2 n3 c3 n4 c4 n5 c5 n6 c6 l1 l2 l3 l4 l5 l6 _ D.cur D.tl.tl.tl.tl.tl.r0 D.tl.tl.tl.tl.r0 D.tl.tl.tl.r0 D.tl.tl.r0 D.tl.r0 D.r0 hb.out) ?_); clear D hb; intro w1 kind id a1 n1 c1 l1 a2 n2 c2 l2 tick a3 n3 c3 l3 a4 n4 c4 l4 epoch seq a5 n5 c5 l5 a6 n6 c6 l6 D; (try clear kc kf); (try simp only [List.setIfInBounds_toArray, List.set_cons_succ, List.set_cons_zero] at D); (try (have kc := fun o => DS.cell0 D o; have kf := fun o => DS.frz0 D o)))
          | ((with_reducible refine wpList_stD0 D ?_ (.tmp 11) (.tmp 58) ?_ ?_ ?_ ?_ ?_ ?_ ?_ ?_); (focus rfl); (focus rfl); rotate_left; (focus rfl); (focus rfl); (focus (exact si_Frame)); (focus rfl); (focus (first | rfl | (simp [Value.oneCell']; done))); clear D; intro w1 D; (try simp only [Act.put]); (try simp only [List.setIfInBounds_toArray]); (try simp only [List.set_cons_succ]); (try simp only [List.set_cons_zero]); (try clear kc kf); have kr := fun o => DS.cell0 D o))
      all_goals
        replace D := D.drew
        (try clear kc kf)
        (try clear kr)
        refine wp_region_held_drew (S := (fun w' => (w'.cell? ⟨qF, 0, none⟩ = some (.int .i64 kind) ∧ w'.cell? ⟨qF, 1, none⟩ = some (.int .i64 id) ∧ w'.cell? ⟨qF, 2, none⟩ = some (.slice a1 n1 c1) ∧ w'.cell? ⟨qF, 3, none⟩ = some (.slice a2 n2 c2) ∧ w'.cell? ⟨qF, 4, none⟩ = some (.int .i64 tick) ∧ w'.cell? ⟨qF, 5, none⟩ = some (.slice a3 n3 c3) ∧ w'.cell? ⟨qF, 6, none⟩ = some (.slice a4 n4 c4) ∧ w'.cell? ⟨qF, 7, none⟩ = some (.int .i64 epoch) ∧ w'.cell? ⟨qF, 8, none⟩ = some (.int .i64 seq) ∧ w'.cell? ⟨qF, 9, none⟩ = some (.slice a5 n5 c5) ∧ w'.cell? ⟨qF, 10, none⟩ = some (.slice a6 n6 c6)) ∧ w'.cell? ⟨wE.heap.size, 0, none⟩ = some (.int .i64 en) ∧ w'.cell? ⟨wE.heap.size, 1, none⟩ = some (.slice k1 m1 d1) ∧ w'.cell? ⟨wE.heap.size, 2, none⟩ = some (.int .i64 es) ∧ w'.cell? ⟨wE.heap.size, 3, none⟩ = some (.int .i64 et) ∧ w'.cell? ⟨wE.heap.size, 4, none⟩ = some (.slice k7 m7 d7))) (by kernel_rfl) ?_ (fun hHeld => ?_)
        · (try dsimp only)
          exact ⟨⟨DS.cell0 D 0, DS.cell0 D 1, DS.cell0 D 2, DS.cell0 D 3, DS.cell0 D 4, DS.cell0 D 5, DS.cell0 D 6, DS.cell0 D 7, DS.cell0 D 8, DS.cell0 D 9, DS.cell0 D 10⟩, DS.cell1 D 0, DS.cell1 D 1, DS.cell1 D 2, DS.cell1 D 3, DS.cell1 D 4⟩
        refine wpAnyH_takeD (i := 0) (some 59) (v := ?_) rfl rfl (by kernel_rfl) (by kernel_rfl) (by kernel_rfl) (fun _ _ _ h => h) (Or.inl ⟨by rfl, ?_⟩) (by assumption) ?_
        rotate_left
        (focus (intro w hSw; (try dsimp only at hSw); (first | (go_simp; done) | (go_simp; with_reducible rfl) | with_reducible rfl)))
        (try simp only [Act.put]); (try simp only [List.setIfInBounds_toArray]); (try simp only [List.set_cons_succ]); (try simp only [List.set_cons_zero])
        refine wpAnyH_takeD (i := 1) (some 60) (v := ?_) rfl rfl (by kernel_rfl) (by kernel_rfl) (by kernel_rfl) (fun _ _ _ h => h) (Or.inl ⟨by rfl, ?_⟩) (by assumption) ?_
        rotate_left
        (focus (intro w hSw; (try dsimp only at hSw); (first | (go_simp; done) | (go_simp; with_reducible rfl) | with_reducible rfl)))
        (try simp only [Act.put]); (try simp only [List.setIfInBounds_toArray]); (try simp only [List.set_cons_succ]); (try simp only [List.set_cons_zero])
        refine wpAnyH_takeD (i := 2) (some 61) (v := ?_) rfl rfl (by kernel_rfl) (by kernel_rfl) (by kernel_rfl) (fun _ _ _ h => h) (Or.inl ⟨by rfl, ?_⟩) (by assumption) ?_
        rotate_left
        (focus (intro w hSw; (try dsimp only at hSw); (first | (go_simp; done) | (go_simp; with_reducible rfl) | with_reducible rfl)))
        (try simp only [Act.put]); (try simp only [List.setIfInBounds_toArray]); (try simp only [List.set_cons_succ]); (try simp only [List.set_cons_zero])
        refine wpAnyH_ready (rs := [3]) (by kernel_rfl) (by simp) (AllReadyH.cons rfl (fun K hK => ?_) AllReadyH.nil)
        refine step_stRD rfl rfl 28 (.tmp 2) (.tmp 59) rfl w.heap.size _ _ rfl rfl (mem3 D) si_Ep rfl (by first | rfl | (simp [Value.oneCell']; done)) ?_
        intro w8 Bz g8
        replace D := D.row (b1 := [_, _, _]) rfl Bz g8
        clear Bz g8
        refine hK.out _ _ ?_ (fun hHeld2 => ?_)
        · (try dsimp only)
          exact ⟨⟨DS.cell0 D 0, DS.cell0 D 1, DS.cell0 D 2, DS.cell0 D 3, DS.cell0 D 4, DS.cell0 D 5, DS.cell0 D 6, DS.cell0 D 7, DS.cell0 D 8, DS.cell0 D 9, DS.cell0 D 10⟩, DS.cell1 D 0, DS.cell1 D 1, DS.cell1 D 2, DS.cell1 D 3, DS.cell1 D 4⟩
        clear hK K hHeld
        have hHeld := hHeld2
        clear hHeld2
        (try simp only [Act.put]); (try simp only [List.setIfInBounds_toArray]); (try simp only [List.set_cons_succ]); (try simp only [List.set_cons_zero])
        refine wpAnyH_takeD (i := 4) (some 3) (v := ?_) rfl rfl (by kernel_rfl) (by kernel_rfl) (by kernel_rfl) (fun _ _ _ h => h) (Or.inl ⟨by rfl, ?_⟩) (by assumption) ?_
        rotate_left
        (focus (intro w hSw; (try dsimp only at hSw); (first | (go_simp; done) | (go_simp; with_reducible rfl) | with_reducible rfl)))
        (try simp only [Act.put]); (try simp only [List.setIfInBounds_toArray]); (try simp only [List.set_cons_succ]); (try simp only [List.set_cons_zero])
        refine wpAnyH_ready (rs := [5]) (by kernel_rfl) (by simp) (AllReadyH.cons rfl (fun K hK => ?_) AllReadyH.nil)
        refine step_stRD rfl rfl 32 (.tmp 4) (.tmp 61) rfl (w.heap.size + 1) _ _ rfl rfl (mem2 D) si_Frame rfl (by first | rfl | (simp [Value.oneCell']; done)) ?_
        intro w9 Bz g9
        replace D := D.row (b1 := [_, _]) rfl Bz g9
        clear Bz g9
        refine hK.out _ _ ?_ (fun hHeld2 => ?_)
        · (try dsimp only)
          exact ⟨⟨DS.cell0 D 0, DS.cell0 D 1, DS.cell0 D 2, DS.cell0 D 3, DS.cell0 D 4, DS.cell0 D 5, DS.cell0 D 6, DS.cell0 D 7, DS.cell0 D 8, DS.cell0 D 9, DS.cell0 D 10⟩, DS.cell1 D 0, DS.cell1 D 1, DS.cell1 D 2, DS.cell1 D 3, DS.cell1 D 4⟩
        clear hK K hHeld
        have hHeld := hHeld2
        clear hHeld2
        (try simp only [Act.put]); (try simp only [List.setIfInBounds_toArray]); (try simp only [List.set_cons_succ]); (try simp only [List.set_cons_zero])
        refine wpAnyH_done (by kernel_rfl) ?_ _
        (try dsimp only)
        have h3 := fun o => (mem3 D).cell o
        have h2 := fun o => (mem2 D).cell o
        (try go_wp2)
        refine' bodyPost_ret ?_ rfl ?_
        rotate_left
        (focus (simp [results, Tryz.results17, go_sem, h3, h2]; rfl))
        exact PEO.mk (D.gb hcb) (bm D (l := lk1) (by (repeat (first | with_reducible exact List.mem_cons_self .. | with_reducible refine List.mem_cons_of_mem _ ?_)))) (im D (l := lk7) (by (repeat (first | with_reducible exact List.mem_cons_self .. | with_reducible refine List.mem_cons_of_mem _ ?_)))) (bm D (l := l1) (by (repeat (first | with_reducible exact List.mem_cons_self .. | with_reducible refine List.mem_cons_of_mem _ ?_)))) (bm D (l := l2) (by (repeat (first | with_reducible exact List.mem_cons_self .. | with_reducible refine List.mem_cons_of_mem _ ?_)))) (bm D (l := l3) (by (repeat (first | with_reducible exact List.mem_cons_self .. | with_reducible refine List.mem_cons_of_mem _ ?_)))) (bm D (l := l4) (by (repeat (first | with_reducible exact List.mem_cons_self .. | with_reducible refine List.mem_cons_of_mem _ ?_)))) (bm D (l := l5) (by (repeat (first | with_reducible exact List.mem_cons_self .. | with_reducible refine List.mem_cons_of_mem _ ?_)))) (bm D (l := l6) (by (repeat (first | with_reducible exact List.mem_cons_self .. | with_reducible refine List.mem_cons_of_mem _ ?_))))
end Go.Proofs.YtpfchphgbhgmmaaGreat.be

