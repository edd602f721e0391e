/-
  Contracts of the two functions that add a number to a window. Conditions: none beside those that each theorem names.
-/
import Derived.Test.YtpfchphgbhgmmaaGreatWin
import Derived.Test.YtpfchphgbhgmmaaGreatWinC
import Derived.Deep.RegionHeld3
import Derived.RegionTactic
import Derived.ChangeAlike
namespace Go.Proofs.YtpfchphgbhgmmaaGreat
open Go.RowKit
def clearBit (l : List Int) (k : Nat) : List Int := l.set (k % 1024 / 32) (bits .andNot .i64 (l.getD (k % 1024 / 32) 0) (wrap64 (2 ^ (k % 32))))
def setBit (l : List Int) (k : Nat) : List Int := l.set (k % 1024 / 32) (bits .or .i64 (l.getD (k % 1024 / 32) 0) (wrap64 (2 ^ (k % 32))))
def clr (l : List Int) (a : Nat) : Nat → List Int
  | 0 => l
  | c + 1 => clearBit (clr l a c) (a + c)
theorem clr_len (l : List Int) (a : Nat) : ∀ c, (clr l a c).length = l.length
  | 0 => rfl
  | c + 1 => by rw [clr, clearBit, List.length_set, clr_len l a c]
theorem clr_step {l : List Int} {lo k : Nat} {x : Int} (hk : lo ≤ k) (hx : (clr l lo (k - lo))[k % 1024 / 32]? = some x) :
    clr l lo (k + 1 - lo) = (clr l lo (k - lo)).set (k % 1024 / 32) (bits .andNot .i64 x (wrap64 (2 ^ (k % 32)))) := by
  rw [show k + 1 - lo = (k - lo) + 1 by omega, clr, clearBit, show lo + (k - lo) = k by omega, List.getD_eq_getElem?_getD, hx]
  rfl
theorem setBit_of {l : List Int} {k : Nat} {x : Int} (hx : l[k % 1024 / 32]? = some x) : setBit l k = l.set (k % 1024 / 32) (bits .or .i64 x (wrap64 (2 ^ (k % 32)))) := by
  rw [setBit, List.getD_eq_getElem?_getD, hx]
  rfl
theorem ins_some {l : List Int} {j : Nat} {u : Value} (h : (ins l)[j]? = some u) : ∃ x, u = .int .i64 x ∧ l[j]? = some x := by
  simp only [ins, List.getElem?_map, Option.map_eq_some_iff] at h
  obtain ⟨x, h1, h2⟩ := h
  exact ⟨x, h2.symm, h1⟩
def addLo (f : WinM) (n : Int) : Nat := (max (f.top + 1) (n - 1024 + 1)).toNat
def winAddM (f : WinM) (n : Int) : WinM := if winMay f n then ⟨max f.top n, setBit (clr f.bits (addLo f n) (n.toNat - addLo f n)) n.toNat⟩ else f
set_option maxRecDepth 100000 in
set_option maxHeartbeats 2000000 in
theorem impl_WinAdd (v : Value) (f : WinM) (n : Int) (w : World) (h : WinR w v f) (hn : f.bits.length ≤ 1073741824) :
    Calls Tryz.prog 38 #[v, .int .i64 n] w fun e w' => ∃ v', e = .returned (.tuple #[v', .bool (winMay f n)]) ∧ WinO w.heap.size w'.heap.size w' v' (winAddM f n) ∧ w.grownBy w' none := by
  obtain ⟨a1, n1, c1, rfl, h1⟩ := h
  have B0 := bx2 w #[.int .i64 f.top, .slice a1 n1 c1] #[.int .i64 0, .slice none 0 0] 26 26
  have g0 := gb_alloc (gb_alloc (gb_refl w) (.cells #[.int .i64 f.top, .slice a1 n1 c1] 26)) (.cells #[.int .i64 0, .slice none 0 0] 26)
  obtain ⟨B1, B2⟩ := B0
  go_enter Tryz.func38, Tryz.ntmps38
  go_wp2_with fail
  refine (impl_copyWin _ f _ ⟨_, _, _, rfl, h1.keep0 g0⟩ hn).mono ?_
  rintro e w1 ⟨v2, rfl, ho, g1⟩
  obtain ⟨a2, n2, c2, rfl, ho, hu⟩ := ho
  replace B1 := B1.keep0 g1
  replace B2 := B2.keep0 g1
  have lB1 := B1.lt
  have lB2 := B2.lt
  have c1a := fun o => B1.cell o
  have c2a := fun o => B2.cell o
  go_wp2_with fail
  refine (impl_WinMay _ f n _ ⟨_, _, _, rfl, (h1.keep0 (gb_trans g0 g1)).keep0 (gb_alloc (gb_refl _) _)⟩ hn).mono ?_
  rintro e w2 ⟨rfl, g2⟩
  have B3 := (bx1 w1 _ _).keep0 g2
  replace B1 := (B1.old _).keep0 g2
  replace B2 := (B2.old _).keep0 g2
  replace ho := (ho.keep0 (gb_alloc (gb_refl _) _)).keep0 g2
  have G2 : w.grownBy w2 none := gb_trans (gb_alloc (gb_trans g0 g1) _) g2
  clear c1a c2a lB1 lB2
  have lB1 := B1.lt
  have lB2 := B2.lt
  have lB3 := B3.lt
  have c1a := fun o => B1.cell o
  have c2a := fun o => B2.cell o
  have c3a := fun o => B3.cell o
  have f2a := fun o => B2.frozen o
  by_cases hm : winMay f n = true
  · have hm2 := hm
    simp only [winMay, Bool.and_eq_true] at hm2
    obtain ⟨hb1, hb2, hb3⟩ := winOk_bd hm2.1.1
    have hi := inB_iff.1 hm2.1.2
    have hi1 := hi.1
    have hi2 := hi.2
    clear hi hm2
    obtain ⟨k0, rfl⟩ := Int.eq_ofNat_of_zero_le hi1
    obtain ⟨lo, hlo, hlo2⟩ : ∃ lo : Nat, Hid (addLo f k0 = lo) ∧ Hid (max (f.top + 1) ((k0 : Int) - 1024 + 1) = (lo : Int)) := ⟨_, rfl, by simp only [Hid, addLo]; omega⟩
    by_cases hd : f.top + 1 < (k0 : Int) - 1024 + 1
    · go_wp2
      go_loopw [7] (fun i wr => ∃ k : Nat, i = .int .i64 k ∧ lo ≤ k ∧ (k : Int) ≤ 281474976710656 ∧ Hid (k ≤ k0 ∨ k = lo) ∧ w.grownBy wr none ∧ Bx wr w.heap.size 26 #[.int .i64 f.top, .slice a1 n1 c1] ∧ Bx wr (w.heap.size + 1) 26 #[.int .i64 0, .slice none 0 0] ∧ Bx wr w1.heap.size 26 #[.int .i64 f.top, .slice a2 n2 c2] ∧ Ow (w.heap.size + 2) wr 3 a2 n2 c2 (ins (clr f.bits lo (k - lo)))) (fun i _ => k0 - (intOf i).toNat)
      case atStart => exact ⟨lo, by congr 1; have := hlo2.out; omega, Nat.le_refl _, by have := hlo2.out; omega, .inr rfl, G2, B1, B2, B3, by rw [Nat.sub_self]; exact ho.mono (by simp)⟩
      case round =>
        obtain ⟨k, rfl, hk1, hk2, hk3, hg, hx1, hx2, hx3, hown⟩ := hrel
        clear c1a c2a c3a f2a lB1 lB2 lB3 B1 B2 B3
        by_cases hlt : k < k0
        · have hn2 : n2 = 32 := by have := hown.ilen; rw [clr_len] at this; have := (areW_of hb3).1; omega
          obtain ⟨g, rfl⟩ := hown.head (by omega)
          have hi : k % 1024 / 32 < n2 := by omega
          obtain ⟨hfz, u, hcl, hu2⟩ := hown.at (k % 1024 / 32) hi
          obtain ⟨x, rfl, hx9⟩ := ins_some hu2
          have Hx9 := Lib.hid hx9
          have Hn2 := Lib.hid hn2
          clear hx9 hn2
          have hx3b := hx3.cell 1
          have hx3c : wr.cell? ⟨w1.heap.size, 1, none⟩ = some (.slice (some ⟨g, 0, none⟩) n2 c2) := hx3b
          clear hx3b
          have Hu2 := Lib.hid hu2
          clear hu2
          go_wp2
          have hg1 := (hown.lt _ rfl).1
          have hg2 := hu _ rfl
          have hu9 := Lib.hid hu
          clear hu
          go_region
          go_wp2
          refine ⟨⟨k + 1, by go_num, by omega, by omega, .inl (by omega), gb_drew (gb_set hg (p := ⟨g, k % 1024 / 32, none⟩) (.inl (by simp at hg1; simp; omega)) _), (hx1.setO _ _ (by simp at hg1; simp; omega)).drew, (hx2.setO _ _ (by simp at hg1; simp; omega)).drew, (hx3.setO _ _ (by simp at hg2; simp; omega)).drew, ?_⟩, by simp [intOf]; omega⟩
          have := hown.set (k % 1024 / 32) (.int .i64 (bits .andNot .i64 x (wrap64 (2 ^ (k % 32)))))
          rw [ins_set, ← clr_step hk1 Hx9.out] at this
          exact this.drew
        · obtain ⟨L, hL, hLk⟩ : ∃ L, Hid (clr f.bits lo (k0 - lo) = L) ∧ ins (clr f.bits lo (k - lo)) = ins L := ⟨_, rfl, by rw [show k - lo = k0 - lo by have := hk3.out; omega]⟩
          rw [hLk] at hown
          clear hLk
          have hn2 : n2 = 32 := by have := hown.ilen; rw [← hL.out, clr_len] at this; have := (areW_of hb3).1; omega
          obtain ⟨g, rfl⟩ := hown.head (by omega)
          have hi : k0 % 1024 / 32 < n2 := by omega
          obtain ⟨hfz, u, hcl, hu2⟩ := hown.at (k0 % 1024 / 32) hi
          obtain ⟨x, rfl, hx9⟩ := ins_some hu2
          have Hx9 := Lib.hid hx9
          have Hn2 := Lib.hid hn2
          clear hx9 hn2
          have hx1a : wr.cell? ⟨w.heap.size, 0, none⟩ = some (.int .i64 f.top) := hx1.cell 0
          have hx3a : wr.cell? ⟨w1.heap.size, 0, none⟩ = some (.int .i64 f.top) := hx3.cell 0
          have hx3c : wr.cell? ⟨w1.heap.size, 1, none⟩ = some (.slice (some ⟨g, 0, none⟩) n2 c2) := hx3.cell 1
          have hx2a : wr.cell? ⟨w.heap.size + 1, 0, none⟩ = some (.int .i64 0) := hx2.cell 0
          have hx2b : wr.cell? ⟨w.heap.size + 1, 1, none⟩ = some (.slice none 0 0) := hx2.cell 1
          have hf2a := hx2.frozen 0
          have hf2b := hx2.frozen 1
          have hf3a := hx3.frozen 0
          have Hu2 := Lib.hid hu2
          clear hu2
          have hg1 : w.heap.size + 2 ≤ g := (hown.lt _ rfl).1
          have hg2 : g < w1.heap.size := hu _ rfl
          have hz1 := hx2.lt
          have ne1 : w.heap.size ≠ g := by omega
          have ne2 : w.heap.size + 1 ≠ g := by omega
          have ne3 : w1.heap.size ≠ g := by omega
          have ne1' : g ≠ w.heap.size := by omega
          have ne2' : g ≠ w.heap.size + 1 := by omega
          have ne3' : g ≠ w1.heap.size := by omega
          have hu9 := Lib.hid hu
          clear hu
          by_cases hd2 : f.top < (k0 : Int)
          · go_wp2
            go_region
            go_wp2
            refine bodyPost_ret (v := .tuple #[.agg #[.int .i64 k0, .slice (some ⟨g, 0, none⟩) n2 c2], .bool true]) (by simp [results, Tryz.results38, go_sem, hx2a, hx2b]) rfl ⟨_, by rw [hm], ?_, ?_⟩
            · have e1 : winAddM f k0 = ⟨(k0 : Int), setBit L k0⟩ := by
                simp only [winAddM, hm, if_true, Int.toNat_natCast, hlo.out, hL.out]
                congr 1
                omega
              rw [e1]
              refine ⟨_, _, _, rfl, ?_, ?_⟩
              · have o9 := hown.set (k0 % 1024 / 32) (.int .i64 (bits .or .i64 x (wrap64 (2 ^ (k0 % 32)))))
                rw [ins_set, ← setBit_of Hx9.out] at o9
                refine (Ow.mono (B := w.heap.size + 2) ?_ (by omega)).drew
                exact ((o9.setO _ _ (by simp; omega)).setO _ _ (by simp; omega)).setO _ _ (by simp; omega)
              · intro p hp
                have := hown.lt p hp
                simpa using this.2
            · exact gb_drew (gb_set (gb_set (gb_set (gb_set hg (p := ⟨g, k0 % 1024 / 32, none⟩) (.inl (by simp; omega)) _) (p := ⟨w1.heap.size, 0, none⟩) (.inl (by simp; omega)) _) (p := ⟨w.heap.size + 1, 0, none⟩) (.inl (by simp)) _) (p := ⟨w.heap.size + 1, 1, none⟩) (.inl (by simp)) _)
          · exfalso
            omega
    · go_wp2
      go_loopw [7] (fun i wr => ∃ k : Nat, i = .int .i64 k ∧ lo ≤ k ∧ (k : Int) ≤ 281474976710656 ∧ Hid (k ≤ k0 ∨ k = lo) ∧ w.grownBy wr none ∧ Bx wr w.heap.size 26 #[.int .i64 f.top, .slice a1 n1 c1] ∧ Bx wr (w.heap.size + 1) 26 #[.int .i64 0, .slice none 0 0] ∧ Bx wr w1.heap.size 26 #[.int .i64 f.top, .slice a2 n2 c2] ∧ Ow (w.heap.size + 2) wr 3 a2 n2 c2 (ins (clr f.bits lo (k - lo)))) (fun i _ => k0 - (intOf i).toNat)
      case atStart => exact ⟨lo, by congr 1; have := hlo2.out; omega, Nat.le_refl _, by have := hlo2.out; omega, .inr rfl, G2, B1, B2, B3, by rw [Nat.sub_self]; exact ho.mono (by simp)⟩
      case round =>
        obtain ⟨k, rfl, hk1, hk2, hk3, hg, hx1, hx2, hx3, hown⟩ := hrel
        clear c1a c2a c3a f2a lB1 lB2 lB3 B1 B2 B3
        by_cases hlt : k < k0
        · have hn2 : n2 = 32 := by have := hown.ilen; rw [clr_len] at this; have := (areW_of hb3).1; omega
          obtain ⟨g, rfl⟩ := hown.head (by omega)
          have hi : k % 1024 / 32 < n2 := by omega
          obtain ⟨hfz, u, hcl, hu2⟩ := hown.at (k % 1024 / 32) hi
          obtain ⟨x, rfl, hx9⟩ := ins_some hu2
          have Hx9 := Lib.hid hx9
          have Hn2 := Lib.hid hn2
          clear hx9 hn2
          have hx3b := hx3.cell 1
          have hx3c : wr.cell? ⟨w1.heap.size, 1, none⟩ = some (.slice (some ⟨g, 0, none⟩) n2 c2) := hx3b
          clear hx3b
          have Hu2 := Lib.hid hu2
          clear hu2
          go_wp2
          have hg1 := (hown.lt _ rfl).1
          have hg2 := hu _ rfl
          have hu9 := Lib.hid hu
          clear hu
          go_region
          go_wp2
          refine ⟨⟨k + 1, by go_num, by omega, by omega, .inl (by omega), gb_drew (gb_set hg (p := ⟨g, k % 1024 / 32, none⟩) (.inl (by simp at hg1; simp; omega)) _), (hx1.setO _ _ (by simp at hg1; simp; omega)).drew, (hx2.setO _ _ (by simp at hg1; simp; omega)).drew, (hx3.setO _ _ (by simp at hg2; simp; omega)).drew, ?_⟩, by simp [intOf]; omega⟩
          have := hown.set (k % 1024 / 32) (.int .i64 (bits .andNot .i64 x (wrap64 (2 ^ (k % 32)))))
          rw [ins_set, ← clr_step hk1 Hx9.out] at this
          exact this.drew
        · obtain ⟨L, hL, hLk⟩ : ∃ L, Hid (clr f.bits lo (k0 - lo) = L) ∧ ins (clr f.bits lo (k - lo)) = ins L := ⟨_, rfl, by rw [show k - lo = k0 - lo by have := hk3.out; omega]⟩
          rw [hLk] at hown
          clear hLk
          have hn2 : n2 = 32 := by have := hown.ilen; rw [← hL.out, clr_len] at this; have := (areW_of hb3).1; omega
          obtain ⟨g, rfl⟩ := hown.head (by omega)
          have hi : k0 % 1024 / 32 < n2 := by omega
          obtain ⟨hfz, u, hcl, hu2⟩ := hown.at (k0 % 1024 / 32) hi
          obtain ⟨x, rfl, hx9⟩ := ins_some hu2
          have Hx9 := Lib.hid hx9
          have Hn2 := Lib.hid hn2
          clear hx9 hn2
          have hx1a : wr.cell? ⟨w.heap.size, 0, none⟩ = some (.int .i64 f.top) := hx1.cell 0
          have hx3a : wr.cell? ⟨w1.heap.size, 0, none⟩ = some (.int .i64 f.top) := hx3.cell 0
          have hx3c : wr.cell? ⟨w1.heap.size, 1, none⟩ = some (.slice (some ⟨g, 0, none⟩) n2 c2) := hx3.cell 1
          have hx2a : wr.cell? ⟨w.heap.size + 1, 0, none⟩ = some (.int .i64 0) := hx2.cell 0
          have hx2b : wr.cell? ⟨w.heap.size + 1, 1, none⟩ = some (.slice none 0 0) := hx2.cell 1
          have hf2a := hx2.frozen 0
          have hf2b := hx2.frozen 1
          have hf3a := hx3.frozen 0
          have Hu2 := Lib.hid hu2
          clear hu2
          have hg1 : w.heap.size + 2 ≤ g := (hown.lt _ rfl).1
          have hg2 : g < w1.heap.size := hu _ rfl
          have hz1 := hx2.lt
          have ne1 : w.heap.size ≠ g := by omega
          have ne2 : w.heap.size + 1 ≠ g := by omega
          have ne3 : w1.heap.size ≠ g := by omega
          have ne1' : g ≠ w.heap.size := by omega
          have ne2' : g ≠ w.heap.size + 1 := by omega
          have ne3' : g ≠ w1.heap.size := by omega
          have hu9 := Lib.hid hu
          clear hu
          by_cases hd2 : f.top < (k0 : Int)
          · go_wp2
            go_region
            go_wp2
            refine bodyPost_ret (v := .tuple #[.agg #[.int .i64 k0, .slice (some ⟨g, 0, none⟩) n2 c2], .bool true]) (by simp [results, Tryz.results38, go_sem, hx2a, hx2b]) rfl ⟨_, by rw [hm], ?_, ?_⟩
            · have e1 : winAddM f k0 = ⟨(k0 : Int), setBit L k0⟩ := by
                simp only [winAddM, hm, if_true, Int.toNat_natCast, hlo.out, hL.out]
                congr 1
                omega
              rw [e1]
              refine ⟨_, _, _, rfl, ?_, ?_⟩
              · have o9 := hown.set (k0 % 1024 / 32) (.int .i64 (bits .or .i64 x (wrap64 (2 ^ (k0 % 32)))))
                rw [ins_set, ← setBit_of Hx9.out] at o9
                refine (Ow.mono (B := w.heap.size + 2) ?_ (by omega)).drew
                exact ((o9.setO _ _ (by simp; omega)).setO _ _ (by simp; omega)).setO _ _ (by simp; omega)
              · intro p hp
                have := hown.lt p hp
                simpa using this.2
            · exact gb_drew (gb_set (gb_set (gb_set (gb_set hg (p := ⟨g, k0 % 1024 / 32, none⟩) (.inl (by simp; omega)) _) (p := ⟨w1.heap.size, 0, none⟩) (.inl (by simp; omega)) _) (p := ⟨w.heap.size + 1, 0, none⟩) (.inl (by simp)) _) (p := ⟨w.heap.size + 1, 1, none⟩) (.inl (by simp)) _)
          · go_wp2
            go_region
            go_wp2
            refine bodyPost_ret (v := .tuple #[.agg #[.int .i64 f.top, .slice (some ⟨g, 0, none⟩) n2 c2], .bool true]) (by simp [results, Tryz.results38, go_sem, hx2a, hx2b]) rfl ⟨_, by rw [hm], ?_, ?_⟩
            · have e1 : winAddM f k0 = ⟨f.top, setBit L k0⟩ := by
                simp only [winAddM, hm, if_true, Int.toNat_natCast, hlo.out, hL.out]
                congr 1
                omega
              rw [e1]
              refine ⟨_, _, _, rfl, ?_, ?_⟩
              · have o9 := hown.set (k0 % 1024 / 32) (.int .i64 (bits .or .i64 x (wrap64 (2 ^ (k0 % 32)))))
                rw [ins_set, ← setBit_of Hx9.out] at o9
                refine (Ow.mono (B := w.heap.size + 2) ?_ (by omega)).drew
                exact ((o9.setO _ _ (by simp; omega)).setO _ _ (by simp; omega)).setO _ _ (by simp; omega)
              · intro p hp
                have := hown.lt p hp
                simpa using this.2
            · exact gb_drew (gb_set (gb_set (gb_set (gb_set hg (p := ⟨g, k0 % 1024 / 32, none⟩) (.inl (by simp; omega)) _) (p := ⟨w1.heap.size, 0, none⟩) (.inl (by simp; omega)) _) (p := ⟨w.heap.size + 1, 0, none⟩) (.inl (by simp)) _) (p := ⟨w.heap.size + 1, 1, none⟩) (.inl (by simp)) _)
  · have hf : winMay f n = false := by simpa using hm
    go_wp2
    refine bodyPost_ret (v := .tuple #[.agg #[.int .i64 f.top, .slice a2 n2 c2], .bool false]) (by simp [results, Tryz.results38, go_sem, c2a]) rfl ⟨_, by rw [hf], ?_, ?_⟩
    · rw [show winAddM f n = f by simp [winAddM, hf]]
      refine ⟨_, _, _, rfl, ?_, ?_⟩
      · exact ((ho.keepSet (by simp) _).keepSet (by simp) _).mono (by simp <;> omega)
      · intro p hp
        have := ho.lt p hp
        simpa using this.2
    · exact gb_set (gb_set G2 (p := ⟨w.heap.size + 1, 0, none⟩) (.inl (by simp)) _) (p := ⟨w.heap.size + 1, 1, none⟩) (.inl (by simp)) _
end Go.Proofs.YtpfchphgbhgmmaaGreat
