/-
  Contract of the reference's function that adds a number to a window. Conditions: none beside those that each theorem names.
-/
import Derived.Test.YtpfchphgbhgmmaaWinA
import Derived.Deep.RegionHeld3
import Derived.RegionTactic
import Derived.ChangeAlike
namespace Go.Proofs.Ytpfchphgbhgmmaa
open Go.RowKit
theorem clr_step2 {l : List Int} {lo c : Nat} {x : Int} (hx : (clr l lo c)[(lo + c) % 1024 / 32]? = some x) :
    clr l lo (c + 1) = (clr l lo c).set ((lo + c) % 1024 / 32) (bits .andNot .i64 x (wrap64 (2 ^ ((lo + c) % 32)))) := by
  rw [clr, clearBit, List.getD_eq_getElem?_getD, hx]
  rfl
def winAddS (f : WinM) (n : Int) : WinM := if winMay f n then ⟨max f.top n, setBit (clr f.bits (f.top + 1).toNat (min (n.toNat + 1 - (f.top + 1).toNat) 1024)) n.toNat⟩ else f
set_option maxRecDepth 100000 in
set_option maxHeartbeats 2000000 in
theorem spec_WinAdd (v : Value) (f : WinM) (n : Int) (w : World) (h : WinR w v f) (hn : f.bits.length ≤ 1073741824) :
    Calls Try.prog 94 #[v, .int .i64 n] w fun e w' => ∃ v', e = .returned (.tuple #[v', .bool (winMay f n)]) ∧ WinO w.heap.size w'.heap.size w' v' (winAddS f n) ∧ w.grownBy w' none := by
  obtain ⟨a1, n1, c1, rfl, h1⟩ := h
  have B0 := bx2 w #[.int .i64 f.top, .slice a1 n1 c1] #[.int .i64 0, .slice none 0 0] 39 39
  have g0 := gb_alloc (gb_alloc (gb_refl w) (.cells #[.int .i64 f.top, .slice a1 n1 c1] 39)) (.cells #[.int .i64 0, .slice none 0 0] 39)
  obtain ⟨B1, B2⟩ := B0
  go_enter Try.func94, Try.ntmps94
  go_wp2_with fail
  refine (spec_l8Copy _ f _ ⟨_, _, _, rfl, h1.keep0 g0⟩ hn).mono ?_
  rintro e w1 ⟨v2, rfl, ho, g1⟩
  obtain ⟨a2, n2, c2, rfl, ho, hu⟩ := ho
  replace B1 := B1.keep0 g1
  replace B2 := B2.keep0 g1
  have lB1 := B1.lt
  have lB2 := B2.lt
  have c1a := fun o => B1.cell o
  have c2a := fun o => B2.cell o
  go_wp2_with fail
  refine (spec_WinMay _ f n _ ⟨_, _, _, rfl, (h1.keep0 (gb_trans g0 g1)).keep0 (gb_alloc (gb_refl _) _)⟩).mono ?_
  rintro e w2 ⟨rfl, g2⟩
  have B3 := (bx1 w1 _ _).keep0 g2
  replace B1 := (B1.old _).keep0 g2
  replace B2 := (B2.old _).keep0 g2
  replace ho := (ho.keep0 (gb_alloc (gb_refl _) _)).keep0 g2
  have G2 : w.grownBy w2 none := gb_trans (gb_alloc (gb_trans g0 g1) _) g2
  clear c1a c2a lB1 lB2
  have lB1 := B1.lt
  have lB2 := B2.lt
  have lB3 := B3.lt
  have c1a := fun o => B1.cell o
  have c2a := fun o => B2.cell o
  have c3a := fun o => B3.cell o
  have f2a := fun o => B2.frozen o
  by_cases hm : winMay f n = true
  · have hm2 := hm
    simp only [winMay, Bool.and_eq_true] at hm2
    obtain ⟨hb1, hb2, hb3⟩ := winOk_bd hm2.1.1
    have hi := inB_iff.1 hm2.1.2
    have hi1 := hi.1
    have hi2 := hi.2
    clear hi hm2
    obtain ⟨k0, rfl⟩ := Int.eq_ofNat_of_zero_le hi1
    obtain ⟨lo, hlo⟩ : ∃ lo : Nat, Hid ((f.top + 1).toNat = lo) := ⟨_, rfl⟩
    have hlo5 : (lo : Int) ≤ 281474976710656 := by have := hlo.out; omega
    go_wp2
    go_loopw [7, 8] (fun s7 s8 wr => ∃ c : Nat, s7 = .int .i64 c ∧ s8 = .int .i64 ((lo + c : Nat) : Int) ∧ c ≤ 1024 ∧ Hid (lo + c ≤ k0 + 1 ∨ c = 0) ∧ w.grownBy wr none ∧ Bx wr w.heap.size 39 #[.int .i64 f.top, .slice a1 n1 c1] ∧ Bx wr (w.heap.size + 1) 39 #[.int .i64 0, .slice none 0 0] ∧ Bx wr w1.heap.size 39 #[.int .i64 f.top, .slice a2 n2 c2] ∧ Ow (w.heap.size + 2) wr 3 a2 n2 c2 (ins (clr f.bits lo c))) (fun s7 _ _ => 1024 - (intOf s7).toNat)
    case atStart => exact ⟨0, rfl, by congr 1; have := hlo.out; omega, by omega, .inr rfl, G2, B1, B2, B3, ho.mono (by simp)⟩
    case round =>
      obtain ⟨c, rfl, rfl, hk2, hk3, hg, hx1, hx2, hx3, hown⟩ := hrel
      clear c1a c2a c3a f2a lB1 lB2 lB3 B1 B2 B3
      by_cases hA : lo + c ≤ k0
      · by_cases hB : c < 1024
        · have hn2 : n2 = 32 := by have := hown.ilen; rw [clr_len] at this; have := (areW_of hb3).1; omega
          obtain ⟨g, rfl⟩ := hown.head (by omega)
          have hi : (lo + c) % 1024 / 32 < n2 := by omega
          obtain ⟨hfz, u, hcl, hu2⟩ := hown.at ((lo + c) % 1024 / 32) hi
          obtain ⟨x, rfl, hx9⟩ := ins_some hu2
          have Hx9 := Lib.hid hx9
          have Hn2 := Lib.hid hn2
          clear hx9 hn2
          have hx3b := hx3.cell 1
          have hx3c : wr.cell? ⟨w1.heap.size, 1, none⟩ = some (.slice (some ⟨g, 0, none⟩) n2 c2) := hx3b
          clear hx3b
          have Hu2 := Lib.hid hu2
          clear hu2
          go_wp2
          have hg1 := (hown.lt _ rfl).1
          have hg2 := hu _ rfl
          have hu9 := Lib.hid hu
          clear hu
          go_region
          go_wp2
          refine ⟨⟨c + 1, by go_num, (by first | rfl | (congr 1; omega)), by omega, .inl (by omega), gb_drew (gb_set hg (p := ⟨g, (lo + c) % 1024 / 32, none⟩) (.inl (by simp at hg1; simp; omega)) _), (hx1.setO _ _ (by simp at hg1; simp; omega)).drew, (hx2.setO _ _ (by simp at hg1; simp; omega)).drew, (hx3.setO _ _ (by simp at hg2; simp; omega)).drew, ?_⟩, by simp [intOf]; omega⟩
          have := hown.set ((lo + c) % 1024 / 32) (.int .i64 (bits .andNot .i64 x (wrap64 (2 ^ ((lo + c) % 32)))))
          rw [ins_set, ← clr_step2 Hx9.out] at this
          exact this.drew
        · have hC : Hid (c = min (k0 + 1 - lo) 1024) := by simp only [Hid]; omega
          obtain ⟨L, hL⟩ : ∃ L, Hid (clr f.bits lo c = L) := ⟨_, rfl⟩
          rw [hL.out] at hown
          have hn2 : n2 = 32 := by have := hown.ilen; rw [← hL.out, clr_len] at this; have := (areW_of hb3).1; omega
          obtain ⟨g, rfl⟩ := hown.head (by omega)
          have hi : k0 % 1024 / 32 < n2 := by omega
          obtain ⟨hfz, u, hcl, hu2⟩ := hown.at (k0 % 1024 / 32) hi
          obtain ⟨x, rfl, hx9⟩ := ins_some hu2
          have Hx9 := Lib.hid hx9
          have Hn2 := Lib.hid hn2
          clear hx9 hn2
          have hx1a : wr.cell? ⟨w.heap.size, 0, none⟩ = some (.int .i64 f.top) := hx1.cell 0
          have hx3a : wr.cell? ⟨w1.heap.size, 0, none⟩ = some (.int .i64 f.top) := hx3.cell 0
          have hx3c : wr.cell? ⟨w1.heap.size, 1, none⟩ = some (.slice (some ⟨g, 0, none⟩) n2 c2) := hx3.cell 1
          have hx2a : wr.cell? ⟨w.heap.size + 1, 0, none⟩ = some (.int .i64 0) := hx2.cell 0
          have hx2b : wr.cell? ⟨w.heap.size + 1, 1, none⟩ = some (.slice none 0 0) := hx2.cell 1
          have hf2a := hx2.frozen 0
          have hf2b := hx2.frozen 1
          have hf3a := hx3.frozen 0
          have Hu2 := Lib.hid hu2
          clear hu2
          have hg1 : w.heap.size + 2 ≤ g := (hown.lt _ rfl).1
          have hg2 : g < w1.heap.size := hu _ rfl
          have hz1 := hx2.lt
          have ne1 : w.heap.size ≠ g := by omega
          have ne2 : w.heap.size + 1 ≠ g := by omega
          have ne3 : w1.heap.size ≠ g := by omega
          have ne1' : g ≠ w.heap.size := by omega
          have ne2' : g ≠ w.heap.size + 1 := by omega
          have ne3' : g ≠ w1.heap.size := by omega
          have hu9 := Lib.hid hu
          clear hu
          by_cases hd2 : f.top < (k0 : Int)
          · go_wp2
            go_region
            go_wp2
            refine bodyPost_ret (v := .tuple #[.agg #[.int .i64 k0, .slice (some ⟨g, 0, none⟩) n2 c2], .bool true]) (by simp [results, Try.results94, go_sem, hx2a, hx2b]) rfl ⟨_, by rw [hm], ?_, ?_⟩
            · have e1 : winAddS f k0 = ⟨(k0 : Int), setBit L k0⟩ := by
                simp only [winAddS, hm, if_true, Int.toNat_natCast, hlo.out, ← hC.out, hL.out]
                congr 1
                omega
              rw [e1]
              refine ⟨_, _, _, rfl, ?_, ?_⟩
              · have o9 := hown.set (k0 % 1024 / 32) (.int .i64 (bits .or .i64 x (wrap64 (2 ^ (k0 % 32)))))
                rw [ins_set, ← setBit_of Hx9.out] at o9
                refine (Ow.mono (B := w.heap.size + 2) ?_ (by omega)).drew
                exact ((o9.setO _ _ (by simp; omega)).setO _ _ (by simp; omega)).setO _ _ (by simp; omega)
              · intro p hp
                have := hown.lt p hp
                simpa using this.2
            · exact gb_drew (gb_set (gb_set (gb_set (gb_set hg (p := ⟨g, k0 % 1024 / 32, none⟩) (.inl (by simp; omega)) _) (p := ⟨w1.heap.size, 0, none⟩) (.inl (by simp; omega)) _) (p := ⟨w.heap.size + 1, 0, none⟩) (.inl (by simp)) _) (p := ⟨w.heap.size + 1, 1, none⟩) (.inl (by simp)) _)
          · go_wp2
            go_region
            go_wp2
            refine bodyPost_ret (v := .tuple #[.agg #[.int .i64 f.top, .slice (some ⟨g, 0, none⟩) n2 c2], .bool true]) (by simp [results, Try.results94, go_sem, hx2a, hx2b]) rfl ⟨_, by rw [hm], ?_, ?_⟩
            · have e1 : winAddS f k0 = ⟨f.top, setBit L k0⟩ := by
                simp only [winAddS, hm, if_true, Int.toNat_natCast, hlo.out, ← hC.out, hL.out]
                congr 1
                omega
              rw [e1]
              refine ⟨_, _, _, rfl, ?_, ?_⟩
              · have o9 := hown.set (k0 % 1024 / 32) (.int .i64 (bits .or .i64 x (wrap64 (2 ^ (k0 % 32)))))
                rw [ins_set, ← setBit_of Hx9.out] at o9
                refine (Ow.mono (B := w.heap.size + 2) ?_ (by omega)).drew
                exact (o9.setO _ _ (by simp; omega)).setO _ _ (by simp; omega)
              · intro p hp
                have := hown.lt p hp
                simpa using this.2
            · exact gb_drew (gb_set (gb_set (gb_set hg (p := ⟨g, k0 % 1024 / 32, none⟩) (.inl (by simp; omega)) _) (p := ⟨w.heap.size + 1, 0, none⟩) (.inl (by simp)) _) (p := ⟨w.heap.size + 1, 1, none⟩) (.inl (by simp)) _)
      · have hC : Hid (c = min (k0 + 1 - lo) 1024) := by simp only [Hid]; have := hk3.out; omega
        obtain ⟨L, hL⟩ : ∃ L, Hid (clr f.bits lo c = L) := ⟨_, rfl⟩
        rw [hL.out] at hown
        have hn2 : n2 = 32 := by have := hown.ilen; rw [← hL.out, clr_len] at this; have := (areW_of hb3).1; omega
        obtain ⟨g, rfl⟩ := hown.head (by omega)
        have hi : k0 % 1024 / 32 < n2 := by omega
        obtain ⟨hfz, u, hcl, hu2⟩ := hown.at (k0 % 1024 / 32) hi
        obtain ⟨x, rfl, hx9⟩ := ins_some hu2
        have Hx9 := Lib.hid hx9
        have Hn2 := Lib.hid hn2
        clear hx9 hn2
        have hx1a : wr.cell? ⟨w.heap.size, 0, none⟩ = some (.int .i64 f.top) := hx1.cell 0
        have hx3a : wr.cell? ⟨w1.heap.size, 0, none⟩ = some (.int .i64 f.top) := hx3.cell 0
        have hx3c : wr.cell? ⟨w1.heap.size, 1, none⟩ = some (.slice (some ⟨g, 0, none⟩) n2 c2) := hx3.cell 1
        have hx2a : wr.cell? ⟨w.heap.size + 1, 0, none⟩ = some (.int .i64 0) := hx2.cell 0
        have hx2b : wr.cell? ⟨w.heap.size + 1, 1, none⟩ = some (.slice none 0 0) := hx2.cell 1
        have hf2a := hx2.frozen 0
        have hf2b := hx2.frozen 1
        have hf3a := hx3.frozen 0
        have Hu2 := Lib.hid hu2
        clear hu2
        have hg1 : w.heap.size + 2 ≤ g := (hown.lt _ rfl).1
        have hg2 : g < w1.heap.size := hu _ rfl
        have hz1 := hx2.lt
        have ne1 : w.heap.size ≠ g := by omega
        have ne2 : w.heap.size + 1 ≠ g := by omega
        have ne3 : w1.heap.size ≠ g := by omega
        have ne1' : g ≠ w.heap.size := by omega
        have ne2' : g ≠ w.heap.size + 1 := by omega
        have ne3' : g ≠ w1.heap.size := by omega
        have hu9 := Lib.hid hu
        clear hu
        by_cases hd2 : f.top < (k0 : Int)
        · go_wp2
          go_region
          go_wp2
          refine bodyPost_ret (v := .tuple #[.agg #[.int .i64 k0, .slice (some ⟨g, 0, none⟩) n2 c2], .bool true]) (by simp [results, Try.results94, go_sem, hx2a, hx2b]) rfl ⟨_, by rw [hm], ?_, ?_⟩
          · have e1 : winAddS f k0 = ⟨(k0 : Int), setBit L k0⟩ := by
              simp only [winAddS, hm, if_true, Int.toNat_natCast, hlo.out, ← hC.out, hL.out]
              congr 1
              omega
            rw [e1]
            refine ⟨_, _, _, rfl, ?_, ?_⟩
            · have o9 := hown.set (k0 % 1024 / 32) (.int .i64 (bits .or .i64 x (wrap64 (2 ^ (k0 % 32)))))
              rw [ins_set, ← setBit_of Hx9.out] at o9
              refine (Ow.mono (B := w.heap.size + 2) ?_ (by omega)).drew
              exact ((o9.setO _ _ (by simp; omega)).setO _ _ (by simp; omega)).setO _ _ (by simp; omega)
            · intro p hp
              have := hown.lt p hp
              simpa using this.2
          · exact gb_drew (gb_set (gb_set (gb_set (gb_set hg (p := ⟨g, k0 % 1024 / 32, none⟩) (.inl (by simp; omega)) _) (p := ⟨w1.heap.size, 0, none⟩) (.inl (by simp; omega)) _) (p := ⟨w.heap.size + 1, 0, none⟩) (.inl (by simp)) _) (p := ⟨w.heap.size + 1, 1, none⟩) (.inl (by simp)) _)
        · go_wp2
          go_region
          go_wp2
          refine bodyPost_ret (v := .tuple #[.agg #[.int .i64 f.top, .slice (some ⟨g, 0, none⟩) n2 c2], .bool true]) (by simp [results, Try.results94, go_sem, hx2a, hx2b]) rfl ⟨_, by rw [hm], ?_, ?_⟩
          · have e1 : winAddS f k0 = ⟨f.top, setBit L k0⟩ := by
              simp only [winAddS, hm, if_true, Int.toNat_natCast, hlo.out, ← hC.out, hL.out]
              congr 1
              omega
            rw [e1]
            refine ⟨_, _, _, rfl, ?_, ?_⟩
            · have o9 := hown.set (k0 % 1024 / 32) (.int .i64 (bits .or .i64 x (wrap64 (2 ^ (k0 % 32)))))
              rw [ins_set, ← setBit_of Hx9.out] at o9
              refine (Ow.mono (B := w.heap.size + 2) ?_ (by omega)).drew
              exact (o9.setO _ _ (by simp; omega)).setO _ _ (by simp; omega)
            · intro p hp
              have := hown.lt p hp
              simpa using this.2
          · exact gb_drew (gb_set (gb_set (gb_set hg (p := ⟨g, k0 % 1024 / 32, none⟩) (.inl (by simp; omega)) _) (p := ⟨w.heap.size + 1, 0, none⟩) (.inl (by simp)) _) (p := ⟨w.heap.size + 1, 1, none⟩) (.inl (by simp)) _)
  · have hf : winMay f n = false := by simpa using hm
    go_wp2
    refine bodyPost_ret (v := .tuple #[.agg #[.int .i64 f.top, .slice a2 n2 c2], .bool false]) (by simp [results, Try.results94, go_sem, c2a]) rfl ⟨_, by rw [hf], ?_, ?_⟩
    · rw [show winAddS f n = f by simp [winAddS, hf]]
      refine ⟨_, _, _, rfl, ?_, ?_⟩
      · exact ((ho.keepSet (by simp) _).keepSet (by simp) _).mono (by simp <;> omega)
      · intro p hp
        have := ho.lt p hp
        simpa using this.2
    · exact gb_set (gb_set G2 (p := ⟨w.heap.size + 1, 0, none⟩) (.inl (by simp)) _) (p := ⟨w.heap.size + 1, 1, none⟩) (.inl (by simp)) _
end Go.Proofs.Ytpfchphgbhgmmaa
