/-
  Contracts of the two functions that build a window out of numbers. Conditions: none beside those that each theorem names.
-/
import Derived.Test.YtdfdhijbafalaaaWinB
import Derived.Test.YtdfdhijbafalaaaWinN
import Derived.Deep.RegionHeld3
namespace Go.Proofs.Ytdfdhijbafalaaa
open Go.RowKit
def winOf (l : List Int) : WinM := l.foldl winAddM winNew
theorem winOf_succ {l : List Int} {j : Nat} {x : Int} (h : l[j]? = some x) : winOf (l.take (j + 1)) = winAddM (winOf (l.take j)) x := by
  rw [take_succ_some h, winOf, List.foldl_append]
  rfl
theorem winAddM_len (f : WinM) (n : Int) : (winAddM f n).bits.length = f.bits.length := by have := winAddM_tot f n; simpa [WinM.tot] using this
theorem winFold_len (l : List Int) : ∀ f : WinM, (l.foldl winAddM f).bits.length = f.bits.length := by
  induction l with
  | nil => intro f; rfl
  | cons x r ih => intro f; rw [List.foldl_cons, ih, winAddM_len]
theorem winOf_tot (l : List Int) : (winOf l).tot = 32 := by
  rw [WinM.tot, winOf, winFold_len]
  rfl
set_option maxRecDepth 100000 in
set_option maxHeartbeats 1000000 in
theorem impl_WinOf (a0 : Option Addr) (n0 c0 : Nat) (l : List Int) (w : World) (h : Rd w a0 n0 c0 (ins l)) (hn : n0 ≤ 1048576) :
    Calls Try.prog 15 #[.slice a0 n0 c0] w fun e w' => ∃ v', e = .returned v' ∧ WinO w.heap.size w'.heap.size w' v' (winOf l) ∧ w.grownBy w' none := by
  have g0 := gb_alloc (gb_refl w) (.cells #[.int .i64 0, .slice none 0 0] 27)
  have B1 := bx1 w #[.int .i64 0, .slice none 0 0] 27
  go_enter Try.func15, Try.ntmps15
  go_wp2_with fail
  refine (impl_WinNew _).mono ?_
  rintro e w1 ⟨v2, rfl, ho, g1⟩
  obtain ⟨a2, n2, c2, rfl, ho, hu⟩ := ho
  replace B1 := B1.keep0 g1
  have G1 := gb_trans g0 g1
  have lB1 := B1.lt
  have B2 := bx1 w1 #[.int .i64 winNew.top, .slice a2 n2 c2] 27
  go_wp2
  go_loopw [9] (fun i wr => ∃ (j : Nat) (fj : WinM) (a : Option Addr) (n c : Nat), i = .int .i64 j ∧ j ≤ n0 ∧ Hid (winOf (l.take j) = fj) ∧ w.grownBy wr none ∧ Bx wr w.heap.size 27 #[.int .i64 0, .slice none 0 0] ∧ Bx wr w1.heap.size 27 #[.int .i64 fj.top, .slice a n c] ∧ Ow (w.heap.size + 1) wr 3 a n c (ins fj.bits) ∧ Hid (∀ p, a = some p → p.block ≠ w1.heap.size) ∧ Hid (fj.bits.length = 32)) (fun i _ => n0 - (intOf i).toNat)
  case atStart => exact ⟨0, winNew, a2, n2, c2, rfl, by omega, rfl, gb_alloc G1 _, B1.old _, B2, (ho.mono (by simp)).keep0 (gb_alloc (gb_refl _) _), fun p hp => by have := hu p hp; omega, rfl⟩
  case round =>
    obtain ⟨j, fj, a, n, c, rfl, hj, hfj, hg, hb1, hb2, hown, hne, hlen⟩ := hrel
    clear B1 B2
    have hc1 := fun o => hb1.cell o
    have hc2 := fun o => hb2.cell o
    have hf1 := fun o => hb1.frozen o
    by_cases hlt : j < n0
    · obtain ⟨b, off, x, rfl, hx, hc⟩ := (h.keep0 hg).int j hlt
      go_wp2_with fail
      refine (impl_WinAdd _ fj x _ ⟨_, _, _, rfl, hown.rd⟩ (by have := hlen.out; omega)).mono ?_
      rintro e w3 ⟨v3, rfl, ho3, g3⟩
      obtain ⟨a3, n3, c3, rfl, ho3, hu3⟩ := ho3
      have hz3 := hb2.lt
      replace hb1 := hb1.keep0 g3
      replace hb2 := hb2.keep0 g3
      have hz := hb2.lt
      have hz1 := g3.size
      have hz2 := hg.size
      clear hc1 hc2 hf1
      have hc2 := fun o => hb2.cell o
      have hf2 := fun o => hb2.frozen o
      go_wp2
      have e3 : Hid (winOf (l.take (j + 1)) = winAddM fj x) := by simp only [Hid]; rw [winOf_succ hx.out, hfj.out]
      refine ⟨⟨j + 1, winAddM fj x, a3, n3, c3, by go_num, by omega, e3, ?_, ?_, ?_, ?_, ?_, ?_⟩, by simp [intOf]; omega⟩
      · exact gb_set (gb_set (gb_trans hg g3) (p := ⟨w1.heap.size, 0, none⟩) (.inl (by simp; omega)) _) (p := ⟨w1.heap.size, 1, none⟩) (.inl (by simp; omega)) _
      · exact (hb1.setO _ _ (by simp; omega)).setO _ _ (by simp; omega)
      · exact (hb2.set 0 _).set 1 _
      · have hl3 := fun p hp => (ho3.lt p hp).1
        exact ((ho3.mono (show w.heap.size + 1 ≤ _ by omega)).setO _ _ (fun p hp => by have := hl3 p hp; simp; omega)).setO _ _ (fun p hp => by have := hl3 p hp; simp; omega)
      · exact fun p hp => by have := (ho3.lt p hp).1; omega
      · have := winAddM_len fj x
        have := hlen.out
        simp only [Hid]
        omega
    · obtain rfl : j = n0 := by omega
      have hz := hb2.lt
      have hL := hfj.out
      rw [List.take_of_length_le (by have := h.ilen; omega)] at hL
      have HL := Lib.hid hL
      clear hL
      go_wp2
      refine bodyPost_ret (v := .agg #[.int .i64 fj.top, .slice a n c]) (by simp [results, Try.results15, go_sem, hc1]) rfl ⟨_, rfl, ?_, ?_⟩
      · rw [HL.out]
        refine ⟨_, _, _, rfl, ?_, ?_⟩
        · exact ((hown.keepSet (by simp) _).keepSet (by simp) _).mono (by omega)
        · intro p hp
          have := hown.lt p hp
          simpa using this.2
      · exact gb_set (gb_set hg (p := ⟨w.heap.size, 0, none⟩) (.inl (by simp)) _) (p := ⟨w.heap.size, 1, none⟩) (.inl (by simp)) _
theorem spec_WinAddM (v : Value) (f : WinM) (n : Int) (w : World) (h : WinR w v f) (hn : f.bits.length ≤ 1073741824) : Calls Try.prog 70 #[v, .int .i64 n] w fun e w' => ∃ v', e = .returned (.tuple #[v', .bool (winMay f n)]) ∧ WinO w.heap.size w'.heap.size w' v' (winAddM f n) ∧ w.grownBy w' none := by
  rw [← winAddS_eq]
  exact spec_WinAdd v f n w h hn
set_option maxRecDepth 100000 in
set_option maxHeartbeats 1000000 in
theorem spec_WinOf (a0 : Option Addr) (n0 c0 : Nat) (l : List Int) (w : World) (h : Rd w a0 n0 c0 (ins l)) (hn : n0 ≤ 1048576) :
    Calls Try.prog 68 #[.slice a0 n0 c0] w fun e w' => ∃ v', e = .returned v' ∧ WinO w.heap.size w'.heap.size w' v' (winOf l) ∧ w.grownBy w' none := by
  have g0 := gb_alloc (gb_refl w) (.cells #[.int .i64 0, .slice none 0 0] 27)
  have B1 := bx1 w #[.int .i64 0, .slice none 0 0] 27
  go_enter Try.func68, Try.ntmps68
  go_wp2_with fail
  refine (spec_WinNew _).mono ?_
  rintro e w1 ⟨v2, rfl, ho, g1⟩
  obtain ⟨a2, n2, c2, rfl, ho, hu⟩ := ho
  replace B1 := B1.keep0 g1
  have G1 := gb_trans g0 g1
  have lB1 := B1.lt
  have B2 := bx1 w1 #[.int .i64 winNew.top, .slice a2 n2 c2] 27
  go_wp2
  go_loopw [4] (fun i wr => ∃ (j : Nat) (fj : WinM) (a : Option Addr) (n c : Nat), i = .int .i64 j ∧ j ≤ n0 ∧ Hid (winOf (l.take j) = fj) ∧ w.grownBy wr none ∧ Bx wr w.heap.size 27 #[.int .i64 0, .slice none 0 0] ∧ Bx wr w1.heap.size 27 #[.int .i64 fj.top, .slice a n c] ∧ Ow (w.heap.size + 1) wr 3 a n c (ins fj.bits) ∧ Hid (∀ p, a = some p → p.block ≠ w1.heap.size) ∧ Hid (fj.bits.length = 32)) (fun i _ => n0 - (intOf i).toNat)
  case atStart => exact ⟨0, winNew, a2, n2, c2, rfl, by omega, rfl, gb_alloc G1 _, B1.old _, B2, (ho.mono (by simp)).keep0 (gb_alloc (gb_refl _) _), fun p hp => by have := hu p hp; omega, rfl⟩
  case round =>
    obtain ⟨j, fj, a, n, c, rfl, hj, hfj, hg, hb1, hb2, hown, hne, hlen⟩ := hrel
    clear B1 B2
    have hc1 := fun o => hb1.cell o
    have hc2 := fun o => hb2.cell o
    have hf1 := fun o => hb1.frozen o
    by_cases hlt : j < n0
    · obtain ⟨b, off, x, rfl, hx, hc⟩ := (h.keep0 hg).int j hlt
      have hz3 := hb2.lt
      have hb2a : wr.cell? ⟨w1.heap.size, 0, none⟩ = some (.int .i64 fj.top) := hb2.cell 0
      have hb2b : wr.cell? ⟨w1.heap.size, 1, none⟩ = some (.slice a n c) := hb2.cell 1
      clear hc1 hc2 hf1
      go_wp2_with fail
      go_region_with (go_at_call 70; refine (spec_WinAddM _ fj x _ ⟨_, _, _, rfl, hown.rd.keep0 (gb_drew (gb_refl _))⟩ (by have := hlen.out; omega)).mono ?_; rintro e w3 ⟨v3, rfl, ho3, g3⟩; obtain ⟨a3, n3, c3, rfl, ho3, hu3⟩ := ho3; have hb9 := (hb2.drew).keep0 g3; have hc2 := fun o => hb9.cell o; have hf2 := fun o => hb9.frozen o)
      all_goals
        replace hb1 := (hb1.drew).keep0 g3
        have hz := hb9.lt
        have hz1 : wr.heap.size ≤ w3.heap.size := g3.size
        have hz2 := hg.size
        replace ho3 := ho3.mono (B' := wr.heap.size) (Nat.le_refl _)
        go_wp2
        have e3 : Hid (winOf (l.take (j + 1)) = winAddM fj x) := by simp only [Hid]; rw [winOf_succ hx.out, hfj.out]
        refine ⟨⟨j + 1, winAddM fj x, a3, n3, c3, by go_num, by omega, e3, ?_, ?_, ?_, ?_, ?_, ?_⟩, by simp [intOf]; omega⟩
        · exact gb_set (gb_set (gb_trans (gb_drew hg) g3) (p := ⟨w1.heap.size, 0, none⟩) (.inl (by simp; omega)) _) (p := ⟨w1.heap.size, 1, none⟩) (.inl (by simp; omega)) _
        · exact (hb1.setO _ _ (by simp; omega)).setO _ _ (by simp; omega)
        · exact (hb9.set 0 _).set 1 _
        · have hl3 := fun p hp => (ho3.lt p hp).1
          exact ((ho3.mono (show w.heap.size + 1 ≤ _ by omega)).setO _ _ (fun p hp => by have := hl3 p hp; simp; omega)).setO _ _ (fun p hp => by have := hl3 p hp; simp; omega)
        · exact fun p hp => by have := (ho3.lt p hp).1; omega
        · have := winAddM_len fj x
          have := hlen.out
          simp only [Hid]
          omega
    · obtain rfl : j = n0 := by omega
      have hz := hb2.lt
      have hL := hfj.out
      rw [List.take_of_length_le (by have := h.ilen; omega)] at hL
      have HL := Lib.hid hL
      clear hL
      go_wp2
      refine bodyPost_ret (v := .agg #[.int .i64 fj.top, .slice a n c]) (by simp [results, Try.results68, go_sem, hc1]) rfl ⟨_, rfl, ?_, ?_⟩
      · rw [HL.out]
        refine ⟨_, _, _, rfl, ?_, ?_⟩
        · exact ((hown.keepSet (by simp) _).keepSet (by simp) _).mono (by omega)
        · intro p hp
          have := hown.lt p hp
          simpa using this.2
      · exact gb_set (gb_set hg (p := ⟨w.heap.size, 0, none⟩) (.inl (by simp)) _) (p := ⟨w.heap.size, 1, none⟩) (.inl (by simp)) _
end Go.Proofs.Ytdfdhijbafalaaa
