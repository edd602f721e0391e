/-
  Contracts of the hash, by the program and by the reference. Conditions: none beside those that each theorem names.
-/
import Derived.Test.YtpfchphgbhgmmaaGreatShaN
import Derived.Deep.RegionHeld3
namespace Go.Proofs.YtpfchphgbhgmmaaGreat
open Go.RowKit
theorem all_len (l : List UInt8) : (l ++ padM l.length).length % 64 = 0 := by rw [List.length_append]; exact padM_mod _
set_option maxRecDepth 1000000 in
set_option maxHeartbeats 2000000 in
theorem spec_Sha (a : Option Addr) (n c : Nat) (l : List UInt8) (w : World) (r : Rd w a n c (bys l)) (hn : n ≤ 1073741824) : Calls Tryz.prog 96 #[.slice a n c] w (RetB w (shaM l)) := by
  have L := Lib.hid r.blen
  by_cases hc : n ≤ 1048576
  · rw [shaM, if_pos (by have := L.out; omega)]
    have i1 : ¬ ((1048576 : Int) < (n : Int)) := by omega
    have g0 := gb_alloc (gb_refl w) (.cells #[] 5)
    have PL := padM_le l.length
    have LN : l.length = n := L.out
    obtain ⟨al, hal⟩ : ∃ al, al = l ++ padM l.length := ⟨_, rfl⟩
    obtain ⟨N, hN⟩ : ∃ N, N = al.length := ⟨_, rfl⟩
    have hmod : N % 64 = 0 := by rw [hN, hal]; exact all_len l
    have hle : N ≤ 1048648 := by rw [hN, hal, List.length_append]; omega
    have AL := Lib.hid hal
    have NL := Lib.hid hN
    have C := Lib.hid (fun w => spec_Pad n w hc)
    clear hal hN
    go_enter Tryz.func96, Tryz.ntmps96
    go_wp2_with (first
      | (refine wpList_appB rfl (.tmp 10) (.tmp 11) rfl w.heap.size _ _ _ [] rfl (new_own _ _) a n c l rfl (r.keep0 g0) (by simp; omega) (by simp) ?_; intro a2 n2 c2 w2 o2 g2; have G2 := gb_app g0 (new_own _ _) (Nat.le_refl _) g2; rw [List.nil_append] at o2)
      | (go_at_call 100; (with_reducible refine (C.out _).mono ?_); rintro e w3 ⟨a3, n3, c3, rfl, o3, g3⟩; rw [← L.out] at o3; have G3 := gb_trans G2 g3)
      | (refine wpList_appB rfl (.tmp 12) (.tmp 15) rfl w.heap.size _ _ _ l rfl (o2.keep0 g3) a3 n3 c3 (padM l.length) rfl o3.rd (by omega) G3.size ?_; intro a4 n4 c4 w4 o4 g4; have G4 := gb_app G3 (o2.keep0 g3) (Nat.le_refl _) g4; rw [← AL.out] at o4)
      | (go_at_call 101; refine (spec_Start _).mono ?_; rintro e w5 ⟨a5, c5, rfl, o5, g5⟩))
    obtain rfl : n4 = N := by rw [NL.out]; exact o4.blen.symm
    have O4 := Lib.hid (o4.rd.keep0 g5)
    have G5 := Lib.hid (gb_trans G4 g5)
    clear o4 g4 G4 G3 G2 g5 g3 o2 o3
    go_loopw [4, 5] (fun v1 v2 wr => ∃ (j i c1 : Nat) (a1 : Option Addr), Hid (i = 64 * j) ∧ i ≤ n4 ∧ i % 64 = 0 ∧ v1 = .slice a1 8 c1 ∧ v2 = .int .i64 (i : Int) ∧ Rd wr a1 8 c1 (wds (cTo startL al j)) ∧ w5.grownBy wr none) (fun _ v2 _ => n4 - (intOf v2).toNat)
    case atStart => exact ⟨0, 0, _, _, rfl, by omega, by omega, rfl, rfl, o5.rd, gb_refl _⟩
    case round =>
      obtain ⟨j, i, c1, a1, hi, hin, him, rfl, rfl, h1, hg⟩ := hrel
      by_cases hlt : i < n4
      · have W := Lib.hid (cTo_W al startL_W j)
        have E := Lib.hid (show cutL al i 64 = (al.drop (64 * j)).take 64 by rw [hi.out, cutL])
        go_wp2_with (first
          | (refine wpList_slB rfl (.tmp 25) (some (.tmp 26)) (some (.tmp 28)) rfl a4 n4 c4 al rfl (O4.out.keep0 hg) i (i + 64) (.inl ⟨.i64, rfl⟩) (.inl ⟨.i64, by rw [Int.natCast_add]; rfl⟩) (by omega) (by omega) ?_; intro b6 d6 hd6 r6 hp6; rw [cut_eq, E.out] at r6; rw [Nat.add_sub_cancel_left] at r6 ⊢)
          | (go_at_call 102; refine (spec_Compress _ _ _ _ _ _ _ _ _ h1 r6 rfl rfl W.out).mono ?_; rintro e w7 ⟨a7, c7, rfl, o7, g7⟩))
        refine ⟨⟨j + 1, i + 64, _, _, ?_, by omega, by omega, rfl, by go_num, o7.rd, gb_trans hg g7⟩, by simp [intOf]; omega⟩
        have := hi.out
        show i + 64 = 64 * (j + 1)
        omega
      · obtain rfl : i = n4 := by omega
        have W := Lib.hid (cTo_W al startL_W j)
        have E := Lib.hid (show shaL l = outB (cTo startL al j) by rw [shaL, ← AL.out, ← NL.out, show i / 64 = j by have := hi.out; omega])
        go_wp2_with (go_at_call 103; refine (spec_l2Out _ _ _ _ _ h1 rfl W.out).mono ?_; rintro e w8 ⟨a8, n8, c8, rfl, o8, g8⟩)
        go_ret
        rw [E.out]
        exact retB o8 (gb_trans G5.out hg).size (gb_trans (gb_trans G5.out hg) g8) rfl
  · rw [shaM, if_neg (by have := L.out; omega)]
    have i1 : ((1048576 : Int) < (n : Int)) := by omega
    go_enter Tryz.func96, Tryz.ntmps96
    go_wp2
    go_ret
    exact ⟨_, _, _, rfl, new_own _ _, gb_alloc (gb_refl _) _⟩
set_option maxRecDepth 1000000 in
theorem impl_HashNew (w : World) : Calls Tryz.prog 99 #[] w fun e w' => ∃ a c, e = .returned (.agg #[.slice a 8 c, .slice none 0 0, .int .i64 0]) ∧ Rd w' a 8 c (wds startL) ∧ w.grownBy w' none := by
  have g0 := gb_alloc (gb_refl w) (.cells #[.slice none 0 0, .slice none 0 0, .int .i64 0] 95)
  have b0 := bx1 w #[.slice none 0 0, .slice none 0 0, .int .i64 0] 95
  go_enter Tryz.func99, Tryz.ntmps99
  go_wp2_with (go_at_call 108; refine (impl_Start _).mono ?_; rintro e w2 ⟨a2, c2, rfl, o2, g2⟩; replace b0 := b0.keep0 g2; have cc := fun o => b0.cell o; have ff := fun o => b0.frozen o; have lt := b0.lt)
  have ne : ∀ p, a2 = some p → p.block ≠ w.heap.size := fun p hp => by have := (o2.lt p hp).1; simp at this; omega
  refine bodyPost_ret (v := .agg #[.slice a2 8 c2, .slice none 0 0, .int .i64 0]) (by simp [results, Tryz.results99, go_sem, cc]) rfl ⟨_, _, rfl, ?_, ?_⟩
  · repeat (first | with_reducible exact o2.rd | (refine Rd.keepSet ?_ ?_ _; rotate_left; focus (exact ne)))
  · repeat (first | with_reducible exact gb_trans g0 g2 | (refine gb_set ?_ (.inl ?_) _; rotate_left; focus (first | (simp; done) | (simp; omega))))
set_option maxRecDepth 1000000 in
theorem impl_HashOkT (a : Option Addr) (c : Nat) (h : List Nat) (b : Option Addr) (m d : Nat) (N : Nat) (w : World) (r : Rd w a 8 c (wds h)) (hW : W32 h) (hN : N ≤ 1048576) (hm : N % 64 = m) :
    Calls Tryz.prog 104 #[.agg #[.slice a 8 c, .slice b m d, .int .i64 (N : Int)]] w fun e w' => e = .returned (.bool true) ∧ w.grownBy w' none := by
  have A := Lib.hid (show areWs (h.map fun x : Nat => (x : Int)) 8 = true by rw [areWs_wds hW, r.wlen]; rfl)
  have hI : inB (N : Int) 0 1048576 = true := inB_t (by omega) (by omega)
  have e1 : (N : Int) % 64 = (m : Int) := by omega
  have e2 : Int.tmod (N : Int) 64 = (m : Int) := by rw [Int.tmod_eq_emod_of_nonneg (by omega)]; exact e1
  have g0 := gb_alloc (gb_refl w) (.cells #[.slice a 8 c, .slice b m d, .int .i64 (N : Int)] 95)
  go_enter Tryz.func104, Tryz.ntmps104
  go_wp2_with (first
    | (go_at_call 67; refine (impl_areWs _ _ _ (h.map fun x : Nat => (x : Int)) 8 _ (r.keep0 g0) (by omega)).mono ?_; rw [A.out]; rintro e w3 ⟨rfl, rfl⟩)
    | (go_at_call 34; refine (impl_within _ _ _ _).mono ?_; rw [hI]; rintro e w' ⟨rfl, rfl⟩))
  go_ret
  exact ⟨rfl, g0⟩
set_option maxRecDepth 1000000 in
set_option maxHeartbeats 4000000 in
theorem impl_HashAdd0 (a : Option Addr) (c : Nat) (b : Option Addr) (n d : Nat) (l : List UInt8) (w : World) (r : Rd w a 8 c (wds startL)) (r2 : Rd w b n d (bys l)) (hn : n ≤ 1048576) :
    Calls Tryz.prog 98 #[.agg #[.slice a 8 c, .slice none 0 0, .int .i64 0], .slice b n d] w fun e w' => ∃ a1 c1 a2 n2 c2, e = .returned (.agg #[.slice a1 8 c1, .slice a2 n2 c2, .int .i64 (n : Int)]) ∧ Rd w' a1 8 c1 (wds (cTo startL l (l.length / 64))) ∧ Rd w' a2 n2 c2 (bys (l.drop (64 * (l.length / 64)))) ∧ w.grownBy w' none := by
  have i1 : ¬ ((1048576 : Int) < (n : Int)) := by omega
  have g0 := gb_alloc (gb_alloc (gb_refl w) (.cells #[.slice a 8 c, .slice none 0 0, .int .i64 0] 95)) (.cells #[.slice none 0 0, .slice none 0 0, .int .i64 0] 95)
  have bb := bx2 w #[.slice a 8 c, .slice none 0 0, .int .i64 0] #[.slice none 0 0, .slice none 0 0, .int .i64 0] 95 95
  have LN := Lib.hid r2.blen
  go_enter Tryz.func98, Tryz.ntmps98
  go_wp2_with (go_at_call 104; refine (impl_HashOkT a c startL none 0 0 0 _ (r.keep0 g0) startL_W (by omega) rfl).mono ?_; rintro e w1 ⟨rfl, g1⟩; have p0 := bb.1.keep0 g1; have p1 := bb.2.keep0 g1; have cc := fun o => p0.cell o; have l1 := p0.lt)
  have G1 := gb_trans g0 g1
  have KX : Hid (∀ w', w1.grownBy w' none → (w'.cell? ⟨w.heap.size, 0, none⟩ = some (.slice a 8 c) ∧ w'.cell? ⟨w.heap.size, 1, none⟩ = some (.slice none 0 0) ∧ w1.grownBy w' none)) := fun w' hg => ⟨(p0.keep0 hg).cell 0, (p0.keep0 hg).cell 1, hg⟩
  clear cc g0 g1 bb
  go_region_held3 (fun w' => w'.cell? ⟨w.heap.size, 0, none⟩ = some (.slice a 8 c) ∧ w'.cell? ⟨w.heap.size, 1, none⟩ = some (.slice none 0 0) ∧ w1.grownBy w' none)
    ((refine KX.out _ ?_; (repeat (first | with_reducible exact gb_refl _ | with_reducible refine gb_alloc ?_ _ | with_reducible refine gb_drewN ?_ _ | with_reducible refine gb_drew ?_ | with_reducible refine gb_trans ?_ g3 | with_reducible refine gb_trans ?_ g4))))
    (first
      | (go_at_call 64; refine Calls.mono (impl_joined _ _ _ [⟨none, 0, 0, []⟩, ⟨b, n, d, l⟩] _ ?_ ?_ (by omega) ?_) ?_; (focus (refine Rd.ofBxV (cs := #[.slice none 0 0, .slice b n d]) (t := 22) ?_ ?_ ?_; (focus ((repeat (first | (with_reducible refine Bx.newk _ _ _ _ ?_; (first | with_reducible rfl | (simp; done))) | with_reducible refine Bx.old ?_ _ | with_reducible refine Bx.drewN ?_ _ | with_reducible refine Bx.drew ?_)))); (focus rfl); (focus rfl))); (focus (exact ok_cons (Rd.nil _ _ _) (ok_cons (r2.keep0 (by (repeat (first | with_reducible exact gb_refl _ | with_reducible exact G1 | with_reducible refine gb_alloc ?_ _ | with_reducible refine gb_drewN ?_ _ | with_reducible refine gb_drew ?_)))) ok_nil))); (focus (simp [cat]; have := LN.out; omega)); rintro e w3 ⟨b3, m3, d3, rfl, o3, g3⟩; have R3 : Rd w3 b3 m3 d3 (bys l) := by simpa [cat] using o3.rd)
      | (go_at_call 105; refine (impl_compressAll a 8 c startL b3 m3 d3 l _ (r.keep0 (by (repeat (first | with_reducible exact gb_refl _ | with_reducible exact G1 | with_reducible refine gb_alloc ?_ _ | with_reducible refine gb_drewN ?_ _ | with_reducible refine gb_drew ?_ | with_reducible refine gb_trans ?_ g3)))) (R3.keep0 (by (repeat (first | with_reducible exact gb_refl _ | with_reducible refine gb_alloc ?_ _ | with_reducible refine gb_drewN ?_ _ | with_reducible refine gb_drew ?_)))) rfl (by have := R3.blen; have := LN.out; omega) startL_W).mono ?_; rintro e w4 ⟨a4, c4, a5, n5, c5, rfl, r4, r5, g4⟩)
      | fail)
  go_wp2
  have H4 : w1.grownBy w4 none := by (repeat (first | with_reducible exact gb_refl _ | with_reducible refine gb_alloc ?_ _ | with_reducible refine gb_drewN ?_ _ | with_reducible refine gb_drew ?_ | with_reducible refine gb_trans ?_ g3 | with_reducible refine gb_trans ?_ g4))
  have q0 := p0.keep0 H4
  have q1 := p1.keep0 H4
  have L5 := Lib.hid r5.blen
  have G4 := gb_trans G1 H4
  have KY : Hid (∀ w', w4.grownBy w' none → w'.cell? ⟨w.heap.size, 2, none⟩ = some (.int .i64 0)) := fun w' hg => (q0.keep0 hg).cell 2
  clear KX p0 p1
  go_region_held3 (fun w' => w'.cell? ⟨w.heap.size, 2, none⟩ = some (.int .i64 0))
    (first | (refine KY.out _ ?_; (repeat (first | with_reducible exact gb_refl _ | with_reducible refine gb_alloc ?_ _ | with_reducible refine gb_drewN ?_ _ | with_reducible refine gb_drew ?_ | with_reducible refine gb_trans ?_ H5 | with_reducible refine gb_trans ?_ g6)); done) | (exact (((s0.setO ⟨w.heap.size + 1, 0, none⟩ _ (by simp)).setO ⟨w.heap.size + 1, 1, none⟩ _ (by simp)).setO ⟨w.heap.size + 1, 2, none⟩ _ (by simp)).cell 2))
    (first
      | (refine step_appW rfl (.tmp 39) (.tmp 40) rfl w4.heap.size (some ⟨w4.heap.size, 0, none⟩) 0 0 [] rfl (Ow.keep0 (new_own' _ 3 w4.heap.size rfl) (by (repeat (first | with_reducible exact gb_refl _ | with_reducible refine gb_alloc ?_ _ | with_reducible refine gb_drewN ?_ _ | with_reducible refine gb_drew ?_)))) a4 8 c4 (wds (cTo startL l (l.length / 64))) rfl (r4.keep0 (by (repeat (first | with_reducible exact gb_refl _ | with_reducible refine gb_alloc ?_ _ | with_reducible refine gb_drewN ?_ _ | with_reducible refine gb_drew ?_)))) (wds_one _) (by omega) (World.grownBy.size (row := none) (by (repeat (first | with_reducible exact gb_refl _ | with_reducible refine gb_alloc ?_ _ | with_reducible refine gb_drewN ?_ _ | with_reducible refine gb_drew ?_)))) ?_; intro a6 c6 w5 o6 g5 k5; have H5 : w4.grownBy w5 none := gb_app (by (repeat (first | with_reducible exact gb_refl _ | with_reducible refine gb_alloc ?_ _ | with_reducible refine gb_drewN ?_ _ | with_reducible refine gb_drew ?_))) (Ow.keep0 (new_own' _ 3 w4.heap.size rfl) (by (repeat (first | with_reducible exact gb_refl _ | with_reducible refine gb_alloc ?_ _ | with_reducible refine gb_drewN ?_ _ | with_reducible refine gb_drew ?_)))) (Nat.le_refl _) g5)
      | (go_at_call 35; refine (impl_clone a5 n5 c5 _ _ (r5.keep0 (by (repeat (first | with_reducible exact gb_refl _ | with_reducible refine gb_alloc ?_ _ | with_reducible refine gb_drewN ?_ _ | with_reducible refine gb_drew ?_ | with_reducible refine gb_trans ?_ H5)))) (by have h9 := L5.out; have h8 := LN.out; rw [List.length_drop] at h9; omega)).mono ?_; rintro e w6 ⟨a7, n7, c7, rfl, o7, g6⟩; have H6 : w4.grownBy w6 none := (by (repeat (first | with_reducible exact gb_refl _ | with_reducible refine gb_alloc ?_ _ | with_reducible refine gb_drewN ?_ _ | with_reducible refine gb_drew ?_ | with_reducible refine gb_trans ?_ H5 | with_reducible refine gb_trans ?_ g6))); have s0 := q0.keep0 H6; have s1 := q1.keep0 H6; have cc2 := fun o => s1.cell o; have ff2 := fun o => s1.frozen o; have lt2 := s1.lt)
      | fail)
  rw [Nat.zero_add, List.nil_append] at o6
  have z1 := q1.lt
  have z2 := H5.size
  have na : ∀ p, a6 = some p → p.block ≠ w.heap.size + 1 := fun p hp => by have := (o6.lt p hp).1; omega
  have nb : ∀ p, a7 = some p → p.block ≠ w.heap.size + 1 := fun p hp => by have h9 := (o7.lt p hp).1; first | omega | (simp at h9; omega)
  have R6 := (o6.keep0 (show w5.grownBy w6 none from (by (repeat (first | with_reducible exact gb_refl _ | with_reducible refine gb_alloc ?_ _ | with_reducible refine gb_drewN ?_ _ | with_reducible refine gb_drew ?_ | with_reducible refine gb_trans ?_ g6))))).rd
  have G6 := gb_trans G4 H6
  clear KY L5 g5 k5 g6 H5
  have hw : IntKind.i64.wrap (n : Int) = (n : Int) := wraps_i64 _ (by omega) (by omega)
  go_wp2
  refine bodyPost_ret (v := .agg #[.slice a6 8 c6, .slice a7 n7 c7, .int .i64 (n : Int)]) (by simp [results, Tryz.results98, go_sem, cc2, hw]) rfl ⟨_, _, _, _, _, rfl, ?_, ?_, ?_⟩
  · repeat (first | with_reducible exact R6 | (refine Rd.keepSet ?_ ?_ _; rotate_left; focus (exact na)))
  · repeat (first | with_reducible exact o7.rd | (refine Rd.keepSet ?_ ?_ _; rotate_left; focus (exact nb)))
  · repeat (first | with_reducible exact G6 | (refine gb_set ?_ (.inl ?_) _; rotate_left; focus (first | (simp; done) | (simp; omega))))
set_option maxRecDepth 1000000 in
set_option maxHeartbeats 4000000 in
theorem impl_HashEnd (a : Option Addr) (c : Nat) (h : List Nat) (b : Option Addr) (n d : Nat) (l : List UInt8) (N : Nat) (w : World) (r : Rd w a 8 c (wds h)) (r2 : Rd w b n d (bys l)) (hW : W32 h) (hN : N ≤ 1048576) (hm : N % 64 = n) :
    Calls Tryz.prog 97 #[.agg #[.slice a 8 c, .slice b n d, .int .i64 (N : Int)]] w (RetB w (outB (cTo h (l ++ padM N) ((l ++ padM N).length / 64)))) := by
  have g0 := gb_alloc (gb_refl w) (.cells #[.slice a 8 c, .slice b n d, .int .i64 (N : Int)] 95)
  have b0 := bx1 w #[.slice a 8 c, .slice b n d, .int .i64 (N : Int)] 95
  have LN := Lib.hid r2.blen
  have hn : n < 64 := by omega
  have C := Lib.hid (fun w => impl_Pad N w hN)
  have PL := padM_le N
  have W := Lib.hid hW
  have HW := Lib.hid (cTo_W (l ++ padM N) hW ((l ++ padM N).length / 64))
  have hl := r.wlen
  go_enter Tryz.func97, Tryz.ntmps97
  go_wp2_with (go_at_call 104; refine (impl_HashOkT a c h b n d N _ (r.keep0 g0) hW hN hm).mono ?_; rintro e w1 ⟨rfl, g1⟩; have p0 := b0.keep0 g1; have cc := fun o => p0.cell o; have l1 := p0.lt)
  have G1 := gb_trans g0 g1
  have KX : Hid (∀ w', w1.grownBy w' none → (w'.cell? ⟨w.heap.size, 0, none⟩ = some (.slice a 8 c) ∧ w'.cell? ⟨w.heap.size, 1, none⟩ = some (.slice b n d) ∧ w'.cell? ⟨w.heap.size, 2, none⟩ = some (.int .i64 (N : Int)) ∧ w1.grownBy w' none)) := fun w' hg => ⟨(p0.keep0 hg).cell 0, (p0.keep0 hg).cell 1, (p0.keep0 hg).cell 2, hg⟩
  clear cc g0 g1 b0 p0
  go_region_held3 (fun w' => w'.cell? ⟨w.heap.size, 0, none⟩ = some (.slice a 8 c) ∧ w'.cell? ⟨w.heap.size, 1, none⟩ = some (.slice b n d) ∧ w'.cell? ⟨w.heap.size, 2, none⟩ = some (.int .i64 (N : Int)) ∧ w1.grownBy w' none)
    ((refine KX.out _ ?_; (repeat (first | with_reducible exact gb_refl _ | with_reducible refine gb_alloc ?_ _ | with_reducible refine gb_drewN ?_ _ | with_reducible refine gb_drew ?_ | with_reducible refine gb_trans ?_ g2 | with_reducible refine gb_trans ?_ g3 | with_reducible refine gb_trans ?_ g4))))
    (first
      | (go_at_call 106; (with_reducible refine (C.out _).mono ?_); rintro e w2 ⟨b2, m2, d2, rfl, o2, g2⟩)
      | (go_at_call 64; refine Calls.mono (impl_joined _ _ _ [⟨b, n, d, l⟩, ⟨b2, m2, d2, padM N⟩] _ ?_ ?_ (by omega) ?_) ?_; (focus (refine Rd.ofBxV (cs := #[.slice b n d, .slice b2 m2 d2]) (t := 22) ?_ ?_ ?_; (focus ((repeat (first | (with_reducible refine Bx.newk _ _ _ _ ?_; (first | with_reducible rfl | (simp; done))) | with_reducible refine Bx.old ?_ _ | with_reducible refine Bx.drewN ?_ _ | with_reducible refine Bx.drew ?_ | with_reducible refine Bx.keep0 ?_ g2)))); (focus rfl); (focus rfl))); (focus (exact ok_cons (r2.keep0 (by (repeat (first | with_reducible exact gb_refl _ | with_reducible exact G1 | with_reducible refine gb_alloc ?_ _ | with_reducible refine gb_drewN ?_ _ | with_reducible refine gb_drew ?_ | with_reducible refine gb_trans ?_ g2)))) (ok_cons (o2.rd.keep0 (by (repeat (first | with_reducible exact gb_refl _ | with_reducible refine gb_alloc ?_ _ | with_reducible refine gb_drewN ?_ _ | with_reducible refine gb_drew ?_)))) ok_nil))); (focus (have h9 := LN.out; simp only [cat, List.map_cons, List.map_nil, List.flatten_cons, List.flatten_nil, List.append_nil, List.length_append]; omega)); rintro e w3 ⟨b3, m3, d3, rfl, o3, g3⟩; have R3 : Rd w3 b3 m3 d3 (bys (l ++ padM N)) := by simpa [cat] using o3.rd)
      | (go_at_call 105; refine (impl_compressAll a 8 c h b3 m3 d3 (l ++ padM N) _ (r.keep0 (by (repeat (first | with_reducible exact gb_refl _ | with_reducible exact G1 | with_reducible refine gb_alloc ?_ _ | with_reducible refine gb_drewN ?_ _ | with_reducible refine gb_drew ?_ | with_reducible refine gb_trans ?_ g2 | with_reducible refine gb_trans ?_ g3)))) (R3.keep0 (by (repeat (first | with_reducible exact gb_refl _ | with_reducible refine gb_alloc ?_ _ | with_reducible refine gb_drewN ?_ _ | with_reducible refine gb_drew ?_)))) rfl (by have h8 := R3.blen; have h9 := LN.out; rw [List.length_append] at h8; omega) W.out).mono ?_; rintro e w4 ⟨a4, c4, a5, n5, c5, rfl, r4, r5, g4⟩)
      | fail)
  have H4 : w1.grownBy w4 none := by (repeat (first | with_reducible exact gb_refl _ | with_reducible refine gb_alloc ?_ _ | with_reducible refine gb_drewN ?_ _ | with_reducible refine gb_drew ?_ | with_reducible refine gb_trans ?_ g2 | with_reducible refine gb_trans ?_ g3 | with_reducible refine gb_trans ?_ g4))
  have G4 := gb_trans G1 H4
  go_wp2_with (go_at_call 107; refine (impl_wordBytes _ _ _ _ _ r4 rfl HW.out).mono ?_; rintro e w8 ⟨a8, n8, c8, rfl, o8, g8⟩)
  go_ret
  exact retB o8 G4.size (gb_trans G4 g8) rfl
set_option maxRecDepth 1000000 in
theorem impl_Sha (a : Option Addr) (n c : Nat) (l : List UInt8) (w : World) (r : Rd w a n c (bys l)) (_hn : n ≤ 1073741824) : Calls Tryz.prog 92 #[.slice a n c] w (RetB w (shaM l)) := by
  have L := Lib.hid r.blen
  by_cases hc : n ≤ 1048576
  · rw [shaM, if_pos (by have := L.out; omega)]
    have i1 : ¬ ((1048576 : Int) < (n : Int)) := by omega
    have E := Lib.hid (show outB (cTo (cTo startL l (l.length / 64)) (l.drop (64 * (l.length / 64)) ++ padM n) ((l.drop (64 * (l.length / 64)) ++ padM n).length / 64)) = shaL l by rw [← L.out, sha_split l _ rfl, shaL])
    go_enter Tryz.func92, Tryz.ntmps92
    go_wp2_with (first
      | (go_at_call 99; refine (impl_HashNew _).mono ?_; rintro e w1 ⟨a1, c1, rfl, r1, g1⟩)
      | (go_at_call 98; refine (impl_HashAdd0 _ _ _ _ _ _ _ r1 (r.keep0 g1) hc).mono ?_; rintro e w2 ⟨a2, c2, a3, n3, c3, rfl, r2, r3, g2⟩; have E3 := r3.blen; rw [List.length_drop, L.out] at E3)
      | (go_at_call 97; refine (impl_HashEnd _ _ _ _ _ _ _ n _ r2 r3 (cTo_W l startL_W _) hc (by omega)).mono ?_; rintro e w4 ⟨a4, n4, c4, rfl, o4, g4⟩))
    go_ret
    rw [E.out] at o4
    exact retB o4 (gb_trans g1 g2).size (gb_trans (gb_trans g1 g2) g4) rfl
  · rw [shaM, if_neg (by have := L.out; omega)]
    have i1 : ((1048576 : Int) < (n : Int)) := by omega
    go_enter Tryz.func92, Tryz.ntmps92
    go_wp2
    go_ret
    exact ⟨_, _, _, rfl, Ow.nil _ _ _, gb_refl _⟩
end Go.Proofs.YtpfchphgbhgmmaaGreat
