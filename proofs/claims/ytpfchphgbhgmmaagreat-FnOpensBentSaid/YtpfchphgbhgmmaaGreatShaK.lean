/-
  Contracts of the compression. Conditions: none beside those that each theorem names.
-/
import Derived.Test.YtpfchphgbhgmmaaGreatShaC
import Derived.Deep.RegionHeld3
namespace Go.Proofs.YtpfchphgbhgmmaaGreat
open Go.RowKit
theorem sum_lt {a b c d e : Nat} (ha : a < 4294967296) (hb : b < 4294967296) (hc : c < 4294967296) (hd : d < 4294967296) (he : e < 4294967296) : a + b + c + d + e < 9223372032559808512 := by omega
/-- a copy of words at an address of its own -/
theorem word8 {h : List Nat} {w : World} {b off : Nat} (hc : ∀ j, j < 8 → w.cell? ⟨b, off + j, none⟩ = (wds h)[j]?) (hl : h.length = 8) (j : Nat) (hj : j < 8) : w.cell? ⟨b, off + j, none⟩ = some (.int .i64 ((h.getD j 0 : Nat) : Int)) := by
  rw [hc j hj, wds_at h j (h.getD j 0) (by simp [List.getD, show j < h.length by omega])]
set_option maxRecDepth 1000000 in
set_option maxHeartbeats 16000000 in
theorem impl_Compress (a : Option Addr) (n c : Nat) (h : List Nat) (b : Option Addr) (m d : Nat) (l : List UInt8) (w : World) (r1 : Rd w a n c (wds h)) (r2 : Rd w b m d (bys l)) (hn : n = 8) (hm : m = 64) (hW : W32 h) :
    Calls Tryz.prog 113 #[.slice a n c, .slice b m d] w fun e w' => ∃ a' c', e = .returned (.slice a' 8 c') ∧ Ow w.heap.size w' 3 a' 8 c' (wds (compM h l)) ∧ w.grownBy w' none := by
  subst hn
  subst hm
  have hl := r1.wlen
  obtain ⟨pb, off, rfl, -, hc⟩ := r1.pos (by omega)
  have A := Lib.hid (areWs_wds hW 8)
  rw [hl] at A
  have g0 := gb_alloc (gb_refl w) (.cells #[] 3)
  have W := Lib.hid hW
  clear hW
  have pl : pb < w.heap.size := cell_lt (p := ⟨pb, off + 0, none⟩) ((hc 0 (by omega)).trans (wds_at h 0 (h.getD 0 0) (by simp [List.getD, show 0 < h.length by omega])))
  go_enter Tryz.func113, Tryz.ntmps113
  go_wp2_with (first
    | (refine wpList_appW rfl (.tmp 22) (.tmp 23) rfl w.heap.size _ _ _ [] rfl (new_own _ _) _ 8 c (wds h) rfl (r1.keep0 g0) (wds_one h) (by omega) (by simp) ?_; intro a2 c2 w2 o2 g2; have G2 := gb_app g0 (new_own _ _) (Nat.le_refl _) g2)
    | (go_at_call 67; refine (impl_areWs _ _ _ (h.map fun x : Nat => (x : Int)) 8 _ (r1.keep0 G2) (by omega)).mono ?_; rw [A.out]; rintro e w3 ⟨rfl, rfl⟩)
    | (go_at_call 115; refine (impl_Schedule _ _ _ _ _ (r2.keep0 G2) rfl).mono ?_; rintro e w4 ⟨a4, c4, rfl, o4, g4⟩))
  have G4 := gb_trans G2 g4
  obtain ⟨q4, rfl⟩ := o4.head (by omega)
  obtain ⟨q2, rfl⟩ := o2.head (by omega)
  rw [List.nil_append, Nat.zero_add] at o2
  have hcw : ∀ j, j < 8 → w4.cell? ⟨pb, off + j, none⟩ = (wds h)[j]? := fun j hj => ((gb_cells G4).1 pb (off + j) pl).trans (hc j hj)
  obtain ⟨s0, hs0⟩ : ∃ s, s = st0 h := ⟨_, rfl⟩
  have S0ok : s0.ok := by rw [hs0]; exact st0_ok W.out
  have v0 : w4.cell? ⟨pb, off, none⟩ = some (.int .i64 (s0.a : Int)) := by rw [hs0]; exact word8 hcw hl 0 (by omega)
  have v1 : w4.cell? ⟨pb, off + 1, none⟩ = some (.int .i64 (s0.b : Int)) := by rw [hs0]; exact word8 hcw hl 1 (by omega)
  have v2 : w4.cell? ⟨pb, off + 2, none⟩ = some (.int .i64 (s0.c : Int)) := by rw [hs0]; exact word8 hcw hl 2 (by omega)
  have v3 : w4.cell? ⟨pb, off + 3, none⟩ = some (.int .i64 (s0.d : Int)) := by rw [hs0]; exact word8 hcw hl 3 (by omega)
  have v4 : w4.cell? ⟨pb, off + 4, none⟩ = some (.int .i64 (s0.e : Int)) := by rw [hs0]; exact word8 hcw hl 4 (by omega)
  have v5 : w4.cell? ⟨pb, off + 5, none⟩ = some (.int .i64 (s0.f : Int)) := by rw [hs0]; exact word8 hcw hl 5 (by omega)
  have v6 : w4.cell? ⟨pb, off + 6, none⟩ = some (.int .i64 (s0.g : Int)) := by rw [hs0]; exact word8 hcw hl 6 (by omega)
  have v7 : w4.cell? ⟨pb, off + 7, none⟩ = some (.int .i64 (s0.h : Int)) := by rw [hs0]; exact word8 hcw hl 7 (by omega)
  have HS0 := Lib.hid hs0
  clear hs0 hcw
  have O4 := Lib.hid o4
  have O2 := Lib.hid (o2.keep0 g4)
  have GG4 := Lib.hid G4
  have HC := Lib.hid hc
  clear G2 g2 g4 G4 o4 o2 hc
  go_quiet (fail)
  clear v0 v1 v2 v3 v4 v5 v6 v7
  go_wp2
  go_loopw [7, 8, 9, 10, 11, 12, 13, 14, 15] (fun xa xb xc xd xe xf xg xh xi wr => ∃ (j : Nat) (s : St), j ≤ 64 ∧ xi = .int .i64 (j : Int) ∧ Hid (s = rounds (schedL l 64) j s0) ∧ s.ok ∧ xa = .int .i64 (s.a : Int) ∧ xb = .int .i64 (s.b : Int) ∧ xc = .int .i64 (s.c : Int) ∧ xd = .int .i64 (s.d : Int) ∧ xe = .int .i64 (s.e : Int) ∧ xf = .int .i64 (s.f : Int) ∧ xg = .int .i64 (s.g : Int) ∧ xh = .int .i64 (s.h : Int) ∧ w4.grownBy wr none) (fun _ _ _ _ _ _ _ _ xi _ => 64 - (intOf xi).toNat)
  case atStart => exact ⟨0, s0, by omega, rfl, rfl, S0ok, rfl, rfl, rfl, rfl, rfl, rfl, rfl, rfl, gb_drewN (gb_refl _) _⟩
  case round =>
    obtain ⟨j, s, hj, rfl, hs, hok, rfl, rfl, rfl, rfl, rfl, rfl, rfl, rfl, hg⟩ := hrel
    by_cases hlt : j < 64
    · obtain ⟨a, b, c, d, e, f, g, z⟩ := s
      obtain ⟨Ba, Bb, Bc, Bd, Be, Bf, Bg, Bz⟩ := hok
      simp only at Ba Bb Bc Bd Be Bf Bg Bz
      obtain ⟨n1, hn1⟩ : ∃ x, x = e &&& f := ⟨_, rfl⟩
      obtain ⟨n2, hn2⟩ : ∃ x, x = 4294967295 ^^^ e := ⟨_, rfl⟩
      obtain ⟨n3, hn3⟩ : ∃ x, x = n2 &&& g := ⟨_, rfl⟩
      obtain ⟨ch, hch⟩ : ∃ x, x = chN e f g := ⟨_, rfl⟩
      obtain ⟨m1, hm1⟩ : ∃ x, x = a &&& b := ⟨_, rfl⟩
      obtain ⟨m2, hm2⟩ : ∃ x, x = a &&& c := ⟨_, rfl⟩
      obtain ⟨m3, hm3⟩ : ∃ x, x = m1 ^^^ m2 := ⟨_, rfl⟩
      obtain ⟨m4, hm4⟩ : ∃ x, x = b &&& c := ⟨_, rfl⟩
      obtain ⟨mj, hmj⟩ : ∃ x, x = majN a b c := ⟨_, rfl⟩
      have N1 : n1 < 4294967296 := by rw [hn1]; exact and_lt32 Be
      have N2 : n2 < 4294967296 := by rw [hn2]; exact xor_lt32 (by decide) Be
      have N3 : n3 < 4294967296 := by rw [hn3]; exact and_lt32 N2
      have NC : ch < 4294967296 := by rw [hch]; exact chN_lt Be Bg
      have M1 : m1 < 4294967296 := by rw [hm1]; exact and_lt32 Ba
      have M2 : m2 < 4294967296 := by rw [hm2]; exact and_lt32 Ba
      have M3 : m3 < 4294967296 := by rw [hm3]; exact xor_lt32 M1 M2
      have M4 : m4 < 4294967296 := by rw [hm4]; exact and_lt32 Bb
      have MJ : mj < 4294967296 := by rw [hmj]; exact majN_lt Ba Bb
      have En1 : bits .and .i64 (e : Int) (f : Int) = (n1 : Int) := by rw [hn1]; exact rot_a Be Bf
      have En2 : bits .xor .i64 4294967295 (e : Int) = (n2 : Int) := by rw [hn2]; exact rot_x (a := 4294967295) (by decide) Be
      have En4 : bits .xor .i64 (e : Int) 4294967295 = (n2 : Int) := by rw [hn2, Nat.xor_comm]; exact rot_x (b := 4294967295) Be (by decide)
      have En3 : bits .and .i64 (n2 : Int) (g : Int) = (n3 : Int) := by rw [hn3]; exact rot_a N2 Bg
      have Ech : bits .xor .i64 (n1 : Int) (n3 : Int) = (ch : Int) := by rw [rot_x N1 N3, hch, hn1, hn3, hn2]; rfl
      have Em1 : bits .and .i64 (a : Int) (b : Int) = (m1 : Int) := by rw [hm1]; exact rot_a Ba Bb
      have Em2 : bits .and .i64 (a : Int) (c : Int) = (m2 : Int) := by rw [hm2]; exact rot_a Ba Bc
      have Em3 : bits .xor .i64 (m1 : Int) (m2 : Int) = (m3 : Int) := by rw [hm3]; exact rot_x M1 M2
      have Em4 : bits .and .i64 (b : Int) (c : Int) = (m4 : Int) := by rw [hm4]; exact rot_a Bb Bc
      have Emj : bits .xor .i64 (m3 : Int) (m4 : Int) = (mj : Int) := by rw [rot_x M3 M4, hmj, hm3, hm4, hm1, hm2]; rfl
      have HCH := Lib.hid hch
      have HMJ := Lib.hid hmj
      clear hn1 hn2 hn3 hch hm1 hm2 hm3 hm4 hmj
      obtain ⟨kj, hkj⟩ : ∃ x, x = kL.getD j 0 := ⟨_, rfl⟩
      obtain ⟨wj, hwj⟩ : ∃ x, x = (schedL l 64).getD j 0 := ⟨_, rfl⟩
      have KJ : kj < 4294967296 := by rw [hkj]; exact kL_W.at j
      have WJ : wj < 4294967296 := by rw [hwj]; exact (schedL_W l 64).at j
      have HKJ := Lib.hid hkj
      have HWJ := Lib.hid hwj
      clear hkj hwj
      obtain ⟨p1, hp1⟩ : ∃ p, p = rotN e 6 := ⟨_, rfl⟩
      obtain ⟨q1, hq1⟩ : ∃ q, q = rotN e 11 := ⟨_, rfl⟩
      obtain ⟨r1, hr1⟩ : ∃ r, r = rotN e 25 := ⟨_, rfl⟩
      obtain ⟨z1, hz1⟩ : ∃ z, z = p1 ^^^ q1 := ⟨_, rfl⟩
      obtain ⟨y1, hy1⟩ : ∃ y, y = S1N e := ⟨_, rfl⟩
      have P1 := rotN_lt e 6
      have Q1 := rotN_lt e 11
      have R1 := rotN_lt e 25
      rw [← hp1] at P1
      rw [← hq1] at Q1
      rw [← hr1] at R1
      have Z1 : z1 < 4294967296 := by rw [hz1]; exact xor_lt32 P1 Q1
      have Y1 : y1 < 4294967296 := by rw [hy1]; exact S1N_lt _
      have X1 : bits .xor .i64 (p1 : Int) (q1 : Int) = (z1 : Int) := by rw [hz1]; exact rot_x P1 Q1
      have V1 : bits .xor .i64 (z1 : Int) (r1 : Int) = (y1 : Int) := by
        rw [rot_x Z1 R1, hy1, hz1, hp1, hq1, hr1]
        rfl
      have Cp1 := Lib.hid (show ∀ w, Calls Tryz.prog 116 #[.int .i64 (e : Int), .int .i64 6] w fun e w' => e = .returned (.int .i64 (p1 : Int)) ∧ w.grownBy w' none from fun w => by rw [hp1]; exact impl_Rot _ 6 w Be (by omega) (by omega))
      have Cq1 := Lib.hid (show ∀ w, Calls Tryz.prog 116 #[.int .i64 (e : Int), .int .i64 11] w fun e w' => e = .returned (.int .i64 (q1 : Int)) ∧ w.grownBy w' none from fun w => by rw [hq1]; exact impl_Rot _ 11 w Be (by omega) (by omega))
      have Cr1 := Lib.hid (show ∀ w, Calls Tryz.prog 116 #[.int .i64 (e : Int), .int .i64 25] w fun e w' => e = .returned (.int .i64 (r1 : Int)) ∧ w.grownBy w' none from fun w => by rw [hr1]; exact impl_Rot _ 25 w Be (by omega) (by omega))
      have HY1 := Lib.hid hy1
      clear hp1 hq1 hr1 hz1 hy1
      obtain ⟨p2, hp2⟩ : ∃ p, p = rotN a 2 := ⟨_, rfl⟩
      obtain ⟨q2, hq2⟩ : ∃ q, q = rotN a 13 := ⟨_, rfl⟩
      obtain ⟨r2, hr2⟩ : ∃ r, r = rotN a 22 := ⟨_, rfl⟩
      obtain ⟨z2, hz2⟩ : ∃ z, z = p2 ^^^ q2 := ⟨_, rfl⟩
      obtain ⟨y2, hy2⟩ : ∃ y, y = S0N a := ⟨_, rfl⟩
      have P2 := rotN_lt a 2
      have Q2 := rotN_lt a 13
      have R2 := rotN_lt a 22
      rw [← hp2] at P2
      rw [← hq2] at Q2
      rw [← hr2] at R2
      have Z2 : z2 < 4294967296 := by rw [hz2]; exact xor_lt32 P2 Q2
      have Y2 : y2 < 4294967296 := by rw [hy2]; exact S0N_lt _
      have X2 : bits .xor .i64 (p2 : Int) (q2 : Int) = (z2 : Int) := by rw [hz2]; exact rot_x P2 Q2
      have V2 : bits .xor .i64 (z2 : Int) (r2 : Int) = (y2 : Int) := by
        rw [rot_x Z2 R2, hy2, hz2, hp2, hq2, hr2]
        rfl
      have Cp2 := Lib.hid (show ∀ w, Calls Tryz.prog 116 #[.int .i64 (a : Int), .int .i64 2] w fun e w' => e = .returned (.int .i64 (p2 : Int)) ∧ w.grownBy w' none from fun w => by rw [hp2]; exact impl_Rot _ 2 w Ba (by omega) (by omega))
      have Cq2 := Lib.hid (show ∀ w, Calls Tryz.prog 116 #[.int .i64 (a : Int), .int .i64 13] w fun e w' => e = .returned (.int .i64 (q2 : Int)) ∧ w.grownBy w' none from fun w => by rw [hq2]; exact impl_Rot _ 13 w Ba (by omega) (by omega))
      have Cr2 := Lib.hid (show ∀ w, Calls Tryz.prog 116 #[.int .i64 (a : Int), .int .i64 22] w fun e w' => e = .returned (.int .i64 (r2 : Int)) ∧ w.grownBy w' none from fun w => by rw [hr2]; exact impl_Rot _ 22 w Ba (by omega) (by omega))
      have HY2 := Lib.hid hy2
      clear hp2 hq2 hr2 hz2 hy2
      obtain ⟨T, hT⟩ : ∃ T, T = z + y1 + ch + kj + wj := ⟨_, rfl⟩
      obtain ⟨U, hU⟩ : ∃ U, U = y2 + mj := ⟨_, rfl⟩
      obtain ⟨ne, hne⟩ : ∃ x, x = (d + T) % 4294967296 := ⟨_, rfl⟩
      obtain ⟨na, hna⟩ : ∃ x, x = (T + U) % 4294967296 := ⟨_, rfl⟩
      have ET : (z : Int) + (y1 : Int) + (ch : Int) + (kj : Int) + (wj : Int) = (T : Int) := by omega
      have EU : (y2 : Int) + (mj : Int) = (U : Int) := by omega
      have BT : T < 40000000000 := by omega
      have BU : U < 40000000000 := by omega
      have CK := Lib.hid (show ∀ w, Calls Tryz.prog 117 #[.int .i64 (j : Int)] w fun e w' => e = .returned (.int .i64 (kj : Int)) ∧ w.grownBy w' none from fun w => by rw [HKJ.out]; exact impl_RoundWord j w hlt)
      have CE := Lib.hid (show ∀ w, Calls Tryz.prog 118 #[.int .i64 (d : Int), .int .i64 (T : Int)] w fun e w' => e = .returned (.int .i64 (ne : Int)) ∧ w = w' from fun w => by rw [hne]; exact impl_Add32 _ _ w (by omega))
      have CA := Lib.hid (show ∀ w, Calls Tryz.prog 118 #[.int .i64 (T : Int), .int .i64 (U : Int)] w fun e w' => e = .returned (.int .i64 (na : Int)) ∧ w = w' from fun w => by rw [hna]; exact impl_Add32 _ _ w (by omega))
      have L1 : IntKind.i64.wrap ((z : Int) + (y1 : Int)) = (z : Int) + (y1 : Int) := wraps_i64 _ (by omega) (by omega)
      have L2 : IntKind.i64.wrap ((z : Int) + (y1 : Int) + (ch : Int)) = (z : Int) + (y1 : Int) + (ch : Int) := wraps_i64 _ (by omega) (by omega)
      have L3 : IntKind.i64.wrap ((z : Int) + (y1 : Int) + (ch : Int) + (kj : Int)) = (z : Int) + (y1 : Int) + (ch : Int) + (kj : Int) := wraps_i64 _ (by omega) (by omega)
      have L4 : IntKind.i64.wrap (T : Int) = (T : Int) := wraps_i64 _ (by omega) (by omega)
      have L5 : IntKind.i64.wrap (U : Int) = (U : Int) := wraps_i64 _ (by omega) (by omega)
      have HR := Lib.hid (show rounds (schedL l 64) (j + 1) s0 = ⟨na, a, b, c, ne, e, f, g⟩ by
        have h9 := hs.out
        rw [rounds, ← h9, ← HKJ.out, ← HWJ.out, hna, hne, hT, hU, HY1.out, HY2.out, HCH.out, HMJ.out]
        rfl)
      have BNE : ne < 4294967296 := by rw [hne]; exact Nat.mod_lt _ (by decide)
      have BNA : na < 4294967296 := by rw [hna]; exact Nat.mod_lt _ (by decide)
      have OK := Lib.hid (St.ok.mk (s := ⟨na, a, b, c, ne, e, f, g⟩) BNA Ba Bb Bc BNE Be Bf Bg)
      clear hT hU hne hna HKJ hs HY1 HY2 HCH HMJ
      have lt4 := (O4.out.lt _ rfl).2
      have KX : Hid (∀ w', wr.grownBy w' none → (w'.cell? ⟨q4, j, none⟩ = some (.int .i64 (wj : Int)) ∧ wr.grownBy w' none)) := fun w' hg' => ⟨by
        obtain ⟨-, u, hu, hx⟩ := O4.out.at j hlt
        rw [(gb_cells (gb_trans hg hg')).1 q4 j lt4, hu, ← hx, schedL_at l hlt, HWJ.out], hg'⟩
      have Lj : (j : Int) < 64 := by omega
      have Lk : 0 ≤ (j : Int) := Int.natCast_nonneg _
      go_wp2
      go_region_held3 (fun w' => w'.cell? ⟨q4, j, none⟩ = some (.int .i64 (wj : Int)) ∧ wr.grownBy w' none)
        ((refine KX.out _ ?_; (repeat (first | with_reducible exact gb_refl _ | with_reducible refine gb_alloc ?_ _ | with_reducible refine gb_drewN ?_ _ | with_reducible refine gb_drew ?_ | with_reducible refine gb_trans ?_ g2 | with_reducible refine gb_trans ?_ g3 | with_reducible refine gb_trans ?_ g5 | with_reducible refine gb_trans ?_ g6))))
        (first
          | (go_at_call 116; (with_reducible refine (Cp1.out _).mono ?_); rintro e w2 ⟨rfl, g2⟩)
          | (go_at_call 116; (with_reducible refine (Cq1.out _).mono ?_); rintro e w3 ⟨rfl, g3⟩)
          | (go_at_call 116; (with_reducible refine (Cr1.out _).mono ?_); rintro e w5 ⟨rfl, g5⟩)
          | (go_at_call 117; (with_reducible refine (CK.out _).mono ?_); rintro e w6 ⟨rfl, g6⟩)
          | fail)
      go_wp2_with (first
          | (go_at_call 116; (with_reducible refine (Cp2.out _).mono ?_); rintro e w7 ⟨rfl, g7⟩)
          | (go_at_call 116; (with_reducible refine (Cq2.out _).mono ?_); rintro e w8 ⟨rfl, g8⟩)
          | (go_at_call 116; (with_reducible refine (Cr2.out _).mono ?_); rintro e w9 ⟨rfl, g9⟩)
          | (go_at_call 118; (with_reducible refine (CE.out _).mono ?_); rintro e w10 ⟨rfl, rfl⟩)
          | (go_at_call 118; (with_reducible refine (CA.out _).mono ?_); rintro e w10 ⟨rfl, rfl⟩))
      refine ⟨⟨j + 1, ⟨na, a, b, c, ne, e, f, g⟩, by omega, by go_num, HR.out.symm, OK.out, rfl, rfl, rfl, rfl, rfl, rfl, rfl, rfl, gb_trans hg (by (repeat (first | with_reducible exact gb_refl _ | with_reducible refine gb_alloc ?_ _ | with_reducible refine gb_drewN ?_ _ | with_reducible refine gb_drew ?_ | with_reducible refine gb_trans ?_ g2 | with_reducible refine gb_trans ?_ g3 | with_reducible refine gb_trans ?_ g5 | with_reducible refine gb_trans ?_ g6 | with_reducible refine gb_trans ?_ g7 | with_reducible refine gb_trans ?_ g8 | with_reducible refine gb_trans ?_ g9)))⟩, by simp [intOf]; omega⟩
    · obtain rfl : j = 64 := by omega
      have HL := Lib.hid (show addL h s = compM h l by rw [compM, ← HS0.out, ← hs.out])
      have SW : W32 s.list := by
        intro x hx
        obtain ⟨Ba, Bb, Bc, Bd, Be, Bf, Bg, Bz⟩ := hok
        simp only [St.list, List.mem_cons, List.not_mem_nil, or_false] at hx
        rcases hx with rfl | rfl | rfl | rfl | rfl | rfl | rfl | rfl <;> assumption
      have HSW := Lib.hid SW
      have G0 := Lib.hid (gb_trans GG4.out hg)
      have OX := Lib.hid (O2.out.keep0 hg)
      obtain ⟨X, hX⟩ : ∃ X, X = wr.heap.size := ⟨_, rfl⟩
      have qX : q2 < X := by rw [hX]; exact (OX.out.lt _ rfl).2
      have RX := Lib.hid (show Rd (wr.alloc (.cells #[.int .i64 (s.a : Int), .int .i64 (s.b : Int), .int .i64 (s.c : Int), .int .i64 (s.d : Int), .int .i64 (s.e : Int), .int .i64 (s.f : Int), .int .i64 (s.g : Int), .int .i64 (s.h : Int)] 3)) (some ⟨wr.heap.size, 0, none⟩) 8 8 (wds s.list) from new_rd _ _ _ 8 rfl)
      clear hg SW hok hs O4 O2 GG4
      go_wp2
      rw [← hX] at *
      clear hX
      go_loopw [135] (fun xi wr => ∃ j : Nat, j ≤ 8 ∧ xi = .int .i64 (j : Int) ∧ Ow w.heap.size wr 3 (some ⟨q2, 0, none⟩) 8 c2 (wds ((addL h s).take j ++ h.drop j)) ∧ Rd wr (some ⟨X, 0, none⟩) 8 8 (wds s.list) ∧ w.grownBy wr none) (fun xi _ => 8 - (intOf xi).toNat)
      case atStart => exact ⟨0, by omega, rfl, OX.out.keep0 (gb_alloc (gb_refl _) _), RX.out, gb_alloc G0.out _⟩
      case round =>
        obtain ⟨j, hj, rfl, ho, hr, hg⟩ := hrel
        by_cases hlt : j < 8
        · obtain ⟨x, hx⟩ : ∃ x, x = h.getD j 0 := ⟨_, rfl⟩
          obtain ⟨y, hy⟩ : ∃ y, y = s.list.getD j 0 := ⟨_, rfl⟩
          have Bx : x < 4294967296 := by rw [hx]; exact W.out.at j
          have By : y < 4294967296 := by rw [hy]; exact HSW.out.at j
          have v1 : wr.cell? ⟨pb, off + j, none⟩ = some (.int .i64 (x : Int)) := by rw [hx]; exact word8 (fun k hk => ((gb_cells hg).1 pb (off + k) pl).trans (HC.out k hk)) hl j hlt
          obtain ⟨b9, off9, h9, v2⟩ := hr.word j hlt
          obtain ⟨rfl, rfl⟩ : b9 = X ∧ off9 = 0 := by simp at h9; exact ⟨h9.1.symm, h9.2.symm⟩
          rw [← hy, Nat.zero_add] at v2
          have lt := (ho.lt _ rfl).2
          obtain ⟨hf, u, hc, -⟩ := ho.at j hlt
          obtain ⟨v, hv⟩ : ∃ v, v = (x + y) % 4294967296 := ⟨_, rfl⟩
          have CA := Lib.hid (show ∀ w, Calls Tryz.prog 118 #[.int .i64 (x : Int), .int .i64 (y : Int)] w fun e w' => e = .returned (.int .i64 (v : Int)) ∧ w = w' from fun w => by rw [hv]; exact impl_Add32 _ _ w (by omega))
          have HV := Lib.hid (show v = (h.getD j 0 + s.list.getD j 0) % 4294967296 by rw [hv, hx, hy])
          clear hx hy hv h9
          go_wp2_with (go_at_call 118; (with_reducible refine (CA.out _).mono ?_); rintro e w10 ⟨rfl, rfl⟩)
          refine ⟨?_, ?measure⟩
          (repeat apply Exists.intro)
          refine ⟨?rel, rfl⟩
          case rel =>
            refine ⟨j + 1, by omega, by go_num, ?_, ?_, ?_⟩
            · have h9 := ho.set j (.int .i64 (v : Int))
              rw [HV.out, add_set hl hlt] at h9
              rw [HV.out]
              exact h9
            · exact hr.keepSet (fun p hp => by cases hp; exact Nat.ne_of_gt qX) _
            · exact gb_set hg (.inl (show w.heap.size ≤ q2 from (ho.lt _ rfl).1)) _
          case measure => simp [intOf]; omega
        · obtain rfl : j = 8 := by omega
          go_wp2
          go_ret
          refine ⟨_, _, rfl, ?_, hg⟩
          rw [← HL.out]
          rw [List.take_of_length_le (by rw [addL, List.length_zipWith, hl]; simp [St.list]), List.drop_of_length_le (by omega), List.append_nil] at ho
          exact ho
set_option maxRecDepth 1000000 in
set_option maxHeartbeats 16000000 in
theorem spec_Compress (a : Option Addr) (n c : Nat) (h : List Nat) (b : Option Addr) (m d : Nat) (l : List UInt8) (w : World) (r1 : Rd w a n c (wds h)) (r2 : Rd w b m d (bys l)) (hn : n = 8) (hm : m = 64) (hW : W32 h) :
    Calls Tryz.prog 102 #[.slice a n c, .slice b m d] w fun e w' => ∃ a' c', e = .returned (.slice a' 8 c') ∧ Ow w.heap.size w' 3 a' 8 c' (wds (compM h l)) ∧ w.grownBy w' none := by
  subst hn
  subst hm
  have hl := r1.wlen
  obtain ⟨pb, off, rfl, -, hc⟩ := r1.pos (by omega)
  have A := Lib.hid (areWs_wds hW 8)
  rw [hl] at A
  have g0 := gb_alloc (gb_refl w) (.cells #[] 3)
  have W := Lib.hid hW
  clear hW
  have pl : pb < w.heap.size := cell_lt (p := ⟨pb, off + 0, none⟩) ((hc 0 (by omega)).trans (wds_at h 0 (h.getD 0 0) (by simp [List.getD, show 0 < h.length by omega])))
  go_enter Tryz.func102, Tryz.ntmps102
  go_wp2_with (first
    | (refine wpList_appW rfl (.tmp 21) (.tmp 22) rfl w.heap.size _ _ _ [] rfl (new_own _ _) _ 8 c (wds h) rfl (r1.keep0 g0) (wds_one h) (by omega) (by simp) ?_; intro a2 c2 w2 o2 g2; have G2 := gb_app g0 (new_own _ _) (Nat.le_refl _) g2)
    | (go_at_call 109; refine (spec_l2Words _ _ _ (h.map fun x : Nat => (x : Int)) _ (r1.keep0 G2) (by omega)).mono ?_; rw [A.out]; rintro e w3 ⟨rfl, rfl⟩)
    | (go_at_call 110; refine (spec_l2K _).mono ?_; rintro e wk ⟨ak, ck, rfl, ok, gk⟩; have Gk := gb_trans G2 gk)
    | (go_at_call 111; refine (spec_Schedule _ _ _ _ _ (r2.keep0 Gk) rfl).mono ?_; rintro e w4 ⟨a4, c4, rfl, o4, g4⟩))
  have G4 := gb_trans Gk g4
  obtain ⟨qk, rfl⟩ := ok.head (by omega)
  have OKK := Lib.hid (ok.keep0 g4)
  obtain ⟨q4, rfl⟩ := o4.head (by omega)
  obtain ⟨q2, rfl⟩ := o2.head (by omega)
  rw [List.nil_append, Nat.zero_add] at o2
  have hcw : ∀ j, j < 8 → w4.cell? ⟨pb, off + j, none⟩ = (wds h)[j]? := fun j hj => ((gb_cells G4).1 pb (off + j) pl).trans (hc j hj)
  obtain ⟨s0, hs0⟩ : ∃ s, s = st0 h := ⟨_, rfl⟩
  have S0ok : s0.ok := by rw [hs0]; exact st0_ok W.out
  have v0 : w4.cell? ⟨pb, off, none⟩ = some (.int .i64 (s0.a : Int)) := by rw [hs0]; exact word8 hcw hl 0 (by omega)
  have v1 : w4.cell? ⟨pb, off + 1, none⟩ = some (.int .i64 (s0.b : Int)) := by rw [hs0]; exact word8 hcw hl 1 (by omega)
  have v2 : w4.cell? ⟨pb, off + 2, none⟩ = some (.int .i64 (s0.c : Int)) := by rw [hs0]; exact word8 hcw hl 2 (by omega)
  have v3 : w4.cell? ⟨pb, off + 3, none⟩ = some (.int .i64 (s0.d : Int)) := by rw [hs0]; exact word8 hcw hl 3 (by omega)
  have v4 : w4.cell? ⟨pb, off + 4, none⟩ = some (.int .i64 (s0.e : Int)) := by rw [hs0]; exact word8 hcw hl 4 (by omega)
  have v5 : w4.cell? ⟨pb, off + 5, none⟩ = some (.int .i64 (s0.f : Int)) := by rw [hs0]; exact word8 hcw hl 5 (by omega)
  have v6 : w4.cell? ⟨pb, off + 6, none⟩ = some (.int .i64 (s0.g : Int)) := by rw [hs0]; exact word8 hcw hl 6 (by omega)
  have v7 : w4.cell? ⟨pb, off + 7, none⟩ = some (.int .i64 (s0.h : Int)) := by rw [hs0]; exact word8 hcw hl 7 (by omega)
  have HS0 := Lib.hid hs0
  clear hs0 hcw
  have O4 := Lib.hid o4
  have O2 := Lib.hid ((o2.keep0 gk).keep0 g4)
  have GG4 := Lib.hid G4
  have HC := Lib.hid hc
  clear G2 g2 g4 G4 o4 o2 hc gk Gk ok
  go_quiet (fail)
  clear v0 v1 v2 v3 v4 v5 v6 v7
  go_wp2
  go_loopw [8, 9, 10, 11, 12, 13, 14, 15, 16] (fun xa xb xc xd xe xf xg xh xi wr => ∃ (j : Nat) (s : St), j ≤ 64 ∧ xi = .int .i64 (j : Int) ∧ Hid (s = rounds (schedL l 64) j s0) ∧ s.ok ∧ xa = .int .i64 (s.a : Int) ∧ xb = .int .i64 (s.b : Int) ∧ xc = .int .i64 (s.c : Int) ∧ xd = .int .i64 (s.d : Int) ∧ xe = .int .i64 (s.e : Int) ∧ xf = .int .i64 (s.f : Int) ∧ xg = .int .i64 (s.g : Int) ∧ xh = .int .i64 (s.h : Int) ∧ w4.grownBy wr none) (fun _ _ _ _ _ _ _ _ xi _ => 64 - (intOf xi).toNat)
  case atStart => exact ⟨0, s0, by omega, rfl, rfl, S0ok, rfl, rfl, rfl, rfl, rfl, rfl, rfl, rfl, gb_drewN (gb_refl _) _⟩
  case round =>
    obtain ⟨j, s, hj, rfl, hs, hok, rfl, rfl, rfl, rfl, rfl, rfl, rfl, rfl, hg⟩ := hrel
    by_cases hlt : j < 64
    · obtain ⟨a, b, c, d, e, f, g, z⟩ := s
      obtain ⟨Ba, Bb, Bc, Bd, Be, Bf, Bg, Bz⟩ := hok
      simp only at Ba Bb Bc Bd Be Bf Bg Bz
      obtain ⟨n1, hn1⟩ : ∃ x, x = e &&& f := ⟨_, rfl⟩
      obtain ⟨n2, hn2⟩ : ∃ x, x = 4294967295 ^^^ e := ⟨_, rfl⟩
      obtain ⟨n3, hn3⟩ : ∃ x, x = n2 &&& g := ⟨_, rfl⟩
      obtain ⟨ch, hch⟩ : ∃ x, x = chN e f g := ⟨_, rfl⟩
      obtain ⟨m1, hm1⟩ : ∃ x, x = a &&& b := ⟨_, rfl⟩
      obtain ⟨m2, hm2⟩ : ∃ x, x = a &&& c := ⟨_, rfl⟩
      obtain ⟨m3, hm3⟩ : ∃ x, x = m1 ^^^ m2 := ⟨_, rfl⟩
      obtain ⟨m4, hm4⟩ : ∃ x, x = b &&& c := ⟨_, rfl⟩
      obtain ⟨mj, hmj⟩ : ∃ x, x = majN a b c := ⟨_, rfl⟩
      have N1 : n1 < 4294967296 := by rw [hn1]; exact and_lt32 Be
      have N2 : n2 < 4294967296 := by rw [hn2]; exact xor_lt32 (by decide) Be
      have N3 : n3 < 4294967296 := by rw [hn3]; exact and_lt32 N2
      have NC : ch < 4294967296 := by rw [hch]; exact chN_lt Be Bg
      have M1 : m1 < 4294967296 := by rw [hm1]; exact and_lt32 Ba
      have M2 : m2 < 4294967296 := by rw [hm2]; exact and_lt32 Ba
      have M3 : m3 < 4294967296 := by rw [hm3]; exact xor_lt32 M1 M2
      have M4 : m4 < 4294967296 := by rw [hm4]; exact and_lt32 Bb
      have MJ : mj < 4294967296 := by rw [hmj]; exact majN_lt Ba Bb
      have En1 : bits .and .i64 (e : Int) (f : Int) = (n1 : Int) := by rw [hn1]; exact rot_a Be Bf
      have En2 : bits .xor .i64 4294967295 (e : Int) = (n2 : Int) := by rw [hn2]; exact rot_x (a := 4294967295) (by decide) Be
      have En4 : bits .xor .i64 (e : Int) 4294967295 = (n2 : Int) := by rw [hn2, Nat.xor_comm]; exact rot_x (b := 4294967295) Be (by decide)
      have En3 : bits .and .i64 (n2 : Int) (g : Int) = (n3 : Int) := by rw [hn3]; exact rot_a N2 Bg
      have Ech : bits .xor .i64 (n1 : Int) (n3 : Int) = (ch : Int) := by rw [rot_x N1 N3, hch, hn1, hn3, hn2]; rfl
      have Em1 : bits .and .i64 (a : Int) (b : Int) = (m1 : Int) := by rw [hm1]; exact rot_a Ba Bb
      have Em2 : bits .and .i64 (a : Int) (c : Int) = (m2 : Int) := by rw [hm2]; exact rot_a Ba Bc
      have Em3 : bits .xor .i64 (m1 : Int) (m2 : Int) = (m3 : Int) := by rw [hm3]; exact rot_x M1 M2
      have Em4 : bits .and .i64 (b : Int) (c : Int) = (m4 : Int) := by rw [hm4]; exact rot_a Bb Bc
      have Emj : bits .xor .i64 (m3 : Int) (m4 : Int) = (mj : Int) := by rw [rot_x M3 M4, hmj, hm3, hm4, hm1, hm2]; rfl
      have HCH := Lib.hid hch
      have HMJ := Lib.hid hmj
      clear hn1 hn2 hn3 hch hm1 hm2 hm3 hm4 hmj
      obtain ⟨kj, hkj⟩ : ∃ x, x = kL.getD j 0 := ⟨_, rfl⟩
      obtain ⟨wj, hwj⟩ : ∃ x, x = (schedL l 64).getD j 0 := ⟨_, rfl⟩
      have KJ : kj < 4294967296 := by rw [hkj]; exact kL_W.at j
      have WJ : wj < 4294967296 := by rw [hwj]; exact (schedL_W l 64).at j
      have HKJ := Lib.hid hkj
      have HWJ := Lib.hid hwj
      clear hkj hwj
      obtain ⟨p1, hp1⟩ : ∃ p, p = rotN e 6 := ⟨_, rfl⟩
      obtain ⟨q1, hq1⟩ : ∃ q, q = rotN e 11 := ⟨_, rfl⟩
      obtain ⟨r1, hr1⟩ : ∃ r, r = rotN e 25 := ⟨_, rfl⟩
      obtain ⟨z1, hz1⟩ : ∃ z, z = p1 ^^^ q1 := ⟨_, rfl⟩
      obtain ⟨y1, hy1⟩ : ∃ y, y = S1N e := ⟨_, rfl⟩
      have P1 := rotN_lt e 6
      have Q1 := rotN_lt e 11
      have R1 := rotN_lt e 25
      rw [← hp1] at P1
      rw [← hq1] at Q1
      rw [← hr1] at R1
      have Z1 : z1 < 4294967296 := by rw [hz1]; exact xor_lt32 P1 Q1
      have Y1 : y1 < 4294967296 := by rw [hy1]; exact S1N_lt _
      have X1 : bits .xor .i64 (p1 : Int) (q1 : Int) = (z1 : Int) := by rw [hz1]; exact rot_x P1 Q1
      have V1 : bits .xor .i64 (z1 : Int) (r1 : Int) = (y1 : Int) := by
        rw [rot_x Z1 R1, hy1, hz1, hp1, hq1, hr1]
        rfl
      have Cp1 := Lib.hid (show ∀ w, Calls Tryz.prog 112 #[.int .i64 (e : Int), .int .i64 6] w fun e w' => e = .returned (.int .i64 (p1 : Int)) ∧ w.grownBy w' none from fun w => by rw [hp1]; exact spec_Rot _ 6 w Be (by omega) (by omega))
      have Cq1 := Lib.hid (show ∀ w, Calls Tryz.prog 112 #[.int .i64 (e : Int), .int .i64 11] w fun e w' => e = .returned (.int .i64 (q1 : Int)) ∧ w.grownBy w' none from fun w => by rw [hq1]; exact spec_Rot _ 11 w Be (by omega) (by omega))
      have Cr1 := Lib.hid (show ∀ w, Calls Tryz.prog 112 #[.int .i64 (e : Int), .int .i64 25] w fun e w' => e = .returned (.int .i64 (r1 : Int)) ∧ w.grownBy w' none from fun w => by rw [hr1]; exact spec_Rot _ 25 w Be (by omega) (by omega))
      have HY1 := Lib.hid hy1
      clear hp1 hq1 hr1 hz1 hy1
      obtain ⟨p2, hp2⟩ : ∃ p, p = rotN a 2 := ⟨_, rfl⟩
      obtain ⟨q2, hq2⟩ : ∃ q, q = rotN a 13 := ⟨_, rfl⟩
      obtain ⟨r2, hr2⟩ : ∃ r, r = rotN a 22 := ⟨_, rfl⟩
      obtain ⟨z2, hz2⟩ : ∃ z, z = p2 ^^^ q2 := ⟨_, rfl⟩
      obtain ⟨y2, hy2⟩ : ∃ y, y = S0N a := ⟨_, rfl⟩
      have P2 := rotN_lt a 2
      have Q2 := rotN_lt a 13
      have R2 := rotN_lt a 22
      rw [← hp2] at P2
      rw [← hq2] at Q2
      rw [← hr2] at R2
      have Z2 : z2 < 4294967296 := by rw [hz2]; exact xor_lt32 P2 Q2
      have Y2 : y2 < 4294967296 := by rw [hy2]; exact S0N_lt _
      have X2 : bits .xor .i64 (p2 : Int) (q2 : Int) = (z2 : Int) := by rw [hz2]; exact rot_x P2 Q2
      have V2 : bits .xor .i64 (z2 : Int) (r2 : Int) = (y2 : Int) := by
        rw [rot_x Z2 R2, hy2, hz2, hp2, hq2, hr2]
        rfl
      have Cp2 := Lib.hid (show ∀ w, Calls Tryz.prog 112 #[.int .i64 (a : Int), .int .i64 2] w fun e w' => e = .returned (.int .i64 (p2 : Int)) ∧ w.grownBy w' none from fun w => by rw [hp2]; exact spec_Rot _ 2 w Ba (by omega) (by omega))
      have Cq2 := Lib.hid (show ∀ w, Calls Tryz.prog 112 #[.int .i64 (a : Int), .int .i64 13] w fun e w' => e = .returned (.int .i64 (q2 : Int)) ∧ w.grownBy w' none from fun w => by rw [hq2]; exact spec_Rot _ 13 w Ba (by omega) (by omega))
      have Cr2 := Lib.hid (show ∀ w, Calls Tryz.prog 112 #[.int .i64 (a : Int), .int .i64 22] w fun e w' => e = .returned (.int .i64 (r2 : Int)) ∧ w.grownBy w' none from fun w => by rw [hr2]; exact spec_Rot _ 22 w Ba (by omega) (by omega))
      have HY2 := Lib.hid hy2
      clear hp2 hq2 hr2 hz2 hy2
      obtain ⟨T, hT⟩ : ∃ T, T = z + y1 + ch + kj + wj := ⟨_, rfl⟩
      obtain ⟨U, hU⟩ : ∃ U, U = y2 + mj := ⟨_, rfl⟩
      obtain ⟨T2, hT2⟩ : ∃ x, x = T % 4294967296 := ⟨_, rfl⟩
      obtain ⟨U2, hU2⟩ : ∃ x, x = U % 4294967296 := ⟨_, rfl⟩
      obtain ⟨ne, hne⟩ : ∃ x, x = (d + T) % 4294967296 := ⟨_, rfl⟩
      obtain ⟨na, hna⟩ : ∃ x, x = (T + U) % 4294967296 := ⟨_, rfl⟩
      have ET : (z : Int) + (y1 : Int) + (ch : Int) + (kj : Int) + (wj : Int) = (T : Int) := by omega
      have EU : (y2 : Int) + (mj : Int) = (U : Int) := by omega
      have BT : T < 40000000000 := by omega
      have BU : U < 40000000000 := by omega
      have BT2 : T2 < 4294967296 := by omega
      have BU2 : U2 < 4294967296 := by omega
      have MT : bits .and .i64 (T : Int) 4294967295 = (T2 : Int) := by rw [hT2]; exact mask32 T (by omega)
      have MU : bits .and .i64 (U : Int) 4294967295 = (U2 : Int) := by rw [hU2]; exact mask32 U (by omega)
      have ME : bits .and .i64 ((d : Int) + (T2 : Int)) 4294967295 = (ne : Int) := by
        rw [show ((d : Int) + (T2 : Int)) = ((d + T2 : Nat) : Int) by omega, mask32 _ (by omega)]
        congr 1
        omega
      have MA : bits .and .i64 ((T2 : Int) + (U2 : Int)) 4294967295 = (na : Int) := by
        rw [show ((T2 : Int) + (U2 : Int)) = ((T2 + U2 : Nat) : Int) by omega, mask32 _ (by omega)]
        congr 1
        omega
      have L1 : IntKind.i64.wrap ((z : Int) + (y1 : Int)) = (z : Int) + (y1 : Int) := wraps_i64 _ (by omega) (by omega)
      have L2 : IntKind.i64.wrap ((z : Int) + (y1 : Int) + (ch : Int)) = (z : Int) + (y1 : Int) + (ch : Int) := wraps_i64 _ (by omega) (by omega)
      have L3 : IntKind.i64.wrap ((z : Int) + (y1 : Int) + (ch : Int) + (kj : Int)) = (z : Int) + (y1 : Int) + (ch : Int) + (kj : Int) := wraps_i64 _ (by omega) (by omega)
      have L4 : IntKind.i64.wrap (T : Int) = (T : Int) := wraps_i64 _ (by omega) (by omega)
      have L5 : IntKind.i64.wrap (U : Int) = (U : Int) := wraps_i64 _ (by omega) (by omega)
      have HR := Lib.hid (show rounds (schedL l 64) (j + 1) s0 = ⟨na, a, b, c, ne, e, f, g⟩ by
        have h9 := hs.out
        rw [rounds, ← h9, ← HKJ.out, ← HWJ.out, hna, hne, hT, hU, HY1.out, HY2.out, HCH.out, HMJ.out]
        rfl)
      have BNE : ne < 4294967296 := by rw [hne]; exact Nat.mod_lt _ (by decide)
      have BNA : na < 4294967296 := by rw [hna]; exact Nat.mod_lt _ (by decide)
      have OK := Lib.hid (St.ok.mk (s := ⟨na, a, b, c, ne, e, f, g⟩) BNA Ba Bb Bc BNE Be Bf Bg)
      clear hT hU hne hna hT2 hU2 hs HY1 HY2 HCH HMJ
      have lt4 := (O4.out.lt _ rfl).2
      have ltk := (OKK.out.lt _ rfl).2
      have KX : Hid (∀ w', wr.grownBy w' none → (w'.cell? ⟨q4, j, none⟩ = some (.int .i64 (wj : Int)) ∧ w'.cell? ⟨qk, j, none⟩ = some (.int .i64 (kj : Int)) ∧ wr.grownBy w' none)) := fun w' hg' => ⟨by
        obtain ⟨-, u, hu, hx⟩ := O4.out.at j hlt
        rw [(gb_cells (gb_trans hg hg')).1 q4 j lt4, hu, ← hx, schedL_at l hlt, HWJ.out], by
        obtain ⟨-, u, hu, hx⟩ := OKK.out.at j hlt
        rw [(gb_cells (gb_trans hg hg')).1 qk j ltk, hu, ← hx, kL_get hlt, HKJ.out], hg'⟩
      have Lj : (j : Int) < 64 := by omega
      have Lk : 0 ≤ (j : Int) := Int.natCast_nonneg _
      go_wp2
      go_region_held3 (fun w' => w'.cell? ⟨q4, j, none⟩ = some (.int .i64 (wj : Int)) ∧ w'.cell? ⟨qk, j, none⟩ = some (.int .i64 (kj : Int)) ∧ wr.grownBy w' none)
        ((refine KX.out _ ?_; (repeat (first | with_reducible exact gb_refl _ | with_reducible refine gb_alloc ?_ _ | with_reducible refine gb_drewN ?_ _ | with_reducible refine gb_drew ?_ | with_reducible refine gb_trans ?_ g2 | with_reducible refine gb_trans ?_ g3 | with_reducible refine gb_trans ?_ g5))))
        (first
          | (go_at_call 112; (with_reducible refine (Cp1.out _).mono ?_); rintro e w2 ⟨rfl, g2⟩)
          | (go_at_call 112; (with_reducible refine (Cq1.out _).mono ?_); rintro e w3 ⟨rfl, g3⟩)
          | (go_at_call 112; (with_reducible refine (Cr1.out _).mono ?_); rintro e w5 ⟨rfl, g5⟩)
          | fail)
      go_wp2_with (first
          | (go_at_call 112; (with_reducible refine (Cp2.out _).mono ?_); rintro e w7 ⟨rfl, g7⟩)
          | (go_at_call 112; (with_reducible refine (Cq2.out _).mono ?_); rintro e w8 ⟨rfl, g8⟩)
          | (go_at_call 112; (with_reducible refine (Cr2.out _).mono ?_); rintro e w9 ⟨rfl, g9⟩))
      refine ⟨⟨j + 1, ⟨na, a, b, c, ne, e, f, g⟩, by omega, by go_num, HR.out.symm, OK.out, rfl, rfl, rfl, rfl, rfl, rfl, rfl, rfl, gb_trans hg (by (repeat (first | with_reducible exact gb_refl _ | with_reducible refine gb_alloc ?_ _ | with_reducible refine gb_drewN ?_ _ | with_reducible refine gb_drew ?_ | with_reducible refine gb_trans ?_ g2 | with_reducible refine gb_trans ?_ g3 | with_reducible refine gb_trans ?_ g5 | with_reducible refine gb_trans ?_ g7 | with_reducible refine gb_trans ?_ g8 | with_reducible refine gb_trans ?_ g9)))⟩, by simp [intOf]; omega⟩
    · obtain rfl : j = 64 := by omega
      have HL := Lib.hid (show addL h s = compM h l by rw [compM, ← HS0.out, ← hs.out])
      have SW : W32 s.list := by
        intro x hx
        obtain ⟨Ba, Bb, Bc, Bd, Be, Bf, Bg, Bz⟩ := hok
        simp only [St.list, List.mem_cons, List.not_mem_nil, or_false] at hx
        rcases hx with rfl | rfl | rfl | rfl | rfl | rfl | rfl | rfl <;> assumption
      have HSW := Lib.hid SW
      have G0 := Lib.hid (gb_trans GG4.out hg)
      have OX := Lib.hid (O2.out.keep0 hg)
      obtain ⟨X, hX⟩ : ∃ X, X = wr.heap.size := ⟨_, rfl⟩
      have qX : q2 < X := by rw [hX]; exact (OX.out.lt _ rfl).2
      have RX := Lib.hid (show Rd (wr.alloc (.cells #[.int .i64 (s.a : Int), .int .i64 (s.b : Int), .int .i64 (s.c : Int), .int .i64 (s.d : Int), .int .i64 (s.e : Int), .int .i64 (s.f : Int), .int .i64 (s.g : Int), .int .i64 (s.h : Int)] 3)) (some ⟨wr.heap.size, 0, none⟩) 8 8 (wds s.list) from new_rd _ _ _ 8 rfl)
      clear hg SW hok hs O4 O2 GG4
      go_wp2
      rw [← hX] at *
      clear hX
      go_loopw [20] (fun xi wr => ∃ j : Nat, j ≤ 8 ∧ xi = .int .i64 (j : Int) ∧ Ow w.heap.size wr 3 (some ⟨q2, 0, none⟩) 8 c2 (wds ((addL h s).take j ++ h.drop j)) ∧ Rd wr (some ⟨X, 0, none⟩) 8 8 (wds s.list) ∧ w.grownBy wr none) (fun xi _ => 8 - (intOf xi).toNat)
      case atStart => exact ⟨0, by omega, rfl, OX.out.keep0 (gb_alloc (gb_refl _) _), RX.out, gb_alloc G0.out _⟩
      case round =>
        obtain ⟨j, hj, rfl, ho, hr, hg⟩ := hrel
        by_cases hlt : j < 8
        · obtain ⟨x, hx⟩ : ∃ x, x = h.getD j 0 := ⟨_, rfl⟩
          obtain ⟨y, hy⟩ : ∃ y, y = s.list.getD j 0 := ⟨_, rfl⟩
          have Bx : x < 4294967296 := by rw [hx]; exact W.out.at j
          have By : y < 4294967296 := by rw [hy]; exact HSW.out.at j
          have v1 : wr.cell? ⟨pb, off + j, none⟩ = some (.int .i64 (x : Int)) := by rw [hx]; exact word8 (fun k hk => ((gb_cells hg).1 pb (off + k) pl).trans (HC.out k hk)) hl j hlt
          obtain ⟨b9, off9, h9, v2⟩ := hr.word j hlt
          obtain ⟨rfl, rfl⟩ : b9 = X ∧ off9 = 0 := by simp at h9; exact ⟨h9.1.symm, h9.2.symm⟩
          rw [← hy, Nat.zero_add] at v2
          have lt := (ho.lt _ rfl).2
          obtain ⟨hf, u, hc, -⟩ := ho.at j hlt
          obtain ⟨v, hv⟩ : ∃ v, v = (x + y) % 4294967296 := ⟨_, rfl⟩
          have MV : bits .and .i64 ((x : Int) + (y : Int)) 4294967295 = (v : Int) := by
            rw [show ((x : Int) + (y : Int)) = ((x + y : Nat) : Int) by omega, mask32 _ (by omega), hv]
          have L7 : IntKind.i64.wrap ((x : Int) + (y : Int)) = (x : Int) + (y : Int) := wraps_i64 _ (by omega) (by omega)
          have Lj : (j : Int) < 8 := by omega
          have Lk : 0 ≤ (j : Int) := Int.natCast_nonneg _
          have HV := Lib.hid (show v = (h.getD j 0 + s.list.getD j 0) % 4294967296 by rw [hv, hx, hy])
          clear hx hy hv h9
          go_wp2
          go_region
          go_wp2
          refine ⟨?_, ?measure⟩
          (repeat apply Exists.intro)
          refine ⟨?rel, rfl⟩
          case rel =>
            refine ⟨j + 1, by omega, by go_num, ?_, ?_, ?_⟩
            · have h9 := ho.set j (.int .i64 (v : Int))
              rw [HV.out, add_set hl hlt] at h9
              rw [HV.out]
              exact h9.drew
            · exact (hr.keepSet (q := ⟨q2, j, none⟩) (fun p hp => by cases hp; exact Nat.ne_of_gt qX) _).keep0 (gb_drew (gb_refl _))
            · exact gb_drew (gb_set hg (.inl (show w.heap.size ≤ q2 from (ho.lt _ rfl).1)) _)
          case measure => simp [intOf]; omega
        · obtain rfl : j = 8 := by omega
          go_wp2
          go_ret
          refine ⟨_, _, rfl, ?_, hg⟩
          rw [← HL.out]
          rw [List.take_of_length_le (by rw [addL, List.length_zipWith, hl]; simp [St.list]), List.drop_of_length_le (by omega), List.append_nil] at ho
          exact ho
end Go.Proofs.YtpfchphgbhgmmaaGreat
