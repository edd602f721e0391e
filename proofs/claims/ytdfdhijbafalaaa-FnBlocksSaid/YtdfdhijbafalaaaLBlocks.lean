/-
  FnBlocks returns true for every code. Conditions: none.
-/
import Derived.Test.YtdfdhijbafalaaaLaw
import Derived.Test.YtdfdhijbafalaaaLawW
import Derived.Test.YtdfdhijbafalaaaShaA
import Derived.Test.YtdfdhijbafalaaaShaH
import Derived.Test.YtdfdhijbafalaaaDrS
import Derived.Test.YtdfdhijbafalaaaPlSha
namespace Go.Proofs.Ytdfdhijbafalaaa.lBlocks
open Go.ChangeShapes Go.WideShapes Go.ChangeAt Go.RowKit
theorem cellK {w w' : World} {b o : Nat} {v : Value} (h : w.cell? ⟨b, o, none⟩ = some v) (g : w.grownBy w' none) : w'.cell? ⟨b, o, none⟩ = some v :=
  (World.cell?_of_block (g.block b (block_lt_of_cell h) (by simp))).trans h
theorem sch_at {bl : List UInt8} (hb : bl.length = 64) {i : Nat} (hi : i < 16) : (schI bl)[i]? = some ((w4 bl i : Nat) : Int) := by
  rw [schI, if_pos hb, wd, List.getElem?_map, sched_at bl hi 64 (by omega)]
  rfl
theorem compI_len (h : List Int) (l : List UInt8) : (compI h l).length = h.length := by
  unfold compI
  split
  · rename_i q
    have h8 : h.length = 8 := by
      have := q.1
      simp only [areWs, Bool.and_eq_true, beq_iff_eq] at this
      omega
    rw [wd, List.length_map, compM_len l (by rw [nats, List.length_map]; exact h8), h8]
  · rfl
theorem schI_le (l : List UInt8) : (schI l).length ≤ 64 := by
  unfold schI
  split
  · rw [wd, List.length_map, schedL_len]; exact Nat.le_refl _
  · simp
set_option maxRecDepth 1000000 in
set_option maxHeartbeats 8000000 in
theorem walk (w : World) (v0 : Value) (h0 : InBytes w v0) : Calls Try.prog 5 #[v0] w fun e w' => e = .returned (.bool true) ∧ Below w.heap.size w w' := by
  obtain ⟨a, n, c, l, rfl, r, hC⟩ := h0
  rcases Nat.lt_or_ge 1048576 n with p | p
  · go_enter Try.func5, Try.ntmps5
    go_wp2_with (go_at_call 6; refine (laws_big a n c _).mono ?_; rw [decide_eq_true p]; rintro e w0 ⟨rfl, rfl⟩)
    go_ret
    exact ⟨rfl, Below.refl _ _⟩
  go_enter Try.func5, Try.ntmps5
  go_wp2_with (first | (go_at_call 6; refine (laws_big a n c _).mono ?_; rw [decide_eq_false (by omega)]; rintro e w0 ⟨rfl, rfl⟩) | (go_at_call 19; refine (spec_DrawSchedule a n c l _ r p).mono ?_; rintro e w1 ⟨b, m, d, bl, rfl, rb, hm, G⟩; replace r := r.keep0 G; have hL := Lib.hid rb.blen))
  have hsc := Lib.hid (Nat.le_trans (schI_le bl) (show 64 ≤ 1073741824 by decide))
  cases h6 : ((m : Int) != 64)
  rotate_left
  · have hz : Hid (schI bl = []) := by
      rw [Hid, schI, if_neg]
      rw [hL.out]
      intro e
      rw [e] at h6
      cases h6
    go_wp2_with (first | ((go_at_call 20; refine (impl_ScheduleA b _ d bl _ rb).mono ?_; rintro e w2 ⟨a2, n2, c2, rfl, r2, g2⟩; (replace rb := rb.keep0 g2); (replace r := r.keep0 g2); (replace G := gb_trans G g2); clear g2; have h2 := Lib.hid r2.ilen); obtain rfl : n2 = 0 := by rw [← h2.out, hz.out]; rfl) | (go_at_call 21; refine (spec_DrawCompress a n c l _ r p).mono ?_; rintro e w3 ⟨a3, n3, c3, hl, a4, n4, c4, cl, rfl, rh, rc, hm3, g3⟩; replace hm3 := Lib.hid hm3; (replace r := r.keep0 g3); (replace rb := rb.keep0 g3); (replace r2 := r2.keep0 g3); (replace G := gb_trans G g3); clear g3) | (go_at_call 22; (with_reducible refine (impl_CompressA a3 n3 c3 hl a4 n4 c4 cl _ rh rc (by have := hm3.out; omega)).mono ?_); rintro e wD ⟨a5, n5, c5, rfl, r3, g4⟩; (replace r := r.keep0 g4); (replace rb := rb.keep0 g4); (replace r2 := r2.keep0 g4); (replace rh := rh.keep0 g4); (replace rc := rc.keep0 g4); (replace G := gb_trans G g4); clear g4) | (go_at_call 24; refine (spec_ScheduleA b _ d bl _ rb).mono ?_; rintro e w5 ⟨a6, n6, c6, rfl, r6, g5⟩; (replace r := r.keep0 g5); (replace rb := rb.keep0 g5); (replace r2 := r2.keep0 g5); (replace rh := rh.keep0 g5); (replace rc := rc.keep0 g5); (replace r3 := r3.keep0 g5); (replace G := gb_trans G g5); clear g5) | (go_at_call 23; (with_reducible refine (laws_sameInts_t _ _ _ _ _ _ (schI bl) _ r2 r6 hsc.out).mono ?_); rintro e w6 ⟨rfl, g6⟩; (replace r := r.keep0 g6); (replace rb := rb.keep0 g6); (replace r2 := r2.keep0 g6); (replace rh := rh.keep0 g6); (replace rc := rc.keep0 g6); (replace r3 := r3.keep0 g6); (replace G := gb_trans G g6); clear g6 r6) | (go_at_call 25; (with_reducible refine (spec_CompressA a3 n3 c3 hl a4 n4 c4 cl _ rh rc (by have := hm3.out; omega)).mono ?_); rintro e w7 ⟨a7, n7, c7, rfl, r7, g7⟩; (replace r := r.keep0 g7); (replace rb := rb.keep0 g7); (replace r2 := r2.keep0 g7); (replace rh := rh.keep0 g7); (replace rc := rc.keep0 g7); (replace r3 := r3.keep0 g7); (replace G := gb_trans G g7); clear g7) | (go_at_call 23; (with_reducible refine (laws_sameInts_t _ _ _ _ _ _ (compI hl cl) _ r3 r7 ?_).mono ?_); (focus (have h9 := r3.ilen; have := compI_len hl cl; have := rh.ilen; have := hm3.out; omega)); rintro e w8 ⟨rfl, g8⟩; (replace r := r.keep0 g8); (replace rb := rb.keep0 g8); (replace r2 := r2.keep0 g8); (replace rh := rh.keep0 g8); (replace rc := rc.keep0 g8); (replace r3 := r3.keep0 g8); (replace G := gb_trans G g8); clear g8 r7))
    go_ret
    exact ⟨rfl, gb_below G⟩
  obtain rfl : m = 64 := by simp at h6; omega
  clear h6
  go_wp2_with (first | (go_at_call 20; refine (impl_ScheduleA b _ d bl _ rb).mono ?_; rintro e w2 ⟨a2, n2, c2, rfl, r2, g2⟩; (replace rb := rb.keep0 g2); (replace r := r.keep0 g2); (replace G := gb_trans G g2); clear g2; have h2 := Lib.hid r2.ilen) | (go_at_call 21; refine (spec_DrawCompress a n c l _ r p).mono ?_; rintro e w3 ⟨a3, n3, c3, hl, a4, n4, c4, cl, rfl, rh, rc, hm3, g3⟩; replace hm3 := Lib.hid hm3; (replace r := r.keep0 g3); (replace rb := rb.keep0 g3); (replace r2 := r2.keep0 g3); (replace G := gb_trans G g3); clear g3) | (go_at_call 22; (with_reducible refine (impl_CompressA a3 n3 c3 hl a4 n4 c4 cl _ rh rc (by have := hm3.out; omega)).mono ?_); rintro e wD ⟨a5, n5, c5, rfl, r3, g4⟩; (replace r := r.keep0 g4); (replace rb := rb.keep0 g4); (replace r2 := r2.keep0 g4); (replace rh := rh.keep0 g4); (replace rc := rc.keep0 g4); (replace G := gb_trans G g4); clear g4) | (go_at_call 24; refine (spec_ScheduleA b _ d bl _ rb).mono ?_; rintro e w5 ⟨a6, n6, c6, rfl, r6, g5⟩; (replace r := r.keep0 g5); (replace rb := rb.keep0 g5); (replace r2 := r2.keep0 g5); (replace rh := rh.keep0 g5); (replace rc := rc.keep0 g5); (replace r3 := r3.keep0 g5); (replace G := gb_trans G g5); clear g5) | (go_at_call 23; (with_reducible refine (laws_sameInts_t _ _ _ _ _ _ (schI bl) _ r2 r6 hsc.out).mono ?_); rintro e w6 ⟨rfl, g6⟩; (replace r := r.keep0 g6); (replace rb := rb.keep0 g6); (replace r2 := r2.keep0 g6); (replace rh := rh.keep0 g6); (replace rc := rc.keep0 g6); (replace r3 := r3.keep0 g6); (replace G := gb_trans G g6); clear g6 r6) | (go_at_call 25; (with_reducible refine (spec_CompressA a3 n3 c3 hl a4 n4 c4 cl _ rh rc (by have := hm3.out; omega)).mono ?_); rintro e w7 ⟨a7, n7, c7, rfl, r7, g7⟩; (replace r := r.keep0 g7); (replace rb := rb.keep0 g7); (replace r2 := r2.keep0 g7); (replace rh := rh.keep0 g7); (replace rc := rc.keep0 g7); (replace r3 := r3.keep0 g7); (replace G := gb_trans G g7); clear g7) | (go_at_call 23; (with_reducible refine (laws_sameInts_t _ _ _ _ _ _ (compI hl cl) _ r3 r7 ?_).mono ?_); (focus (have h9 := r3.ilen; have := compI_len hl cl; have := rh.ilen; have := hm3.out; omega)); rintro e w8 ⟨rfl, g8⟩; (replace r := r.keep0 g8); (replace rb := rb.keep0 g8); (replace r2 := r2.keep0 g8); (replace rh := rh.keep0 g8); (replace rc := rc.keep0 g8); (replace r3 := r3.keep0 g8); (replace G := gb_trans G g8); clear g8 r7))
  have hw4 := Lib.hid (show ∀ i, i < 16 → (schI bl)[i]? = some ((w4 bl i : Nat) : Int) from fun i hi => sch_at hL.out hi)
  have hn2 : n2 = 64 := by rw [← h2.out, schI, if_pos hL.out, wd, List.length_map, schedL_len]
  subst hn2
  have R2 := Lib.hid r2
  have RB := Lib.hid rb
  clear r2 rb r rh rc r3
  go_loopw [8] (fun i ws => ∃ j : Nat, j ≤ 16 ∧ i = .int .i64 (j : Int) ∧ w8.grownBy ws none) (fun i _ => 16 - (intOf i).toNat)
  case atStart => exact ⟨0, by omega, rfl, gb_refl _⟩
  case round =>
    obtain ⟨j, hj, rfl, hg⟩ := hrel
    by_cases hlt : j < 16
    · obtain ⟨bb, off, x, e2, hx, hc⟩ := (R2.out.keep0 hg).int j (by omega)
      subst e2
      have hxx := Lib.hid (show ((w4 bl j : Nat) : Int) = x by have h9 := hx.out; rw [hw4.out j hlt] at h9; exact Option.some.inj h9)
      have C := impl_GetN b 64 d bl (4 * j) 4 wr (RB.out.keep0 hg) (by omega) (by omega) (by omega) (by omega)
      go_wp2_with (go_at_call 26; refine C.mono ?_; clear C; rintro e w9 ⟨he, g9⟩; have he' : e = .returned (.tuple #[.int .i64 ((w4 bl j : Nat) : Int), .int .i64 ((4 * j + 4 : Nat) : Int), .bool true]) := he; clear he; rw [hxx.out] at he'; subst he'; replace hc := cellK hc g9)
      refine ⟨⟨j + 1, by omega, by go_num, gb_trans hg g9⟩, by simp [intOf]; omega⟩
    · obtain rfl : j = 16 := by omega
      have hP : Hid ((padM 64).length = 64) := by rw [Hid, padM_len]; rfl
      obtain ⟨Y, hY⟩ : ∃ Y, Hid (compM (compM startL bl) (padM 64) = Y) := ⟨_, rfl⟩
      have hYl := Lib.hid (show Y.length = 8 by rw [← hY.out]; exact compM_len _ (compM_len _ rfl))
      have hYW := Lib.hid (show W32 Y by rw [← hY.out]; exact compM_W _ _)
      have hS := Lib.hid (show shaM bl = outB Y by rw [← hY.out]; exact sha_block hL.out)
      go_wp2_with (first
        | (go_at_call 27; refine (impl_Start _).mono ?_; rintro e w9 ⟨aS, cS, rfl, oS, g9⟩; have H9 := gb_trans hg g9)
        | (go_at_call 22; (with_reducible refine (impl_Compress aS 8 cS startL b 64 d bl w9 oS.rd (RB.out.keep0 H9) rfl rfl startL_W).mono ?_); rintro e w10 ⟨aT, cT, rfl, oT, g10⟩; have H10 := gb_trans H9 g10)
        | (go_at_call 28; refine (impl_Pad 64 _ (by omega)).mono ?_; rintro e w11 ⟨aP, nP, cP, rfl, oP, g11⟩; replace oT := oT.keep0 g11; have H11 := gb_trans H10 g11; obtain rfl : nP = 64 := oP.blen.symm.trans hP.out)
        | (go_at_call 22; (with_reducible refine (impl_Compress aT 8 cT (compM startL bl) aP 64 cP (padM 64) w11 oT.rd oP.rd rfl rfl (compM_W _ _)).mono ?_); rw [hY.out]; rintro e w12 ⟨aY, cY, rfl, oY, g12⟩; have H12 := gb_trans H11 g12))
      have RY := Lib.hid oY.rd
      clear oS oT oP oY g9 g10 g11 g12 H9 H10 H11 hg
      go_loopw [13, 14] (fun v i ws => ∃ (j m d : Nat) (aa : Option Addr), j ≤ 8 ∧ i = .int .i64 (j : Int) ∧ v = .slice aa m d ∧ Rd ws aa m d (bys (outB (Y.take j))) ∧ w12.grownBy ws none) (fun _ i _ => 8 - (intOf i).toNat)
      case atStart => exact ⟨0, 0, _, _, by omega, rfl, rfl, (new_own _ _).rd, gb_alloc (gb_refl _) _⟩
      case round =>
        obtain ⟨j, m, dd, aa, hj, rfl, rfl, ho, hg⟩ := hrel
        by_cases hlt : j < 8
        · obtain ⟨by', off, e2, hc⟩ := (RY.out.keep0 hg).word j hlt
          subst e2
          obtain ⟨x, hx⟩ : ∃ x, x = Y.getD j 0 := ⟨_, rfl⟩
          have Bx : x < 4294967296 := by rw [hx]; exact hYW.out.at j
          rw [← hx] at hc
          have E := Lib.hid (show outB (Y.take (j + 1)) = outB (Y.take j) ++ be x 4 by rw [hx]; exact outB_snoc (by have := hYl.out; omega))
          have hm : m ≤ 1073741824 := by have := ho.blen; have := hYl.out; rw [outB_len, List.length_take] at *; omega
          clear hx
          go_wp2_with (go_at_call 29; refine (impl_PutN _ _ _ _ (x : Int) 4 _ ho hm (by omega) (by omega) (by omega) (by omega)).mono ?_; rintro e w2 ⟨a2, n2, c2, rfl, o2, g2⟩)
          rw [show (x : Int).toNat = x by omega] at o2
          exact ⟨⟨j + 1, _, _, _, by omega, by go_num, rfl, by rw [E.out]; exact o2.rd, gb_trans hg g2⟩, by simp [intOf]; omega⟩
        · obtain rfl : j = 8 := by omega
          rw [List.take_of_length_le (by have := hYl.out; omega)] at ho
          have H := gb_trans H12 hg
          go_wp2_with (first
            | (go_at_call 31; refine (impl_Sha b 64 d bl _ (RB.out.keep0 H) (by omega)).mono ?_; rw [hS.out]; rintro e w13 ⟨aZ, nZ, cZ, rfl, oZ, g13⟩)
            | (go_at_call 30; refine (laws_same_t _ _ _ _ _ _ (outB Y) _ (ho.keep0 g13) oZ.rd).mono ?_; rintro e w' ⟨rfl, rfl⟩))
          go_ret
          exact ⟨rfl, gb_below (gb_trans G (gb_trans H g13))⟩
set_option maxRecDepth 100000 in
theorem lifted (os : Os) (started : os.Started) (H : Type) (enc : TypeId × Value → H) :
    ReturnsInHanded {} Try.checked os 5 .any (Rows.fnBlocksSpec.pre6 enc Try.prog Try.f5 Rows.fnBlocksRow.domain false) (Rows.fnBlocksSpec.post enc Try.prog Try.f5 false true false false) := by
  refine returnsInHanded_of_change (C := Try.checked) own started (by kernel_rfl) Try.func5
    (ChangeSpec.witness6 (enc := enc) (C := Try.checked) false ⟨#[], #[.slice none 0 0], []⟩ 8 (by kernel_rfl) (by kernel_rfl) (by kernel_rfl) (by kernel_rfl)) ?_
  intro W base args ds gs before hval0 hW _ _
  have hval : ∀ (j : Nat) t v, Try.f5.params[j]? = some t → args[j]? = some v → Value.okWide Try.prog W .any base t v := hval0
  have hW2 := hW
  obtain ⟨p, q, hA0, hV, hps, _, _⟩ := hW
  have hA : DataW.TrodAll enc Try.prog W 0 (fun _ => true) true Try.f5.params.toList args.toList ds p := hA0
  rw [Try.params5] at hA hval
  obtain ⟨rfl, rfl⟩ := trodVars_none hV
  obtain ⟨v0, vs0, d0, ds0, p0, q0, hargs, rfl, rfl, h0, r0⟩ := trodAll_cons hA
  obtain ⟨rfl, rfl, rfl⟩ := trodAll_nil r0
  obtain rfl : args = #[v0] := by cases args; simp_all
  have i0 := open_B (hval 0 22 v0 rfl rfl) h0
  clear hA0 hval0
  refine (walk W v0 i0).mono fun e W2 ⟨he, hb⟩ => ?_
  subst he
  exact ⟨_, rfl, law_post (tb := 4) laidOut (by kernel_rfl) (by kernel_rfl) Try.underlying4 rfl ⟨rfl, rfl, rfl⟩ hW2 hb⟩
theorem over : Rows.fnBlocksRow.holds Try.pinned (OpenSpec.ofChange Rows.fnBlocksSpec) :=
  OpenClaim.holds_of_wide 5 Try.f5 rfl rfl rfl rfl rfl rfl rfl ⟨rfl, rfl, rfl, rfl, rfl⟩ rfl rfl rfl rfl rfl (by kernel_rfl) Try.func5 (by kernel_rfl)
    (of_decide_eq_true (by kernel_rfl)) (by unfold Func.isWrapper; first | (rw [if_pos (by decide +kernel)]; kernel_rfl) | (rw [if_neg (by decide +kernel)]; exact ⟨rfl, rfl⟩))
    (fun os started H enc _ => lifted os started H enc)
theorem proved : Rows.FnBlocksSaid :=
  over
#print axioms proved
end Go.Proofs.Ytdfdhijbafalaaa.lBlocks
