/-
  FnFramesRead returns true for every code. Conditions: none.
-/
import Derived.Test.YtgeoeacfkacdpaaLaw
import Derived.Test.YtgeoeacfkacdpaaLawH
import Derived.Test.YtgeoeacfkacdpaaGetS6
import Derived.Test.YtgeoeacfkacdpaaDrG
import Derived.Test.YtgeoeacfkacdpaaPlFrame
namespace Go.Proofs.Ytgeoeacfkacdpaa.lFramesRead
open Go.ChangeShapes Go.WideShapes Go.ChangeAt Go.RowKit
set_option maxRecDepth 1000000 in
set_option maxHeartbeats 8000000 in
theorem walk (w : World) (v0 : Value) (h0 : InBytes w v0) : Calls Try.prog 8 #[v0] w fun e w' => e = .returned (.bool true) ∧ Below w.heap.size w w' := by
  obtain ⟨a, n, c, l, rfl, r, hC⟩ := h0
  rcases Nat.lt_or_ge 1048576 n with p | p
  · go_enter Try.func8, Try.ntmps8
    go_wp2_with (go_at_call 10; refine (laws_big a n c _).mono ?_; rw [decide_eq_true p]; rintro e w0 ⟨rfl, rfl⟩)
    go_ret
    exact ⟨rfl, Below.refl _ _⟩
  go_enter Try.func8, Try.ntmps8
  go_wp2_with (first
    | (go_at_call 10; refine (laws_big a n c _).mono ?_; rw [decide_eq_false (by omega)]; rintro e w0 ⟨rfl, rfl⟩)
    | (go_at_call 49; refine (spec_DrawGetFrame a n c l _ r p).mono ?_; rintro e w1 ⟨b, m, d, k, rfl, rb, hm, g1⟩; replace hm := Lib.hid hm; obtain ⟨F, ok, hk⟩ : ∃ F ok, Hid (getM k = (F, ok)) := ⟨_, _, rfl⟩))
  cases ok
  · go_wp2_with (first | (go_at_call 47; refine (impl_GetFrame b m d k _ rb (by have := hm.out; omega)).mono ?_; simp only [PGet, hk.out]; rintro e w2 ⟨v2, rfl, o2, g2⟩; have R2 := o2.r; clear o2; obtain ⟨x1, y1, z1, x2, y2, z2, x3, y3, z3, x4, y4, z4, x5, y5, z5, x6, y6, z6, rfl⟩ := R2.shape; have G2 := g2) | (go_at_call 50; refine (spec_GetFrame b m d k _ (rb.keep0 (gb_alloc G2 _)) (by have := hm.out; omega)).mono ?_; simp only [PGet, hk.out]; rintro e w3 ⟨v3, rfl, o3, g3⟩; have R3 := o3.r; clear o3; obtain ⟨s1, t1, u1, s2, t2, u2, s3, t3, u3, s4, t4, u4, s5, t5, u5, s6, t6, u6, rfl⟩ := R3.shape; have B4 := (Bx.new w2 55 #[.int .i64 F.kind, .int .i64 F.id, .slice x1 y1 z1, .slice x2 y2 z2, .int .i64 F.tick, .slice x3 y3 z3, .slice x4 y4 z4, .int .i64 F.epoch, .int .i64 F.seq, .slice x5 y5 z5, .slice x6 y6 z6]).keep0 g3; replace R2 := R2.keep0 (gb_trans (gb_alloc (gb_refl _) _) g3); have G3 := gb_trans (gb_alloc G2 _) g3; have k4 := fun o => B4.cell o; have l4 := B4.lt) | (go_at_call 48; refine (laws_sameFrame_t _ _ F _ (R2.keep0 (gb_alloc (gb_refl _) _)) (R3.keep0 (gb_alloc (gb_refl _) _))).mono ?_; rintro e w4 ⟨rfl, g4⟩; replace B4 := B4.keep0 (gb_trans (gb_alloc (gb_refl _) _) g4); replace R2 := R2.keep0 (gb_trans (gb_alloc (gb_refl _) _) g4); have G4 := gb_trans (gb_alloc G3 _) g4; clear k4 l4; have k4 := fun o => B4.cell o))
    go_ret
    exact ⟨rfl, gb_below (gb_trans g1 G4)⟩
  · obtain ⟨f1, f2⟩ := getM_ok (b := k) (by rw [hk.out])
    rw [hk.out] at f1 f2
    have fok : Hid (frOk F = true) := f1
    have fpu : Hid (putM F = k) := f2
    clear f1 f2
    go_wp2_with (first | (go_at_call 47; refine (impl_GetFrame b m d k _ rb (by have := hm.out; omega)).mono ?_; simp only [PGet, hk.out]; rintro e w2 ⟨v2, rfl, o2, g2⟩; have R2 := o2.r; clear o2; obtain ⟨x1, y1, z1, x2, y2, z2, x3, y3, z3, x4, y4, z4, x5, y5, z5, x6, y6, z6, rfl⟩ := R2.shape; have G2 := g2) | (go_at_call 50; refine (spec_GetFrame b m d k _ (rb.keep0 (gb_alloc G2 _)) (by have := hm.out; omega)).mono ?_; simp only [PGet, hk.out]; rintro e w3 ⟨v3, rfl, o3, g3⟩; have R3 := o3.r; clear o3; obtain ⟨s1, t1, u1, s2, t2, u2, s3, t3, u3, s4, t4, u4, s5, t5, u5, s6, t6, u6, rfl⟩ := R3.shape; have B4 := (Bx.new w2 55 #[.int .i64 F.kind, .int .i64 F.id, .slice x1 y1 z1, .slice x2 y2 z2, .int .i64 F.tick, .slice x3 y3 z3, .slice x4 y4 z4, .int .i64 F.epoch, .int .i64 F.seq, .slice x5 y5 z5, .slice x6 y6 z6]).keep0 g3; replace R2 := R2.keep0 (gb_trans (gb_alloc (gb_refl _) _) g3); have G3 := gb_trans (gb_alloc G2 _) g3; have k4 := fun o => B4.cell o; have l4 := B4.lt) | (go_at_call 48; refine (laws_sameFrame_t _ _ F _ (R2.keep0 (gb_alloc (gb_refl _) _)) (R3.keep0 (gb_alloc (gb_refl _) _))).mono ?_; rintro e w4 ⟨rfl, g4⟩; replace B4 := B4.keep0 (gb_trans (gb_alloc (gb_refl _) _) g4); replace R2 := R2.keep0 (gb_trans (gb_alloc (gb_refl _) _) g4); have G4 := gb_trans (gb_alloc G3 _) g4; clear k4 l4; have k4 := fun o => B4.cell o) | (go_at_call 44; refine (impl_FrameOk _ F _ R2).mono ?_; rw [fok.out]; rintro e w5 ⟨rfl, g5⟩; replace B4 := B4.keep0 g5; replace R2 := R2.keep0 g5; replace G4 := gb_trans G4 g5; clear k4; have k4 := fun o => B4.cell o) | (go_at_call 43; refine (impl_PutFrame _ F _ R2).mono ?_; rw [fpu.out]; rintro e w6 ⟨b6, m6, d6, rfl, o6, g6⟩; replace G4 := gb_trans G4 g6) | (go_at_call 40; refine (laws_same_t b6 m6 d6 b m d k _ o6.rd (rb.keep0 G4)).mono ?_; rintro e w7 ⟨rfl, rfl⟩))
    go_ret
    exact ⟨rfl, gb_below (gb_trans g1 G4)⟩
set_option maxRecDepth 100000 in
theorem lifted (os : Os) (started : os.Started) (H : Type) (enc : TypeId × Value → H) :
    ReturnsInHanded {} Try.checked os 8 .any (Rows.fnFramesReadSpec.pre6 enc Try.prog Try.f8 Rows.fnFramesReadRow.domain false) (Rows.fnFramesReadSpec.post enc Try.prog Try.f8 false true false false) := by
  refine returnsInHanded_of_change (C := Try.checked) own started (by kernel_rfl) Try.func8
    (ChangeSpec.witness6 (enc := enc) (C := Try.checked) false ⟨#[], #[.slice none 0 0], []⟩ 8 (by kernel_rfl) (by kernel_rfl) (by kernel_rfl) (by kernel_rfl)) ?_
  intro W base args ds gs before hval0 hW _ _
  have hval : ∀ (j : Nat) t v, Try.f8.params[j]? = some t → args[j]? = some v → Value.okWide Try.prog W .any base t v := hval0
  have hW2 := hW
  obtain ⟨p, q, hA0, hV, hps, _, _⟩ := hW
  have hA : DataW.TrodAll enc Try.prog W 0 (fun _ => true) true Try.f8.params.toList args.toList ds p := hA0
  rw [Try.params8] at hA hval
  obtain ⟨rfl, rfl⟩ := trodVars_none hV
  obtain ⟨v0, vs0, d0, ds0, p0, q0, hargs, rfl, rfl, h0, r0⟩ := trodAll_cons hA
  obtain ⟨rfl, rfl, rfl⟩ := trodAll_nil r0
  obtain rfl : args = #[v0] := by cases args; simp_all
  have i0 := open_B (hval 0 22 v0 rfl rfl) h0
  clear hA0 hval0
  refine (walk W v0 i0).mono fun e W2 ⟨he, hb⟩ => ?_
  subst he
  exact ⟨_, rfl, law_post (tb := 4) laidOut (by kernel_rfl) (by kernel_rfl) Try.underlying4 rfl ⟨rfl, rfl, rfl⟩ hW2 hb⟩
theorem over : Rows.fnFramesReadRow.holds Try.pinned (OpenSpec.ofChange Rows.fnFramesReadSpec) :=
  OpenClaim.holds_of_wide 8 Try.f8 rfl rfl rfl rfl rfl rfl rfl ⟨rfl, rfl, rfl, rfl, rfl⟩ rfl rfl rfl rfl rfl (by kernel_rfl) Try.func8 (by kernel_rfl)
    (of_decide_eq_true (by kernel_rfl)) (by unfold Func.isWrapper; first | (rw [if_pos (by decide +kernel)]; kernel_rfl) | (rw [if_neg (by decide +kernel)]; exact ⟨rfl, rfl⟩))
    (fun os started H enc _ => lifted os started H enc)
theorem proved : Rows.FnFramesReadSaid :=
  over
#print axioms proved
end Go.Proofs.Ytgeoeacfkacdpaa.lFramesRead
