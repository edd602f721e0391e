/-
  The draw of a frame's bytes. Conditions: none beside those that each theorem names.
-/
import Derived.Test.YtgeoeacfkacdpaaDrF2
import Derived.Test.YtgeoeacfkacdpaaPutS
import Derived.Test.YtgeoeacfkacdpaaPutF
import Derived.Test.YtgeoeacfkacdpaaPlFrame
namespace Go.Proofs.Ytgeoeacfkacdpaa
open Go.RowKit
def PGf (w : World) (e : Ending) (w' : World) : Prop := ∃ a n c l, e = .returned (.slice a n c) ∧ Rd w' a n c (bys l) ∧ n ≤ 256 ∧ w.grownBy w' none
set_option maxRecDepth 1000000 in
set_option maxHeartbeats 4000000 in
theorem spec_DrawGetFrame (a : Option Addr) (n c : Nat) (l : List UInt8) (w : World) (r : Rd w a n c (bys l)) (hn : n ≤ 1048576) :
    Calls Try.prog 49 #[.slice a n c] w (PGf w) := by
  go_enter Try.func49, Try.ntmps49
  go_wp2_with (first
    | (go_at_call 57; refine (spec_l1New a n c l w.heap.size _ r hn r.pb (Nat.le_refl _)).mono ?_; rintro e w1 ⟨cb, rfl, cu, hc, g⟩)
    | (go_at_call 97; refine (spec_l7Draw _ cb _ cu).mono ?_; rintro e w2 ⟨kind, id, a1, n1, c1, a2, n2, c2, tick, a3, n3, c3, a4, n4, c4, epoch, seq, a5, n5, c5, a6, n6, c6, rfl, E, ⟨l1, r1, -, b1⟩, ⟨l2, r2, -, b2⟩, ⟨l3, r3, -, b3⟩, ⟨l4, r4, -, b4⟩, ⟨l5, r5, -, b5⟩, ⟨l6, r6, -, b6⟩, fp⟩; replace fp := Lib.hid fp; clear cu; have G2 := Dr.gb0 E.dr g hc)
    | (go_at_call 96; refine (spec_PutFrame _ ⟨kind, id, l1, l2, tick, l3, l4, epoch, seq, l5, l6⟩ _ ⟨_, _, _, _, _, _, _, _, _, _, _, _, _, _, _, _, _, _, rfl, r1, r2, r3, r4, r5, r6⟩).mono ?_; rintro e w3 ⟨b, m, d, rfl, o, g3⟩; have fk : frOk ⟨kind, id, l1, l2, tick, l3, l4, epoch, seq, l5, l6⟩ = true := (by simp only [frOk]; rw [r1.blen, r2.blen, r3.blen, r4.blen, r5.blen, r6.blen]; exact fp.out.ok); have hm := Lib.hid (show 1 ≤ m ∧ m ≤ 79 by rw [← o.blen]; exact ⟨Nat.le_trans (by decide) (putM_pos fk), putM_le79 fk⟩); clear fk fp r1 r2 r3 r4 r5 r6; obtain ⟨P, hP⟩ : ∃ P, P = putM ⟨kind, id, l1, l2, tick, l3, l4, epoch, seq, l5, l6⟩ := ⟨_, rfl⟩; rw [← hP] at o; clear hP; have cu := E.cur.keep0 g3; replace G2 := gb_trans G2 g3; have lo := Nat.lt_of_lt_of_le E.cur.lt (Nat.le_refl _); clear E g3 g)
    | (go_at_call 58; (with_reducible refine (spec_l1Below _ cb _ w3 cu).mono ?_); rintro e w4 ⟨z, hz, rfl, cu4, d4⟩; replace o := o.keepI d4 (fun p hp => .inr (by have := (o.lt p hp).1; omega)); have G4 := Dr.gb0 d4 G2 (by have := cu.le; omega); clear G2)
    | (go_at_call 58; (with_reducible refine (spec_l1Below _ cb _ w4 cu4).mono ?_); rintro e w5 ⟨k, hk, rfl, cu5, d5⟩; have o5 := o.keepI d5 (fun p hp => .inr (by have := (o.lt p hp).1; omega)); have G5 := Dr.gb0 d5 G4 (by have := cu4.le; omega); obtain ⟨g9, rfl⟩ := o5.head (by have := hm.out; omega); have c5 := o5.at 0 (by have := hm.out; omega); obtain ⟨hf, u, hc, -⟩ := c5; have hg := (o5.lt _ rfl).1; simp only at hg; have hm1 : 0 < m := (by have := hm.out; omega); have hm2 : (0 : Int) < (m : Int) := (by omega); have cuS := cu5.keepI (gbI_set (p := ⟨g9, 0, none⟩) (gbI.refl g9 (g9 + 1) w5) (.inr ⟨Nat.le_refl _, Nat.lt_succ_self _⟩) (.int .u8 (k : Int))) (by have := cu5.le; omega) (.inl (by omega)); have oS := o5.set 0 (.int .u8 (k : Int)); rw [bys_setI _ _ _ (by omega)] at oS; have GS : w.grownBy (w5.setCell ⟨g9, 0, none⟩ (.int .u8 (k : Int))) none := gb_set G5 (.inl (by have := G4.size; have := lo; simp only; omega)) _)
    | (go_at_call 73; (with_reducible refine d_l1Int (DS.start cu4) ?_ ?_ ?_ ?_ ?_ ?_); (focus (first | rfl | (simp; done))); (focus (exact rfl)); (focus rfl); (focus decide); (focus decide); intro w5 x hi D5)
    | (go_at_call 72; (with_reducible refine d_l1Bytes D5 ?_ ?_); (focus (have h9 := ofL.le hi (b := 256) (by decide); omega)); intro w6 a7 n7 c7 l7 hn7 D6)
    | (go_at_call 98; (with_reducible refine (spec_l1Bend _ cb _ m d _ _ cuS oS.rd ?_).mono ?_); (focus (have := hm.out; omega)); rintro e w6 ⟨a7, n7, c7, rfl, E6, l7, r7, -, b7⟩; have G6 := Dr.gb0 E6.dr GS (by have := cu5.le; omega))
    | (go_at_call 98; (with_reducible refine (spec_l1Bend _ cb _ m d _ _ cu4 o.rd ?_).mono ?_); (focus (have := hm.out; omega)); rintro e w6 ⟨a7, n7, c7, rfl, E6, l7, r7, -, b7⟩; have G6 := Dr.gb0 E6.dr G4 (by have := cu4.le; omega)))
  all_goals first
    | (go_ret; exact ⟨_, _, _, _, rfl, r7, b7, G6⟩)
    | (go_ret; exact ⟨_, _, _, _, rfl, o.rd, (by have := hm.out; omega), G4⟩)
    | (go_ret; exact ⟨_, _, _, _, rfl, D6.r0, (D6.rs _ (List.mem_cons_self ..)).2.2, Dr.gb0 D6.dr G4 (by have := cu4.le; omega)⟩)
    | skip
end Go.Proofs.Ytgeoeacfkacdpaa
