/-
  Draws of kinds and of their names. Conditions: none beside those that each theorem names.
-/
import Derived.Test.YtgeoeacfkacdpaaDrw
import Derived.Test.YtgeoeacfkacdpaaKind
namespace Go.Proofs.Ytgeoeacfkacdpaa
open Go.RowKit
theorem spec_l1Once (B cb : Nat) (x : Int) (w : World) (h : Cur B w cb) :
    Calls Try.prog 60 #[.pointer (some ⟨cb, 0, none⟩), .int .i64 x] w fun e w' => ∃ o : Bool, e = .returned (.bool o) ∧ DE B cb w w' := by
  go_enter Try.func60, Try.ntmps60
  go_wp2_with (go_at_call 58; refine (spec_l1Below B cb x w h).mono ?_; rintro e w1 ⟨z, hz, rfl, cu, d⟩)
  go_ret
  exact ⟨_, rfl, cu, d⟩
theorem d_l1Once {B cb : Nat} {w0 w : World} {bs : List Vb} {L : List Sv} {Q : Ending → World → Prop} {x : Int} (D : DS B cb w0 w bs L) (k : ∀ w' (o : Bool), DS B cb w0 w' bs L → Q (.returned (.bool o)) w') : Calls Try.prog 60 #[.pointer (some ⟨cb, 0, none⟩), .int .i64 x] w Q :=
  (spec_l1Once B cb x w D.cur).mono fun e w' ⟨o, he, E⟩ => by subst he; exact k w' o (D.by E)
/-- one of four texts -/
theorem spec_l1Str4 (B cb : Nat) (s1 s2 s3 s4 : ByteArray) (T : TypeId) (w : World) (h : Cur B w cb) :
    Calls Try.prog 61 #[.pointer (some ⟨cb, 0, none⟩), .slice (some ⟨w.heap.size, 0, none⟩) 4 4] (w.alloc (.cells #[.string s1, .string s2, .string s3, .string s4] T)) fun e w' => ∃ s, e = .returned (.string s) ∧ DE B cb (w.alloc (.cells #[.string s1, .string s2, .string s3, .string s4] T)) w' := by
  have hc := (h.alloc (.cells #[.string s1, .string s2, .string s3, .string s4] T))
  have hlt := h.lt
  go_enter Try.func61, Try.ntmps61
  go_wp2_with (go_at_call 58; refine (spec_l1Below B cb _ _ hc).mono ?_; rintro e w1 ⟨z, hz, rfl, cu, d⟩; have B1 := (Bx.new w T #[.string s1, .string s2, .string s3, .string s4]).keepI d (.inr (by omega)); have k1 := fun o => B1.cell o; have z4 : z = 0 ∨ z = 1 ∨ z = 2 ∨ z = 3 := (by omega); rcases z4 with rfl | rfl | rfl | rfl)
  all_goals (go_ret; exact ⟨_, rfl, cu, d⟩)
set_option maxRecDepth 1000000 in
theorem spec_DrawKindName (a : Option Addr) (n c : Nat) (l : List UInt8) (w : World) (r : Rd w a n c (bys l)) (hn : n ≤ 1048576) :
    Calls Try.prog 11 #[.slice a n c] w fun e w' => ∃ x : Int, e = .returned (.int .i64 x) ∧ w.grownBy w' none := by
  have hp : 0 < n → ∀ p, a = some p → p.block < w.heap.size := by
    intro h0 p hp
    obtain ⟨b, off, h1, h2, -⟩ := r.pos h0
    rw [h1] at hp
    cases hp
    exact h2
  go_enter Try.func11, Try.ntmps11
  go_wp2_with (first
    | (go_at_call 57; refine (spec_l1New a n c l w.heap.size _ r hn hp (Nat.le_refl _)).mono ?_; rintro e w1 ⟨cb, rfl, cu, hc, g⟩)
    | (go_at_call 58; refine (spec_l1Below _ cb _ _ cu).mono ?_; rintro e w2 ⟨z, hz, rfl, cu2, d⟩))
  go_ret
  exact ⟨_, rfl, Dr.gb0 d g hc⟩
set_option maxRecDepth 1000000 in
set_option maxHeartbeats 1000000 in
theorem spec_DrawKindOf (a : Option Addr) (n c : Nat) (l : List UInt8) (w : World) (r : Rd w a n c (bys l)) (hn : n ≤ 1048576) :
    Calls Try.prog 13 #[.slice a n c] w fun e w' => ∃ s, e = .returned (.string s) ∧ w.grownBy w' none := by
  have hp : 0 < n → ∀ p, a = some p → p.block < w.heap.size := by
    intro h0 p hp
    obtain ⟨b, off, h1, h2, -⟩ := r.pos h0
    rw [h1] at hp
    cases hp
    exact h2
  go_enter Try.func13, Try.ntmps13
  go_wp2_with (first
    | (go_at_call 57; refine (spec_l1New a n c l w.heap.size _ r hn hp (Nat.le_refl _)).mono ?_; rintro e w1 ⟨cb, rfl, cu, hc, g⟩)
    | (go_at_call 60; refine (spec_l1Once _ cb _ _ cu).mono ?_; rintro e w2 ⟨o, rfl, E⟩; replace g := Dr.gb0 E.dr g hc; cases o)
    | (go_at_call 61; refine (spec_l1Str4 _ cb _ _ _ _ _ w2 E.cur).mono ?_; rintro e w3 ⟨s, rfl, E3⟩; replace g := Dr.gb0 E3.dr (gb_alloc g _) hc)
    | (go_at_call 58; refine (spec_l1Below _ cb _ _ E.cur).mono ?_; rintro e w3 ⟨z, hz, rfl, cu2, d⟩; replace g := Dr.gb0 d g hc)
    | (go_at_call 62; refine (spec_KindName _ _).mono ?_; rintro e w4 ⟨rfl, g4⟩; replace g := gb_trans g g4))
  all_goals (go_ret; exact ⟨_, rfl, g⟩)
end Go.Proofs.Ytgeoeacfkacdpaa
