/-
  A draw that says yes once in so many times. Conditions: none beside those that each theorem names.
-/
import Derived.Test.YtpfchphgbhgmmaaDrw
namespace Go.Proofs.Ytpfchphgbhgmmaa
open Go.RowKit
theorem spec_l1Once (B cb : Nat) (x : Int) (w : World) (h : Cur B w cb) :
    Calls Try.prog 44 #[.pointer (some ⟨cb, 0, none⟩), .int .i64 x] w fun e w' => ∃ o : Bool, e = .returned (.bool o) ∧ DE B cb w w' := by
  go_enter Try.func44, Try.ntmps44
  go_wp2_with (go_at_call 24; refine (spec_l1Below B cb x w h).mono ?_; rintro e w1 ⟨z, hz, rfl, cu, d⟩)
  go_ret
  exact ⟨_, rfl, cu, d⟩
theorem d_l1Once {B cb : Nat} {w0 w : World} {bs : List Vb} {L : List Sv} {Q : Ending → World → Prop} {x : Int} (D : DS B cb w0 w bs L) (k : ∀ w' (o : Bool), DS B cb w0 w' bs L → Q (.returned (.bool o)) w') : Calls Try.prog 44 #[.pointer (some ⟨cb, 0, none⟩), .int .i64 x] w Q :=
  (spec_l1Once B cb x w D.cur).mono fun e w' ⟨o, he, E⟩ => by subst he; exact k w' o (D.by E)
end Go.Proofs.Ytpfchphgbhgmmaa
