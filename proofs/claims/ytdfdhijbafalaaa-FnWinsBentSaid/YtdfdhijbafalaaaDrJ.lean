/-
  Draws of numbers, of a jar's bytes, of two times. Conditions: none beside those that each theorem names.
-/
import Derived.Test.YtdfdhijbafalaaaDrw
import Derived.Test.YtdfdhijbafalaaaDrO
import Derived.Test.YtdfdhijbafalaaaHelpS
namespace Go.Proofs.Ytdfdhijbafalaaa
open Go.RowKit
def POd (B cb : Nat) (w : World) (e : Ending) (w' : World) : Prop := ∃ x : Int, e = .returned (.int .i64 x) ∧ DE B cb w w'
theorem d_POd {f : FuncId} {B cb : Nat} {w0 w : World} {bs : List Vb} {L : List Sv} {Q : Ending → World → Prop} {args : Array Value} (D : DS B cb w0 w bs L) (H : Calls Try.prog f args w (POd B cb w))
    (k : ∀ w' (x : Int), DS B cb w0 w' bs L → Q (.returned (.int .i64 x)) w') : Calls Try.prog f args w Q :=
  H.mono fun e w' ⟨x, he, E⟩ => by
    subst he
    exact k w' x (D.by E)
set_option maxRecDepth 1000000 in
theorem spec_l1Odd (B cb : Nat) (w : World) (h : Cur B w cb) : Calls Try.prog 60 #[.pointer (some ⟨cb, 0, none⟩)] w (POd B cb w) := by
  have D := DS.start h
  go_enter Try.func60, Try.ntmps60
  go_wp2_with (first | (go_at_call 44; (first | (with_reducible refine d_l1Int D ?_ ?_ ?_ ?_ ?_ ?_) | (with_reducible refine d_l1Int (D.set0 _ _) ?_ ?_ ?_ ?_ ?_ ?_) | (with_reducible refine d_l1Int (D.box _ _) ?_ ?_ ?_ ?_ ?_ ?_) | (with_reducible refine d_l1Int ((D.set0 _ _).set0 _ _) ?_ ?_ ?_ ?_ ?_ ?_) | (with_reducible refine d_l1Int ((D.box _ _).set0 _ _) ?_ ?_ ?_ ?_ ?_ ?_)); (focus (first | rfl | (simp; done))); (focus (exact rfl)); (focus rfl); (focus decide); (focus decide); clear D; intro w1 x hi D; (try clear kc kf); (try simp only [List.setIfInBounds_toArray, List.set_cons_succ, List.set_cons_zero] at D); (try (have kc := fun o => DS.cell0 D o; have kf := fun o => DS.frz0 D o))))
  go_ret
  exact ⟨_, rfl, D.de⟩
end Go.Proofs.Ytdfdhijbafalaaa
