/-
  Draws of numbers, of a jar's bytes, of two times. Conditions: none beside those that each theorem names.
-/
import Derived.Test.YtjdaafemfpafdaaDrw
import Derived.Test.YtjdaafemfpafdaaDrO
import Derived.Test.YtjdaafemfpafdaaHelpS
namespace Go.Proofs.Ytjdaafemfpafdaa
open Go.RowKit
def POd (B cb : Nat) (w : World) (e : Ending) (w' : World) : Prop := ∃ x : Int, e = .returned (.int .i64 x) ∧ DE B cb w w'
theorem d_POd {f : FuncId} {B cb : Nat} {w0 w : World} {bs : List Vb} {L : List Sv} {Q : Ending → World → Prop} {args : Array Value} (D : DS B cb w0 w bs L) (H : Calls Try.prog f args w (POd B cb w))
    (k : ∀ w' (x : Int), DS B cb w0 w' bs L → Q (.returned (.int .i64 x)) w') : Calls Try.prog f args w Q :=
  H.mono fun e w' ⟨x, he, E⟩ => by
    subst he
    exact k w' x (D.by E)
set_option maxRecDepth 1000000 in
theorem spec_l1Odd (B cb : Nat) (w : World) (h : Cur B w cb) : Calls Try.prog 52 #[.pointer (some ⟨cb, 0, none⟩)] w (POd B cb w) := by
  have D := DS.start h
  go_enter Try.func52, Try.ntmps52
  go_wp2_with (first | (go_at_call 34; (first | (with_reducible refine d_l1Int D ?_ ?_ ?_ ?_ ?_ ?_) | (with_reducible refine d_l1Int (D.set0 _ _) ?_ ?_ ?_ ?_ ?_ ?_) | (with_reducible refine d_l1Int (D.box _ _) ?_ ?_ ?_ ?_ ?_ ?_) | (with_reducible refine d_l1Int ((D.set0 _ _).set0 _ _) ?_ ?_ ?_ ?_ ?_ ?_) | (with_reducible refine d_l1Int ((D.box _ _).set0 _ _) ?_ ?_ ?_ ?_ ?_ ?_)); (focus (first | rfl | (simp; done))); (focus (exact rfl)); (focus rfl); (focus decide); (focus decide); clear D; intro w1 x hi D; (try clear kc kf); (try simp only [List.setIfInBounds_toArray, List.set_cons_succ, List.set_cons_zero] at D); (try (have kc := fun o => DS.cell0 D o; have kf := fun o => DS.frz0 D o))))
  go_ret
  exact ⟨_, rfl, D.de⟩
def PJn (w : World) (e : Ending) (w' : World) : Prop := ∃ a n c l, e = .returned (.slice a n c) ∧ Rd w' a n c (bys l) ∧ n ≤ 256 ∧ w.grownBy w' none
set_option maxRecDepth 1000000 in
theorem spec_DrawJarNew (a : Option Addr) (n c : Nat) (l : List UInt8) (w : World) (r : Rd w a n c (bys l)) (hn : n ≤ 1048576) : Calls Try.prog 19 #[.slice a n c] w (PJn w) := by
  have hp : 0 < n → ∀ p, a = some p → p.block < w.heap.size := by
    intro h0 p hp
    obtain ⟨b, off, h1, h2, -⟩ := r.pos h0
    rw [h1] at hp
    cases hp
    exact h2
  go_enter Try.func19, Try.ntmps19
  go_wp2_with (first
    | (go_at_call 30; refine (spec_l1New a n c l w.heap.size _ r hn hp (Nat.le_refl _)).mono ?_; rintro e w1 ⟨cb, rfl, cu, hc, g⟩; have D := DS.init cu g)
    | (go_at_call 33; (first | (with_reducible refine d_l1Bytes D ?_ ?_) | (with_reducible refine d_l1Bytes (D.set0 _ _) ?_ ?_) | (with_reducible refine d_l1Bytes (D.box _ _) ?_ ?_) | (with_reducible refine d_l1Bytes ((D.set0 _ _).set0 _ _) ?_ ?_) | (with_reducible refine d_l1Bytes ((D.box _ _).set0 _ _) ?_ ?_)); (focus (first | omega | (have h9 := ofL.le hi (b := 256) (by decide); omega))); clear D; intro w1 a n c l hn D; (try clear kc kf); (try simp only [List.setIfInBounds_toArray, List.set_cons_succ, List.set_cons_zero] at D); (try (have kc := fun o => DS.cell0 D o; have kf := fun o => DS.frz0 D o))) | (go_at_call 34; (first | (with_reducible refine d_l1Int D ?_ ?_ ?_ ?_ ?_ ?_) | (with_reducible refine d_l1Int (D.set0 _ _) ?_ ?_ ?_ ?_ ?_ ?_) | (with_reducible refine d_l1Int (D.box _ _) ?_ ?_ ?_ ?_ ?_ ?_) | (with_reducible refine d_l1Int ((D.set0 _ _).set0 _ _) ?_ ?_ ?_ ?_ ?_ ?_) | (with_reducible refine d_l1Int ((D.box _ _).set0 _ _) ?_ ?_ ?_ ?_ ?_ ?_)); (focus (first | rfl | (simp; done))); (focus (exact rfl)); (focus rfl); (focus decide); (focus decide); clear D; intro w1 x hi D; (try clear kc kf); (try simp only [List.setIfInBounds_toArray, List.set_cons_succ, List.set_cons_zero] at D); (try (have kc := fun o => DS.cell0 D o; have kf := fun o => DS.frz0 D o))))
  go_ret
  exact ⟨_, _, _, _, rfl, D.r0, (D.rs _ (List.mem_cons_self ..)).2.2, D.gb hc⟩
def PFs (w : World) (e : Ending) (w' : World) : Prop := ∃ x y : Int, e = .returned (.tuple #[.int .i64 x, .int .i64 y]) ∧ w.grownBy w' none
set_option maxRecDepth 1000000 in
theorem spec_DrawFresh (a : Option Addr) (n c : Nat) (l : List UInt8) (w : World) (r : Rd w a n c (bys l)) (hn : n ≤ 1048576) : Calls Try.prog 18 #[.slice a n c] w (PFs w) := by
  have hp : 0 < n → ∀ p, a = some p → p.block < w.heap.size := by
    intro h0 p hp
    obtain ⟨b, off, h1, h2, -⟩ := r.pos h0
    rw [h1] at hp
    cases hp
    exact h2
  go_enter Try.func18, Try.ntmps18
  go_wp2_with (first
    | (go_at_call 30; refine (spec_l1New a n c l w.heap.size _ r hn hp (Nat.le_refl _)).mono ?_; rintro e w1 ⟨cb, rfl, cu, hc, g⟩; have D := DS.init cu g)
    | (go_at_call 51; (with_reducible refine d_l1Once D ?_); clear D; intro w1 o D; cases o)
    | (go_at_call 52; (with_reducible refine d_POd D (spec_l1Odd _ cb _ D.cur) ?_); clear D; intro w1 x D)
    | (go_at_call 34; (first | (with_reducible refine d_l1Int D ?_ ?_ ?_ ?_ ?_ ?_) | (with_reducible refine d_l1Int (D.set0 _ _) ?_ ?_ ?_ ?_ ?_ ?_) | (with_reducible refine d_l1Int (D.box _ _) ?_ ?_ ?_ ?_ ?_ ?_) | (with_reducible refine d_l1Int ((D.set0 _ _).set0 _ _) ?_ ?_ ?_ ?_ ?_ ?_) | (with_reducible refine d_l1Int ((D.box _ _).set0 _ _) ?_ ?_ ?_ ?_ ?_ ?_)); (focus (first | rfl | (simp; done))); (focus (exact rfl)); (focus rfl); (focus decide); (focus decide); clear D; intro w1 x hi D; (try clear kc kf); (try simp only [List.setIfInBounds_toArray, List.set_cons_succ, List.set_cons_zero] at D); (try (have kc := fun o => DS.cell0 D o; have kf := fun o => DS.frz0 D o))))
  all_goals (refine' bodyPost_ret ?_ rfl ?_; rotate_left; (focus (simp [results, Try.results18, go_sem]; rfl)); exact ⟨_, _, rfl, D.gb hc⟩)
end Go.Proofs.Ytjdaafemfpafdaa
