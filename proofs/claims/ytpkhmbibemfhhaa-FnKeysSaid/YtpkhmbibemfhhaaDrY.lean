/-
  Draws of keys. Conditions: none beside those that each theorem names.
-/
import Derived.Test.YtpkhmbibemfhhaaDrw
import Derived.Test.YtpkhmbibemfhhaaHelpS
namespace Go.Proofs.Ytpkhmbibemfhhaa
open Go.RowKit
def PBy2 (B cb : Nat) (w : World) (e : Ending) (w' : World) : Prop := ∃ a n c, e = .returned (.slice a n c) ∧ DE B cb w w' ∧ BR w w' a n c
theorem d_PBy2 {f : FuncId} {B cb : Nat} {w0 w : World} {bs : List Vb} {L : List Sv} {Q : Ending → World → Prop} {args : Array Value} (D : DS B cb w0 w bs L) (H : Calls Try.prog f args w (PBy2 B cb w))
    (k : ∀ w' a n c l, DS B cb w0 w' bs (⟨a, n, c, bys l⟩ :: L) → Q (.returned (.slice a n c)) w') : Calls Try.prog f args w Q :=
  H.mono fun e w' ⟨a, n, c, he, E, h⟩ => by
    subst he
    obtain ⟨l, D1⟩ := D.adB (D.by E) h
    exact k w' a n c l D1
set_option maxRecDepth 1000000 in
theorem spec_l12Psk (B cb : Nat) (w : World) (h : Cur B w cb) : Calls Try.prog 87 #[.pointer (some ⟨cb, 0, none⟩)] w (PBy2 B cb w) := by
  have D := DS.start h
  go_enter Try.func87, Try.ntmps87
  go_wp2_with (first | (go_at_call 58; (first | (with_reducible refine d_l1Bytes D ?_ ?_) | (with_reducible refine d_l1Bytes (D.set0 _ _) ?_ ?_) | (with_reducible refine d_l1Bytes (D.box _ _) ?_ ?_) | (with_reducible refine d_l1Bytes ((D.set0 _ _).set0 _ _) ?_ ?_) | (with_reducible refine d_l1Bytes ((D.box _ _).set0 _ _) ?_ ?_)); (focus (first | omega | (have h9 := ofL.le hi (b := 256) (by decide); omega))); clear D; intro w1 a n c l hn D; (try clear kc kf); (try simp only [List.setIfInBounds_toArray, List.set_cons_succ, List.set_cons_zero] at D); (try (have kc := fun o => DS.cell0 D o; have kf := fun o => DS.frz0 D o))) | (go_at_call 59; (first | (with_reducible refine d_l1Int D ?_ ?_ ?_ ?_ ?_ ?_) | (with_reducible refine d_l1Int (D.set0 _ _) ?_ ?_ ?_ ?_ ?_ ?_) | (with_reducible refine d_l1Int (D.box _ _) ?_ ?_ ?_ ?_ ?_ ?_) | (with_reducible refine d_l1Int ((D.set0 _ _).set0 _ _) ?_ ?_ ?_ ?_ ?_ ?_) | (with_reducible refine d_l1Int ((D.box _ _).set0 _ _) ?_ ?_ ?_ ?_ ?_ ?_)); (focus (first | rfl | (simp; done))); (focus (exact rfl)); (focus rfl); (focus decide); (focus decide); clear D; intro w1 x hi D; (try clear kc kf); (try simp only [List.setIfInBounds_toArray, List.set_cons_succ, List.set_cons_zero] at D); (try (have kc := fun o => DS.cell0 D o; have kf := fun o => DS.frz0 D o))))
  go_ret
  exact ⟨_, _, _, rfl, D.de, by (first | exact BR.nil _ _ | exact D.b0 | exact D.tl.b0 | exact D.tl.tl.b0 | exact D.tl.tl.tl.b0 | exact D.tl.tl.tl.tl.b0 | exact D.tl.tl.tl.tl.tl.b0 | exact D.tl.tl.tl.tl.tl.tl.b0)⟩
def PEk (w : World) (e : Ending) (w' : World) : Prop := ∃ a1 n1 c1 l1 a2 n2 c2 l2 a3 n3 c3 l3 x, e = .returned (.tuple #[.slice a1 n1 c1, .slice a2 n2 c2, .slice a3 n3 c3, .int .i64 x]) ∧ Rd w' a1 n1 c1 (bys l1) ∧ Rd w' a2 n2 c2 (bys l2) ∧ Rd w' a3 n3 c3 (bys l3) ∧ (n1 ≤ 256 ∧ n2 ≤ 256 ∧ n3 ≤ 256) ∧ w.grownBy w' none
set_option maxRecDepth 1000000 in
theorem spec_DrawEpochKey (a : Option Addr) (n c : Nat) (l : List UInt8) (w : World) (r : Rd w a n c (bys l)) (hn : n ≤ 1048576) : Calls Try.prog 33 #[.slice a n c] w (PEk w) := by
  have hp : 0 < n → ∀ p, a = some p → p.block < w.heap.size := by
    intro h0 p hp
    obtain ⟨b, off, h1, h2, -⟩ := r.pos h0
    rw [h1] at hp
    cases hp
    exact h2
  go_enter Try.func33, Try.ntmps33
  go_wp2_with (first
    | (go_at_call 55; refine (spec_l1New a n c l w.heap.size _ r hn hp (Nat.le_refl _)).mono ?_; rintro e w1 ⟨cb, rfl, cu, hc, g⟩; have D := DS.init cu g)
    | (go_at_call 87; (with_reducible refine d_PBy2 D (spec_l12Psk _ cb _ D.cur) ?_); clear D; intro w1 a9 n9 c9 l9 D)
    | (go_at_call 58; (first | (with_reducible refine d_l1Bytes D ?_ ?_) | (with_reducible refine d_l1Bytes (D.set0 _ _) ?_ ?_) | (with_reducible refine d_l1Bytes (D.box _ _) ?_ ?_) | (with_reducible refine d_l1Bytes ((D.set0 _ _).set0 _ _) ?_ ?_) | (with_reducible refine d_l1Bytes ((D.box _ _).set0 _ _) ?_ ?_)); (focus (first | omega | (have h9 := ofL.le hi (b := 256) (by decide); omega))); clear D; intro w1 a n c l hn D; (try clear kc kf); (try simp only [List.setIfInBounds_toArray, List.set_cons_succ, List.set_cons_zero] at D); (try (have kc := fun o => DS.cell0 D o; have kf := fun o => DS.frz0 D o))) | (go_at_call 59; (first | (with_reducible refine d_l1Int D ?_ ?_ ?_ ?_ ?_ ?_) | (with_reducible refine d_l1Int (D.set0 _ _) ?_ ?_ ?_ ?_ ?_ ?_) | (with_reducible refine d_l1Int (D.box _ _) ?_ ?_ ?_ ?_ ?_ ?_) | (with_reducible refine d_l1Int ((D.set0 _ _).set0 _ _) ?_ ?_ ?_ ?_ ?_ ?_) | (with_reducible refine d_l1Int ((D.box _ _).set0 _ _) ?_ ?_ ?_ ?_ ?_ ?_)); (focus (first | rfl | (simp; done))); (focus (exact rfl)); (focus rfl); (focus decide); (focus decide); clear D; intro w1 x hi D; (try clear kc kf); (try simp only [List.setIfInBounds_toArray, List.set_cons_succ, List.set_cons_zero] at D); (try (have kc := fun o => DS.cell0 D o; have kf := fun o => DS.frz0 D o))))
  refine' bodyPost_ret ?_ rfl ?_; rotate_left; (focus (simp [results, Try.results33, go_sem]; rfl))
  exact ⟨_, _, _, _, _, _, _, _, _, _, _, _, _, rfl, D.tl.tl.r0, D.tl.r0, D.r0, ⟨(D.tl.tl.rs _ (List.mem_cons_self ..)).2.2, (D.tl.rs _ (List.mem_cons_self ..)).2.2, (D.rs _ (List.mem_cons_self ..)).2.2⟩, D.gb hc⟩
end Go.Proofs.Ytpkhmbibemfhhaa
