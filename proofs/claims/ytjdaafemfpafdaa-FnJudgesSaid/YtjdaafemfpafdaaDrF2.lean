/-
  Draws of frames, right or bent; the frame that is put. Conditions: none beside those that each theorem names.
-/
import Derived.Test.YtjdaafemfpafdaaDrF
namespace Go.Proofs.Ytjdaafemfpafdaa
open Go.RowKit
theorem d_PFr {f : FuncId} {B cb : Nat} {w0 w : World} {bs : List Vb} {L : List Sv} {Q : Ending → World → Prop} {args : Array Value} (D : DS B cb w0 w bs L) (H : Calls Try.prog f args w (PFr B cb w))
    (k : ∀ w' kind id a1 n1 c1 l1 a2 n2 c2 l2 tick a3 n3 c3 l3 a4 n4 c4 l4 epoch seq a5 n5 c5 l5 a6 n6 c6 l6, DS B cb w0 w' bs (⟨a6, n6, c6, bys l6⟩ :: ⟨a5, n5, c5, bys l5⟩ :: ⟨a4, n4, c4, bys l4⟩ :: ⟨a3, n3, c3, bys l3⟩ :: ⟨a2, n2, c2, bys l2⟩ :: ⟨a1, n1, c1, bys l1⟩ :: L) → Q (.returned (.agg #[.int .i64 kind, .int .i64 id, .slice a1 n1 c1, .slice a2 n2 c2, .int .i64 tick, .slice a3 n3 c3, .slice a4 n4 c4, .int .i64 epoch, .int .i64 seq, .slice a5 n5 c5, .slice a6 n6 c6])) w') : Calls Try.prog f args w Q :=
  H.mono fun e w' ⟨kind, id, a1, n1, c1, a2, n2, c2, tick, a3, n3, c3, a4, n4, c4, epoch, seq, a5, n5, c5, a6, n6, c6, he, E, h1, h2, h3, h4, h5, h6⟩ => by
    subst he
    have D0 := D.by E
    obtain ⟨l1, D1⟩ := D.adB D0 h1
    obtain ⟨l2, D2⟩ := D.adB D1 h2
    obtain ⟨l3, D3⟩ := D.adB D2 h3
    obtain ⟨l4, D4⟩ := D.adB D3 h4
    obtain ⟨l5, D5⟩ := D.adB D4 h5
    obtain ⟨l6, D6⟩ := D.adB D5 h6
    exact k w' _ _ _ _ _ l1 _ _ _ l2 _ _ _ _ l3 _ _ _ l4 _ _ _ _ _ l5 _ _ _ l6 D6
set_option maxRecDepth 1000000 in
set_option maxHeartbeats 8000000 in
theorem spec_l7Any (B cb : Nat) (w : World) (h : Cur B w cb) :
    Calls Try.prog 50 #[.pointer (some ⟨cb, 0, none⟩)] w (PFr B cb w) := by
  have D := (DS.start h).box #[.int .i64 0, .int .i64 0, .slice none 0 0, .slice none 0 0, .int .i64 0, .slice none 0 0, .slice none 0 0, .int .i64 0, .int .i64 0, .slice none 0 0, .slice none 0 0] 35
  go_enter Try.func50, Try.ntmps50
  go_wp2_with (first | (go_at_call 73; (first | (with_reducible refine d_PFr D ((spec_l7Draw B cb _ D.cur).mono fun _ _ h => h.r) ?_) | (with_reducible refine d_PFr (D.box _ _) ((spec_l7Draw B cb _ (D.box _ _).cur).mono fun _ _ h => h.r) ?_)); clear D; intro w1 kind id a1 n1 c1 l1 a2 n2 c2 l2 tick a3 n3 c3 l3 a4 n4 c4 l4 epoch seq a5 n5 c5 l5 a6 n6 c6 l6 D; (try clear kc kf); (try simp only [List.setIfInBounds_toArray, List.set_cons_succ, List.set_cons_zero] at D); (try (have kc := fun o => DS.cell0 D o; have kf := fun o => DS.frz0 D o))) | (go_at_call 48; (first | (with_reducible refine d_l1Below D ?_) | (with_reducible refine d_l1Below (D.set0 _ _) ?_) | (with_reducible refine d_l1Below (D.box _ _) ?_) | (with_reducible refine d_l1Below ((D.set0 _ _).set0 _ _) ?_) | (with_reducible refine d_l1Below ((D.box _ _).set0 _ _) ?_)); clear D; intro w1 z hz D; (try clear kc kf); (try simp only [List.setIfInBounds_toArray, List.set_cons_succ, List.set_cons_zero] at D); (try (have kc := fun o => DS.cell0 D o; have kf := fun o => DS.frz0 D o))) | (go_at_call 33; (first | (with_reducible refine d_l1Bytes D ?_ ?_) | (with_reducible refine d_l1Bytes (D.set0 _ _) ?_ ?_) | (with_reducible refine d_l1Bytes (D.box _ _) ?_ ?_) | (with_reducible refine d_l1Bytes ((D.set0 _ _).set0 _ _) ?_ ?_) | (with_reducible refine d_l1Bytes ((D.box _ _).set0 _ _) ?_ ?_)); (focus (first | omega | (have h9 := ofL.le hi (b := 256) (by decide); omega))); clear D; intro w1 a n c l hn D; (try clear kc kf); (try simp only [List.setIfInBounds_toArray, List.set_cons_succ, List.set_cons_zero] at D); (try (have kc := fun o => DS.cell0 D o; have kf := fun o => DS.frz0 D o))) | (go_at_call 34; (first | (with_reducible refine d_l1Int D ?_ ?_ ?_ ?_ ?_ ?_) | (with_reducible refine d_l1Int (D.set0 _ _) ?_ ?_ ?_ ?_ ?_ ?_) | (with_reducible refine d_l1Int (D.box _ _) ?_ ?_ ?_ ?_ ?_ ?_) | (with_reducible refine d_l1Int ((D.set0 _ _).set0 _ _) ?_ ?_ ?_ ?_ ?_ ?_) | (with_reducible refine d_l1Int ((D.box _ _).set0 _ _) ?_ ?_ ?_ ?_ ?_ ?_)); (focus (first | rfl | (simp; done))); (focus (exact rfl)); (focus rfl); (focus decide); (focus decide); clear D; intro w1 x hi D; (try clear kc kf); (try simp only [List.setIfInBounds_toArray, List.set_cons_succ, List.set_cons_zero] at D); (try (have kc := fun o => DS.cell0 D o; have kf := fun o => DS.frz0 D o))) | ((with_reducible refine wpList_stD1 (D.set0 _ _) ?_ (.tmp 2) (.tmp 86) ?_ ?_ ?_ ?_ ?_ ?_ ?_ ?_); (focus rfl); (focus rfl); rotate_left; (focus rfl); (focus rfl); (focus (exact si_Frame)); (focus rfl); (focus (first | rfl | (simp [Value.oneCell']; done))); clear D; intro w1 D; (try simp only [Act.put]); (try simp only [List.setIfInBounds_toArray]); (try simp only [List.set_cons_succ]); (try simp only [List.set_cons_zero]); (try clear kc kf); have kr := fun o => DS.cell1 D o) | ((with_reducible refine wpList_stD1 D ?_ (.tmp 2) (.tmp 86) ?_ ?_ ?_ ?_ ?_ ?_ ?_ ?_); (focus rfl); (focus rfl); rotate_left; (focus rfl); (focus rfl); (focus (exact si_Frame)); (focus rfl); (focus (first | rfl | (simp [Value.oneCell']; done))); clear D; intro w1 D; (try simp only [Act.put]); (try simp only [List.setIfInBounds_toArray]); (try simp only [List.set_cons_succ]); (try simp only [List.set_cons_zero]); (try clear kc kf); have kr := fun o => DS.cell1 D o))
  all_goals (refine' bodyPost_ret ?_ rfl ?_; rotate_left; (focus (simp [results, Try.results50, go_sem, kr]; rfl)); exact ⟨_, _, _, _, _, _, _, _, _, _, _, _, _, _, _, _, _, _, _, _, _, _, _, rfl, D.de, by (first | exact BR.nil _ _ | exact D.b0 | exact D.tl.b0 | exact D.tl.tl.b0 | exact D.tl.tl.tl.b0 | exact D.tl.tl.tl.tl.b0 | exact D.tl.tl.tl.tl.tl.b0 | exact D.tl.tl.tl.tl.tl.tl.b0), by (first | exact BR.nil _ _ | exact D.b0 | exact D.tl.b0 | exact D.tl.tl.b0 | exact D.tl.tl.tl.b0 | exact D.tl.tl.tl.tl.b0 | exact D.tl.tl.tl.tl.tl.b0 | exact D.tl.tl.tl.tl.tl.tl.b0), by (first | exact BR.nil _ _ | exact D.b0 | exact D.tl.b0 | exact D.tl.tl.b0 | exact D.tl.tl.tl.b0 | exact D.tl.tl.tl.tl.b0 | exact D.tl.tl.tl.tl.tl.b0 | exact D.tl.tl.tl.tl.tl.tl.b0), by (first | exact BR.nil _ _ | exact D.b0 | exact D.tl.b0 | exact D.tl.tl.b0 | exact D.tl.tl.tl.b0 | exact D.tl.tl.tl.tl.b0 | exact D.tl.tl.tl.tl.tl.b0 | exact D.tl.tl.tl.tl.tl.tl.b0), by (first | exact BR.nil _ _ | exact D.b0 | exact D.tl.b0 | exact D.tl.tl.b0 | exact D.tl.tl.tl.b0 | exact D.tl.tl.tl.tl.b0 | exact D.tl.tl.tl.tl.tl.b0 | exact D.tl.tl.tl.tl.tl.tl.b0), by (first | exact BR.nil _ _ | exact D.b0 | exact D.tl.b0 | exact D.tl.tl.b0 | exact D.tl.tl.tl.b0 | exact D.tl.tl.tl.tl.b0 | exact D.tl.tl.tl.tl.tl.b0 | exact D.tl.tl.tl.tl.tl.tl.b0)⟩)
/-- a frame by a draw that makes its own cursor -/
def PFt (w : World) (e : Ending) (w' : World) : Prop := ∃ v f, e = .returned v ∧ FrameR w' v f ∧ f.tot ≤ 1536 ∧ w.grownBy w' none
theorem PFt.mk {w w' : World} {kind id tick epoch seq : Int} {a1 a2 a3 a4 a5 a6 : Option Addr} {n1 c1 n2 c2 n3 c3 n4 c4 n5 c5 n6 c6 : Nat} (g : w.grownBy w' none)
    (h1 : BR w w' a1 n1 c1) (h2 : BR w w' a2 n2 c2) (h3 : BR w w' a3 n3 c3) (h4 : BR w w' a4 n4 c4) (h5 : BR w w' a5 n5 c5) (h6 : BR w w' a6 n6 c6) : PFt w (.returned (.agg #[.int .i64 kind, .int .i64 id, .slice a1 n1 c1, .slice a2 n2 c2, .int .i64 tick, .slice a3 n3 c3, .slice a4 n4 c4, .int .i64 epoch, .int .i64 seq, .slice a5 n5 c5, .slice a6 n6 c6])) w' := by
  obtain ⟨l1, r1, -, b1⟩ := h1
  obtain ⟨l2, r2, -, b2⟩ := h2
  obtain ⟨l3, r3, -, b3⟩ := h3
  obtain ⟨l4, r4, -, b4⟩ := h4
  obtain ⟨l5, r5, -, b5⟩ := h5
  obtain ⟨l6, r6, -, b6⟩ := h6
  refine ⟨_, ⟨kind, id, l1, l2, tick, l3, l4, epoch, seq, l5, l6⟩, rfl, ⟨_, _, _, _, _, _, _, _, _, _, _, _, _, _, _, _, _, _, rfl, r1, r2, r3, r4, r5, r6⟩, ?_, g⟩
  have := r1.blen; have := r2.blen; have := r3.blen; have := r4.blen; have := r5.blen; have := r6.blen
  simp only [FrameM.tot]
  omega
theorem Rd.pb {a : Option Addr} {n c : Nat} {xs : List Value} {w : World} (r : Rd w a n c xs) : 0 < n → ∀ p, a = some p → p.block < w.heap.size := by
  intro h0 p hp
  obtain ⟨b, off, h1, h2, -⟩ := r.pos h0
  rw [h1] at hp
  cases hp
  exact h2
end Go.Proofs.Ytjdaafemfpafdaa
