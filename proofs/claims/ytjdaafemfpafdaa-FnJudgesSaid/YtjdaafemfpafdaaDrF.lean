/-
  Draws of frames. Conditions: none beside those that each theorem names.
-/
import Derived.Test.YtjdaafemfpafdaaDrw
import Derived.Test.YtjdaafemfpafdaaDrB
import Derived.Test.YtjdaafemfpafdaaFrOkP
namespace Go.Proofs.Ytjdaafemfpafdaa
open Go.RowKit
/-- a frame that was drawn -/
def PFr (B cb : Nat) (w : World) (e : Ending) (w' : World) : Prop := ∃ kind id a1 n1 c1 a2 n2 c2 tick a3 n3 c3 a4 n4 c4 epoch seq a5 n5 c5 a6 n6 c6, e = .returned (.agg #[.int .i64 kind, .int .i64 id, .slice a1 n1 c1, .slice a2 n2 c2, .int .i64 tick, .slice a3 n3 c3, .slice a4 n4 c4, .int .i64 epoch, .int .i64 seq, .slice a5 n5 c5, .slice a6 n6 c6]) ∧ DE B cb w w' ∧ BR w w' a1 n1 c1 ∧ BR w w' a2 n2 c2 ∧ BR w w' a3 n3 c3 ∧ BR w w' a4 n4 c4 ∧ BR w w' a5 n5 c5 ∧ BR w w' a6 n6 c6
/-- what a frame that is right holds -/
def frP (kind id : Int) (n1 n2 : Nat) (tick : Int) (n3 n4 : Nat) (epoch seq : Int) (n5 n6 : Nat) : Prop :=
  (kind = 1 ∧ 1 ≤ id ∧ id ≤ 9 ∧ n1 = 12 ∧ n2 = 0 ∧ tick = 0 ∧ n3 = 0 ∧ n4 = 0 ∧ epoch = 0 ∧ seq = 0 ∧ n5 = 0 ∧ n6 = 0) ∨
  (kind = 2 ∧ id = 0 ∧ n1 = 12 ∧ n2 = 12 ∧ 0 ≤ tick ∧ tick ≤ 1000000 ∧ n3 = 16 ∧ n4 = 0 ∧ epoch = 0 ∧ seq = 0 ∧ n5 = 0 ∧ n6 = 0) ∨
  (kind = 3 ∧ 1 ≤ id ∧ id ≤ 9 ∧ n1 = 12 ∧ n2 = 12 ∧ 0 ≤ tick ∧ tick ≤ 1000000 ∧ n3 = 16 ∧ n4 = 16 ∧ epoch = 0 ∧ seq = 0 ∧ n5 = 0 ∧ n6 = 0) ∨
  (4 ≤ kind ∧ kind ≤ 8 ∧ id = 0 ∧ n1 = 0 ∧ n2 = 12 ∧ tick = 0 ∧ n3 = 0 ∧ n4 = 0 ∧ 0 ≤ epoch ∧ epoch ≤ 4294967295 ∧ 0 ≤ seq ∧ seq ≤ 281474976710655 ∧ n6 = 16 ∧ ((kind = 4 ∧ n5 ≤ 40) ∨ ((kind = 5 ∨ kind = 6) ∧ n5 = 12) ∨ (7 ≤ kind ∧ n5 = 4)))
theorem frP.ok {kind id : Int} {n1 n2 : Nat} {tick : Int} {n3 n4 : Nat} {epoch seq : Int} {n5 n6 : Nat} (h : frP kind id n1 n2 tick n3 n4 epoch seq n5 n6) : frOkN kind id n1 n2 tick n3 n4 epoch seq n5 n6 = true := by
  rcases h with ⟨rfl, h⟩ | ⟨rfl, h⟩ | ⟨rfl, h⟩ | ⟨k1, k2, h⟩
  · simp [frOkN, not_neN, not_neI, sealed_1, eqN, eqI, inB, *]
  · simp [frOkN, not_neN, not_neI, sealed_2, eqN, eqI, inB, *]
  · simp [frOkN, not_neN, not_neI, sealed_3, eqN, eqI, inB, *]
  · have hs : sealedB kind = true := by simp [sealedB, inB, k1, k2]
    obtain ⟨q1, q2, q3, q4, q5, q6, q7, q8, q9, q10, q11, q12⟩ := h
    have hb : bodyB kind n5 = true := by
      unfold bodyB
      rcases q12 with ⟨q12, q13⟩ | ⟨q12, q13⟩ | ⟨q12, q13⟩
      · simp [q12, q13]
      · rw [if_neg (by omega), if_pos q12]; simp [q13]
      · rw [if_neg (by omega), if_neg (by omega)]; simp [q13]
    simp [frOkN, eqN, eqI, inB, *]
/-- a frame that was drawn, and is right -/
def PFv (B cb : Nat) (w : World) (e : Ending) (w' : World) : Prop := ∃ kind id a1 n1 c1 a2 n2 c2 tick a3 n3 c3 a4 n4 c4 epoch seq a5 n5 c5 a6 n6 c6, e = .returned (.agg #[.int .i64 kind, .int .i64 id, .slice a1 n1 c1, .slice a2 n2 c2, .int .i64 tick, .slice a3 n3 c3, .slice a4 n4 c4, .int .i64 epoch, .int .i64 seq, .slice a5 n5 c5, .slice a6 n6 c6]) ∧ DE B cb w w' ∧ BR w w' a1 n1 c1 ∧ BR w w' a2 n2 c2 ∧ BR w w' a3 n3 c3 ∧ BR w w' a4 n4 c4 ∧ BR w w' a5 n5 c5 ∧ BR w w' a6 n6 c6 ∧ frP kind id n1 n2 tick n3 n4 epoch seq n5 n6
theorem PFv.r {B cb : Nat} {w : World} {e : Ending} {w' : World} (h : PFv B cb w e w') : PFr B cb w e w' := by
  obtain ⟨kind, id, a1, n1, c1, a2, n2, c2, tick, a3, n3, c3, a4, n4, c4, epoch, seq, a5, n5, c5, a6, n6, c6, he, E, h1, h2, h3, h4, h5, h6, -⟩ := h
  exact ⟨kind, id, a1, n1, c1, a2, n2, c2, tick, a3, n3, c3, a4, n4, c4, epoch, seq, a5, n5, c5, a6, n6, c6, he, E, h1, h2, h3, h4, h5, h6⟩
set_option maxRecDepth 1000000 in
set_option maxHeartbeats 4000000 in
theorem spec_l7Draw (B cb : Nat) (w : World) (h : Cur B w cb) :
    Calls Try.prog 73 #[.pointer (some ⟨cb, 0, none⟩)] w (PFv B cb w) := by
  have D := (DS.start h).box #[.int .i64 0, .int .i64 0, .slice none 0 0, .slice none 0 0, .int .i64 0, .slice none 0 0, .slice none 0 0, .int .i64 0, .int .i64 0, .slice none 0 0, .slice none 0 0] 35
  go_enter Try.func73, Try.ntmps73
  go_wp2_with (first | (go_at_call 48; (first | (with_reducible refine d_l1Below D ?_) | (with_reducible refine d_l1Below (D.set0 _ _) ?_) | (with_reducible refine d_l1Below (D.box _ _) ?_) | (with_reducible refine d_l1Below ((D.set0 _ _).set0 _ _) ?_) | (with_reducible refine d_l1Below ((D.box _ _).set0 _ _) ?_)); clear D; intro w1 z hz D; (try clear kc kf); (try simp only [List.setIfInBounds_toArray, List.set_cons_succ, List.set_cons_zero] at D); (try (have kc := fun o => DS.cell0 D o; have kf := fun o => DS.frz0 D o))) | (go_at_call 33; (first | (with_reducible refine d_l1Bytes D ?_ ?_) | (with_reducible refine d_l1Bytes (D.set0 _ _) ?_ ?_) | (with_reducible refine d_l1Bytes (D.box _ _) ?_ ?_) | (with_reducible refine d_l1Bytes ((D.set0 _ _).set0 _ _) ?_ ?_) | (with_reducible refine d_l1Bytes ((D.box _ _).set0 _ _) ?_ ?_)); (focus (first | omega | (have h9 := ofL.le hi (b := 256) (by decide); omega))); clear D; intro w1 a n c l hn D; (try clear kc kf); (try simp only [List.setIfInBounds_toArray, List.set_cons_succ, List.set_cons_zero] at D); (try (have kc := fun o => DS.cell0 D o; have kf := fun o => DS.frz0 D o))) | (go_at_call 34; (first | (with_reducible refine d_l1Int D ?_ ?_ ?_ ?_ ?_ ?_) | (with_reducible refine d_l1Int (D.set0 _ _) ?_ ?_ ?_ ?_ ?_ ?_) | (with_reducible refine d_l1Int (D.box _ _) ?_ ?_ ?_ ?_ ?_ ?_) | (with_reducible refine d_l1Int ((D.set0 _ _).set0 _ _) ?_ ?_ ?_ ?_ ?_ ?_) | (with_reducible refine d_l1Int ((D.box _ _).set0 _ _) ?_ ?_ ?_ ?_ ?_ ?_)); (focus (first | rfl | (simp; done))); (focus (exact rfl)); (focus rfl); (focus decide); (focus decide); clear D; intro w1 x hi D; (try clear kc kf); (try simp only [List.setIfInBounds_toArray, List.set_cons_succ, List.set_cons_zero] at D); (try (have kc := fun o => DS.cell0 D o; have kf := fun o => DS.frz0 D o))) | ((with_reducible refine wpList_stD1 (D.set0 _ _) ?_ (.tmp 2) (.tmp 78) ?_ ?_ ?_ ?_ ?_ ?_ ?_ ?_); (focus rfl); (focus rfl); rotate_left; (focus rfl); (focus rfl); (focus (exact si_Frame)); (focus rfl); (focus (first | rfl | (simp [Value.oneCell']; done))); clear D; intro w1 D; (try simp only [Act.put]); (try simp only [List.setIfInBounds_toArray]); (try simp only [List.set_cons_succ]); (try simp only [List.set_cons_zero]); (try clear kc kf); have kr := fun o => DS.cell1 D o))
  all_goals (refine' bodyPost_ret ?_ rfl ?_; rotate_left; (focus (simp [results, Try.results73, go_sem, kr]; rfl)); refine ⟨_, _, _, _, _, _, _, _, _, _, _, _, _, _, _, _, _, _, _, _, _, _, _, rfl, D.de, by (first | exact BR.nil _ _ | exact D.b0 | exact D.tl.b0 | exact D.tl.tl.b0 | exact D.tl.tl.tl.b0 | exact D.tl.tl.tl.tl.b0 | exact D.tl.tl.tl.tl.tl.b0 | exact D.tl.tl.tl.tl.tl.tl.b0), by (first | exact BR.nil _ _ | exact D.b0 | exact D.tl.b0 | exact D.tl.tl.b0 | exact D.tl.tl.tl.b0 | exact D.tl.tl.tl.tl.b0 | exact D.tl.tl.tl.tl.tl.b0 | exact D.tl.tl.tl.tl.tl.tl.b0), by (first | exact BR.nil _ _ | exact D.b0 | exact D.tl.b0 | exact D.tl.tl.b0 | exact D.tl.tl.tl.b0 | exact D.tl.tl.tl.tl.b0 | exact D.tl.tl.tl.tl.tl.b0 | exact D.tl.tl.tl.tl.tl.tl.b0), by (first | exact BR.nil _ _ | exact D.b0 | exact D.tl.b0 | exact D.tl.tl.b0 | exact D.tl.tl.tl.b0 | exact D.tl.tl.tl.tl.b0 | exact D.tl.tl.tl.tl.tl.b0 | exact D.tl.tl.tl.tl.tl.tl.b0), by (first | exact BR.nil _ _ | exact D.b0 | exact D.tl.b0 | exact D.tl.tl.b0 | exact D.tl.tl.tl.b0 | exact D.tl.tl.tl.tl.b0 | exact D.tl.tl.tl.tl.tl.b0 | exact D.tl.tl.tl.tl.tl.tl.b0), by (first | exact BR.nil _ _ | exact D.b0 | exact D.tl.b0 | exact D.tl.tl.b0 | exact D.tl.tl.tl.b0 | exact D.tl.tl.tl.tl.b0 | exact D.tl.tl.tl.tl.tl.b0 | exact D.tl.tl.tl.tl.tl.tl.b0), ?_⟩; (try clear D kr h); (try simp only [Hid, ofL, List.map_cons, List.map_nil, unI, List.mem_cons, List.not_mem_nil, or_false, beq_iff_eq, beq_eq_false_iff_ne, ne_eq] at *); unfold frP; first | (left; refine ⟨?_, ?_, ?_, ?_, ?_, ?_, ?_, ?_, ?_, ?_, ?_, ?_⟩ <;> omega) | (right; left; refine ⟨?_, ?_, ?_, ?_, ?_, ?_, ?_, ?_, ?_, ?_, ?_, ?_⟩ <;> omega) | (right; right; left; refine ⟨?_, ?_, ?_, ?_, ?_, ?_, ?_, ?_, ?_, ?_, ?_, ?_, ?_⟩ <;> omega) | (right; right; right; refine ⟨?_, ?_, ?_, ?_, ?_, ?_, ?_, ?_, ?_, ?_, ?_, ?_, ?_, ?_⟩ <;> first | omega | (left; constructor <;> omega) | (right; left; constructor <;> omega) | (right; right; constructor <;> omega)))
end Go.Proofs.Ytjdaafemfpafdaa
