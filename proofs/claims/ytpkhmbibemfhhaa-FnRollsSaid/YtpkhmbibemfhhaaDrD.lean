/-
  Draws of generators. Conditions: none beside those that each theorem names.
-/
import Derived.Test.YtpkhmbibemfhhaaDrw
import Derived.Test.YtpkhmbibemfhhaaHelpS
namespace Go.Proofs.Ytpkhmbibemfhhaa
open Go.RowKit
def PDi (B cb : Nat) (w : World) (e : Ending) (w' : World) : Prop := ∃ a n c x, e = .returned (.agg #[.slice a n c, .int .i64 x]) ∧ DE B cb w w' ∧ BR w w' a n c
theorem d_PDi {f : FuncId} {B cb : Nat} {w0 w : World} {bs : List Vb} {L : List Sv} {Q : Ending → World → Prop} {args : Array Value} (D : DS B cb w0 w bs L) (H : Calls Try.prog f args w (PDi B cb w))
    (k : ∀ w' a n c l x, DS B cb w0 w' bs (⟨a, n, c, bys l⟩ :: L) → Q (.returned (.agg #[.slice a n c, .int .i64 x])) w') : Calls Try.prog f args w Q :=
  H.mono fun e w' ⟨a, n, c, x, he, E, h⟩ => by
    subst he
    obtain ⟨l, D1⟩ := D.adB (D.by E) h
    exact k w' a n c l x D1
set_option maxRecDepth 1000000 in
set_option maxHeartbeats 1000000 in
theorem spec_l10Draw (B cb : Nat) (w : World) (h : Cur B w cb) : Calls Try.prog 116 #[.pointer (some ⟨cb, 0, none⟩)] w (PDi B cb w) := by
  have D := (DS.start h).box #[.slice none 0 0, .int .i64 0] 58
  go_enter Try.func116, Try.ntmps116
  go_wp2_with (first | (go_at_call 73; (first | (with_reducible refine d_l1Below D ?_) | (with_reducible refine d_l1Below (D.set0 _ _) ?_) | (with_reducible refine d_l1Below (D.box _ _) ?_) | (with_reducible refine d_l1Below ((D.set0 _ _).set0 _ _) ?_) | (with_reducible refine d_l1Below ((D.box _ _).set0 _ _) ?_)); clear D; intro w1 z hz D; (try clear kc kf); (try simp only [List.setIfInBounds_toArray, List.set_cons_succ, List.set_cons_zero] at D); (try (have kc := fun o => DS.cell0 D o; have kf := fun o => DS.frz0 D o))) | (go_at_call 58; (first | (with_reducible refine d_l1Bytes D ?_ ?_) | (with_reducible refine d_l1Bytes (D.set0 _ _) ?_ ?_) | (with_reducible refine d_l1Bytes (D.box _ _) ?_ ?_) | (with_reducible refine d_l1Bytes ((D.set0 _ _).set0 _ _) ?_ ?_) | (with_reducible refine d_l1Bytes ((D.box _ _).set0 _ _) ?_ ?_)); (focus (first | omega | (have h9 := ofL.le hi (b := 256) (by decide); omega))); clear D; intro w1 a n c l hn D; (try clear kc kf); (try simp only [List.setIfInBounds_toArray, List.set_cons_succ, List.set_cons_zero] at D); (try (have kc := fun o => DS.cell0 D o; have kf := fun o => DS.frz0 D o))) | ((with_reducible refine wpList_stD0 D ?_ (.tmp 2) (.tmp 10) ?_ ?_ ?_ ?_ ?_ ?_ ?_ ?_); (focus rfl); (focus rfl); rotate_left; (focus rfl); (focus rfl); (focus (exact si_Dice)); (focus rfl); (focus (first | rfl | (simp [Value.oneCell']; done))); clear D; intro w1 D; (try simp only [Act.put]); (try simp only [List.setIfInBounds_toArray]); (try simp only [List.set_cons_succ]); (try simp only [List.set_cons_zero]); (try clear kc kf); have kr := fun o => DS.cell0 D o))
  refine' bodyPost_ret ?_ rfl ?_; rotate_left; (focus (simp [results, Try.results116, go_sem, kr]; rfl))
  exact ⟨_, _, _, _, rfl, D.de, by (first | exact BR.nil _ _ | exact D.b0 | exact D.tl.b0 | exact D.tl.tl.b0 | exact D.tl.tl.tl.b0 | exact D.tl.tl.tl.tl.b0 | exact D.tl.tl.tl.tl.tl.b0 | exact D.tl.tl.tl.tl.tl.tl.b0)⟩
set_option maxRecDepth 1000000 in
set_option maxHeartbeats 1000000 in
theorem spec_l10Any (B cb : Nat) (w : World) (h : Cur B w cb) : Calls Try.prog 94 #[.pointer (some ⟨cb, 0, none⟩)] w (PDi B cb w) := by
  have D := (DS.start h).box #[.slice none 0 0, .int .i64 0] 58
  go_enter Try.func94, Try.ntmps94
  go_wp2_with (first
    | (go_at_call 116; (with_reducible refine d_PDi D (spec_l10Draw B cb _ D.cur) ?_); clear D; intro w1 a n c l x D; (try clear kc kf); (try simp only [List.setIfInBounds_toArray, List.set_cons_succ, List.set_cons_zero] at D); (try (have kc := fun o => DS.cell0 D o; have kf := fun o => DS.frz0 D o)))
    | (go_at_call 73; (first | (with_reducible refine d_l1Below D ?_) | (with_reducible refine d_l1Below (D.set0 _ _) ?_) | (with_reducible refine d_l1Below (D.box _ _) ?_) | (with_reducible refine d_l1Below ((D.set0 _ _).set0 _ _) ?_) | (with_reducible refine d_l1Below ((D.box _ _).set0 _ _) ?_)); clear D; intro w1 z hz D; (try clear kc kf); (try simp only [List.setIfInBounds_toArray, List.set_cons_succ, List.set_cons_zero] at D); (try (have kc := fun o => DS.cell0 D o; have kf := fun o => DS.frz0 D o))) | (go_at_call 58; (first | (with_reducible refine d_l1Bytes D ?_ ?_) | (with_reducible refine d_l1Bytes (D.set0 _ _) ?_ ?_) | (with_reducible refine d_l1Bytes (D.box _ _) ?_ ?_) | (with_reducible refine d_l1Bytes ((D.set0 _ _).set0 _ _) ?_ ?_) | (with_reducible refine d_l1Bytes ((D.box _ _).set0 _ _) ?_ ?_)); (focus (first | omega | (have h9 := ofL.le hi (b := 256) (by decide); omega))); clear D; intro w1 a n c l hn D; (try clear kc kf); (try simp only [List.setIfInBounds_toArray, List.set_cons_succ, List.set_cons_zero] at D); (try (have kc := fun o => DS.cell0 D o; have kf := fun o => DS.frz0 D o))) | (go_at_call 59; (first | (with_reducible refine d_l1Int D ?_ ?_ ?_ ?_ ?_ ?_) | (with_reducible refine d_l1Int (D.set0 _ _) ?_ ?_ ?_ ?_ ?_ ?_) | (with_reducible refine d_l1Int (D.box _ _) ?_ ?_ ?_ ?_ ?_ ?_) | (with_reducible refine d_l1Int ((D.set0 _ _).set0 _ _) ?_ ?_ ?_ ?_ ?_ ?_) | (with_reducible refine d_l1Int ((D.box _ _).set0 _ _) ?_ ?_ ?_ ?_ ?_ ?_)); (focus (first | rfl | (simp; done))); (focus (exact rfl)); (focus rfl); (focus decide); (focus decide); clear D; intro w1 x hi D; (try clear kc kf); (try simp only [List.setIfInBounds_toArray, List.set_cons_succ, List.set_cons_zero] at D); (try (have kc := fun o => DS.cell0 D o; have kf := fun o => DS.frz0 D o))) | ((with_reducible refine wpList_stD1 (D.set0 _ _) ?_ (.tmp 2) (.tmp 22) ?_ ?_ ?_ ?_ ?_ ?_ ?_ ?_); (focus rfl); (focus rfl); rotate_left; (focus rfl); (focus rfl); (focus (exact si_Dice)); (focus rfl); (focus (first | rfl | (simp [Value.oneCell']; done))); clear D; intro w1 D; (try simp only [Act.put]); (try simp only [List.setIfInBounds_toArray]); (try simp only [List.set_cons_succ]); (try simp only [List.set_cons_zero]); (try clear kc kf); have kr := fun o => DS.cell1 D o) | ((with_reducible refine wpList_stD1 D ?_ (.tmp 2) (.tmp 22) ?_ ?_ ?_ ?_ ?_ ?_ ?_ ?_); (focus rfl); (focus rfl); rotate_left; (focus rfl); (focus rfl); (focus (exact si_Dice)); (focus rfl); (focus (first | rfl | (simp [Value.oneCell']; done))); clear D; intro w1 D; (try simp only [Act.put]); (try simp only [List.setIfInBounds_toArray]); (try simp only [List.set_cons_succ]); (try simp only [List.set_cons_zero]); (try clear kc kf); have kr := fun o => DS.cell1 D o))
  all_goals (refine' bodyPost_ret ?_ rfl ?_; rotate_left; (focus (simp [results, Try.results94, go_sem, kr]; rfl)); exact ⟨_, _, _, _, rfl, D.de, by (first | exact BR.nil _ _ | exact D.b0 | exact D.tl.b0 | exact D.tl.tl.b0 | exact D.tl.tl.tl.b0 | exact D.tl.tl.tl.tl.b0 | exact D.tl.tl.tl.tl.tl.b0 | exact D.tl.tl.tl.tl.tl.tl.b0)⟩)
theorem Rd.pb2 {a : Option Addr} {n c : Nat} {xs : List Value} {w : World} (r : Rd w a n c xs) : 0 < n → ∀ p, a = some p → p.block < w.heap.size := by
  intro h0 p hp
  obtain ⟨b, off, h1, h2, -⟩ := r.pos h0
  rw [h1] at hp
  cases hp
  exact h2
def PDt (w : World) (e : Ending) (w' : World) : Prop := ∃ a n c l x, e = .returned (.agg #[.slice a n c, .int .i64 x]) ∧ Rd w' a n c (bys l) ∧ n ≤ 256 ∧ w.grownBy w' none
set_option maxRecDepth 1000000 in
set_option maxHeartbeats 1000000 in
theorem spec_DrawRoll (a : Option Addr) (n c : Nat) (l : List UInt8) (w : World) (r : Rd w a n c (bys l)) (hn : n ≤ 1048576) :
    Calls Try.prog 40 #[.slice a n c] w (PDt w) := by
  have hp := r.pb2
  go_enter Try.func40, Try.ntmps40
  go_wp2_with (first
    | (go_at_call 55; refine (spec_l1New a n c l w.heap.size _ (r.keep0 (gb_alloc (gb_refl _) _)) hn hp (gb_alloc (gb_refl _) _).size).mono ?_; rintro e w1 ⟨cb, rfl, cu, hc, g⟩; have D := DS.init1 (Bx.new w _ _) cu (gb_alloc (gb_refl w) _) (Nat.le_refl _) hc g; have hcb : w.heap.size ≤ cb := Nat.le_trans (gb_alloc (gb_refl w) _).size hc; clear g hc cu)
    | (go_at_call 94; (with_reducible refine d_PDi D (spec_l10Any _ cb _ D.cur) ?_); clear D; intro w1 b m d k x D)
    | ((with_reducible refine wpList_stD0 D ?_ (.tmp 2) (.tmp 7) ?_ ?_ ?_ ?_ ?_ ?_ ?_ ?_); (focus rfl); (focus rfl); rotate_left; (focus rfl); (focus rfl); (focus (exact si_Dice)); (focus rfl); (focus (first | rfl | (simp [Value.oneCell']; done))); clear D; intro w1 D; (try simp only [Act.put]); (try simp only [List.setIfInBounds_toArray]); (try simp only [List.set_cons_succ]); (try simp only [List.set_cons_zero]); (try clear kc kf); have kr := fun o => DS.cell0 D o))
  refine' bodyPost_ret ?_ rfl ?_; rotate_left; (focus (simp [results, Try.results40, go_sem, kr]; rfl))
  exact ⟨_, _, _, _, _, rfl, D.r0, (D.rs _ (List.mem_cons_self ..)).2.2, D.gb hcb⟩
end Go.Proofs.Ytpkhmbibemfhhaa
