/-
  FnJudges returns true for every code; with the draws that this law alone asks for. Conditions: none.
-/
import Derived.Test.YtjdaafemfpafdaaDrw
import Derived.Test.YtjdaafemfpafdaaDrO
import Derived.Test.YtjdaafemfpafdaaDrJ
import Derived.Test.YtjdaafemfpafdaaKeys2
import Derived.Test.YtjdaafemfpafdaaSet1
import Derived.Test.YtjdaafemfpafdaaDrF2
import Derived.Test.YtjdaafemfpafdaaDrB
import Derived.Test.YtjdaafemfpafdaaKeys4
import Derived.Test.YtjdaafemfpafdaaLaw
import Derived.Test.YtjdaafemfpafdaaLawH
import Derived.Test.YtjdaafemfpafdaaAuth
import Derived.Deep.RegionHeld3
/-
  Draws of addresses, of jars, and of what a cookie is minted of. Conditions: none beside those that each theorem names.
-/
namespace Go.Proofs.Ytjdaafemfpafdaa
open Go.RowKit
/-- numbers laid inside a region that draws its order -/
theorem step_bL {w : World} {ops : Array Oper} {o : Oper} {ac : Act} {K : Act → World → Prop} {Q : Exit → Act → World → Prop} {E : Prop} (hgd : o.guard = none) (d : Option Tmp) (hd : o.dst = d) (k : Nat) (parts : Array (Nat × Operand)) (ho : o.op = .buildSlice 58 k parts) (cs : List Int)
    (hr : (Instr.buildSlice 58 k (parts.map fun (i, x) => (i, ac.eval x))).run Try.prog w = .ok (.slice (some ⟨w.heap.size, 0, none⟩) k k) (w.alloc (.cells (ins cs).toArray 3))) (hn : cs.length = k)
    (h : ∀ q w', w.heap.size ≤ q → Rd w' (some ⟨q, 0, none⟩) k k (ins cs) → w.grownBy w' none → K (ac.put d (.slice (some ⟨q, 0, none⟩) k k)) w') :
    if Region.wanted o (yielded ops ac.tmps) = true then Oper.wp Try.prog o ac w K Q else E := by
  have hw : Region.wanted o (yielded ops ac.tmps) = true := by simp [Region.wanted, hgd]
  rw [if_pos hw]
  subst hd
  unfold Oper.wp execOp
  simp only [ho, Sem.run_bind, hr, Sem.run_pure, Result.andThen_ok]
  exact h _ _ (Nat.le_refl _) (new_rd w (ins cs).toArray _ k (by simp [ins, hn])) (gb_alloc (gb_refl w) _)
theorem spec_Near (x : Int) (w : World) : Calls Try.prog 79 #[.int .i64 x] w fun e w' => ∃ h p : Int, e = .returned (.agg #[.int .i64 h, .int .i64 p]) ∧ w.grownBy w' none := by
  have B := bx1 w #[.int .i64 0, .int .i64 0] 27
  go_enter Try.func79, Try.ntmps79
  go_wp2_with (go_at_call 53; refine (spec_l1In _ _ _ _).mono ?_; rintro e w' ⟨rfl, rfl⟩)
  all_goals (refine' bodyPost_ret ?_ rfl ?_; rotate_left; (focus (simp [results, Try.results79, go_sem]; rfl)); exact ⟨_, _, rfl, (by (repeat (first | with_reducible exact gb_refl _ | with_reducible refine gb_alloc ?_ _ | with_reducible refine gb_set ?_ (.inl (by simp)) _))) ⟩)
def PAd (B cb : Nat) (w : World) (e : Ending) (w' : World) : Prop := ∃ h p : Int, e = .returned (.agg #[.int .i64 h, .int .i64 p]) ∧ DE B cb w w'
theorem d_PAd {f : FuncId} {B cb : Nat} {w0 w : World} {bs : List Vb} {L : List Sv} {Q : Ending → World → Prop} {args : Array Value} (D : DS B cb w0 w bs L) (H : Calls Try.prog f args w (PAd B cb w))
    (k : ∀ w' (h p : Int), DS B cb w0 w' bs L → Q (.returned (.agg #[.int .i64 h, .int .i64 p])) w') : Calls Try.prog f args w Q :=
  H.mono fun e w' ⟨h, p, he, E⟩ => by
    subst he
    exact k w' h p (D.by E)
theorem d_l1Byte {B cb : Nat} {w0 w : World} {bs : List Vb} {L : List Sv} {Q : Ending → World → Prop} (D : DS B cb w0 w bs L) (k : ∀ w' (z : Nat), z < 256 → DS B cb w0 w' bs L → Q (.returned (.int .i64 (z : Int))) w') : Calls Try.prog 65 #[.pointer (some ⟨cb, 0, none⟩)] w Q :=
  (spec_l1Byte B cb w D.cur).mono fun e w' ⟨z, h, he, c, d⟩ => by subst he; exact k w' z h (D.step c d)
set_option maxRecDepth 1000000 in
set_option maxHeartbeats 1000000 in
theorem spec_l6Draw (B cb : Nat) (w : World) (h : Cur B w cb) : Calls Try.prog 64 #[.pointer (some ⟨cb, 0, none⟩)] w (PAd B cb w) := by
  have D := (DS.start h).box #[.int .i64 0, .int .i64 0] 27
  go_enter Try.func64, Try.ntmps64
  go_wp2_with (first
    | (go_at_call 51; (with_reducible refine d_l1Once D ?_); clear D; intro w1 o D; (try clear kc kf); (try simp only [List.setIfInBounds_toArray, List.set_cons_succ, List.set_cons_zero] at D); (try (have kc := fun o => DS.cell0 D o; have kf := fun o => DS.frz0 D o)); cases o)
    | (go_at_call 48; (first | (with_reducible refine d_l1Below D ?_) | (with_reducible refine d_l1Below (D.set0 _ _) ?_) | (with_reducible refine d_l1Below (D.box _ _) ?_) | (with_reducible refine d_l1Below ((D.set0 _ _).set0 _ _) ?_) | (with_reducible refine d_l1Below ((D.box _ _).set0 _ _) ?_)); clear D; intro w1 z hz D; (try clear kc kf); (try simp only [List.setIfInBounds_toArray, List.set_cons_succ, List.set_cons_zero] at D); (try (have kc := fun o => DS.cell0 D o; have kf := fun o => DS.frz0 D o))) | (go_at_call 65; (with_reducible refine d_l1Byte D ?_); clear D; intro w1 z hz D; (try clear kc kf); (try simp only [List.setIfInBounds_toArray, List.set_cons_succ, List.set_cons_zero] at D); (try (have kc := fun o => DS.cell0 D o; have kf := fun o => DS.frz0 D o)))
    | (go_at_call 79; refine (spec_Near _ _).mono ?_; rintro e w1 ⟨h1, p1, rfl, g⟩; replace D := D.grow g; clear g; (try clear kc kf); (try simp only [List.setIfInBounds_toArray, List.set_cons_succ, List.set_cons_zero] at D); (try (have kc := fun o => DS.cell0 D o; have kf := fun o => DS.frz0 D o)))
    | ((with_reducible refine wpList_stD0 D ?_ (.tmp 2) (.tmp 13) ?_ ?_ ?_ ?_ ?_ ?_ ?_ ?_); (focus rfl); (focus rfl); rotate_left; (focus rfl); (focus rfl); (focus (exact si_Addr)); (focus rfl); (focus (first | rfl | (simp [Value.oneCell']; done))); clear D; intro w1 D; (try simp only [Act.put]); (try simp only [List.setIfInBounds_toArray]); (try simp only [List.set_cons_succ]); (try simp only [List.set_cons_zero]); (try clear kc kf); have kr := fun o => DS.cell0 D o) | ((with_reducible refine wpList_stD0 D ?_ (.tmp 2) (.tmp 16) ?_ ?_ ?_ ?_ ?_ ?_ ?_ ?_); (focus rfl); (focus rfl); rotate_left; (focus rfl); (focus rfl); (focus (exact si_Addr)); (focus rfl); (focus (first | rfl | (simp [Value.oneCell']; done))); clear D; intro w1 D; (try simp only [Act.put]); (try simp only [List.setIfInBounds_toArray]); (try simp only [List.set_cons_succ]); (try simp only [List.set_cons_zero]); (try clear kc kf); have kr := fun o => DS.cell0 D o))
  all_goals (refine' bodyPost_ret ?_ rfl ?_; rotate_left; (focus (simp [results, Try.results64, go_sem, kr]; rfl)); exact ⟨_, _, rfl, D.de⟩)
set_option maxRecDepth 1000000 in
set_option maxHeartbeats 1000000 in
theorem spec_l6Any (B cb : Nat) (w : World) (h : Cur B w cb) : Calls Try.prog 32 #[.pointer (some ⟨cb, 0, none⟩)] w (PAd B cb w) := by
  have D := (DS.start h).box #[.int .i64 0, .int .i64 0] 27
  go_enter Try.func32, Try.ntmps32
  go_wp2_with (first
    | (go_at_call 64; (with_reducible refine d_PAd D (spec_l6Draw B cb _ D.cur) ?_); clear D; intro w1 h1 p1 D; (try clear kc kf); (try simp only [List.setIfInBounds_toArray, List.set_cons_succ, List.set_cons_zero] at D); (try (have kc := fun o => DS.cell0 D o; have kf := fun o => DS.frz0 D o)))
    | (go_at_call 48; (first | (with_reducible refine d_l1Below D ?_) | (with_reducible refine d_l1Below (D.set0 _ _) ?_) | (with_reducible refine d_l1Below (D.box _ _) ?_) | (with_reducible refine d_l1Below ((D.set0 _ _).set0 _ _) ?_) | (with_reducible refine d_l1Below ((D.box _ _).set0 _ _) ?_)); clear D; intro w1 z hz D; (try clear kc kf); (try simp only [List.setIfInBounds_toArray, List.set_cons_succ, List.set_cons_zero] at D); (try (have kc := fun o => DS.cell0 D o; have kf := fun o => DS.frz0 D o))) | (go_at_call 34; (first | (with_reducible refine d_l1Int D ?_ ?_ ?_ ?_ ?_ ?_) | (with_reducible refine d_l1Int (D.set0 _ _) ?_ ?_ ?_ ?_ ?_ ?_) | (with_reducible refine d_l1Int (D.box _ _) ?_ ?_ ?_ ?_ ?_ ?_) | (with_reducible refine d_l1Int ((D.set0 _ _).set0 _ _) ?_ ?_ ?_ ?_ ?_ ?_) | (with_reducible refine d_l1Int ((D.box _ _).set0 _ _) ?_ ?_ ?_ ?_ ?_ ?_)); (focus (first | rfl | (simp; done))); (focus (exact rfl)); (focus rfl); (focus decide); (focus decide); clear D; intro w1 x hi D; (try clear kc kf); (try simp only [List.setIfInBounds_toArray, List.set_cons_succ, List.set_cons_zero] at D); (try (have kc := fun o => DS.cell0 D o; have kf := fun o => DS.frz0 D o))) | (go_at_call 52; (with_reducible refine d_POd D (spec_l1Odd _ cb _ D.cur) ?_); clear D; intro w1 x D; (try clear kc kf); (try simp only [List.setIfInBounds_toArray, List.set_cons_succ, List.set_cons_zero] at D); (try (have kc := fun o => DS.cell0 D o; have kf := fun o => DS.frz0 D o)))
    | ((with_reducible refine wpList_stD1 (D.set0 _ _) ?_ (.tmp 2) (.tmp 19) ?_ ?_ ?_ ?_ ?_ ?_ ?_ ?_); (focus rfl); (focus rfl); rotate_left; (focus rfl); (focus rfl); (focus (exact si_Addr)); (focus rfl); (focus (first | rfl | (simp [Value.oneCell']; done))); clear D; intro w1 D; (try simp only [Act.put]); (try simp only [List.setIfInBounds_toArray]); (try simp only [List.set_cons_succ]); (try simp only [List.set_cons_zero]); (try clear kc kf); have kr := fun o => DS.cell1 D o) | ((with_reducible refine wpList_stD1 D ?_ (.tmp 2) (.tmp 19) ?_ ?_ ?_ ?_ ?_ ?_ ?_ ?_); (focus rfl); (focus rfl); rotate_left; (focus rfl); (focus rfl); (focus (exact si_Addr)); (focus rfl); (focus (first | rfl | (simp [Value.oneCell']; done))); clear D; intro w1 D; (try simp only [Act.put]); (try simp only [List.setIfInBounds_toArray]); (try simp only [List.set_cons_succ]); (try simp only [List.set_cons_zero]); (try clear kc kf); have kr := fun o => DS.cell1 D o))
  all_goals (refine' bodyPost_ret ?_ rfl ?_; rotate_left; (focus (simp [results, Try.results32, go_sem, kr]; rfl)); exact ⟨_, _, rfl, D.de⟩)
def PJa (B cb : Nat) (w : World) (e : Ending) (w' : World) : Prop := ∃ a n c, e = .returned (.agg #[.slice a n c]) ∧ DE B cb w w' ∧ BR w w' a n c
theorem d_PJa {f : FuncId} {B cb : Nat} {w0 w : World} {bs : List Vb} {L : List Sv} {Q : Ending → World → Prop} {args : Array Value} (D : DS B cb w0 w bs L) (H : Calls Try.prog f args w (PJa B cb w))
    (k : ∀ w' a n c l, DS B cb w0 w' bs (⟨a, n, c, bys l⟩ :: L) → Q (.returned (.agg #[.slice a n c])) w') : Calls Try.prog f args w Q :=
  H.mono fun e w' ⟨a, n, c, he, E, h⟩ => by
    subst he
    obtain ⟨l, D1⟩ := D.adB (D.by E) h
    exact k w' a n c l D1
set_option maxRecDepth 1000000 in
set_option maxHeartbeats 1000000 in
theorem spec_l11Jar (B cb : Nat) (w : World) (h : Cur B w cb) : Calls Try.prog 31 #[.pointer (some ⟨cb, 0, none⟩)] w (PJa B cb w) := by
  have D := (DS.start h).box #[.slice none 0 0] 25
  go_enter Try.func31, Try.ntmps31
  go_wp2_with (first
    | (go_at_call 63; refine (spec_JarNew _ _ _ _ _ D.r0).mono ?_; rintro e w1 ⟨v1, rfl, o1, g⟩; obtain ⟨a4, n4, c4, rfl, o4, -⟩ := o1; simp only at o4; replace D := D.addO (D.grow g) o4 (by have := o4.blen; have := jarM_le l; omega); clear o4 g)
    | (go_at_call 51; (with_reducible refine d_l1Once (D.box _ _) ?_); clear D; intro w1 o D; (try clear kc kf); (try simp only [List.setIfInBounds_toArray, List.set_cons_succ, List.set_cons_zero] at D); (try (have kc := fun o => DS.cell0 D o; have kf := fun o => DS.frz0 D o)); cases o)
    | (go_at_call 33; (first | (with_reducible refine d_l1Bytes D ?_ ?_) | (with_reducible refine d_l1Bytes (D.set0 _ _) ?_ ?_) | (with_reducible refine d_l1Bytes (D.box _ _) ?_ ?_) | (with_reducible refine d_l1Bytes ((D.set0 _ _).set0 _ _) ?_ ?_) | (with_reducible refine d_l1Bytes ((D.box _ _).set0 _ _) ?_ ?_)); (focus (first | omega | (have h9 := ofL.le hi (b := 256) (by decide); omega))); clear D; intro w1 a n c l hn D; (try clear kc kf); (try simp only [List.setIfInBounds_toArray, List.set_cons_succ, List.set_cons_zero] at D); (try (have kc := fun o => DS.cell0 D o; have kf := fun o => DS.frz0 D o))) | (go_at_call 34; (first | (with_reducible refine d_l1Int D ?_ ?_ ?_ ?_ ?_ ?_) | (with_reducible refine d_l1Int (D.set0 _ _) ?_ ?_ ?_ ?_ ?_ ?_) | (with_reducible refine d_l1Int (D.box _ _) ?_ ?_ ?_ ?_ ?_ ?_) | (with_reducible refine d_l1Int ((D.set0 _ _).set0 _ _) ?_ ?_ ?_ ?_ ?_ ?_) | (with_reducible refine d_l1Int ((D.box _ _).set0 _ _) ?_ ?_ ?_ ?_ ?_ ?_)); (focus (first | rfl | (simp; done))); (focus (exact rfl)); (focus rfl); (focus decide); (focus decide); clear D; intro w1 x hi D; (try clear kc kf); (try simp only [List.setIfInBounds_toArray, List.set_cons_succ, List.set_cons_zero] at D); (try (have kc := fun o => DS.cell0 D o; have kf := fun o => DS.frz0 D o)))
    | ((with_reducible refine wpList_stD1 (D.set0 _ _) ?_ (.tmp 2) (.tmp 15) ?_ ?_ ?_ ?_ ?_ ?_ ?_ ?_); (focus rfl); (focus rfl); rotate_left; (focus rfl); (focus rfl); (focus (exact si_Jar)); (focus rfl); (focus (first | rfl | (simp [Value.oneCell']; done))); clear D; intro w1 D; (try simp only [Act.put]); (try simp only [List.setIfInBounds_toArray]); (try simp only [List.set_cons_succ]); (try simp only [List.set_cons_zero]); (try clear kc kf); have kr := fun o => DS.cell1 D o) | ((with_reducible refine wpList_stD1 D ?_ (.tmp 2) (.tmp 15) ?_ ?_ ?_ ?_ ?_ ?_ ?_ ?_); (focus rfl); (focus rfl); rotate_left; (focus rfl); (focus rfl); (focus (exact si_Jar)); (focus rfl); (focus (first | rfl | (simp [Value.oneCell']; done))); clear D; intro w1 D; (try simp only [Act.put]); (try simp only [List.setIfInBounds_toArray]); (try simp only [List.set_cons_succ]); (try simp only [List.set_cons_zero]); (try clear kc kf); have kr := fun o => DS.cell1 D o))
  all_goals (refine' bodyPost_ret ?_ rfl ?_; rotate_left; (focus (simp [results, Try.results31, go_sem, kr]; rfl)); exact ⟨_, _, _, rfl, D.de, by (first | exact BR.nil _ _ | exact D.b0 | exact D.tl.b0 | exact D.tl.tl.b0 | exact D.tl.tl.tl.b0 | exact D.tl.tl.tl.tl.b0 | exact D.tl.tl.tl.tl.tl.b0 | exact D.tl.tl.tl.tl.tl.tl.b0)⟩)
end Go.Proofs.Ytjdaafemfpafdaa

/-
  The draw of what a cookie is minted of. Conditions: none beside those that each theorem names.
-/
namespace Go.Proofs.Ytjdaafemfpafdaa
open Go.RowKit
theorem DS.addBox {B cb : Nat} {w0 w : World} {bs : List Vb} (D : DS B cb w0 w bs []) {q : Nat} {t : TypeId} {cs : Array Value} (h : Bx w q t cs) (hq : w0.heap.size ≤ q) (hc : q ≠ cb) (hn : ∀ b ∈ bs, q ≠ b.q) : DS B cb w0 w (⟨q, t, cs⟩ :: bs) [] :=
  ⟨D.cur, D.lb, D.dr, by simp, fun b hb => by
    rcases List.mem_cons.1 hb with rfl | hb
    · exact ⟨h, hq, hc⟩
    · exact D.bx b hb, List.pairwise_cons.2 ⟨hn, D.dj⟩⟩
theorem DS.cell2 {B cb : Nat} {w0 w : World} {L : List Sv} {b b' : Vb} {q : Nat} {T : TypeId} {cs : Array Value} {b2 : List Vb} (D : DS B cb w0 w (b :: b' :: ⟨q, T, cs⟩ :: b2) L) (j : Nat) : w.cell? ⟨q, j, none⟩ = cs[j]? := (D.bx _ (List.mem_cons_of_mem _ (List.mem_cons_of_mem _ (List.mem_cons_self ..)))).1.cell j
theorem DS.cell3 {B cb : Nat} {w0 w : World} {L : List Sv} {b b' b'' : Vb} {q : Nat} {T : TypeId} {cs : Array Value} {b2 : List Vb} (D : DS B cb w0 w (b :: b' :: b'' :: ⟨q, T, cs⟩ :: b2) L) (j : Nat) : w.cell? ⟨q, j, none⟩ = cs[j]? := (D.bx _ (List.mem_cons_of_mem _ (List.mem_cons_of_mem _ (List.mem_cons_of_mem _ (List.mem_cons_self ..))))).1.cell j
theorem Rd.pb4 {a : Option Addr} {n c : Nat} {xs : List Value} {w : World} (r : Rd w a n c xs) : 0 < n → ∀ p, a = some p → p.block < w.heap.size := by
  intro h0 p hp
  obtain ⟨b, off, h1, h2, -⟩ := r.pos h0
  rw [h1] at hp
  cases hp
  exact h2
/-- a slice that a draw has made, among what stands -/
theorem DS.addS {B cb : Nat} {w0 w w' : World} {bs : List Vb} {L : List Sv} (D : DS B cb w0 w bs L) {s : Sv} (D2 : DS B cb w w' [] [s]) : DS B cb w0 w' bs (s :: L) :=
  have h := D2.rs _ (List.mem_cons_self ..)
  D.addF (D.by D2.de) h.1 (fun h0 p hp => (h.2.1 h0 p hp).1.1) h.2.2
def PMt (w : World) (e : Ending) (w' : World) : Prop := ∃ a1 n1 c1 l1 x y id a2 n2 c2 l2 a3 n3 c3 l3 tick, e = .returned (.tuple #[.agg #[.slice a1 n1 c1], .agg #[.int .i64 x, .int .i64 y], .int .i64 id, .slice a2 n2 c2, .slice a3 n3 c3, .int .i64 tick]) ∧
  Rd w' a1 n1 c1 (bys l1) ∧ Rd w' a2 n2 c2 (bys l2) ∧ Rd w' a3 n3 c3 (bys l3) ∧ (n1 ≤ 256 ∧ n2 ≤ 256 ∧ n3 ≤ 256) ∧ w.grownBy w' none
set_option maxRecDepth 1000000 in
set_option maxHeartbeats 8000000 in
theorem spec_DrawMint (a : Option Addr) (n c : Nat) (l : List UInt8) (w : World) (r : Rd w a n c (bys l)) (hn : n ≤ 1048576) : Calls Try.prog 7 #[.slice a n c] w (PMt w) := by
  have hp := r.pb4
  have gW := gb_alloc (gb_alloc (gb_refl w) (.cells #[.slice none 0 0] 25)) (.cells #[.int .i64 0, .int .i64 0] 27)
  go_enter Try.func7, Try.ntmps7
  go_wp2_with (first
    | (go_at_call 30; refine (spec_l1New a n c l w.heap.size _ (r.keep0 gW) hn hp gW.size).mono ?_; rintro e w1 ⟨cb, rfl, cu, hc, g⟩; have hcb2 : w.heap.size + 2 ≤ cb := (by simpa using hc); have D := ((DS.init cu (gb_trans gW g)).addBox ((bx2 w #[.slice none 0 0] #[.int .i64 0, .int .i64 0] 25 27).1.keep0 g) (Nat.le_refl _) (by omega) (by simp)).addBox ((bx2 w #[.slice none 0 0] #[.int .i64 0, .int .i64 0] 25 27).2.keep0 g) (by omega) (by omega) (by simp); have hcb : w.heap.size ≤ cb := (by omega); clear g hc cu)
    | (go_at_call 31; (with_reducible refine d_PJa D (spec_l11Jar _ cb _ D.cur) ?_); clear D; intro wJ a1 n1 c1 l1 D)
    | (go_at_call 32; (with_reducible refine d_PAd (D.box _ _) (spec_l6Any _ cb _ (D.box _ _).cur) ?_); clear D; intro wA x y D)
    | (go_at_call 33; (with_reducible refine d_l1Bytes (D.box _ _) ?_ ?_); (focus omega); clear D; intro w1 a2 n2 c2 l2 hn2 D))
  replace D := D.drew
  have kS : _ ∧ _ ∧ _ := And.intro (DS.cell1 D 0) (And.intro (DS.cell0 D 0) (DS.cell0 D 1))
  refine wp_region_held_drew (S := (fun w' => w'.cell? ⟨wJ.heap.size, 0, none⟩ = some (.slice a1 n1 c1) ∧ w'.cell? ⟨wA.heap.size, 0, none⟩ = some (.int .i64 x) ∧ w'.cell? ⟨wA.heap.size, 1, none⟩ = some (.int .i64 y))) (by kernel_rfl) ?_ (fun hHeld => ?_)
  · (try dsimp only)
    exact kS
  refine wpAnyH_takeD (i := 0) (some 20) (v := ?_) rfl rfl (by kernel_rfl) (by kernel_rfl) (by kernel_rfl) (fun _ _ _ h => h) (Or.inl ⟨by rfl, ?_⟩) (by assumption) ?_
  rotate_left
  (focus (intro w hSw; (try dsimp only at hSw); (first | (go_simp; done) | (go_simp; with_reducible rfl) | with_reducible rfl)))
  (try simp only [Act.put]); (try simp only [List.setIfInBounds_toArray]); (try simp only [List.set_cons_succ]); (try simp only [List.set_cons_zero])
  refine wpAnyH_takeD (i := 1) (some 21) (v := ?_) rfl rfl (by kernel_rfl) (by kernel_rfl) (by kernel_rfl) (fun _ _ _ h => h) (Or.inl ⟨by rfl, ?_⟩) (by assumption) ?_
  rotate_left
  (focus (intro w hSw; (try dsimp only at hSw); (first | (go_simp; done) | (go_simp; with_reducible rfl) | with_reducible rfl)))
  (try simp only [Act.put]); (try simp only [List.setIfInBounds_toArray]); (try simp only [List.set_cons_succ]); (try simp only [List.set_cons_zero])
  refine wpAnyH_takeD (i := 2) (some 22) (v := ?_) rfl rfl (by kernel_rfl) (by kernel_rfl) (by kernel_rfl) (fun _ _ _ h => h) (Or.inl ⟨by rfl, ?_⟩) (by assumption) ?_
  rotate_left
  (focus (intro w hSw; (try dsimp only at hSw); (first | (go_simp; done) | (go_simp; with_reducible rfl) | with_reducible rfl)))
  (try simp only [Act.put]); (try simp only [List.setIfInBounds_toArray]); (try simp only [List.set_cons_succ]); (try simp only [List.set_cons_zero])
  refine wpAnyH_takeD (i := 5) (some 25) (v := ?_) rfl rfl (by kernel_rfl) (by kernel_rfl) (by kernel_rfl) (fun _ _ _ h => h) (Or.inl ⟨by rfl, ?_⟩) (by assumption) ?_
  rotate_left
  (focus (intro w hSw; (try dsimp only at hSw); (first | (go_simp; done) | (go_simp; with_reducible rfl) | with_reducible rfl)))
  (try simp only [Act.put]); (try simp only [List.setIfInBounds_toArray]); (try simp only [List.set_cons_succ]); (try simp only [List.set_cons_zero])
  refine wpAnyH_takeD (i := 6) (some 26) (v := ?_) rfl rfl (by kernel_rfl) (by kernel_rfl) (by kernel_rfl) (fun _ _ _ h => h) (Or.inl ⟨by rfl, ?_⟩) (by assumption) ?_
  rotate_left
  (focus (intro w hSw; (try dsimp only at hSw); (first | (go_simp; done) | (go_simp; with_reducible rfl) | with_reducible rfl)))
  (try simp only [Act.put]); (try simp only [List.setIfInBounds_toArray]); (try simp only [List.set_cons_succ]); (try simp only [List.set_cons_zero])
  refine wpAnyH_takeD (i := 8) (some 28) (v := ?_) rfl rfl (by kernel_rfl) (by kernel_rfl) (by kernel_rfl) (fun _ _ _ h => h) (Or.inl ⟨by rfl, ?_⟩) (by assumption) ?_
  rotate_left
  (focus (intro w hSw; (try dsimp only at hSw); (first | (go_simp; done) | (go_simp; with_reducible rfl) | with_reducible rfl)))
  (try simp only [Act.put]); (try simp only [List.setIfInBounds_toArray]); (try simp only [List.set_cons_succ]); (try simp only [List.set_cons_zero])
  refine wpAnyH_ready (rs := [3, 9]) (by kernel_rfl) (by simp) (AllReadyH.cons rfl (fun K hK => ?_) (AllReadyH.cons rfl (fun K hK => ?_) AllReadyH.nil))
  · refine step_bL rfl (some 23) rfl 6 _ rfl [1, 2, 9, 1, 2, 0] (by kernel_rfl) rfl ?_
    intro qa wa hqa rA ga
    have hcA : cb < qa := Nat.lt_of_lt_of_le D.cur.lt hqa
    (try replace rB := rB.keep0 ga)
    replace D := D.grow ga
    replace kS := And.intro (DS.cell1 D 0) (And.intro (DS.cell0 D 0) (DS.cell0 D 1))
    refine hK.out _ _ ?_ (fun hHeld2 => ?_)
    · (try dsimp only)
      exact kS
    clear hK K hHeld
    have hHeld := hHeld2
    clear hHeld2
    (try simp only [Act.put]); (try simp only [List.setIfInBounds_toArray]); (try simp only [List.set_cons_succ]); (try simp only [List.set_cons_zero])
    refine wpAnyH_ready (rs := [4, 9]) (by kernel_rfl) (by simp) (AllReadyH.cons rfl (fun K hK => ?_) (AllReadyH.cons rfl (fun K hK => ?_) AllReadyH.nil))
    · go_simp
      go_at_call 34
      refine (spec_l1Int _ cb _ 6 6 _ _ D.cur ⟨rA, fun p hp => by cases hp; exact hcA⟩ (by decide) (by decide)).mono ?_
      rintro e wi ⟨id, hid, rfl, cu, d⟩
      (try replace rB := rB.keepI d (fun p hp => .inr (by cases hp; exact hcB)))
      replace D := D.step cu d
      replace kS := And.intro (DS.cell1 D 0) (And.intro (DS.cell0 D 0) (DS.cell0 D 1))
      go_wp2_with fail
      refine hK.out _ _ ?_ (fun hHeld2 => ?_)
      · (try dsimp only)
        exact kS
      clear hK K hHeld
      have hHeld := hHeld2
      clear hHeld2
      (try simp only [Act.put]); (try simp only [List.setIfInBounds_toArray]); (try simp only [List.set_cons_succ]); (try simp only [List.set_cons_zero])
      refine wpAnyH_ready (rs := [7, 9]) (by kernel_rfl) (by simp) (AllReadyH.cons rfl (fun K hK => ?_) (AllReadyH.cons rfl (fun K hK => ?_) AllReadyH.nil))
      · go_simp
        go_at_call 33
        refine d_l1Bytes (DS.start D.cur) (by omega) ?_
        intro wc a3 n3 c3 l3 hn3 D2
        (try replace rB := rB.keepI D2.de.dr (fun p hp => .inr (by cases hp; exact hcB)))
        replace D := D.addS D2
        replace kS := And.intro (DS.cell1 D 0) (And.intro (DS.cell0 D 0) (DS.cell0 D 1))
        go_wp2_with fail
        refine hK.out _ _ ?_ (fun hHeld2 => ?_)
        · (try dsimp only)
          exact kS
        clear hK K hHeld
        have hHeld := hHeld2
        clear hHeld2
        (try simp only [Act.put]); (try simp only [List.setIfInBounds_toArray]); (try simp only [List.set_cons_succ]); (try simp only [List.set_cons_zero])
        refine wpAnyH_ready (rs := [9]) (by kernel_rfl) (by simp) (AllReadyH.cons rfl (fun K hK => ?_) AllReadyH.nil)
        refine step_bL rfl (some 29) rfl 6 _ rfl [0, 7, 1000000, 300, 5, -1] (by kernel_rfl) rfl ?_
        intro qb wb hqb rB gb
        have hcB : cb < qb := Nat.lt_of_lt_of_le D.cur.lt hqb
        (try replace rA := rA.keep0 gb)
        replace D := D.grow gb
        replace kS := And.intro (DS.cell1 D 0) (And.intro (DS.cell0 D 0) (DS.cell0 D 1))
        refine hK.out _ _ ?_ (fun hHeld2 => ?_)
        · (try dsimp only)
          exact kS
        clear hK K hHeld
        have hHeld := hHeld2
        clear hHeld2
        (try simp only [Act.put]); (try simp only [List.setIfInBounds_toArray]); (try simp only [List.set_cons_succ]); (try simp only [List.set_cons_zero])
        refine wpAnyH_ready (rs := [10]) (by kernel_rfl) (by simp) (AllReadyH.cons rfl (fun K hK => ?_) AllReadyH.nil)
        go_simp
        go_at_call 34
        refine (spec_l1Int _ cb _ 6 6 _ _ D.cur ⟨rB, fun p hp => by cases hp; exact hcB⟩ (by decide) (by decide)).mono ?_
        rintro e wt ⟨tick, htk, rfl, cu, d⟩
        replace D := D.step cu d
        replace kS := And.intro (DS.cell1 D 0) (And.intro (DS.cell0 D 0) (DS.cell0 D 1))
        go_wp2_with fail
        refine hK.out _ _ ?_ (fun hHeld2 => ?_)
        · (try dsimp only)
          exact kS
        clear hK K hHeld
        have hHeld := hHeld2
        clear hHeld2
        (try simp only [Act.put]); (try simp only [List.setIfInBounds_toArray]); (try simp only [List.set_cons_succ]); (try simp only [List.set_cons_zero])
        refine wpAnyH_ready (rs := [11]) (by kernel_rfl) (by simp) (AllReadyH.cons rfl (fun K hK => ?_) AllReadyH.nil)
        refine step_stRD rfl rfl 25 (.tmp 2) (.tmp 20) rfl w.heap.size _ _ rfl rfl ((D.bx _ (List.mem_cons_of_mem _ (List.mem_cons_of_mem _ (List.mem_cons_of_mem _ (List.mem_cons_self ..))))).1) si_Jar rfl (by first | rfl | (simp [Value.oneCell']; done)) ?_
        intro w5 Bz g5
        replace D := D.row (b1 := [_, _, _]) rfl Bz g5
        replace kS := And.intro (DS.cell1 D 0) (And.intro (DS.cell0 D 0) (DS.cell0 D 1))
        refine hK.out _ _ ?_ (fun hHeld2 => ?_)
        · (try dsimp only)
          exact kS
        clear hK K hHeld
        have hHeld := hHeld2
        clear hHeld2
        (try simp only [Act.put]); (try simp only [List.setIfInBounds_toArray]); (try simp only [List.set_cons_succ]); (try simp only [List.set_cons_zero])
        refine wpAnyH_ready (rs := [12]) (by kernel_rfl) (by simp) (AllReadyH.cons rfl (fun K hK => ?_) AllReadyH.nil)
        refine step_stRD rfl rfl 27 (.tmp 3) (.tmp 21) rfl (w.heap.size + 1) _ _ rfl rfl ((D.bx _ (List.mem_cons_of_mem _ (List.mem_cons_of_mem _ (List.mem_cons_self ..)))).1) si_Addr rfl (by first | rfl | (simp [Value.oneCell']; done)) ?_
        intro w6 Bz g6
        replace D := D.row (b1 := [_, _]) rfl Bz g6
        replace kS := And.intro (DS.cell1 D 0) (And.intro (DS.cell0 D 0) (DS.cell0 D 1))
        refine hK.out _ _ ?_ (fun hHeld2 => ?_)
        · (try dsimp only)
          exact kS
        clear hK K hHeld
        have hHeld := hHeld2
        clear hHeld2
        (try simp only [Act.put]); (try simp only [List.setIfInBounds_toArray]); (try simp only [List.set_cons_succ]); (try simp only [List.set_cons_zero])
        refine wpAnyH_takeD (i := 13) (some 4) (v := ?_) rfl rfl (by kernel_rfl) (by kernel_rfl) (by kernel_rfl) (fun _ _ _ h => h) (Or.inl ⟨by rfl, ?_⟩) (by assumption) ?_
        rotate_left
        (focus (intro w hSw; (try dsimp only at hSw); (first | (go_simp; done) | (go_simp; with_reducible rfl) | with_reducible rfl)))
        (try simp only [Act.put]); (try simp only [List.setIfInBounds_toArray]); (try simp only [List.set_cons_succ]); (try simp only [List.set_cons_zero])
        refine wpAnyH_takeD (i := 14) (some 5) (v := ?_) rfl rfl (by kernel_rfl) (by kernel_rfl) (by kernel_rfl) (fun _ _ _ h => h) (Or.inl ⟨by rfl, ?_⟩) (by assumption) ?_
        rotate_left
        (focus (intro w hSw; (try dsimp only at hSw); (first | (go_simp; done) | (go_simp; with_reducible rfl) | with_reducible rfl)))
        (try simp only [Act.put]); (try simp only [List.setIfInBounds_toArray]); (try simp only [List.set_cons_succ]); (try simp only [List.set_cons_zero])
        refine wpAnyH_takeD (i := 15) (some 6) (v := ?_) rfl rfl (by kernel_rfl) (by kernel_rfl) (by kernel_rfl) (fun _ _ _ h => h) (Or.inl ⟨by rfl, ?_⟩) (by assumption) ?_
        rotate_left
        (focus (intro w hSw; (try dsimp only at hSw); (first | (go_simp; done) | (go_simp; with_reducible rfl) | with_reducible rfl)))
        (try simp only [Act.put]); (try simp only [List.setIfInBounds_toArray]); (try simp only [List.set_cons_succ]); (try simp only [List.set_cons_zero])
        refine wpAnyH_takeD (i := 16) (some 7) (v := ?_) rfl rfl (by kernel_rfl) (by kernel_rfl) (by kernel_rfl) (fun _ _ _ h => h) (Or.inl ⟨by rfl, ?_⟩) (by assumption) ?_
        rotate_left
        (focus (intro w hSw; (try dsimp only at hSw); (first | (go_simp; done) | (go_simp; with_reducible rfl) | with_reducible rfl)))
        (try simp only [Act.put]); (try simp only [List.setIfInBounds_toArray]); (try simp only [List.set_cons_succ]); (try simp only [List.set_cons_zero])
        refine wpAnyH_done (by kernel_rfl) ?_ _
        (try dsimp only)
        have kj := fun o => DS.cell3 D o
        have ka := fun o => DS.cell2 D o
        (try go_wp2)
        refine bodyPost_ret (v := .tuple #[.agg #[.slice a1 n1 c1], .agg #[.int .i64 x, .int .i64 y], .int .i64 id, .slice a2 n2 c2, .slice a3 n3 c3, .int .i64 tick]) (by simp [results, Try.results7, go_sem, kj, ka]) rfl ⟨a1, n1, c1, l1, x, y, id, a2, n2, c2, l2, a3, n3, c3, l3, tick, rfl, D.tl.tl.r0, D.tl.r0, D.r0, ⟨(D.tl.tl.rs _ (List.mem_cons_self ..)).2.2, (D.tl.rs _ (List.mem_cons_self ..)).2.2, (D.rs _ (List.mem_cons_self ..)).2.2⟩, D.gb hcb⟩
      · refine step_bL rfl (some 29) rfl 6 _ rfl [0, 7, 1000000, 300, 5, -1] (by kernel_rfl) rfl ?_
        intro qb wb hqb rB gb
        have hcB : cb < qb := Nat.lt_of_lt_of_le D.cur.lt hqb
        (try replace rA := rA.keep0 gb)
        replace D := D.grow gb
        replace kS := And.intro (DS.cell1 D 0) (And.intro (DS.cell0 D 0) (DS.cell0 D 1))
        refine hK.out _ _ ?_ (fun hHeld2 => ?_)
        · (try dsimp only)
          exact kS
        clear hK K hHeld
        have hHeld := hHeld2
        clear hHeld2
        (try simp only [Act.put]); (try simp only [List.setIfInBounds_toArray]); (try simp only [List.set_cons_succ]); (try simp only [List.set_cons_zero])
        refine wpAnyH_ready (rs := [7]) (by kernel_rfl) (by simp) (AllReadyH.cons rfl (fun K hK => ?_) AllReadyH.nil)
        go_simp
        go_at_call 33
        refine d_l1Bytes (DS.start D.cur) (by omega) ?_
        intro wc a3 n3 c3 l3 hn3 D2
        (try replace rB := rB.keepI D2.de.dr (fun p hp => .inr (by cases hp; exact hcB)))
        replace D := D.addS D2
        replace kS := And.intro (DS.cell1 D 0) (And.intro (DS.cell0 D 0) (DS.cell0 D 1))
        go_wp2_with fail
        refine hK.out _ _ ?_ (fun hHeld2 => ?_)
        · (try dsimp only)
          exact kS
        clear hK K hHeld
        have hHeld := hHeld2
        clear hHeld2
        (try simp only [Act.put]); (try simp only [List.setIfInBounds_toArray]); (try simp only [List.set_cons_succ]); (try simp only [List.set_cons_zero])
        refine wpAnyH_ready (rs := [10]) (by kernel_rfl) (by simp) (AllReadyH.cons rfl (fun K hK => ?_) AllReadyH.nil)
        go_simp
        go_at_call 34
        refine (spec_l1Int _ cb _ 6 6 _ _ D.cur ⟨rB, fun p hp => by cases hp; exact hcB⟩ (by decide) (by decide)).mono ?_
        rintro e wt ⟨tick, htk, rfl, cu, d⟩
        replace D := D.step cu d
        replace kS := And.intro (DS.cell1 D 0) (And.intro (DS.cell0 D 0) (DS.cell0 D 1))
        go_wp2_with fail
        refine hK.out _ _ ?_ (fun hHeld2 => ?_)
        · (try dsimp only)
          exact kS
        clear hK K hHeld
        have hHeld := hHeld2
        clear hHeld2
        (try simp only [Act.put]); (try simp only [List.setIfInBounds_toArray]); (try simp only [List.set_cons_succ]); (try simp only [List.set_cons_zero])
        refine wpAnyH_ready (rs := [11]) (by kernel_rfl) (by simp) (AllReadyH.cons rfl (fun K hK => ?_) AllReadyH.nil)
        refine step_stRD rfl rfl 25 (.tmp 2) (.tmp 20) rfl w.heap.size _ _ rfl rfl ((D.bx _ (List.mem_cons_of_mem _ (List.mem_cons_of_mem _ (List.mem_cons_of_mem _ (List.mem_cons_self ..))))).1) si_Jar rfl (by first | rfl | (simp [Value.oneCell']; done)) ?_
        intro w5 Bz g5
        replace D := D.row (b1 := [_, _, _]) rfl Bz g5
        replace kS := And.intro (DS.cell1 D 0) (And.intro (DS.cell0 D 0) (DS.cell0 D 1))
        refine hK.out _ _ ?_ (fun hHeld2 => ?_)
        · (try dsimp only)
          exact kS
        clear hK K hHeld
        have hHeld := hHeld2
        clear hHeld2
        (try simp only [Act.put]); (try simp only [List.setIfInBounds_toArray]); (try simp only [List.set_cons_succ]); (try simp only [List.set_cons_zero])
        refine wpAnyH_ready (rs := [12]) (by kernel_rfl) (by simp) (AllReadyH.cons rfl (fun K hK => ?_) AllReadyH.nil)
        refine step_stRD rfl rfl 27 (.tmp 3) (.tmp 21) rfl (w.heap.size + 1) _ _ rfl rfl ((D.bx _ (List.mem_cons_of_mem _ (List.mem_cons_of_mem _ (List.mem_cons_self ..)))).1) si_Addr rfl (by first | rfl | (simp [Value.oneCell']; done)) ?_
        intro w6 Bz g6
        replace D := D.row (b1 := [_, _]) rfl Bz g6
        replace kS := And.intro (DS.cell1 D 0) (And.intro (DS.cell0 D 0) (DS.cell0 D 1))
        refine hK.out _ _ ?_ (fun hHeld2 => ?_)
        · (try dsimp only)
          exact kS
        clear hK K hHeld
        have hHeld := hHeld2
        clear hHeld2
        (try simp only [Act.put]); (try simp only [List.setIfInBounds_toArray]); (try simp only [List.set_cons_succ]); (try simp only [List.set_cons_zero])
        refine wpAnyH_takeD (i := 13) (some 4) (v := ?_) rfl rfl (by kernel_rfl) (by kernel_rfl) (by kernel_rfl) (fun _ _ _ h => h) (Or.inl ⟨by rfl, ?_⟩) (by assumption) ?_
        rotate_left
        (focus (intro w hSw; (try dsimp only at hSw); (first | (go_simp; done) | (go_simp; with_reducible rfl) | with_reducible rfl)))
        (try simp only [Act.put]); (try simp only [List.setIfInBounds_toArray]); (try simp only [List.set_cons_succ]); (try simp only [List.set_cons_zero])
        refine wpAnyH_takeD (i := 14) (some 5) (v := ?_) rfl rfl (by kernel_rfl) (by kernel_rfl) (by kernel_rfl) (fun _ _ _ h => h) (Or.inl ⟨by rfl, ?_⟩) (by assumption) ?_
        rotate_left
        (focus (intro w hSw; (try dsimp only at hSw); (first | (go_simp; done) | (go_simp; with_reducible rfl) | with_reducible rfl)))
        (try simp only [Act.put]); (try simp only [List.setIfInBounds_toArray]); (try simp only [List.set_cons_succ]); (try simp only [List.set_cons_zero])
        refine wpAnyH_takeD (i := 15) (some 6) (v := ?_) rfl rfl (by kernel_rfl) (by kernel_rfl) (by kernel_rfl) (fun _ _ _ h => h) (Or.inl ⟨by rfl, ?_⟩) (by assumption) ?_
        rotate_left
        (focus (intro w hSw; (try dsimp only at hSw); (first | (go_simp; done) | (go_simp; with_reducible rfl) | with_reducible rfl)))
        (try simp only [Act.put]); (try simp only [List.setIfInBounds_toArray]); (try simp only [List.set_cons_succ]); (try simp only [List.set_cons_zero])
        refine wpAnyH_takeD (i := 16) (some 7) (v := ?_) rfl rfl (by kernel_rfl) (by kernel_rfl) (by kernel_rfl) (fun _ _ _ h => h) (Or.inl ⟨by rfl, ?_⟩) (by assumption) ?_
        rotate_left
        (focus (intro w hSw; (try dsimp only at hSw); (first | (go_simp; done) | (go_simp; with_reducible rfl) | with_reducible rfl)))
        (try simp only [Act.put]); (try simp only [List.setIfInBounds_toArray]); (try simp only [List.set_cons_succ]); (try simp only [List.set_cons_zero])
        refine wpAnyH_done (by kernel_rfl) ?_ _
        (try dsimp only)
        have kj := fun o => DS.cell3 D o
        have ka := fun o => DS.cell2 D o
        (try go_wp2)
        refine bodyPost_ret (v := .tuple #[.agg #[.slice a1 n1 c1], .agg #[.int .i64 x, .int .i64 y], .int .i64 id, .slice a2 n2 c2, .slice a3 n3 c3, .int .i64 tick]) (by simp [results, Try.results7, go_sem, kj, ka]) rfl ⟨a1, n1, c1, l1, x, y, id, a2, n2, c2, l2, a3, n3, c3, l3, tick, rfl, D.tl.tl.r0, D.tl.r0, D.r0, ⟨(D.tl.tl.rs _ (List.mem_cons_self ..)).2.2, (D.tl.rs _ (List.mem_cons_self ..)).2.2, (D.rs _ (List.mem_cons_self ..)).2.2⟩, D.gb hcb⟩
    · refine step_bL rfl (some 29) rfl 6 _ rfl [0, 7, 1000000, 300, 5, -1] (by kernel_rfl) rfl ?_
      intro qb wb hqb rB gb
      have hcB : cb < qb := Nat.lt_of_lt_of_le D.cur.lt hqb
      (try replace rA := rA.keep0 gb)
      replace D := D.grow gb
      replace kS := And.intro (DS.cell1 D 0) (And.intro (DS.cell0 D 0) (DS.cell0 D 1))
      refine hK.out _ _ ?_ (fun hHeld2 => ?_)
      · (try dsimp only)
        exact kS
      clear hK K hHeld
      have hHeld := hHeld2
      clear hHeld2
      (try simp only [Act.put]); (try simp only [List.setIfInBounds_toArray]); (try simp only [List.set_cons_succ]); (try simp only [List.set_cons_zero])
      refine wpAnyH_ready (rs := [4]) (by kernel_rfl) (by simp) (AllReadyH.cons rfl (fun K hK => ?_) AllReadyH.nil)
      go_simp
      go_at_call 34
      refine (spec_l1Int _ cb _ 6 6 _ _ D.cur ⟨rA, fun p hp => by cases hp; exact hcA⟩ (by decide) (by decide)).mono ?_
      rintro e wi ⟨id, hid, rfl, cu, d⟩
      (try replace rB := rB.keepI d (fun p hp => .inr (by cases hp; exact hcB)))
      replace D := D.step cu d
      replace kS := And.intro (DS.cell1 D 0) (And.intro (DS.cell0 D 0) (DS.cell0 D 1))
      go_wp2_with fail
      refine hK.out _ _ ?_ (fun hHeld2 => ?_)
      · (try dsimp only)
        exact kS
      clear hK K hHeld
      have hHeld := hHeld2
      clear hHeld2
      (try simp only [Act.put]); (try simp only [List.setIfInBounds_toArray]); (try simp only [List.set_cons_succ]); (try simp only [List.set_cons_zero])
      refine wpAnyH_ready (rs := [7]) (by kernel_rfl) (by simp) (AllReadyH.cons rfl (fun K hK => ?_) AllReadyH.nil)
      go_simp
      go_at_call 33
      refine d_l1Bytes (DS.start D.cur) (by omega) ?_
      intro wc a3 n3 c3 l3 hn3 D2
      (try replace rB := rB.keepI D2.de.dr (fun p hp => .inr (by cases hp; exact hcB)))
      replace D := D.addS D2
      replace kS := And.intro (DS.cell1 D 0) (And.intro (DS.cell0 D 0) (DS.cell0 D 1))
      go_wp2_with fail
      refine hK.out _ _ ?_ (fun hHeld2 => ?_)
      · (try dsimp only)
        exact kS
      clear hK K hHeld
      have hHeld := hHeld2
      clear hHeld2
      (try simp only [Act.put]); (try simp only [List.setIfInBounds_toArray]); (try simp only [List.set_cons_succ]); (try simp only [List.set_cons_zero])
      refine wpAnyH_ready (rs := [10]) (by kernel_rfl) (by simp) (AllReadyH.cons rfl (fun K hK => ?_) AllReadyH.nil)
      go_simp
      go_at_call 34
      refine (spec_l1Int _ cb _ 6 6 _ _ D.cur ⟨rB, fun p hp => by cases hp; exact hcB⟩ (by decide) (by decide)).mono ?_
      rintro e wt ⟨tick, htk, rfl, cu, d⟩
      replace D := D.step cu d
      replace kS := And.intro (DS.cell1 D 0) (And.intro (DS.cell0 D 0) (DS.cell0 D 1))
      go_wp2_with fail
      refine hK.out _ _ ?_ (fun hHeld2 => ?_)
      · (try dsimp only)
        exact kS
      clear hK K hHeld
      have hHeld := hHeld2
      clear hHeld2
      (try simp only [Act.put]); (try simp only [List.setIfInBounds_toArray]); (try simp only [List.set_cons_succ]); (try simp only [List.set_cons_zero])
      refine wpAnyH_ready (rs := [11]) (by kernel_rfl) (by simp) (AllReadyH.cons rfl (fun K hK => ?_) AllReadyH.nil)
      refine step_stRD rfl rfl 25 (.tmp 2) (.tmp 20) rfl w.heap.size _ _ rfl rfl ((D.bx _ (List.mem_cons_of_mem _ (List.mem_cons_of_mem _ (List.mem_cons_of_mem _ (List.mem_cons_self ..))))).1) si_Jar rfl (by first | rfl | (simp [Value.oneCell']; done)) ?_
      intro w5 Bz g5
      replace D := D.row (b1 := [_, _, _]) rfl Bz g5
      replace kS := And.intro (DS.cell1 D 0) (And.intro (DS.cell0 D 0) (DS.cell0 D 1))
      refine hK.out _ _ ?_ (fun hHeld2 => ?_)
      · (try dsimp only)
        exact kS
      clear hK K hHeld
      have hHeld := hHeld2
      clear hHeld2
      (try simp only [Act.put]); (try simp only [List.setIfInBounds_toArray]); (try simp only [List.set_cons_succ]); (try simp only [List.set_cons_zero])
      refine wpAnyH_ready (rs := [12]) (by kernel_rfl) (by simp) (AllReadyH.cons rfl (fun K hK => ?_) AllReadyH.nil)
      refine step_stRD rfl rfl 27 (.tmp 3) (.tmp 21) rfl (w.heap.size + 1) _ _ rfl rfl ((D.bx _ (List.mem_cons_of_mem _ (List.mem_cons_of_mem _ (List.mem_cons_self ..)))).1) si_Addr rfl (by first | rfl | (simp [Value.oneCell']; done)) ?_
      intro w6 Bz g6
      replace D := D.row (b1 := [_, _]) rfl Bz g6
      replace kS := And.intro (DS.cell1 D 0) (And.intro (DS.cell0 D 0) (DS.cell0 D 1))
      refine hK.out _ _ ?_ (fun hHeld2 => ?_)
      · (try dsimp only)
        exact kS
      clear hK K hHeld
      have hHeld := hHeld2
      clear hHeld2
      (try simp only [Act.put]); (try simp only [List.setIfInBounds_toArray]); (try simp only [List.set_cons_succ]); (try simp only [List.set_cons_zero])
      refine wpAnyH_takeD (i := 13) (some 4) (v := ?_) rfl rfl (by kernel_rfl) (by kernel_rfl) (by kernel_rfl) (fun _ _ _ h => h) (Or.inl ⟨by rfl, ?_⟩) (by assumption) ?_
      rotate_left
      (focus (intro w hSw; (try dsimp only at hSw); (first | (go_simp; done) | (go_simp; with_reducible rfl) | with_reducible rfl)))
      (try simp only [Act.put]); (try simp only [List.setIfInBounds_toArray]); (try simp only [List.set_cons_succ]); (try simp only [List.set_cons_zero])
      refine wpAnyH_takeD (i := 14) (some 5) (v := ?_) rfl rfl (by kernel_rfl) (by kernel_rfl) (by kernel_rfl) (fun _ _ _ h => h) (Or.inl ⟨by rfl, ?_⟩) (by assumption) ?_
      rotate_left
      (focus (intro w hSw; (try dsimp only at hSw); (first | (go_simp; done) | (go_simp; with_reducible rfl) | with_reducible rfl)))
      (try simp only [Act.put]); (try simp only [List.setIfInBounds_toArray]); (try simp only [List.set_cons_succ]); (try simp only [List.set_cons_zero])
      refine wpAnyH_takeD (i := 15) (some 6) (v := ?_) rfl rfl (by kernel_rfl) (by kernel_rfl) (by kernel_rfl) (fun _ _ _ h => h) (Or.inl ⟨by rfl, ?_⟩) (by assumption) ?_
      rotate_left
      (focus (intro w hSw; (try dsimp only at hSw); (first | (go_simp; done) | (go_simp; with_reducible rfl) | with_reducible rfl)))
      (try simp only [Act.put]); (try simp only [List.setIfInBounds_toArray]); (try simp only [List.set_cons_succ]); (try simp only [List.set_cons_zero])
      refine wpAnyH_takeD (i := 16) (some 7) (v := ?_) rfl rfl (by kernel_rfl) (by kernel_rfl) (by kernel_rfl) (fun _ _ _ h => h) (Or.inl ⟨by rfl, ?_⟩) (by assumption) ?_
      rotate_left
      (focus (intro w hSw; (try dsimp only at hSw); (first | (go_simp; done) | (go_simp; with_reducible rfl) | with_reducible rfl)))
      (try simp only [Act.put]); (try simp only [List.setIfInBounds_toArray]); (try simp only [List.set_cons_succ]); (try simp only [List.set_cons_zero])
      refine wpAnyH_done (by kernel_rfl) ?_ _
      (try dsimp only)
      have kj := fun o => DS.cell3 D o
      have ka := fun o => DS.cell2 D o
      (try go_wp2)
      refine bodyPost_ret (v := .tuple #[.agg #[.slice a1 n1 c1], .agg #[.int .i64 x, .int .i64 y], .int .i64 id, .slice a2 n2 c2, .slice a3 n3 c3, .int .i64 tick]) (by simp [results, Try.results7, go_sem, kj, ka]) rfl ⟨a1, n1, c1, l1, x, y, id, a2, n2, c2, l2, a3, n3, c3, l3, tick, rfl, D.tl.tl.r0, D.tl.r0, D.r0, ⟨(D.tl.tl.rs _ (List.mem_cons_self ..)).2.2, (D.tl.rs _ (List.mem_cons_self ..)).2.2, (D.rs _ (List.mem_cons_self ..)).2.2⟩, D.gb hcb⟩
  · refine step_bL rfl (some 29) rfl 6 _ rfl [0, 7, 1000000, 300, 5, -1] (by kernel_rfl) rfl ?_
    intro qb wb hqb rB gb
    have hcB : cb < qb := Nat.lt_of_lt_of_le D.cur.lt hqb
    (try replace rA := rA.keep0 gb)
    replace D := D.grow gb
    replace kS := And.intro (DS.cell1 D 0) (And.intro (DS.cell0 D 0) (DS.cell0 D 1))
    refine hK.out _ _ ?_ (fun hHeld2 => ?_)
    · (try dsimp only)
      exact kS
    clear hK K hHeld
    have hHeld := hHeld2
    clear hHeld2
    (try simp only [Act.put]); (try simp only [List.setIfInBounds_toArray]); (try simp only [List.set_cons_succ]); (try simp only [List.set_cons_zero])
    refine wpAnyH_ready (rs := [3]) (by kernel_rfl) (by simp) (AllReadyH.cons rfl (fun K hK => ?_) AllReadyH.nil)
    refine step_bL rfl (some 23) rfl 6 _ rfl [1, 2, 9, 1, 2, 0] (by kernel_rfl) rfl ?_
    intro qa wa hqa rA ga
    have hcA : cb < qa := Nat.lt_of_lt_of_le D.cur.lt hqa
    (try replace rB := rB.keep0 ga)
    replace D := D.grow ga
    replace kS := And.intro (DS.cell1 D 0) (And.intro (DS.cell0 D 0) (DS.cell0 D 1))
    refine hK.out _ _ ?_ (fun hHeld2 => ?_)
    · (try dsimp only)
      exact kS
    clear hK K hHeld
    have hHeld := hHeld2
    clear hHeld2
    (try simp only [Act.put]); (try simp only [List.setIfInBounds_toArray]); (try simp only [List.set_cons_succ]); (try simp only [List.set_cons_zero])
    refine wpAnyH_ready (rs := [4]) (by kernel_rfl) (by simp) (AllReadyH.cons rfl (fun K hK => ?_) AllReadyH.nil)
    go_simp
    go_at_call 34
    refine (spec_l1Int _ cb _ 6 6 _ _ D.cur ⟨rA, fun p hp => by cases hp; exact hcA⟩ (by decide) (by decide)).mono ?_
    rintro e wi ⟨id, hid, rfl, cu, d⟩
    (try replace rB := rB.keepI d (fun p hp => .inr (by cases hp; exact hcB)))
    replace D := D.step cu d
    replace kS := And.intro (DS.cell1 D 0) (And.intro (DS.cell0 D 0) (DS.cell0 D 1))
    go_wp2_with fail
    refine hK.out _ _ ?_ (fun hHeld2 => ?_)
    · (try dsimp only)
      exact kS
    clear hK K hHeld
    have hHeld := hHeld2
    clear hHeld2
    (try simp only [Act.put]); (try simp only [List.setIfInBounds_toArray]); (try simp only [List.set_cons_succ]); (try simp only [List.set_cons_zero])
    refine wpAnyH_ready (rs := [7]) (by kernel_rfl) (by simp) (AllReadyH.cons rfl (fun K hK => ?_) AllReadyH.nil)
    go_simp
    go_at_call 33
    refine d_l1Bytes (DS.start D.cur) (by omega) ?_
    intro wc a3 n3 c3 l3 hn3 D2
    (try replace rB := rB.keepI D2.de.dr (fun p hp => .inr (by cases hp; exact hcB)))
    replace D := D.addS D2
    replace kS := And.intro (DS.cell1 D 0) (And.intro (DS.cell0 D 0) (DS.cell0 D 1))
    go_wp2_with fail
    refine hK.out _ _ ?_ (fun hHeld2 => ?_)
    · (try dsimp only)
      exact kS
    clear hK K hHeld
    have hHeld := hHeld2
    clear hHeld2
    (try simp only [Act.put]); (try simp only [List.setIfInBounds_toArray]); (try simp only [List.set_cons_succ]); (try simp only [List.set_cons_zero])
    refine wpAnyH_ready (rs := [10]) (by kernel_rfl) (by simp) (AllReadyH.cons rfl (fun K hK => ?_) AllReadyH.nil)
    go_simp
    go_at_call 34
    refine (spec_l1Int _ cb _ 6 6 _ _ D.cur ⟨rB, fun p hp => by cases hp; exact hcB⟩ (by decide) (by decide)).mono ?_
    rintro e wt ⟨tick, htk, rfl, cu, d⟩
    replace D := D.step cu d
    replace kS := And.intro (DS.cell1 D 0) (And.intro (DS.cell0 D 0) (DS.cell0 D 1))
    go_wp2_with fail
    refine hK.out _ _ ?_ (fun hHeld2 => ?_)
    · (try dsimp only)
      exact kS
    clear hK K hHeld
    have hHeld := hHeld2
    clear hHeld2
    (try simp only [Act.put]); (try simp only [List.setIfInBounds_toArray]); (try simp only [List.set_cons_succ]); (try simp only [List.set_cons_zero])
    refine wpAnyH_ready (rs := [11]) (by kernel_rfl) (by simp) (AllReadyH.cons rfl (fun K hK => ?_) AllReadyH.nil)
    refine step_stRD rfl rfl 25 (.tmp 2) (.tmp 20) rfl w.heap.size _ _ rfl rfl ((D.bx _ (List.mem_cons_of_mem _ (List.mem_cons_of_mem _ (List.mem_cons_of_mem _ (List.mem_cons_self ..))))).1) si_Jar rfl (by first | rfl | (simp [Value.oneCell']; done)) ?_
    intro w5 Bz g5
    replace D := D.row (b1 := [_, _, _]) rfl Bz g5
    replace kS := And.intro (DS.cell1 D 0) (And.intro (DS.cell0 D 0) (DS.cell0 D 1))
    refine hK.out _ _ ?_ (fun hHeld2 => ?_)
    · (try dsimp only)
      exact kS
    clear hK K hHeld
    have hHeld := hHeld2
    clear hHeld2
    (try simp only [Act.put]); (try simp only [List.setIfInBounds_toArray]); (try simp only [List.set_cons_succ]); (try simp only [List.set_cons_zero])
    refine wpAnyH_ready (rs := [12]) (by kernel_rfl) (by simp) (AllReadyH.cons rfl (fun K hK => ?_) AllReadyH.nil)
    refine step_stRD rfl rfl 27 (.tmp 3) (.tmp 21) rfl (w.heap.size + 1) _ _ rfl rfl ((D.bx _ (List.mem_cons_of_mem _ (List.mem_cons_of_mem _ (List.mem_cons_self ..)))).1) si_Addr rfl (by first | rfl | (simp [Value.oneCell']; done)) ?_
    intro w6 Bz g6
    replace D := D.row (b1 := [_, _]) rfl Bz g6
    replace kS := And.intro (DS.cell1 D 0) (And.intro (DS.cell0 D 0) (DS.cell0 D 1))
    refine hK.out _ _ ?_ (fun hHeld2 => ?_)
    · (try dsimp only)
      exact kS
    clear hK K hHeld
    have hHeld := hHeld2
    clear hHeld2
    (try simp only [Act.put]); (try simp only [List.setIfInBounds_toArray]); (try simp only [List.set_cons_succ]); (try simp only [List.set_cons_zero])
    refine wpAnyH_takeD (i := 13) (some 4) (v := ?_) rfl rfl (by kernel_rfl) (by kernel_rfl) (by kernel_rfl) (fun _ _ _ h => h) (Or.inl ⟨by rfl, ?_⟩) (by assumption) ?_
    rotate_left
    (focus (intro w hSw; (try dsimp only at hSw); (first | (go_simp; done) | (go_simp; with_reducible rfl) | with_reducible rfl)))
    (try simp only [Act.put]); (try simp only [List.setIfInBounds_toArray]); (try simp only [List.set_cons_succ]); (try simp only [List.set_cons_zero])
    refine wpAnyH_takeD (i := 14) (some 5) (v := ?_) rfl rfl (by kernel_rfl) (by kernel_rfl) (by kernel_rfl) (fun _ _ _ h => h) (Or.inl ⟨by rfl, ?_⟩) (by assumption) ?_
    rotate_left
    (focus (intro w hSw; (try dsimp only at hSw); (first | (go_simp; done) | (go_simp; with_reducible rfl) | with_reducible rfl)))
    (try simp only [Act.put]); (try simp only [List.setIfInBounds_toArray]); (try simp only [List.set_cons_succ]); (try simp only [List.set_cons_zero])
    refine wpAnyH_takeD (i := 15) (some 6) (v := ?_) rfl rfl (by kernel_rfl) (by kernel_rfl) (by kernel_rfl) (fun _ _ _ h => h) (Or.inl ⟨by rfl, ?_⟩) (by assumption) ?_
    rotate_left
    (focus (intro w hSw; (try dsimp only at hSw); (first | (go_simp; done) | (go_simp; with_reducible rfl) | with_reducible rfl)))
    (try simp only [Act.put]); (try simp only [List.setIfInBounds_toArray]); (try simp only [List.set_cons_succ]); (try simp only [List.set_cons_zero])
    refine wpAnyH_takeD (i := 16) (some 7) (v := ?_) rfl rfl (by kernel_rfl) (by kernel_rfl) (by kernel_rfl) (fun _ _ _ h => h) (Or.inl ⟨by rfl, ?_⟩) (by assumption) ?_
    rotate_left
    (focus (intro w hSw; (try dsimp only at hSw); (first | (go_simp; done) | (go_simp; with_reducible rfl) | with_reducible rfl)))
    (try simp only [Act.put]); (try simp only [List.setIfInBounds_toArray]); (try simp only [List.set_cons_succ]); (try simp only [List.set_cons_zero])
    refine wpAnyH_done (by kernel_rfl) ?_ _
    (try dsimp only)
    have kj := fun o => DS.cell3 D o
    have ka := fun o => DS.cell2 D o
    (try go_wp2)
    refine bodyPost_ret (v := .tuple #[.agg #[.slice a1 n1 c1], .agg #[.int .i64 x, .int .i64 y], .int .i64 id, .slice a2 n2 c2, .slice a3 n3 c3, .int .i64 tick]) (by simp [results, Try.results7, go_sem, kj, ka]) rfl ⟨a1, n1, c1, l1, x, y, id, a2, n2, c2, l2, a3, n3, c3, l3, tick, rfl, D.tl.tl.r0, D.tl.r0, D.r0, ⟨(D.tl.tl.rs _ (List.mem_cons_self ..)).2.2, (D.tl.rs _ (List.mem_cons_self ..)).2.2, (D.rs _ (List.mem_cons_self ..)).2.2⟩, D.gb hcb⟩
end Go.Proofs.Ytjdaafemfpafdaa

/-
  Draws of what is judged. Conditions: none beside those that each theorem names.
-/
namespace Go.Proofs.Ytjdaafemfpafdaa
open Go.RowKit
def PFi (B cb : Nat) (w : World) (e : Ending) (w' : World) : Prop := ∃ now x y kind id a1 n1 c1 a2 n2 c2 tick a3 n3 c3 a4 n4 c4 epoch seq a5 n5 c5 a6 n6 c6, e = .returned (.tuple #[.int .i64 now, .agg #[.int .i64 x, .int .i64 y], .agg #[.int .i64 kind, .int .i64 id, .slice a1 n1 c1, .slice a2 n2 c2, .int .i64 tick, .slice a3 n3 c3, .slice a4 n4 c4, .int .i64 epoch, .int .i64 seq, .slice a5 n5 c5, .slice a6 n6 c6]]) ∧ DE B cb w w' ∧ BR w w' a1 n1 c1 ∧ BR w w' a2 n2 c2 ∧ BR w w' a3 n3 c3 ∧ BR w w' a4 n4 c4 ∧ BR w w' a5 n5 c5 ∧ BR w w' a6 n6 c6 ∧ (n1 ≤ 255 ∧ n2 ≤ 255 ∧ n3 ≤ 255)
set_option maxRecDepth 1000000 in
set_option maxHeartbeats 8000000 in
theorem spec_l11Finish (B cb : Nat) (aj : Option Addr) (nj cj : Nat) (lj : List UInt8) (w : World) (h : Cur B w cb) (rj : Rd w aj nj cj (bys lj)) (hj : ∀ p, aj = some p → 0 < nj → p.block ≠ cb) : Calls Try.prog 47 #[.pointer (some ⟨cb, 0, none⟩), .agg #[.slice aj nj cj]] w (PFi B cb w) := by
  have D := (((DS.start h).box #[.slice aj nj cj] 25).box #[.int .i64 0, .int .i64 0] 27).box #[.int .i64 0, .int .i64 0, .slice none 0 0, .slice none 0 0, .int .i64 0, .slice none 0 0, .slice none 0 0, .int .i64 0, .int .i64 0, .slice none 0 0, .slice none 0 0] 35
  go_enter Try.func47, Try.ntmps47
  go_wp2_with (first
    | (go_at_call 64; (with_reducible refine d_PAd D (spec_l6Draw B cb _ D.cur) ?_); clear D; intro wA x y D)
    | (go_at_call 48; (with_reducible refine d_l1Below (D.box _ _) ?_); clear D; intro w1 z hz D)
    | (go_at_call 33; (with_reducible refine d_l1Bytes (L := []) D ?_ ?_); (focus omega); clear D; intro w1 a1 n1 c1 l1 hn1 D)
    | (go_at_call 33; (with_reducible refine d_l1Bytes (L := [_]) D ?_ ?_); (focus omega); clear D; intro w2 a2 n2 c2 l2 hn2 D)
    | (go_at_call 34; (with_reducible refine d_l1Int D ?_ ?_ ?_ ?_ ?_ ?_); (focus (first | rfl | (simp; done))); (focus (exact rfl)); (focus rfl); (focus decide); (focus decide); clear D; intro wT tick hi D; simp only [World.size_alloc] at D; have kA := fun o => DS.cell0 D o; have kJ := fun o => DS.cell3 D o; have lA := (D.bx _ (List.mem_cons_self ..)).1.lt; have lJ := (D.bx _ (List.mem_cons_of_mem _ (List.mem_cons_of_mem _ (List.mem_cons_of_mem _ (List.mem_cons_self ..))))).1.lt)
    | (go_at_call 10; replace D := D.box #[.int .i64 3, .int .i64 (1 + (z : Int)), .slice a1 n1 c1, .slice a2 n2 c2, .int .i64 tick, .slice none 0 0, .slice none 0 0, .int .i64 0, .int .i64 0, .slice none 0 0, .slice none 0 0] 35; refine (spec_Mint aj nj cj lj x y _ a1 n1 c1 l1 a2 n2 c2 l2 tick _ (rj.keepP D.dr (fun h0 p hp => by have := hj p hp h0; omega)) D.tl.r0 D.r0).mono ?_; rintro e wM ⟨a3, n3, c3, rfl, o3, g3⟩; obtain ⟨l3, hl3⟩ : ∃ l3, l3 = cookM lj x y (1 + (z : Int)) l1 l2 tick := ⟨_, rfl⟩; rw [← hl3] at o3; have h16 := cookM_le lj x y (1 + (z : Int)) l1 l2 tick; rw [← hl3] at h16; clear hl3; have hn3 := Lib.hid (show n3 ≤ 16 from (by have := o3.blen; omega)); replace D := D.addO (D.grow g3) o3 (by have := o3.blen; omega); clear o3 g3 kA kJ lA lJ; have kc := fun o => DS.cell0 D o; have kf := fun o => DS.frz0 D o)
    | (go_at_call 33; (with_reducible refine d_l1Bytes (D.set0 _ _) ?_ ?_); (focus omega); clear D kc kf; intro wP a4 n4 c4 l4 hn4 D; (try clear kc kf); (try simp only [List.setIfInBounds_toArray, List.set_cons_succ, List.set_cons_zero] at D); (try (have kc := fun o => DS.cell0 D o; have kf := fun o => DS.frz0 D o))))
  replace D := D.set0 6 (.slice a4 n4 c4)
  simp only [List.setIfInBounds_toArray, List.set_cons_succ, List.set_cons_zero] at D
  replace D := D.drew
  clear kc kf
  have kS : (_ ∧ _ ∧ _ ∧ _ ∧ _ ∧ _ ∧ _ ∧ _ ∧ _ ∧ _ ∧ _) ∧ _ ∧ _ := ⟨⟨DS.cell0 D 0, DS.cell0 D 1, DS.cell0 D 2, DS.cell0 D 3, DS.cell0 D 4, DS.cell0 D 5, DS.cell0 D 6, DS.cell0 D 7, DS.cell0 D 8, DS.cell0 D 9, DS.cell0 D 10⟩, DS.cell1 D 0, DS.cell1 D 1⟩
  refine wp_region_held_drew (S := (fun w' => (w'.cell? ⟨wT.heap.size, 0, none⟩ = some (.int .i64 3) ∧ w'.cell? ⟨wT.heap.size, 1, none⟩ = some (.int .i64 (1 + (z : Int))) ∧ w'.cell? ⟨wT.heap.size, 2, none⟩ = some (.slice a1 n1 c1) ∧ w'.cell? ⟨wT.heap.size, 3, none⟩ = some (.slice a2 n2 c2) ∧ w'.cell? ⟨wT.heap.size, 4, none⟩ = some (.int .i64 tick) ∧ w'.cell? ⟨wT.heap.size, 5, none⟩ = some (.slice a3 n3 c3) ∧ w'.cell? ⟨wT.heap.size, 6, none⟩ = some (.slice a4 n4 c4) ∧ w'.cell? ⟨wT.heap.size, 7, none⟩ = some (.int .i64 0) ∧ w'.cell? ⟨wT.heap.size, 8, none⟩ = some (.int .i64 0) ∧ w'.cell? ⟨wT.heap.size, 9, none⟩ = some (.slice none 0 0) ∧ w'.cell? ⟨wT.heap.size, 10, none⟩ = some (.slice none 0 0)) ∧ w'.cell? ⟨wA.heap.size, 0, none⟩ = some (.int .i64 x) ∧ w'.cell? ⟨wA.heap.size, 1, none⟩ = some (.int .i64 y))) (by kernel_rfl) ?_ (fun hHeld => ?_)
  · (try dsimp only)
    exact kS
  refine wpAnyH_takeD (i := 0) (some 37) (v := ?_) rfl rfl (by kernel_rfl) (by kernel_rfl) (by kernel_rfl) (fun _ _ _ h => h) (Or.inl ⟨by rfl, ?_⟩) (by assumption) ?_
  rotate_left
  (focus (intro w hSw; (try dsimp only at hSw); (first | (go_simp; done) | (go_simp; with_reducible rfl) | with_reducible rfl)))
  (try simp only [Act.put]); (try simp only [List.setIfInBounds_toArray]); (try simp only [List.set_cons_succ]); (try simp only [List.set_cons_zero])
  refine wpAnyH_takeD (i := 1) (some 38) (v := ?_) rfl rfl (by kernel_rfl) (by kernel_rfl) (by kernel_rfl) (fun _ _ _ h => h) (Or.inl ⟨by rfl, ?_⟩) (by assumption) ?_
  rotate_left
  (focus (intro w hSw; (try dsimp only at hSw); (first | (go_simp; done) | (go_simp; with_reducible rfl) | with_reducible rfl)))
  (try simp only [Act.put]); (try simp only [List.setIfInBounds_toArray]); (try simp only [List.set_cons_succ]); (try simp only [List.set_cons_zero])
  refine wpAnyH_takeD (i := 2) (some 39) (v := ?_) rfl rfl (by kernel_rfl) (by kernel_rfl) (by kernel_rfl) (fun _ _ _ h => h) (Or.inl ⟨by rfl, ?_⟩) (by assumption) ?_
  rotate_left
  (focus (intro w hSw; (try dsimp only at hSw); (first | (go_simp; done) | (go_simp; with_reducible rfl) | with_reducible rfl)))
  (try simp only [Act.put]); (try simp only [List.setIfInBounds_toArray]); (try simp only [List.set_cons_succ]); (try simp only [List.set_cons_zero])
  refine wpAnyH_takeD (i := 6) (some 43) (v := ?_) rfl rfl (by kernel_rfl) (by kernel_rfl) (by kernel_rfl) (fun _ _ _ h => h) (Or.inl ⟨by rfl, ?_⟩) (by assumption) ?_
  rotate_left
  (focus (intro w hSw; (try dsimp only at hSw); (first | (go_simp; done) | (go_simp; with_reducible rfl) | with_reducible rfl)))
  (try simp only [Act.put]); (try simp only [List.setIfInBounds_toArray]); (try simp only [List.set_cons_succ]); (try simp only [List.set_cons_zero])
  refine wpAnyH_takeD (i := 7) (some 44) (v := ?_) rfl rfl (by kernel_rfl) (by kernel_rfl) (by kernel_rfl) (fun _ _ _ h => h) (Or.inl ⟨by rfl, ?_⟩) (by assumption) ?_
  rotate_left
  (focus (intro w hSw; (try dsimp only at hSw); (first | (go_simp; done) | (go_simp; with_reducible rfl) | with_reducible rfl)))
  (try simp only [Act.put]); (try simp only [List.setIfInBounds_toArray]); (try simp only [List.set_cons_succ]); (try simp only [List.set_cons_zero])
  refine wpAnyH_ready (rs := [3]) (by kernel_rfl) (by simp) (AllReadyH.cons rfl (fun K hK => ?_) AllReadyH.nil)
  refine step_bL rfl (some 40) rfl 7 _ rfl [0, 1, 5, 10, 11, -1, 2] (by kernel_rfl) rfl ?_
  intro qa wa hqa rA ga
  have hcA : cb < qa := Nat.lt_of_lt_of_le D.cur.lt hqa
  replace D := D.grow ga
  clear kS
  have kS : (_ ∧ _ ∧ _ ∧ _ ∧ _ ∧ _ ∧ _ ∧ _ ∧ _ ∧ _ ∧ _) ∧ _ ∧ _ := ⟨⟨DS.cell0 D 0, DS.cell0 D 1, DS.cell0 D 2, DS.cell0 D 3, DS.cell0 D 4, DS.cell0 D 5, DS.cell0 D 6, DS.cell0 D 7, DS.cell0 D 8, DS.cell0 D 9, DS.cell0 D 10⟩, DS.cell1 D 0, DS.cell1 D 1⟩
  refine hK.out _ _ ?_ (fun hHeld2 => ?_)
  · (try dsimp only)
    exact kS
  clear hK K hHeld
  have hHeld := hHeld2
  clear hHeld2
  (try simp only [Act.put]); (try simp only [List.setIfInBounds_toArray]); (try simp only [List.set_cons_succ]); (try simp only [List.set_cons_zero])
  refine wpAnyH_ready (rs := [4]) (by kernel_rfl) (by simp) (AllReadyH.cons rfl (fun K hK => ?_) AllReadyH.nil)
  go_simp
  go_at_call 34
  refine (spec_l1Int _ cb _ 7 7 _ _ D.cur ⟨rA, fun p hp => by cases hp; exact hcA⟩ (by decide) (by decide)).mono ?_
  rintro e wi ⟨dt, hdt, rfl, cu, d⟩
  replace D := D.step cu d
  clear kS
  have kS : (_ ∧ _ ∧ _ ∧ _ ∧ _ ∧ _ ∧ _ ∧ _ ∧ _ ∧ _ ∧ _) ∧ _ ∧ _ := ⟨⟨DS.cell0 D 0, DS.cell0 D 1, DS.cell0 D 2, DS.cell0 D 3, DS.cell0 D 4, DS.cell0 D 5, DS.cell0 D 6, DS.cell0 D 7, DS.cell0 D 8, DS.cell0 D 9, DS.cell0 D 10⟩, DS.cell1 D 0, DS.cell1 D 1⟩
  go_wp2_with fail
  refine hK.out _ _ ?_ (fun hHeld2 => ?_)
  · (try dsimp only)
    exact kS
  clear hK K hHeld
  have hHeld := hHeld2
  clear hHeld2
  (try simp only [Act.put]); (try simp only [List.setIfInBounds_toArray]); (try simp only [List.set_cons_succ]); (try simp only [List.set_cons_zero])
  refine wpAnyH_takeD (i := 5) (some 42) (v := ?_) rfl rfl (by kernel_rfl) (by kernel_rfl) (by kernel_rfl) (fun _ _ _ h => h) (Or.inl ⟨by rfl, ?_⟩) (by assumption) ?_
  rotate_left
  (focus (intro w hSw; (try dsimp only at hSw); (first | (go_simp; done) | (go_simp; with_reducible rfl) | with_reducible rfl)))
  (try simp only [Act.put]); (try simp only [List.setIfInBounds_toArray]); (try simp only [List.set_cons_succ]); (try simp only [List.set_cons_zero])
  refine wpAnyH_takeD (i := 8) (some 4) (v := ?_) rfl rfl (by kernel_rfl) (by kernel_rfl) (by kernel_rfl) (fun _ _ _ h => h) (Or.inl ⟨by rfl, ?_⟩) (by assumption) ?_
  rotate_left
  (focus (intro w hSw; (try dsimp only at hSw); (first | (go_simp; done) | (go_simp; with_reducible rfl) | with_reducible rfl)))
  (try simp only [Act.put]); (try simp only [List.setIfInBounds_toArray]); (try simp only [List.set_cons_succ]); (try simp only [List.set_cons_zero])
  refine wpAnyH_ready (rs := [9]) (by kernel_rfl) (by simp) (AllReadyH.cons rfl (fun K hK => ?_) AllReadyH.nil)
  refine step_stRD rfl rfl 27 (.tmp 5) (.tmp 43) rfl (w.heap.size + 1) _ _ rfl rfl ((D.bx _ (List.mem_cons_of_mem _ (List.mem_cons_of_mem _ (List.mem_cons_of_mem _ (List.mem_cons_self ..))))).1) si_Addr rfl (by first | rfl | (simp [Value.oneCell']; done)) ?_
  intro w5 Bz g5
  replace D := D.row (b1 := [_, _, _]) rfl Bz g5
  clear kS
  have kS : (_ ∧ _ ∧ _ ∧ _ ∧ _ ∧ _ ∧ _ ∧ _ ∧ _ ∧ _ ∧ _) ∧ _ ∧ _ := ⟨⟨DS.cell0 D 0, DS.cell0 D 1, DS.cell0 D 2, DS.cell0 D 3, DS.cell0 D 4, DS.cell0 D 5, DS.cell0 D 6, DS.cell0 D 7, DS.cell0 D 8, DS.cell0 D 9, DS.cell0 D 10⟩, DS.cell1 D 0, DS.cell1 D 1⟩
  refine hK.out _ _ ?_ (fun hHeld2 => ?_)
  · (try dsimp only)
    exact kS
  clear hK K hHeld
  have hHeld := hHeld2
  clear hHeld2
  (try simp only [Act.put]); (try simp only [List.setIfInBounds_toArray]); (try simp only [List.set_cons_succ]); (try simp only [List.set_cons_zero])
  refine wpAnyH_ready (rs := [10]) (by kernel_rfl) (by simp) (AllReadyH.cons rfl (fun K hK => ?_) AllReadyH.nil)
  refine step_stRD rfl rfl 35 (.tmp 6) (.tmp 44) rfl (w.heap.size + 1 + 1) _ _ rfl rfl ((D.bx _ (List.mem_cons_of_mem _ (List.mem_cons_of_mem _ (List.mem_cons_self ..)))).1) si_Frame rfl (by first | rfl | (simp [Value.oneCell']; done)) ?_
  intro w6 Bz g6
  replace D := D.row (b1 := [_, _]) rfl Bz g6
  clear kS
  have kS : (_ ∧ _ ∧ _ ∧ _ ∧ _ ∧ _ ∧ _ ∧ _ ∧ _ ∧ _ ∧ _) ∧ _ ∧ _ := ⟨⟨DS.cell0 D 0, DS.cell0 D 1, DS.cell0 D 2, DS.cell0 D 3, DS.cell0 D 4, DS.cell0 D 5, DS.cell0 D 6, DS.cell0 D 7, DS.cell0 D 8, DS.cell0 D 9, DS.cell0 D 10⟩, DS.cell1 D 0, DS.cell1 D 1⟩
  refine hK.out _ _ ?_ (fun hHeld2 => ?_)
  · (try dsimp only)
    exact kS
  clear hK K hHeld
  have hHeld := hHeld2
  clear hHeld2
  (try simp only [Act.put]); (try simp only [List.setIfInBounds_toArray]); (try simp only [List.set_cons_succ]); (try simp only [List.set_cons_zero])
  refine wpAnyH_done (by kernel_rfl) ?_ _
  (try dsimp only)
  have ka := fun o => DS.cell3 D o
  have kf := fun o => DS.cell2 D o
  (try go_wp2)
  refine' bodyPost_ret ?_ rfl ?_
  rotate_left
  (focus (simp [results, Try.results47, go_sem, ka, kf]; rfl))
  exact ⟨_, x, y, _, _, _, _, _, _, _, _, _, _, _, _, _, _, _, _, _, _, _, _, _, _, _, rfl, D.de, by (first | exact BR.nil _ _ | exact D.b0 | exact D.tl.b0 | exact D.tl.tl.b0 | exact D.tl.tl.tl.b0 | exact D.tl.tl.tl.tl.b0 | exact D.tl.tl.tl.tl.tl.b0 | exact D.tl.tl.tl.tl.tl.tl.b0), by (first | exact BR.nil _ _ | exact D.b0 | exact D.tl.b0 | exact D.tl.tl.b0 | exact D.tl.tl.tl.b0 | exact D.tl.tl.tl.tl.b0 | exact D.tl.tl.tl.tl.tl.b0 | exact D.tl.tl.tl.tl.tl.tl.b0), by (first | exact BR.nil _ _ | exact D.b0 | exact D.tl.b0 | exact D.tl.tl.b0 | exact D.tl.tl.tl.b0 | exact D.tl.tl.tl.tl.b0 | exact D.tl.tl.tl.tl.tl.b0 | exact D.tl.tl.tl.tl.tl.tl.b0), by (first | exact BR.nil _ _ | exact D.b0 | exact D.tl.b0 | exact D.tl.tl.b0 | exact D.tl.tl.tl.b0 | exact D.tl.tl.tl.tl.b0 | exact D.tl.tl.tl.tl.tl.b0 | exact D.tl.tl.tl.tl.tl.tl.b0), by (first | exact BR.nil _ _ | exact D.b0 | exact D.tl.b0 | exact D.tl.tl.b0 | exact D.tl.tl.tl.b0 | exact D.tl.tl.tl.tl.b0 | exact D.tl.tl.tl.tl.tl.b0 | exact D.tl.tl.tl.tl.tl.tl.b0), by (first | exact BR.nil _ _ | exact D.b0 | exact D.tl.b0 | exact D.tl.tl.b0 | exact D.tl.tl.tl.b0 | exact D.tl.tl.tl.tl.b0 | exact D.tl.tl.tl.tl.tl.b0 | exact D.tl.tl.tl.tl.tl.tl.b0), ⟨(by have := hn1.out; simp at this; omega), (by have := hn2.out; simp at this; omega), (by have := hn3.out; omega)⟩⟩
theorem d_PFi {f : FuncId} {B cb : Nat} {w0 w : World} {bs : List Vb} {L : List Sv} {Q : Ending → World → Prop} {args : Array Value} (D : DS B cb w0 w bs L) (H : Calls Try.prog f args w (PFi B cb w))
    (k : ∀ w' now x y kind id a1 n1 c1 l1 a2 n2 c2 l2 tick a3 n3 c3 l3 a4 n4 c4 l4 epoch seq a5 n5 c5 l5 a6 n6 c6 l6, (n1 ≤ 255 ∧ n2 ≤ 255 ∧ n3 ≤ 255) → DS B cb w0 w' bs (⟨a6, n6, c6, bys l6⟩ :: ⟨a5, n5, c5, bys l5⟩ :: ⟨a4, n4, c4, bys l4⟩ :: ⟨a3, n3, c3, bys l3⟩ :: ⟨a2, n2, c2, bys l2⟩ :: ⟨a1, n1, c1, bys l1⟩ :: L) → Q (.returned (.tuple #[.int .i64 now, .agg #[.int .i64 x, .int .i64 y], .agg #[.int .i64 kind, .int .i64 id, .slice a1 n1 c1, .slice a2 n2 c2, .int .i64 tick, .slice a3 n3 c3, .slice a4 n4 c4, .int .i64 epoch, .int .i64 seq, .slice a5 n5 c5, .slice a6 n6 c6]])) w') : Calls Try.prog f args w Q :=
  H.mono fun e w' ⟨now, x, y, kind, id, a1, n1, c1, a2, n2, c2, tick, a3, n3, c3, a4, n4, c4, epoch, seq, a5, n5, c5, a6, n6, c6, he, E, h1, h2, h3, h4, h5, h6, hb⟩ => by
    subst he
    have D0 := D.by E
    obtain ⟨l1, D1⟩ := D.adB D0 h1
    obtain ⟨l2, D2⟩ := D.adB D1 h2
    obtain ⟨l3, D3⟩ := D.adB D2 h3
    obtain ⟨l4, D4⟩ := D.adB D3 h4
    obtain ⟨l5, D5⟩ := D.adB D4 h5
    obtain ⟨l6, D6⟩ := D.adB D5 h6
    exact k w' _ _ _ _ _ _ _ _ l1 _ _ _ l2 _ _ _ _ l3 _ _ _ l4 _ _ _ _ _ l5 _ _ _ l6 hb D6
theorem d_PBd {f : FuncId} {B cb : Nat} {w0 w : World} {bs : List Vb} {L : List Sv} {Q : Ending → World → Prop} {args : Array Value} (D : DS B cb w0 w bs L) (H : Calls Try.prog f args w (PBd B cb w))
    (k : ∀ w' a n c l, DS B cb w0 w' bs (⟨a, n, c, bys l⟩ :: L) → Q (.returned (.slice a n c)) w') : Calls Try.prog f args w Q :=
  H.mono fun e w' ⟨a, n, c, he, E, h⟩ => by
    subst he
    obtain ⟨l, D1⟩ := D.adB (D.by E) h
    exact k w' a n c l D1
section
variable {B cb : Nat} {w0 w : World} {L : List Sv} {b b' b'' b3 b4 : Vb} {q : Nat} {T : TypeId} {cs : Array Value} {b2 : List Vb}
theorem DS.mem3 (D : DS B cb w0 w (b :: b' :: b'' :: ⟨q, T, cs⟩ :: b2) L) : Bx w q T cs := (D.bx _ (List.mem_cons_of_mem _ (List.mem_cons_of_mem _ (List.mem_cons_of_mem _ (List.mem_cons_self ..))))).1
theorem DS.mem4 (D : DS B cb w0 w (b :: b' :: b'' :: b3 :: ⟨q, T, cs⟩ :: b2) L) : Bx w q T cs := (D.bx _ (List.mem_cons_of_mem _ (List.mem_cons_of_mem _ (List.mem_cons_of_mem _ (List.mem_cons_of_mem _ (List.mem_cons_self ..)))))).1
theorem DS.mem5 (D : DS B cb w0 w (b :: b' :: b'' :: b3 :: b4 :: ⟨q, T, cs⟩ :: b2) L) : Bx w q T cs := (D.bx _ (List.mem_cons_of_mem _ (List.mem_cons_of_mem _ (List.mem_cons_of_mem _ (List.mem_cons_of_mem _ (List.mem_cons_of_mem _ (List.mem_cons_self ..))))))).1
theorem DS.frz1 (D : DS B cb w0 w (b :: ⟨q, T, cs⟩ :: b2) L) (j : Nat) : w.frozen? ⟨q, j, none⟩ = false := (D.bx _ (List.mem_cons_of_mem _ (List.mem_cons_self ..))).1.frozen j
end
def PJu (w : World) (e : Ending) (w' : World) : Prop := ∃ aj nj cj lj now x y v f, e = .returned (.tuple #[.agg #[.slice aj nj cj], .int .i64 now, .agg #[.int .i64 x, .int .i64 y], v]) ∧ Rd w' aj nj cj (bys lj) ∧ FrameR w' v f ∧ f.tot ≤ 1536 ∧ nj ≤ 256 ∧ w.grownBy w' none
theorem PJu.mk {w w' : World} {aj : Option Addr} {nj cj : Nat} {now x y kind id tick epoch seq : Int} {a1 a2 a3 a4 a5 a6 : Option Addr} {n1 c1 n2 c2 n3 c3 n4 c4 n5 c5 n6 c6 : Nat} (g : w.grownBy w' none)
    (hj : BR w w' aj nj cj) (h1 : BR w w' a1 n1 c1) (h2 : BR w w' a2 n2 c2) (h3 : BR w w' a3 n3 c3) (h4 : BR w w' a4 n4 c4) (h5 : BR w w' a5 n5 c5) (h6 : BR w w' a6 n6 c6) :
    PJu w (.returned (.tuple #[.agg #[.slice aj nj cj], .int .i64 now, .agg #[.int .i64 x, .int .i64 y], .agg #[.int .i64 kind, .int .i64 id, .slice a1 n1 c1, .slice a2 n2 c2, .int .i64 tick, .slice a3 n3 c3, .slice a4 n4 c4, .int .i64 epoch, .int .i64 seq, .slice a5 n5 c5, .slice a6 n6 c6]])) w' := by
  obtain ⟨lj, rj, -, bj⟩ := hj
  obtain ⟨l1, r1, -, b1⟩ := h1
  obtain ⟨l2, r2, -, b2⟩ := h2
  obtain ⟨l3, r3, -, b3⟩ := h3
  obtain ⟨l4, r4, -, b4⟩ := h4
  obtain ⟨l5, r5, -, b5⟩ := h5
  obtain ⟨l6, r6, -, b6⟩ := h6
  refine ⟨aj, nj, cj, lj, now, x, y, _, ⟨kind, id, l1, l2, tick, l3, l4, epoch, seq, l5, l6⟩, rfl, rj, ⟨_, _, _, _, _, _, _, _, _, _, _, _, _, _, _, _, _, _, rfl, r1, r2, r3, r4, r5, r6⟩, ?_, bj, g⟩
  have := r1.blen; have := r2.blen; have := r3.blen; have := r4.blen; have := r5.blen; have := r6.blen
  simp only [FrameM.tot]
  omega
set_option maxRecDepth 1000000 in
set_option maxHeartbeats 16000000 in
theorem spec_DrawJudge (a : Option Addr) (n c : Nat) (l : List UInt8) (w : World) (r : Rd w a n c (bys l)) (hn : n ≤ 1048576) : Calls Try.prog 17 #[.slice a n c] w (PJu w) := by
  have hp := r.pb4
  have gW := gb_alloc (gb_alloc (gb_alloc (gb_refl w) (.cells #[.slice none 0 0] 25)) (.cells #[.int .i64 0, .int .i64 0] 27)) (.cells #[.int .i64 0, .int .i64 0, .slice none 0 0, .slice none 0 0, .int .i64 0, .slice none 0 0, .slice none 0 0, .int .i64 0, .int .i64 0, .slice none 0 0, .slice none 0 0] 35)
  have b3 := bx3 w #[.slice none 0 0] #[.int .i64 0, .int .i64 0] #[.int .i64 0, .int .i64 0, .slice none 0 0, .slice none 0 0, .int .i64 0, .slice none 0 0, .slice none 0 0, .int .i64 0, .int .i64 0, .slice none 0 0, .slice none 0 0] 25 27 35
  go_enter Try.func17, Try.ntmps17
  go_wp2_with (first
    | (go_at_call 30; refine (spec_l1New a n c l w.heap.size _ (r.keep0 gW) hn hp gW.size).mono ?_; rintro e w1 ⟨cb, rfl, cu, hc, g⟩; have hcb2 : w.heap.size + 3 ≤ cb := (by have h9 := hc; simp only [World.size_alloc] at h9; omega); have D := (((DS.init cu (gb_trans gW g)).addBox (b3.1.keep0 g) (Nat.le_refl _) (by omega) (by simp)).addBox (b3.2.1.keep0 g) (by omega) (by omega) (by simp)).addBox (b3.2.2.keep0 g) (by omega) (by omega) (by simp; omega); have hcb : w.heap.size ≤ cb := (by omega); clear g hc cu gW b3)
    | (go_at_call 31; (with_reducible refine d_PJa D (spec_l11Jar _ cb _ D.cur) ?_); clear D; intro wJ aj nj cj lj D)
    | (go_at_call 47; replace D := D.box #[.slice aj nj cj] 25; refine d_PFi D (spec_l11Finish _ cb aj nj cj lj _ D.cur D.r0 (fun p hp h0 => ((D.rs _ (List.mem_cons_self ..)).2.1 h0 p hp).1.2)) ?_; clear D; intro wF now x y kind id a1 n1 c1 l1 a2 n2 c2 l2 tick a3 n3 c3 l3 a4 n4 c4 l4 epoch seq a5 n5 c5 l5 a6 n6 c6 l6 hb D))
  refine d_l1Below ((D.box #[.int .i64 x, .int .i64 y] 27).box #[.int .i64 kind, .int .i64 id, .slice a1 n1 c1, .slice a2 n2 c2, .int .i64 tick, .slice a3 n3 c3, .slice a4 n4 c4, .int .i64 epoch, .int .i64 seq, .slice a5 n5 c5, .slice a6 n6 c6] 35) ?_
  clear D
  intro wB z hz D
  simp only [World.size_alloc] at D
  clear hz
  obtain ⟨hb1, hb2, hb3⟩ := hb
  (try clear kF fF kA fA); have kF := fun o => DS.cell0 D o; have fF := fun o => DS.frz0 D o; have kA := fun o => DS.cell1 D o; have fA := fun o => DS.frz1 D o
  cases z0 : ((z : Int) == 0)
  rotate_left
  · go_wp2_with (first | (go_at_call 32; (with_reducible refine d_PAd D (spec_l6Any _ cb _ D.cur) ?_); clear D; intro w1 x y D) | ((with_reducible refine wpList_stD1 D ?_ (.tmp 9) (.tmp 27) ?_ ?_ ?_ ?_ ?_ ?_ ?_ ?_); (focus rfl); (focus rfl); rotate_left; (focus rfl); (focus rfl); (focus (exact si_Addr)); (focus rfl); (focus (first | rfl | (simp [Value.oneCell']; done))); clear D; intro w1 D; (try simp only [Act.put]); (try simp only [List.setIfInBounds_toArray]); (try simp only [List.set_cons_succ]); (try simp only [List.set_cons_zero]); (try clear kc kf); have kr := fun o => DS.cell1 D o))
    (try simp only [List.setIfInBounds_toArray, List.set_cons_succ, List.set_cons_zero] at D)
    (try clear kF fF kA fA)
    (try clear kr)
    replace D := D.drew
    have kS : (_ ∧ _ ∧ _ ∧ _ ∧ _ ∧ _ ∧ _ ∧ _ ∧ _ ∧ _ ∧ _) ∧ (_ ∧ _) ∧ _ := ⟨⟨DS.cell0 D 0, DS.cell0 D 1, DS.cell0 D 2, DS.cell0 D 3, DS.cell0 D 4, DS.cell0 D 5, DS.cell0 D 6, DS.cell0 D 7, DS.cell0 D 8, DS.cell0 D 9, DS.cell0 D 10⟩, ⟨DS.cell1 D 0, DS.cell1 D 1⟩, DS.cell2 D 0⟩
    refine wp_region_held_drew (S := (fun w' => (w'.cell? ⟨wF.heap.size + 1, 0, none⟩ = some (.int .i64 kind) ∧ w'.cell? ⟨wF.heap.size + 1, 1, none⟩ = some (.int .i64 id) ∧ w'.cell? ⟨wF.heap.size + 1, 2, none⟩ = some (.slice a1 n1 c1) ∧ w'.cell? ⟨wF.heap.size + 1, 3, none⟩ = some (.slice a2 n2 c2) ∧ w'.cell? ⟨wF.heap.size + 1, 4, none⟩ = some (.int .i64 tick) ∧ w'.cell? ⟨wF.heap.size + 1, 5, none⟩ = some (.slice a3 n3 c3) ∧ w'.cell? ⟨wF.heap.size + 1, 6, none⟩ = some (.slice a4 n4 c4) ∧ w'.cell? ⟨wF.heap.size + 1, 7, none⟩ = some (.int .i64 epoch) ∧ w'.cell? ⟨wF.heap.size + 1, 8, none⟩ = some (.int .i64 seq) ∧ w'.cell? ⟨wF.heap.size + 1, 9, none⟩ = some (.slice a5 n5 c5) ∧ w'.cell? ⟨wF.heap.size + 1, 10, none⟩ = some (.slice a6 n6 c6)) ∧ (w'.cell? ⟨wF.heap.size, 0, none⟩ = some (.int .i64 x) ∧ w'.cell? ⟨wF.heap.size, 1, none⟩ = some (.int .i64 y)) ∧ w'.cell? ⟨wJ.heap.size, 0, none⟩ = some (.slice aj nj cj))) (by kernel_rfl) ?_ (fun hHeld => ?_)
    · (try dsimp only)
      exact kS
    refine wpAnyH_takeD (i := 0) (some 65) (v := ?_) rfl rfl (by kernel_rfl) (by kernel_rfl) (by kernel_rfl) (fun _ _ _ h => h) (Or.inl ⟨by rfl, ?_⟩) (by assumption) ?_
    rotate_left
    (focus (intro w hSw; (try dsimp only at hSw); (first | (go_simp; done) | (go_simp; with_reducible rfl) | with_reducible rfl)))
    (try simp only [Act.put]); (try simp only [List.setIfInBounds_toArray]); (try simp only [List.set_cons_succ]); (try simp only [List.set_cons_zero])
    refine wpAnyH_takeD (i := 1) (some 66) (v := ?_) rfl rfl (by kernel_rfl) (by kernel_rfl) (by kernel_rfl) (fun _ _ _ h => h) (Or.inl ⟨by rfl, ?_⟩) (by assumption) ?_
    rotate_left
    (focus (intro w hSw; (try dsimp only at hSw); (first | (go_simp; done) | (go_simp; with_reducible rfl) | with_reducible rfl)))
    (try simp only [Act.put]); (try simp only [List.setIfInBounds_toArray]); (try simp only [List.set_cons_succ]); (try simp only [List.set_cons_zero])
    refine wpAnyH_takeD (i := 2) (some 67) (v := ?_) rfl rfl (by kernel_rfl) (by kernel_rfl) (by kernel_rfl) (fun _ _ _ h => h) (Or.inl ⟨by rfl, ?_⟩) (by assumption) ?_
    rotate_left
    (focus (intro w hSw; (try dsimp only at hSw); (first | (go_simp; done) | (go_simp; with_reducible rfl) | with_reducible rfl)))
    (try simp only [Act.put]); (try simp only [List.setIfInBounds_toArray]); (try simp only [List.set_cons_succ]); (try simp only [List.set_cons_zero])
    refine wpAnyH_takeD (i := 3) (some 68) (v := ?_) rfl rfl (by kernel_rfl) (by kernel_rfl) (by kernel_rfl) (fun _ _ _ h => h) (Or.inl ⟨by rfl, ?_⟩) (by assumption) ?_
    rotate_left
    (focus (intro w hSw; (try dsimp only at hSw); (first | (go_simp; done) | (go_simp; with_reducible rfl) | with_reducible rfl)))
    (try simp only [Act.put]); (try simp only [List.setIfInBounds_toArray]); (try simp only [List.set_cons_succ]); (try simp only [List.set_cons_zero])
    refine wpAnyH_ready (rs := [4]) (by kernel_rfl) (by simp) (AllReadyH.cons rfl (fun K hK => ?_) AllReadyH.nil)
    refine step_stRD rfl rfl 25 (.tmp 2) (.tmp 65) rfl w.heap.size _ _ rfl rfl D.mem5 si_Jar rfl (by first | rfl | (simp [Value.oneCell']; done)) ?_
    intro w5 Bz g5
    replace D := D.row (b1 := [_, _, _, _, _]) rfl Bz g5
    (try clear kS)
    have kS : (_ ∧ _ ∧ _ ∧ _ ∧ _ ∧ _ ∧ _ ∧ _ ∧ _ ∧ _ ∧ _) ∧ (_ ∧ _) ∧ _ := ⟨⟨DS.cell0 D 0, DS.cell0 D 1, DS.cell0 D 2, DS.cell0 D 3, DS.cell0 D 4, DS.cell0 D 5, DS.cell0 D 6, DS.cell0 D 7, DS.cell0 D 8, DS.cell0 D 9, DS.cell0 D 10⟩, ⟨DS.cell1 D 0, DS.cell1 D 1⟩, DS.cell2 D 0⟩
    refine hK.out _ _ ?_ (fun hHeld2 => ?_)
    · (try dsimp only)
      exact kS
    clear hK K hHeld
    have hHeld := hHeld2
    clear hHeld2
    (try simp only [Act.put]); (try simp only [List.setIfInBounds_toArray]); (try simp only [List.set_cons_succ]); (try simp only [List.set_cons_zero])
    refine wpAnyH_takeD (i := 5) (some 3) (v := ?_) rfl rfl (by kernel_rfl) (by kernel_rfl) (by kernel_rfl) (fun _ _ _ h => h) (Or.inl ⟨by rfl, ?_⟩) (by assumption) ?_
    rotate_left
    (focus (intro w hSw; (try dsimp only at hSw); (first | (go_simp; done) | (go_simp; with_reducible rfl) | with_reducible rfl)))
    (try simp only [Act.put]); (try simp only [List.setIfInBounds_toArray]); (try simp only [List.set_cons_succ]); (try simp only [List.set_cons_zero])
    refine wpAnyH_ready (rs := [6]) (by kernel_rfl) (by simp) (AllReadyH.cons rfl (fun K hK => ?_) AllReadyH.nil)
    refine step_stRD rfl rfl 27 (.tmp 4) (.tmp 67) rfl (w.heap.size + 1) _ _ rfl rfl D.mem4 si_Addr rfl (by first | rfl | (simp [Value.oneCell']; done)) ?_
    intro w5 Bz g5
    replace D := D.row (b1 := [_, _, _, _]) rfl Bz g5
    (try clear kS)
    have kS : (_ ∧ _ ∧ _ ∧ _ ∧ _ ∧ _ ∧ _ ∧ _ ∧ _ ∧ _ ∧ _) ∧ (_ ∧ _) ∧ _ := ⟨⟨DS.cell0 D 0, DS.cell0 D 1, DS.cell0 D 2, DS.cell0 D 3, DS.cell0 D 4, DS.cell0 D 5, DS.cell0 D 6, DS.cell0 D 7, DS.cell0 D 8, DS.cell0 D 9, DS.cell0 D 10⟩, ⟨DS.cell1 D 0, DS.cell1 D 1⟩, DS.cell2 D 0⟩
    refine hK.out _ _ ?_ (fun hHeld2 => ?_)
    · (try dsimp only)
      exact kS
    clear hK K hHeld
    have hHeld := hHeld2
    clear hHeld2
    (try simp only [Act.put]); (try simp only [List.setIfInBounds_toArray]); (try simp only [List.set_cons_succ]); (try simp only [List.set_cons_zero])
    refine wpAnyH_ready (rs := [7]) (by kernel_rfl) (by simp) (AllReadyH.cons rfl (fun K hK => ?_) AllReadyH.nil)
    refine step_stRD rfl rfl 35 (.tmp 5) (.tmp 68) rfl (w.heap.size + 1 + 1) _ _ rfl rfl D.mem3 si_Frame rfl (by first | rfl | (simp [Value.oneCell']; done)) ?_
    intro w5 Bz g5
    replace D := D.row (b1 := [_, _, _]) rfl Bz g5
    (try clear kS)
    have kS : (_ ∧ _ ∧ _ ∧ _ ∧ _ ∧ _ ∧ _ ∧ _ ∧ _ ∧ _ ∧ _) ∧ (_ ∧ _) ∧ _ := ⟨⟨DS.cell0 D 0, DS.cell0 D 1, DS.cell0 D 2, DS.cell0 D 3, DS.cell0 D 4, DS.cell0 D 5, DS.cell0 D 6, DS.cell0 D 7, DS.cell0 D 8, DS.cell0 D 9, DS.cell0 D 10⟩, ⟨DS.cell1 D 0, DS.cell1 D 1⟩, DS.cell2 D 0⟩
    refine hK.out _ _ ?_ (fun hHeld2 => ?_)
    · (try dsimp only)
      exact kS
    clear hK K hHeld
    have hHeld := hHeld2
    clear hHeld2
    (try simp only [Act.put]); (try simp only [List.setIfInBounds_toArray]); (try simp only [List.set_cons_succ]); (try simp only [List.set_cons_zero])
    refine wpAnyH_done (by kernel_rfl) ?_ _
    (try dsimp only)
    have k5 := fun o => D.mem5.cell o
    have k4 := fun o => D.mem4.cell o
    have k3 := fun o => D.mem3.cell o
    (try go_wp2)
    refine bodyPost_ret (v := .tuple #[.agg #[.slice aj nj cj], .int .i64 now, .agg #[.int .i64 x, .int .i64 y], .agg #[.int .i64 kind, .int .i64 id, .slice a1 n1 c1, .slice a2 n2 c2, .int .i64 tick, .slice a3 n3 c3, .slice a4 n4 c4, .int .i64 epoch, .int .i64 seq, .slice a5 n5 c5, .slice a6 n6 c6]]) (by simp [results, Try.results17, go_sem, k5, k4, k3]) rfl (PJu.mk (D.gb hcb) (by (first | exact BR.nil _ _ | exact D.b0 | exact D.tl.b0 | exact D.tl.tl.b0 | exact D.tl.tl.tl.b0 | exact D.tl.tl.tl.tl.b0 | exact D.tl.tl.tl.tl.tl.b0 | exact D.tl.tl.tl.tl.tl.tl.b0 | exact D.tl.tl.tl.tl.tl.tl.tl.b0 | exact D.tl.tl.tl.tl.tl.tl.tl.tl.b0 | exact D.tl.tl.tl.tl.tl.tl.tl.tl.tl.b0 | exact D.tl.tl.tl.tl.tl.tl.tl.tl.tl.tl.b0 | exact D.tl.tl.tl.tl.tl.tl.tl.tl.tl.tl.tl.b0 | exact D.tl.tl.tl.tl.tl.tl.tl.tl.tl.tl.tl.tl.b0 | exact D.tl.tl.tl.tl.tl.tl.tl.tl.tl.tl.tl.tl.tl.b0)) (by (first | exact BR.nil _ _ | exact D.b0 | exact D.tl.b0 | exact D.tl.tl.b0 | exact D.tl.tl.tl.b0 | exact D.tl.tl.tl.tl.b0 | exact D.tl.tl.tl.tl.tl.b0 | exact D.tl.tl.tl.tl.tl.tl.b0 | exact D.tl.tl.tl.tl.tl.tl.tl.b0 | exact D.tl.tl.tl.tl.tl.tl.tl.tl.b0 | exact D.tl.tl.tl.tl.tl.tl.tl.tl.tl.b0 | exact D.tl.tl.tl.tl.tl.tl.tl.tl.tl.tl.b0 | exact D.tl.tl.tl.tl.tl.tl.tl.tl.tl.tl.tl.b0 | exact D.tl.tl.tl.tl.tl.tl.tl.tl.tl.tl.tl.tl.b0 | exact D.tl.tl.tl.tl.tl.tl.tl.tl.tl.tl.tl.tl.tl.b0)) (by (first | exact BR.nil _ _ | exact D.b0 | exact D.tl.b0 | exact D.tl.tl.b0 | exact D.tl.tl.tl.b0 | exact D.tl.tl.tl.tl.b0 | exact D.tl.tl.tl.tl.tl.b0 | exact D.tl.tl.tl.tl.tl.tl.b0 | exact D.tl.tl.tl.tl.tl.tl.tl.b0 | exact D.tl.tl.tl.tl.tl.tl.tl.tl.b0 | exact D.tl.tl.tl.tl.tl.tl.tl.tl.tl.b0 | exact D.tl.tl.tl.tl.tl.tl.tl.tl.tl.tl.b0 | exact D.tl.tl.tl.tl.tl.tl.tl.tl.tl.tl.tl.b0 | exact D.tl.tl.tl.tl.tl.tl.tl.tl.tl.tl.tl.tl.b0 | exact D.tl.tl.tl.tl.tl.tl.tl.tl.tl.tl.tl.tl.tl.b0)) (by (first | exact BR.nil _ _ | exact D.b0 | exact D.tl.b0 | exact D.tl.tl.b0 | exact D.tl.tl.tl.b0 | exact D.tl.tl.tl.tl.b0 | exact D.tl.tl.tl.tl.tl.b0 | exact D.tl.tl.tl.tl.tl.tl.b0 | exact D.tl.tl.tl.tl.tl.tl.tl.b0 | exact D.tl.tl.tl.tl.tl.tl.tl.tl.b0 | exact D.tl.tl.tl.tl.tl.tl.tl.tl.tl.b0 | exact D.tl.tl.tl.tl.tl.tl.tl.tl.tl.tl.b0 | exact D.tl.tl.tl.tl.tl.tl.tl.tl.tl.tl.tl.b0 | exact D.tl.tl.tl.tl.tl.tl.tl.tl.tl.tl.tl.tl.b0 | exact D.tl.tl.tl.tl.tl.tl.tl.tl.tl.tl.tl.tl.tl.b0)) (by (first | exact BR.nil _ _ | exact D.b0 | exact D.tl.b0 | exact D.tl.tl.b0 | exact D.tl.tl.tl.b0 | exact D.tl.tl.tl.tl.b0 | exact D.tl.tl.tl.tl.tl.b0 | exact D.tl.tl.tl.tl.tl.tl.b0 | exact D.tl.tl.tl.tl.tl.tl.tl.b0 | exact D.tl.tl.tl.tl.tl.tl.tl.tl.b0 | exact D.tl.tl.tl.tl.tl.tl.tl.tl.tl.b0 | exact D.tl.tl.tl.tl.tl.tl.tl.tl.tl.tl.b0 | exact D.tl.tl.tl.tl.tl.tl.tl.tl.tl.tl.tl.b0 | exact D.tl.tl.tl.tl.tl.tl.tl.tl.tl.tl.tl.tl.b0 | exact D.tl.tl.tl.tl.tl.tl.tl.tl.tl.tl.tl.tl.tl.b0)) (by (first | exact BR.nil _ _ | exact D.b0 | exact D.tl.b0 | exact D.tl.tl.b0 | exact D.tl.tl.tl.b0 | exact D.tl.tl.tl.tl.b0 | exact D.tl.tl.tl.tl.tl.b0 | exact D.tl.tl.tl.tl.tl.tl.b0 | exact D.tl.tl.tl.tl.tl.tl.tl.b0 | exact D.tl.tl.tl.tl.tl.tl.tl.tl.b0 | exact D.tl.tl.tl.tl.tl.tl.tl.tl.tl.b0 | exact D.tl.tl.tl.tl.tl.tl.tl.tl.tl.tl.b0 | exact D.tl.tl.tl.tl.tl.tl.tl.tl.tl.tl.tl.b0 | exact D.tl.tl.tl.tl.tl.tl.tl.tl.tl.tl.tl.tl.b0 | exact D.tl.tl.tl.tl.tl.tl.tl.tl.tl.tl.tl.tl.tl.b0)) (by (first | exact BR.nil _ _ | exact D.b0 | exact D.tl.b0 | exact D.tl.tl.b0 | exact D.tl.tl.tl.b0 | exact D.tl.tl.tl.tl.b0 | exact D.tl.tl.tl.tl.tl.b0 | exact D.tl.tl.tl.tl.tl.tl.b0 | exact D.tl.tl.tl.tl.tl.tl.tl.b0 | exact D.tl.tl.tl.tl.tl.tl.tl.tl.b0 | exact D.tl.tl.tl.tl.tl.tl.tl.tl.tl.b0 | exact D.tl.tl.tl.tl.tl.tl.tl.tl.tl.tl.b0 | exact D.tl.tl.tl.tl.tl.tl.tl.tl.tl.tl.tl.b0 | exact D.tl.tl.tl.tl.tl.tl.tl.tl.tl.tl.tl.tl.b0 | exact D.tl.tl.tl.tl.tl.tl.tl.tl.tl.tl.tl.tl.tl.b0)))
  cases z1 : ((z : Int) == 1)
  rotate_left
  · go_wp2_with (go_at_call 34; (with_reducible refine d_l1Int D ?_ ?_ ?_ ?_ ?_ ?_); (focus (first | rfl | (simp; done))); (focus (exact rfl)); (focus rfl); (focus decide); (focus decide); clear D; intro w1 id hi D; (try clear kF fF kA fA); have kF := fun o => DS.cell0 D o; have fF := fun o => DS.frz0 D o; have kA := fun o => DS.cell1 D o; have fA := fun o => DS.frz1 D o)
    replace D := D.set0 1 (.int .i64 id)
    (try simp only [List.setIfInBounds_toArray, List.set_cons_succ, List.set_cons_zero] at D)
    (try clear kF fF kA fA)
    (try clear kr)
    replace D := D.drew
    have kS : (_ ∧ _ ∧ _ ∧ _ ∧ _ ∧ _ ∧ _ ∧ _ ∧ _ ∧ _ ∧ _) ∧ (_ ∧ _) ∧ _ := ⟨⟨DS.cell0 D 0, DS.cell0 D 1, DS.cell0 D 2, DS.cell0 D 3, DS.cell0 D 4, DS.cell0 D 5, DS.cell0 D 6, DS.cell0 D 7, DS.cell0 D 8, DS.cell0 D 9, DS.cell0 D 10⟩, ⟨DS.cell1 D 0, DS.cell1 D 1⟩, DS.cell2 D 0⟩
    refine wp_region_held_drew (S := (fun w' => (w'.cell? ⟨wF.heap.size + 1, 0, none⟩ = some (.int .i64 kind) ∧ w'.cell? ⟨wF.heap.size + 1, 1, none⟩ = some (.int .i64 id) ∧ w'.cell? ⟨wF.heap.size + 1, 2, none⟩ = some (.slice a1 n1 c1) ∧ w'.cell? ⟨wF.heap.size + 1, 3, none⟩ = some (.slice a2 n2 c2) ∧ w'.cell? ⟨wF.heap.size + 1, 4, none⟩ = some (.int .i64 tick) ∧ w'.cell? ⟨wF.heap.size + 1, 5, none⟩ = some (.slice a3 n3 c3) ∧ w'.cell? ⟨wF.heap.size + 1, 6, none⟩ = some (.slice a4 n4 c4) ∧ w'.cell? ⟨wF.heap.size + 1, 7, none⟩ = some (.int .i64 epoch) ∧ w'.cell? ⟨wF.heap.size + 1, 8, none⟩ = some (.int .i64 seq) ∧ w'.cell? ⟨wF.heap.size + 1, 9, none⟩ = some (.slice a5 n5 c5) ∧ w'.cell? ⟨wF.heap.size + 1, 10, none⟩ = some (.slice a6 n6 c6)) ∧ (w'.cell? ⟨wF.heap.size, 0, none⟩ = some (.int .i64 x) ∧ w'.cell? ⟨wF.heap.size, 1, none⟩ = some (.int .i64 y)) ∧ w'.cell? ⟨wJ.heap.size, 0, none⟩ = some (.slice aj nj cj))) (by kernel_rfl) ?_ (fun hHeld => ?_)
    · (try dsimp only)
      exact kS
    refine wpAnyH_takeD (i := 0) (some 65) (v := ?_) rfl rfl (by kernel_rfl) (by kernel_rfl) (by kernel_rfl) (fun _ _ _ h => h) (Or.inl ⟨by rfl, ?_⟩) (by assumption) ?_
    rotate_left
    (focus (intro w hSw; (try dsimp only at hSw); (first | (go_simp; done) | (go_simp; with_reducible rfl) | with_reducible rfl)))
    (try simp only [Act.put]); (try simp only [List.setIfInBounds_toArray]); (try simp only [List.set_cons_succ]); (try simp only [List.set_cons_zero])
    refine wpAnyH_takeD (i := 1) (some 66) (v := ?_) rfl rfl (by kernel_rfl) (by kernel_rfl) (by kernel_rfl) (fun _ _ _ h => h) (Or.inl ⟨by rfl, ?_⟩) (by assumption) ?_
    rotate_left
    (focus (intro w hSw; (try dsimp only at hSw); (first | (go_simp; done) | (go_simp; with_reducible rfl) | with_reducible rfl)))
    (try simp only [Act.put]); (try simp only [List.setIfInBounds_toArray]); (try simp only [List.set_cons_succ]); (try simp only [List.set_cons_zero])
    refine wpAnyH_takeD (i := 2) (some 67) (v := ?_) rfl rfl (by kernel_rfl) (by kernel_rfl) (by kernel_rfl) (fun _ _ _ h => h) (Or.inl ⟨by rfl, ?_⟩) (by assumption) ?_
    rotate_left
    (focus (intro w hSw; (try dsimp only at hSw); (first | (go_simp; done) | (go_simp; with_reducible rfl) | with_reducible rfl)))
    (try simp only [Act.put]); (try simp only [List.setIfInBounds_toArray]); (try simp only [List.set_cons_succ]); (try simp only [List.set_cons_zero])
    refine wpAnyH_takeD (i := 3) (some 68) (v := ?_) rfl rfl (by kernel_rfl) (by kernel_rfl) (by kernel_rfl) (fun _ _ _ h => h) (Or.inl ⟨by rfl, ?_⟩) (by assumption) ?_
    rotate_left
    (focus (intro w hSw; (try dsimp only at hSw); (first | (go_simp; done) | (go_simp; with_reducible rfl) | with_reducible rfl)))
    (try simp only [Act.put]); (try simp only [List.setIfInBounds_toArray]); (try simp only [List.set_cons_succ]); (try simp only [List.set_cons_zero])
    refine wpAnyH_ready (rs := [4]) (by kernel_rfl) (by simp) (AllReadyH.cons rfl (fun K hK => ?_) AllReadyH.nil)
    refine step_stRD rfl rfl 25 (.tmp 2) (.tmp 65) rfl w.heap.size _ _ rfl rfl D.mem5 si_Jar rfl (by first | rfl | (simp [Value.oneCell']; done)) ?_
    intro w5 Bz g5
    replace D := D.row (b1 := [_, _, _, _, _]) rfl Bz g5
    (try clear kS)
    have kS : (_ ∧ _ ∧ _ ∧ _ ∧ _ ∧ _ ∧ _ ∧ _ ∧ _ ∧ _ ∧ _) ∧ (_ ∧ _) ∧ _ := ⟨⟨DS.cell0 D 0, DS.cell0 D 1, DS.cell0 D 2, DS.cell0 D 3, DS.cell0 D 4, DS.cell0 D 5, DS.cell0 D 6, DS.cell0 D 7, DS.cell0 D 8, DS.cell0 D 9, DS.cell0 D 10⟩, ⟨DS.cell1 D 0, DS.cell1 D 1⟩, DS.cell2 D 0⟩
    refine hK.out _ _ ?_ (fun hHeld2 => ?_)
    · (try dsimp only)
      exact kS
    clear hK K hHeld
    have hHeld := hHeld2
    clear hHeld2
    (try simp only [Act.put]); (try simp only [List.setIfInBounds_toArray]); (try simp only [List.set_cons_succ]); (try simp only [List.set_cons_zero])
    refine wpAnyH_takeD (i := 5) (some 3) (v := ?_) rfl rfl (by kernel_rfl) (by kernel_rfl) (by kernel_rfl) (fun _ _ _ h => h) (Or.inl ⟨by rfl, ?_⟩) (by assumption) ?_
    rotate_left
    (focus (intro w hSw; (try dsimp only at hSw); (first | (go_simp; done) | (go_simp; with_reducible rfl) | with_reducible rfl)))
    (try simp only [Act.put]); (try simp only [List.setIfInBounds_toArray]); (try simp only [List.set_cons_succ]); (try simp only [List.set_cons_zero])
    refine wpAnyH_ready (rs := [6]) (by kernel_rfl) (by simp) (AllReadyH.cons rfl (fun K hK => ?_) AllReadyH.nil)
    refine step_stRD rfl rfl 27 (.tmp 4) (.tmp 67) rfl (w.heap.size + 1) _ _ rfl rfl D.mem4 si_Addr rfl (by first | rfl | (simp [Value.oneCell']; done)) ?_
    intro w5 Bz g5
    replace D := D.row (b1 := [_, _, _, _]) rfl Bz g5
    (try clear kS)
    have kS : (_ ∧ _ ∧ _ ∧ _ ∧ _ ∧ _ ∧ _ ∧ _ ∧ _ ∧ _ ∧ _) ∧ (_ ∧ _) ∧ _ := ⟨⟨DS.cell0 D 0, DS.cell0 D 1, DS.cell0 D 2, DS.cell0 D 3, DS.cell0 D 4, DS.cell0 D 5, DS.cell0 D 6, DS.cell0 D 7, DS.cell0 D 8, DS.cell0 D 9, DS.cell0 D 10⟩, ⟨DS.cell1 D 0, DS.cell1 D 1⟩, DS.cell2 D 0⟩
    refine hK.out _ _ ?_ (fun hHeld2 => ?_)
    · (try dsimp only)
      exact kS
    clear hK K hHeld
    have hHeld := hHeld2
    clear hHeld2
    (try simp only [Act.put]); (try simp only [List.setIfInBounds_toArray]); (try simp only [List.set_cons_succ]); (try simp only [List.set_cons_zero])
    refine wpAnyH_ready (rs := [7]) (by kernel_rfl) (by simp) (AllReadyH.cons rfl (fun K hK => ?_) AllReadyH.nil)
    refine step_stRD rfl rfl 35 (.tmp 5) (.tmp 68) rfl (w.heap.size + 1 + 1) _ _ rfl rfl D.mem3 si_Frame rfl (by first | rfl | (simp [Value.oneCell']; done)) ?_
    intro w5 Bz g5
    replace D := D.row (b1 := [_, _, _]) rfl Bz g5
    (try clear kS)
    have kS : (_ ∧ _ ∧ _ ∧ _ ∧ _ ∧ _ ∧ _ ∧ _ ∧ _ ∧ _ ∧ _) ∧ (_ ∧ _) ∧ _ := ⟨⟨DS.cell0 D 0, DS.cell0 D 1, DS.cell0 D 2, DS.cell0 D 3, DS.cell0 D 4, DS.cell0 D 5, DS.cell0 D 6, DS.cell0 D 7, DS.cell0 D 8, DS.cell0 D 9, DS.cell0 D 10⟩, ⟨DS.cell1 D 0, DS.cell1 D 1⟩, DS.cell2 D 0⟩
    refine hK.out _ _ ?_ (fun hHeld2 => ?_)
    · (try dsimp only)
      exact kS
    clear hK K hHeld
    have hHeld := hHeld2
    clear hHeld2
    (try simp only [Act.put]); (try simp only [List.setIfInBounds_toArray]); (try simp only [List.set_cons_succ]); (try simp only [List.set_cons_zero])
    refine wpAnyH_done (by kernel_rfl) ?_ _
    (try dsimp only)
    have k5 := fun o => D.mem5.cell o
    have k4 := fun o => D.mem4.cell o
    have k3 := fun o => D.mem3.cell o
    (try go_wp2)
    refine bodyPost_ret (v := .tuple #[.agg #[.slice aj nj cj], .int .i64 now, .agg #[.int .i64 x, .int .i64 y], .agg #[.int .i64 kind, .int .i64 id, .slice a1 n1 c1, .slice a2 n2 c2, .int .i64 tick, .slice a3 n3 c3, .slice a4 n4 c4, .int .i64 epoch, .int .i64 seq, .slice a5 n5 c5, .slice a6 n6 c6]]) (by simp [results, Try.results17, go_sem, k5, k4, k3]) rfl (PJu.mk (D.gb hcb) (by (first | exact BR.nil _ _ | exact D.b0 | exact D.tl.b0 | exact D.tl.tl.b0 | exact D.tl.tl.tl.b0 | exact D.tl.tl.tl.tl.b0 | exact D.tl.tl.tl.tl.tl.b0 | exact D.tl.tl.tl.tl.tl.tl.b0 | exact D.tl.tl.tl.tl.tl.tl.tl.b0 | exact D.tl.tl.tl.tl.tl.tl.tl.tl.b0 | exact D.tl.tl.tl.tl.tl.tl.tl.tl.tl.b0 | exact D.tl.tl.tl.tl.tl.tl.tl.tl.tl.tl.b0 | exact D.tl.tl.tl.tl.tl.tl.tl.tl.tl.tl.tl.b0 | exact D.tl.tl.tl.tl.tl.tl.tl.tl.tl.tl.tl.tl.b0 | exact D.tl.tl.tl.tl.tl.tl.tl.tl.tl.tl.tl.tl.tl.b0)) (by (first | exact BR.nil _ _ | exact D.b0 | exact D.tl.b0 | exact D.tl.tl.b0 | exact D.tl.tl.tl.b0 | exact D.tl.tl.tl.tl.b0 | exact D.tl.tl.tl.tl.tl.b0 | exact D.tl.tl.tl.tl.tl.tl.b0 | exact D.tl.tl.tl.tl.tl.tl.tl.b0 | exact D.tl.tl.tl.tl.tl.tl.tl.tl.b0 | exact D.tl.tl.tl.tl.tl.tl.tl.tl.tl.b0 | exact D.tl.tl.tl.tl.tl.tl.tl.tl.tl.tl.b0 | exact D.tl.tl.tl.tl.tl.tl.tl.tl.tl.tl.tl.b0 | exact D.tl.tl.tl.tl.tl.tl.tl.tl.tl.tl.tl.tl.b0 | exact D.tl.tl.tl.tl.tl.tl.tl.tl.tl.tl.tl.tl.tl.b0)) (by (first | exact BR.nil _ _ | exact D.b0 | exact D.tl.b0 | exact D.tl.tl.b0 | exact D.tl.tl.tl.b0 | exact D.tl.tl.tl.tl.b0 | exact D.tl.tl.tl.tl.tl.b0 | exact D.tl.tl.tl.tl.tl.tl.b0 | exact D.tl.tl.tl.tl.tl.tl.tl.b0 | exact D.tl.tl.tl.tl.tl.tl.tl.tl.b0 | exact D.tl.tl.tl.tl.tl.tl.tl.tl.tl.b0 | exact D.tl.tl.tl.tl.tl.tl.tl.tl.tl.tl.b0 | exact D.tl.tl.tl.tl.tl.tl.tl.tl.tl.tl.tl.b0 | exact D.tl.tl.tl.tl.tl.tl.tl.tl.tl.tl.tl.tl.b0 | exact D.tl.tl.tl.tl.tl.tl.tl.tl.tl.tl.tl.tl.tl.b0)) (by (first | exact BR.nil _ _ | exact D.b0 | exact D.tl.b0 | exact D.tl.tl.b0 | exact D.tl.tl.tl.b0 | exact D.tl.tl.tl.tl.b0 | exact D.tl.tl.tl.tl.tl.b0 | exact D.tl.tl.tl.tl.tl.tl.b0 | exact D.tl.tl.tl.tl.tl.tl.tl.b0 | exact D.tl.tl.tl.tl.tl.tl.tl.tl.b0 | exact D.tl.tl.tl.tl.tl.tl.tl.tl.tl.b0 | exact D.tl.tl.tl.tl.tl.tl.tl.tl.tl.tl.b0 | exact D.tl.tl.tl.tl.tl.tl.tl.tl.tl.tl.tl.b0 | exact D.tl.tl.tl.tl.tl.tl.tl.tl.tl.tl.tl.tl.b0 | exact D.tl.tl.tl.tl.tl.tl.tl.tl.tl.tl.tl.tl.tl.b0)) (by (first | exact BR.nil _ _ | exact D.b0 | exact D.tl.b0 | exact D.tl.tl.b0 | exact D.tl.tl.tl.b0 | exact D.tl.tl.tl.tl.b0 | exact D.tl.tl.tl.tl.tl.b0 | exact D.tl.tl.tl.tl.tl.tl.b0 | exact D.tl.tl.tl.tl.tl.tl.tl.b0 | exact D.tl.tl.tl.tl.tl.tl.tl.tl.b0 | exact D.tl.tl.tl.tl.tl.tl.tl.tl.tl.b0 | exact D.tl.tl.tl.tl.tl.tl.tl.tl.tl.tl.b0 | exact D.tl.tl.tl.tl.tl.tl.tl.tl.tl.tl.tl.b0 | exact D.tl.tl.tl.tl.tl.tl.tl.tl.tl.tl.tl.tl.b0 | exact D.tl.tl.tl.tl.tl.tl.tl.tl.tl.tl.tl.tl.tl.b0)) (by (first | exact BR.nil _ _ | exact D.b0 | exact D.tl.b0 | exact D.tl.tl.b0 | exact D.tl.tl.tl.b0 | exact D.tl.tl.tl.tl.b0 | exact D.tl.tl.tl.tl.tl.b0 | exact D.tl.tl.tl.tl.tl.tl.b0 | exact D.tl.tl.tl.tl.tl.tl.tl.b0 | exact D.tl.tl.tl.tl.tl.tl.tl.tl.b0 | exact D.tl.tl.tl.tl.tl.tl.tl.tl.tl.b0 | exact D.tl.tl.tl.tl.tl.tl.tl.tl.tl.tl.b0 | exact D.tl.tl.tl.tl.tl.tl.tl.tl.tl.tl.tl.b0 | exact D.tl.tl.tl.tl.tl.tl.tl.tl.tl.tl.tl.tl.b0 | exact D.tl.tl.tl.tl.tl.tl.tl.tl.tl.tl.tl.tl.tl.b0)) (by (first | exact BR.nil _ _ | exact D.b0 | exact D.tl.b0 | exact D.tl.tl.b0 | exact D.tl.tl.tl.b0 | exact D.tl.tl.tl.tl.b0 | exact D.tl.tl.tl.tl.tl.b0 | exact D.tl.tl.tl.tl.tl.tl.b0 | exact D.tl.tl.tl.tl.tl.tl.tl.b0 | exact D.tl.tl.tl.tl.tl.tl.tl.tl.b0 | exact D.tl.tl.tl.tl.tl.tl.tl.tl.tl.b0 | exact D.tl.tl.tl.tl.tl.tl.tl.tl.tl.tl.b0 | exact D.tl.tl.tl.tl.tl.tl.tl.tl.tl.tl.tl.b0 | exact D.tl.tl.tl.tl.tl.tl.tl.tl.tl.tl.tl.tl.b0 | exact D.tl.tl.tl.tl.tl.tl.tl.tl.tl.tl.tl.tl.tl.b0)))
  cases z2 : ((z : Int) == 2)
  rotate_left
  · go_wp2_with (go_at_call 49; (with_reducible refine d_PBd D (spec_l1Bend _ cb a1 n1 c1 l1 _ D.cur D.tl.tl.tl.tl.tl.r0 hb1) ?_); clear D; intro w1 a1 n1 c1 l1 D; (try clear kF fF kA fA); have kF := fun o => DS.cell0 D o; have fF := fun o => DS.frz0 D o; have kA := fun o => DS.cell1 D o; have fA := fun o => DS.frz1 D o)
    replace D := D.set0 2 (.slice a1 n1 c1)
    (try simp only [List.setIfInBounds_toArray, List.set_cons_succ, List.set_cons_zero] at D)
    (try clear kF fF kA fA)
    (try clear kr)
    replace D := D.drew
    have kS : (_ ∧ _ ∧ _ ∧ _ ∧ _ ∧ _ ∧ _ ∧ _ ∧ _ ∧ _ ∧ _) ∧ (_ ∧ _) ∧ _ := ⟨⟨DS.cell0 D 0, DS.cell0 D 1, DS.cell0 D 2, DS.cell0 D 3, DS.cell0 D 4, DS.cell0 D 5, DS.cell0 D 6, DS.cell0 D 7, DS.cell0 D 8, DS.cell0 D 9, DS.cell0 D 10⟩, ⟨DS.cell1 D 0, DS.cell1 D 1⟩, DS.cell2 D 0⟩
    refine wp_region_held_drew (S := (fun w' => (w'.cell? ⟨wF.heap.size + 1, 0, none⟩ = some (.int .i64 kind) ∧ w'.cell? ⟨wF.heap.size + 1, 1, none⟩ = some (.int .i64 id) ∧ w'.cell? ⟨wF.heap.size + 1, 2, none⟩ = some (.slice a1 n1 c1) ∧ w'.cell? ⟨wF.heap.size + 1, 3, none⟩ = some (.slice a2 n2 c2) ∧ w'.cell? ⟨wF.heap.size + 1, 4, none⟩ = some (.int .i64 tick) ∧ w'.cell? ⟨wF.heap.size + 1, 5, none⟩ = some (.slice a3 n3 c3) ∧ w'.cell? ⟨wF.heap.size + 1, 6, none⟩ = some (.slice a4 n4 c4) ∧ w'.cell? ⟨wF.heap.size + 1, 7, none⟩ = some (.int .i64 epoch) ∧ w'.cell? ⟨wF.heap.size + 1, 8, none⟩ = some (.int .i64 seq) ∧ w'.cell? ⟨wF.heap.size + 1, 9, none⟩ = some (.slice a5 n5 c5) ∧ w'.cell? ⟨wF.heap.size + 1, 10, none⟩ = some (.slice a6 n6 c6)) ∧ (w'.cell? ⟨wF.heap.size, 0, none⟩ = some (.int .i64 x) ∧ w'.cell? ⟨wF.heap.size, 1, none⟩ = some (.int .i64 y)) ∧ w'.cell? ⟨wJ.heap.size, 0, none⟩ = some (.slice aj nj cj))) (by kernel_rfl) ?_ (fun hHeld => ?_)
    · (try dsimp only)
      exact kS
    refine wpAnyH_takeD (i := 0) (some 65) (v := ?_) rfl rfl (by kernel_rfl) (by kernel_rfl) (by kernel_rfl) (fun _ _ _ h => h) (Or.inl ⟨by rfl, ?_⟩) (by assumption) ?_
    rotate_left
    (focus (intro w hSw; (try dsimp only at hSw); (first | (go_simp; done) | (go_simp; with_reducible rfl) | with_reducible rfl)))
    (try simp only [Act.put]); (try simp only [List.setIfInBounds_toArray]); (try simp only [List.set_cons_succ]); (try simp only [List.set_cons_zero])
    refine wpAnyH_takeD (i := 1) (some 66) (v := ?_) rfl rfl (by kernel_rfl) (by kernel_rfl) (by kernel_rfl) (fun _ _ _ h => h) (Or.inl ⟨by rfl, ?_⟩) (by assumption) ?_
    rotate_left
    (focus (intro w hSw; (try dsimp only at hSw); (first | (go_simp; done) | (go_simp; with_reducible rfl) | with_reducible rfl)))
    (try simp only [Act.put]); (try simp only [List.setIfInBounds_toArray]); (try simp only [List.set_cons_succ]); (try simp only [List.set_cons_zero])
    refine wpAnyH_takeD (i := 2) (some 67) (v := ?_) rfl rfl (by kernel_rfl) (by kernel_rfl) (by kernel_rfl) (fun _ _ _ h => h) (Or.inl ⟨by rfl, ?_⟩) (by assumption) ?_
    rotate_left
    (focus (intro w hSw; (try dsimp only at hSw); (first | (go_simp; done) | (go_simp; with_reducible rfl) | with_reducible rfl)))
    (try simp only [Act.put]); (try simp only [List.setIfInBounds_toArray]); (try simp only [List.set_cons_succ]); (try simp only [List.set_cons_zero])
    refine wpAnyH_takeD (i := 3) (some 68) (v := ?_) rfl rfl (by kernel_rfl) (by kernel_rfl) (by kernel_rfl) (fun _ _ _ h => h) (Or.inl ⟨by rfl, ?_⟩) (by assumption) ?_
    rotate_left
    (focus (intro w hSw; (try dsimp only at hSw); (first | (go_simp; done) | (go_simp; with_reducible rfl) | with_reducible rfl)))
    (try simp only [Act.put]); (try simp only [List.setIfInBounds_toArray]); (try simp only [List.set_cons_succ]); (try simp only [List.set_cons_zero])
    refine wpAnyH_ready (rs := [4]) (by kernel_rfl) (by simp) (AllReadyH.cons rfl (fun K hK => ?_) AllReadyH.nil)
    refine step_stRD rfl rfl 25 (.tmp 2) (.tmp 65) rfl w.heap.size _ _ rfl rfl D.mem5 si_Jar rfl (by first | rfl | (simp [Value.oneCell']; done)) ?_
    intro w5 Bz g5
    replace D := D.row (b1 := [_, _, _, _, _]) rfl Bz g5
    (try clear kS)
    have kS : (_ ∧ _ ∧ _ ∧ _ ∧ _ ∧ _ ∧ _ ∧ _ ∧ _ ∧ _ ∧ _) ∧ (_ ∧ _) ∧ _ := ⟨⟨DS.cell0 D 0, DS.cell0 D 1, DS.cell0 D 2, DS.cell0 D 3, DS.cell0 D 4, DS.cell0 D 5, DS.cell0 D 6, DS.cell0 D 7, DS.cell0 D 8, DS.cell0 D 9, DS.cell0 D 10⟩, ⟨DS.cell1 D 0, DS.cell1 D 1⟩, DS.cell2 D 0⟩
    refine hK.out _ _ ?_ (fun hHeld2 => ?_)
    · (try dsimp only)
      exact kS
    clear hK K hHeld
    have hHeld := hHeld2
    clear hHeld2
    (try simp only [Act.put]); (try simp only [List.setIfInBounds_toArray]); (try simp only [List.set_cons_succ]); (try simp only [List.set_cons_zero])
    refine wpAnyH_takeD (i := 5) (some 3) (v := ?_) rfl rfl (by kernel_rfl) (by kernel_rfl) (by kernel_rfl) (fun _ _ _ h => h) (Or.inl ⟨by rfl, ?_⟩) (by assumption) ?_
    rotate_left
    (focus (intro w hSw; (try dsimp only at hSw); (first | (go_simp; done) | (go_simp; with_reducible rfl) | with_reducible rfl)))
    (try simp only [Act.put]); (try simp only [List.setIfInBounds_toArray]); (try simp only [List.set_cons_succ]); (try simp only [List.set_cons_zero])
    refine wpAnyH_ready (rs := [6]) (by kernel_rfl) (by simp) (AllReadyH.cons rfl (fun K hK => ?_) AllReadyH.nil)
    refine step_stRD rfl rfl 27 (.tmp 4) (.tmp 67) rfl (w.heap.size + 1) _ _ rfl rfl D.mem4 si_Addr rfl (by first | rfl | (simp [Value.oneCell']; done)) ?_
    intro w5 Bz g5
    replace D := D.row (b1 := [_, _, _, _]) rfl Bz g5
    (try clear kS)
    have kS : (_ ∧ _ ∧ _ ∧ _ ∧ _ ∧ _ ∧ _ ∧ _ ∧ _ ∧ _ ∧ _) ∧ (_ ∧ _) ∧ _ := ⟨⟨DS.cell0 D 0, DS.cell0 D 1, DS.cell0 D 2, DS.cell0 D 3, DS.cell0 D 4, DS.cell0 D 5, DS.cell0 D 6, DS.cell0 D 7, DS.cell0 D 8, DS.cell0 D 9, DS.cell0 D 10⟩, ⟨DS.cell1 D 0, DS.cell1 D 1⟩, DS.cell2 D 0⟩
    refine hK.out _ _ ?_ (fun hHeld2 => ?_)
    · (try dsimp only)
      exact kS
    clear hK K hHeld
    have hHeld := hHeld2
    clear hHeld2
    (try simp only [Act.put]); (try simp only [List.setIfInBounds_toArray]); (try simp only [List.set_cons_succ]); (try simp only [List.set_cons_zero])
    refine wpAnyH_ready (rs := [7]) (by kernel_rfl) (by simp) (AllReadyH.cons rfl (fun K hK => ?_) AllReadyH.nil)
    refine step_stRD rfl rfl 35 (.tmp 5) (.tmp 68) rfl (w.heap.size + 1 + 1) _ _ rfl rfl D.mem3 si_Frame rfl (by first | rfl | (simp [Value.oneCell']; done)) ?_
    intro w5 Bz g5
    replace D := D.row (b1 := [_, _, _]) rfl Bz g5
    (try clear kS)
    have kS : (_ ∧ _ ∧ _ ∧ _ ∧ _ ∧ _ ∧ _ ∧ _ ∧ _ ∧ _ ∧ _) ∧ (_ ∧ _) ∧ _ := ⟨⟨DS.cell0 D 0, DS.cell0 D 1, DS.cell0 D 2, DS.cell0 D 3, DS.cell0 D 4, DS.cell0 D 5, DS.cell0 D 6, DS.cell0 D 7, DS.cell0 D 8, DS.cell0 D 9, DS.cell0 D 10⟩, ⟨DS.cell1 D 0, DS.cell1 D 1⟩, DS.cell2 D 0⟩
    refine hK.out _ _ ?_ (fun hHeld2 => ?_)
    · (try dsimp only)
      exact kS
    clear hK K hHeld
    have hHeld := hHeld2
    clear hHeld2
    (try simp only [Act.put]); (try simp only [List.setIfInBounds_toArray]); (try simp only [List.set_cons_succ]); (try simp only [List.set_cons_zero])
    refine wpAnyH_done (by kernel_rfl) ?_ _
    (try dsimp only)
    have k5 := fun o => D.mem5.cell o
    have k4 := fun o => D.mem4.cell o
    have k3 := fun o => D.mem3.cell o
    (try go_wp2)
    refine bodyPost_ret (v := .tuple #[.agg #[.slice aj nj cj], .int .i64 now, .agg #[.int .i64 x, .int .i64 y], .agg #[.int .i64 kind, .int .i64 id, .slice a1 n1 c1, .slice a2 n2 c2, .int .i64 tick, .slice a3 n3 c3, .slice a4 n4 c4, .int .i64 epoch, .int .i64 seq, .slice a5 n5 c5, .slice a6 n6 c6]]) (by simp [results, Try.results17, go_sem, k5, k4, k3]) rfl (PJu.mk (D.gb hcb) (by (first | exact BR.nil _ _ | exact D.b0 | exact D.tl.b0 | exact D.tl.tl.b0 | exact D.tl.tl.tl.b0 | exact D.tl.tl.tl.tl.b0 | exact D.tl.tl.tl.tl.tl.b0 | exact D.tl.tl.tl.tl.tl.tl.b0 | exact D.tl.tl.tl.tl.tl.tl.tl.b0 | exact D.tl.tl.tl.tl.tl.tl.tl.tl.b0 | exact D.tl.tl.tl.tl.tl.tl.tl.tl.tl.b0 | exact D.tl.tl.tl.tl.tl.tl.tl.tl.tl.tl.b0 | exact D.tl.tl.tl.tl.tl.tl.tl.tl.tl.tl.tl.b0 | exact D.tl.tl.tl.tl.tl.tl.tl.tl.tl.tl.tl.tl.b0 | exact D.tl.tl.tl.tl.tl.tl.tl.tl.tl.tl.tl.tl.tl.b0)) (by (first | exact BR.nil _ _ | exact D.b0 | exact D.tl.b0 | exact D.tl.tl.b0 | exact D.tl.tl.tl.b0 | exact D.tl.tl.tl.tl.b0 | exact D.tl.tl.tl.tl.tl.b0 | exact D.tl.tl.tl.tl.tl.tl.b0 | exact D.tl.tl.tl.tl.tl.tl.tl.b0 | exact D.tl.tl.tl.tl.tl.tl.tl.tl.b0 | exact D.tl.tl.tl.tl.tl.tl.tl.tl.tl.b0 | exact D.tl.tl.tl.tl.tl.tl.tl.tl.tl.tl.b0 | exact D.tl.tl.tl.tl.tl.tl.tl.tl.tl.tl.tl.b0 | exact D.tl.tl.tl.tl.tl.tl.tl.tl.tl.tl.tl.tl.b0 | exact D.tl.tl.tl.tl.tl.tl.tl.tl.tl.tl.tl.tl.tl.b0)) (by (first | exact BR.nil _ _ | exact D.b0 | exact D.tl.b0 | exact D.tl.tl.b0 | exact D.tl.tl.tl.b0 | exact D.tl.tl.tl.tl.b0 | exact D.tl.tl.tl.tl.tl.b0 | exact D.tl.tl.tl.tl.tl.tl.b0 | exact D.tl.tl.tl.tl.tl.tl.tl.b0 | exact D.tl.tl.tl.tl.tl.tl.tl.tl.b0 | exact D.tl.tl.tl.tl.tl.tl.tl.tl.tl.b0 | exact D.tl.tl.tl.tl.tl.tl.tl.tl.tl.tl.b0 | exact D.tl.tl.tl.tl.tl.tl.tl.tl.tl.tl.tl.b0 | exact D.tl.tl.tl.tl.tl.tl.tl.tl.tl.tl.tl.tl.b0 | exact D.tl.tl.tl.tl.tl.tl.tl.tl.tl.tl.tl.tl.tl.b0)) (by (first | exact BR.nil _ _ | exact D.b0 | exact D.tl.b0 | exact D.tl.tl.b0 | exact D.tl.tl.tl.b0 | exact D.tl.tl.tl.tl.b0 | exact D.tl.tl.tl.tl.tl.b0 | exact D.tl.tl.tl.tl.tl.tl.b0 | exact D.tl.tl.tl.tl.tl.tl.tl.b0 | exact D.tl.tl.tl.tl.tl.tl.tl.tl.b0 | exact D.tl.tl.tl.tl.tl.tl.tl.tl.tl.b0 | exact D.tl.tl.tl.tl.tl.tl.tl.tl.tl.tl.b0 | exact D.tl.tl.tl.tl.tl.tl.tl.tl.tl.tl.tl.b0 | exact D.tl.tl.tl.tl.tl.tl.tl.tl.tl.tl.tl.tl.b0 | exact D.tl.tl.tl.tl.tl.tl.tl.tl.tl.tl.tl.tl.tl.b0)) (by (first | exact BR.nil _ _ | exact D.b0 | exact D.tl.b0 | exact D.tl.tl.b0 | exact D.tl.tl.tl.b0 | exact D.tl.tl.tl.tl.b0 | exact D.tl.tl.tl.tl.tl.b0 | exact D.tl.tl.tl.tl.tl.tl.b0 | exact D.tl.tl.tl.tl.tl.tl.tl.b0 | exact D.tl.tl.tl.tl.tl.tl.tl.tl.b0 | exact D.tl.tl.tl.tl.tl.tl.tl.tl.tl.b0 | exact D.tl.tl.tl.tl.tl.tl.tl.tl.tl.tl.b0 | exact D.tl.tl.tl.tl.tl.tl.tl.tl.tl.tl.tl.b0 | exact D.tl.tl.tl.tl.tl.tl.tl.tl.tl.tl.tl.tl.b0 | exact D.tl.tl.tl.tl.tl.tl.tl.tl.tl.tl.tl.tl.tl.b0)) (by (first | exact BR.nil _ _ | exact D.b0 | exact D.tl.b0 | exact D.tl.tl.b0 | exact D.tl.tl.tl.b0 | exact D.tl.tl.tl.tl.b0 | exact D.tl.tl.tl.tl.tl.b0 | exact D.tl.tl.tl.tl.tl.tl.b0 | exact D.tl.tl.tl.tl.tl.tl.tl.b0 | exact D.tl.tl.tl.tl.tl.tl.tl.tl.b0 | exact D.tl.tl.tl.tl.tl.tl.tl.tl.tl.b0 | exact D.tl.tl.tl.tl.tl.tl.tl.tl.tl.tl.b0 | exact D.tl.tl.tl.tl.tl.tl.tl.tl.tl.tl.tl.b0 | exact D.tl.tl.tl.tl.tl.tl.tl.tl.tl.tl.tl.tl.b0 | exact D.tl.tl.tl.tl.tl.tl.tl.tl.tl.tl.tl.tl.tl.b0)) (by (first | exact BR.nil _ _ | exact D.b0 | exact D.tl.b0 | exact D.tl.tl.b0 | exact D.tl.tl.tl.b0 | exact D.tl.tl.tl.tl.b0 | exact D.tl.tl.tl.tl.tl.b0 | exact D.tl.tl.tl.tl.tl.tl.b0 | exact D.tl.tl.tl.tl.tl.tl.tl.b0 | exact D.tl.tl.tl.tl.tl.tl.tl.tl.b0 | exact D.tl.tl.tl.tl.tl.tl.tl.tl.tl.b0 | exact D.tl.tl.tl.tl.tl.tl.tl.tl.tl.tl.b0 | exact D.tl.tl.tl.tl.tl.tl.tl.tl.tl.tl.tl.b0 | exact D.tl.tl.tl.tl.tl.tl.tl.tl.tl.tl.tl.tl.b0 | exact D.tl.tl.tl.tl.tl.tl.tl.tl.tl.tl.tl.tl.tl.b0)))
  cases z3 : ((z : Int) == 3)
  rotate_left
  · go_wp2_with (go_at_call 49; (with_reducible refine d_PBd D (spec_l1Bend _ cb a2 n2 c2 l2 _ D.cur D.tl.tl.tl.tl.r0 hb2) ?_); clear D; intro w1 a2 n2 c2 l2 D; (try clear kF fF kA fA); have kF := fun o => DS.cell0 D o; have fF := fun o => DS.frz0 D o; have kA := fun o => DS.cell1 D o; have fA := fun o => DS.frz1 D o)
    replace D := D.set0 3 (.slice a2 n2 c2)
    (try simp only [List.setIfInBounds_toArray, List.set_cons_succ, List.set_cons_zero] at D)
    (try clear kF fF kA fA)
    (try clear kr)
    replace D := D.drew
    have kS : (_ ∧ _ ∧ _ ∧ _ ∧ _ ∧ _ ∧ _ ∧ _ ∧ _ ∧ _ ∧ _) ∧ (_ ∧ _) ∧ _ := ⟨⟨DS.cell0 D 0, DS.cell0 D 1, DS.cell0 D 2, DS.cell0 D 3, DS.cell0 D 4, DS.cell0 D 5, DS.cell0 D 6, DS.cell0 D 7, DS.cell0 D 8, DS.cell0 D 9, DS.cell0 D 10⟩, ⟨DS.cell1 D 0, DS.cell1 D 1⟩, DS.cell2 D 0⟩
    refine wp_region_held_drew (S := (fun w' => (w'.cell? ⟨wF.heap.size + 1, 0, none⟩ = some (.int .i64 kind) ∧ w'.cell? ⟨wF.heap.size + 1, 1, none⟩ = some (.int .i64 id) ∧ w'.cell? ⟨wF.heap.size + 1, 2, none⟩ = some (.slice a1 n1 c1) ∧ w'.cell? ⟨wF.heap.size + 1, 3, none⟩ = some (.slice a2 n2 c2) ∧ w'.cell? ⟨wF.heap.size + 1, 4, none⟩ = some (.int .i64 tick) ∧ w'.cell? ⟨wF.heap.size + 1, 5, none⟩ = some (.slice a3 n3 c3) ∧ w'.cell? ⟨wF.heap.size + 1, 6, none⟩ = some (.slice a4 n4 c4) ∧ w'.cell? ⟨wF.heap.size + 1, 7, none⟩ = some (.int .i64 epoch) ∧ w'.cell? ⟨wF.heap.size + 1, 8, none⟩ = some (.int .i64 seq) ∧ w'.cell? ⟨wF.heap.size + 1, 9, none⟩ = some (.slice a5 n5 c5) ∧ w'.cell? ⟨wF.heap.size + 1, 10, none⟩ = some (.slice a6 n6 c6)) ∧ (w'.cell? ⟨wF.heap.size, 0, none⟩ = some (.int .i64 x) ∧ w'.cell? ⟨wF.heap.size, 1, none⟩ = some (.int .i64 y)) ∧ w'.cell? ⟨wJ.heap.size, 0, none⟩ = some (.slice aj nj cj))) (by kernel_rfl) ?_ (fun hHeld => ?_)
    · (try dsimp only)
      exact kS
    refine wpAnyH_takeD (i := 0) (some 65) (v := ?_) rfl rfl (by kernel_rfl) (by kernel_rfl) (by kernel_rfl) (fun _ _ _ h => h) (Or.inl ⟨by rfl, ?_⟩) (by assumption) ?_
    rotate_left
    (focus (intro w hSw; (try dsimp only at hSw); (first | (go_simp; done) | (go_simp; with_reducible rfl) | with_reducible rfl)))
    (try simp only [Act.put]); (try simp only [List.setIfInBounds_toArray]); (try simp only [List.set_cons_succ]); (try simp only [List.set_cons_zero])
    refine wpAnyH_takeD (i := 1) (some 66) (v := ?_) rfl rfl (by kernel_rfl) (by kernel_rfl) (by kernel_rfl) (fun _ _ _ h => h) (Or.inl ⟨by rfl, ?_⟩) (by assumption) ?_
    rotate_left
    (focus (intro w hSw; (try dsimp only at hSw); (first | (go_simp; done) | (go_simp; with_reducible rfl) | with_reducible rfl)))
    (try simp only [Act.put]); (try simp only [List.setIfInBounds_toArray]); (try simp only [List.set_cons_succ]); (try simp only [List.set_cons_zero])
    refine wpAnyH_takeD (i := 2) (some 67) (v := ?_) rfl rfl (by kernel_rfl) (by kernel_rfl) (by kernel_rfl) (fun _ _ _ h => h) (Or.inl ⟨by rfl, ?_⟩) (by assumption) ?_
    rotate_left
    (focus (intro w hSw; (try dsimp only at hSw); (first | (go_simp; done) | (go_simp; with_reducible rfl) | with_reducible rfl)))
    (try simp only [Act.put]); (try simp only [List.setIfInBounds_toArray]); (try simp only [List.set_cons_succ]); (try simp only [List.set_cons_zero])
    refine wpAnyH_takeD (i := 3) (some 68) (v := ?_) rfl rfl (by kernel_rfl) (by kernel_rfl) (by kernel_rfl) (fun _ _ _ h => h) (Or.inl ⟨by rfl, ?_⟩) (by assumption) ?_
    rotate_left
    (focus (intro w hSw; (try dsimp only at hSw); (first | (go_simp; done) | (go_simp; with_reducible rfl) | with_reducible rfl)))
    (try simp only [Act.put]); (try simp only [List.setIfInBounds_toArray]); (try simp only [List.set_cons_succ]); (try simp only [List.set_cons_zero])
    refine wpAnyH_ready (rs := [4]) (by kernel_rfl) (by simp) (AllReadyH.cons rfl (fun K hK => ?_) AllReadyH.nil)
    refine step_stRD rfl rfl 25 (.tmp 2) (.tmp 65) rfl w.heap.size _ _ rfl rfl D.mem5 si_Jar rfl (by first | rfl | (simp [Value.oneCell']; done)) ?_
    intro w5 Bz g5
    replace D := D.row (b1 := [_, _, _, _, _]) rfl Bz g5
    (try clear kS)
    have kS : (_ ∧ _ ∧ _ ∧ _ ∧ _ ∧ _ ∧ _ ∧ _ ∧ _ ∧ _ ∧ _) ∧ (_ ∧ _) ∧ _ := ⟨⟨DS.cell0 D 0, DS.cell0 D 1, DS.cell0 D 2, DS.cell0 D 3, DS.cell0 D 4, DS.cell0 D 5, DS.cell0 D 6, DS.cell0 D 7, DS.cell0 D 8, DS.cell0 D 9, DS.cell0 D 10⟩, ⟨DS.cell1 D 0, DS.cell1 D 1⟩, DS.cell2 D 0⟩
    refine hK.out _ _ ?_ (fun hHeld2 => ?_)
    · (try dsimp only)
      exact kS
    clear hK K hHeld
    have hHeld := hHeld2
    clear hHeld2
    (try simp only [Act.put]); (try simp only [List.setIfInBounds_toArray]); (try simp only [List.set_cons_succ]); (try simp only [List.set_cons_zero])
    refine wpAnyH_takeD (i := 5) (some 3) (v := ?_) rfl rfl (by kernel_rfl) (by kernel_rfl) (by kernel_rfl) (fun _ _ _ h => h) (Or.inl ⟨by rfl, ?_⟩) (by assumption) ?_
    rotate_left
    (focus (intro w hSw; (try dsimp only at hSw); (first | (go_simp; done) | (go_simp; with_reducible rfl) | with_reducible rfl)))
    (try simp only [Act.put]); (try simp only [List.setIfInBounds_toArray]); (try simp only [List.set_cons_succ]); (try simp only [List.set_cons_zero])
    refine wpAnyH_ready (rs := [6]) (by kernel_rfl) (by simp) (AllReadyH.cons rfl (fun K hK => ?_) AllReadyH.nil)
    refine step_stRD rfl rfl 27 (.tmp 4) (.tmp 67) rfl (w.heap.size + 1) _ _ rfl rfl D.mem4 si_Addr rfl (by first | rfl | (simp [Value.oneCell']; done)) ?_
    intro w5 Bz g5
    replace D := D.row (b1 := [_, _, _, _]) rfl Bz g5
    (try clear kS)
    have kS : (_ ∧ _ ∧ _ ∧ _ ∧ _ ∧ _ ∧ _ ∧ _ ∧ _ ∧ _ ∧ _) ∧ (_ ∧ _) ∧ _ := ⟨⟨DS.cell0 D 0, DS.cell0 D 1, DS.cell0 D 2, DS.cell0 D 3, DS.cell0 D 4, DS.cell0 D 5, DS.cell0 D 6, DS.cell0 D 7, DS.cell0 D 8, DS.cell0 D 9, DS.cell0 D 10⟩, ⟨DS.cell1 D 0, DS.cell1 D 1⟩, DS.cell2 D 0⟩
    refine hK.out _ _ ?_ (fun hHeld2 => ?_)
    · (try dsimp only)
      exact kS
    clear hK K hHeld
    have hHeld := hHeld2
    clear hHeld2
    (try simp only [Act.put]); (try simp only [List.setIfInBounds_toArray]); (try simp only [List.set_cons_succ]); (try simp only [List.set_cons_zero])
    refine wpAnyH_ready (rs := [7]) (by kernel_rfl) (by simp) (AllReadyH.cons rfl (fun K hK => ?_) AllReadyH.nil)
    refine step_stRD rfl rfl 35 (.tmp 5) (.tmp 68) rfl (w.heap.size + 1 + 1) _ _ rfl rfl D.mem3 si_Frame rfl (by first | rfl | (simp [Value.oneCell']; done)) ?_
    intro w5 Bz g5
    replace D := D.row (b1 := [_, _, _]) rfl Bz g5
    (try clear kS)
    have kS : (_ ∧ _ ∧ _ ∧ _ ∧ _ ∧ _ ∧ _ ∧ _ ∧ _ ∧ _ ∧ _) ∧ (_ ∧ _) ∧ _ := ⟨⟨DS.cell0 D 0, DS.cell0 D 1, DS.cell0 D 2, DS.cell0 D 3, DS.cell0 D 4, DS.cell0 D 5, DS.cell0 D 6, DS.cell0 D 7, DS.cell0 D 8, DS.cell0 D 9, DS.cell0 D 10⟩, ⟨DS.cell1 D 0, DS.cell1 D 1⟩, DS.cell2 D 0⟩
    refine hK.out _ _ ?_ (fun hHeld2 => ?_)
    · (try dsimp only)
      exact kS
    clear hK K hHeld
    have hHeld := hHeld2
    clear hHeld2
    (try simp only [Act.put]); (try simp only [List.setIfInBounds_toArray]); (try simp only [List.set_cons_succ]); (try simp only [List.set_cons_zero])
    refine wpAnyH_done (by kernel_rfl) ?_ _
    (try dsimp only)
    have k5 := fun o => D.mem5.cell o
    have k4 := fun o => D.mem4.cell o
    have k3 := fun o => D.mem3.cell o
    (try go_wp2)
    refine bodyPost_ret (v := .tuple #[.agg #[.slice aj nj cj], .int .i64 now, .agg #[.int .i64 x, .int .i64 y], .agg #[.int .i64 kind, .int .i64 id, .slice a1 n1 c1, .slice a2 n2 c2, .int .i64 tick, .slice a3 n3 c3, .slice a4 n4 c4, .int .i64 epoch, .int .i64 seq, .slice a5 n5 c5, .slice a6 n6 c6]]) (by simp [results, Try.results17, go_sem, k5, k4, k3]) rfl (PJu.mk (D.gb hcb) (by (first | exact BR.nil _ _ | exact D.b0 | exact D.tl.b0 | exact D.tl.tl.b0 | exact D.tl.tl.tl.b0 | exact D.tl.tl.tl.tl.b0 | exact D.tl.tl.tl.tl.tl.b0 | exact D.tl.tl.tl.tl.tl.tl.b0 | exact D.tl.tl.tl.tl.tl.tl.tl.b0 | exact D.tl.tl.tl.tl.tl.tl.tl.tl.b0 | exact D.tl.tl.tl.tl.tl.tl.tl.tl.tl.b0 | exact D.tl.tl.tl.tl.tl.tl.tl.tl.tl.tl.b0 | exact D.tl.tl.tl.tl.tl.tl.tl.tl.tl.tl.tl.b0 | exact D.tl.tl.tl.tl.tl.tl.tl.tl.tl.tl.tl.tl.b0 | exact D.tl.tl.tl.tl.tl.tl.tl.tl.tl.tl.tl.tl.tl.b0)) (by (first | exact BR.nil _ _ | exact D.b0 | exact D.tl.b0 | exact D.tl.tl.b0 | exact D.tl.tl.tl.b0 | exact D.tl.tl.tl.tl.b0 | exact D.tl.tl.tl.tl.tl.b0 | exact D.tl.tl.tl.tl.tl.tl.b0 | exact D.tl.tl.tl.tl.tl.tl.tl.b0 | exact D.tl.tl.tl.tl.tl.tl.tl.tl.b0 | exact D.tl.tl.tl.tl.tl.tl.tl.tl.tl.b0 | exact D.tl.tl.tl.tl.tl.tl.tl.tl.tl.tl.b0 | exact D.tl.tl.tl.tl.tl.tl.tl.tl.tl.tl.tl.b0 | exact D.tl.tl.tl.tl.tl.tl.tl.tl.tl.tl.tl.tl.b0 | exact D.tl.tl.tl.tl.tl.tl.tl.tl.tl.tl.tl.tl.tl.b0)) (by (first | exact BR.nil _ _ | exact D.b0 | exact D.tl.b0 | exact D.tl.tl.b0 | exact D.tl.tl.tl.b0 | exact D.tl.tl.tl.tl.b0 | exact D.tl.tl.tl.tl.tl.b0 | exact D.tl.tl.tl.tl.tl.tl.b0 | exact D.tl.tl.tl.tl.tl.tl.tl.b0 | exact D.tl.tl.tl.tl.tl.tl.tl.tl.b0 | exact D.tl.tl.tl.tl.tl.tl.tl.tl.tl.b0 | exact D.tl.tl.tl.tl.tl.tl.tl.tl.tl.tl.b0 | exact D.tl.tl.tl.tl.tl.tl.tl.tl.tl.tl.tl.b0 | exact D.tl.tl.tl.tl.tl.tl.tl.tl.tl.tl.tl.tl.b0 | exact D.tl.tl.tl.tl.tl.tl.tl.tl.tl.tl.tl.tl.tl.b0)) (by (first | exact BR.nil _ _ | exact D.b0 | exact D.tl.b0 | exact D.tl.tl.b0 | exact D.tl.tl.tl.b0 | exact D.tl.tl.tl.tl.b0 | exact D.tl.tl.tl.tl.tl.b0 | exact D.tl.tl.tl.tl.tl.tl.b0 | exact D.tl.tl.tl.tl.tl.tl.tl.b0 | exact D.tl.tl.tl.tl.tl.tl.tl.tl.b0 | exact D.tl.tl.tl.tl.tl.tl.tl.tl.tl.b0 | exact D.tl.tl.tl.tl.tl.tl.tl.tl.tl.tl.b0 | exact D.tl.tl.tl.tl.tl.tl.tl.tl.tl.tl.tl.b0 | exact D.tl.tl.tl.tl.tl.tl.tl.tl.tl.tl.tl.tl.b0 | exact D.tl.tl.tl.tl.tl.tl.tl.tl.tl.tl.tl.tl.tl.b0)) (by (first | exact BR.nil _ _ | exact D.b0 | exact D.tl.b0 | exact D.tl.tl.b0 | exact D.tl.tl.tl.b0 | exact D.tl.tl.tl.tl.b0 | exact D.tl.tl.tl.tl.tl.b0 | exact D.tl.tl.tl.tl.tl.tl.b0 | exact D.tl.tl.tl.tl.tl.tl.tl.b0 | exact D.tl.tl.tl.tl.tl.tl.tl.tl.b0 | exact D.tl.tl.tl.tl.tl.tl.tl.tl.tl.b0 | exact D.tl.tl.tl.tl.tl.tl.tl.tl.tl.tl.b0 | exact D.tl.tl.tl.tl.tl.tl.tl.tl.tl.tl.tl.b0 | exact D.tl.tl.tl.tl.tl.tl.tl.tl.tl.tl.tl.tl.b0 | exact D.tl.tl.tl.tl.tl.tl.tl.tl.tl.tl.tl.tl.tl.b0)) (by (first | exact BR.nil _ _ | exact D.b0 | exact D.tl.b0 | exact D.tl.tl.b0 | exact D.tl.tl.tl.b0 | exact D.tl.tl.tl.tl.b0 | exact D.tl.tl.tl.tl.tl.b0 | exact D.tl.tl.tl.tl.tl.tl.b0 | exact D.tl.tl.tl.tl.tl.tl.tl.b0 | exact D.tl.tl.tl.tl.tl.tl.tl.tl.b0 | exact D.tl.tl.tl.tl.tl.tl.tl.tl.tl.b0 | exact D.tl.tl.tl.tl.tl.tl.tl.tl.tl.tl.b0 | exact D.tl.tl.tl.tl.tl.tl.tl.tl.tl.tl.tl.b0 | exact D.tl.tl.tl.tl.tl.tl.tl.tl.tl.tl.tl.tl.b0 | exact D.tl.tl.tl.tl.tl.tl.tl.tl.tl.tl.tl.tl.tl.b0)) (by (first | exact BR.nil _ _ | exact D.b0 | exact D.tl.b0 | exact D.tl.tl.b0 | exact D.tl.tl.tl.b0 | exact D.tl.tl.tl.tl.b0 | exact D.tl.tl.tl.tl.tl.b0 | exact D.tl.tl.tl.tl.tl.tl.b0 | exact D.tl.tl.tl.tl.tl.tl.tl.b0 | exact D.tl.tl.tl.tl.tl.tl.tl.tl.b0 | exact D.tl.tl.tl.tl.tl.tl.tl.tl.tl.b0 | exact D.tl.tl.tl.tl.tl.tl.tl.tl.tl.tl.b0 | exact D.tl.tl.tl.tl.tl.tl.tl.tl.tl.tl.tl.b0 | exact D.tl.tl.tl.tl.tl.tl.tl.tl.tl.tl.tl.tl.b0 | exact D.tl.tl.tl.tl.tl.tl.tl.tl.tl.tl.tl.tl.tl.b0)))
  cases z4 : ((z : Int) == 4)
  rotate_left
  · go_wp2
    obtain ⟨tick, ht⟩ : ∃ t, wrap64 (tick + 1) = t := ⟨_, rfl⟩
    rw [ht]
    replace D := D.set0 4 (.int .i64 tick)
    clear ht
    (try simp only [List.setIfInBounds_toArray, List.set_cons_succ, List.set_cons_zero] at D)
    (try clear kF fF kA fA)
    (try clear kr)
    replace D := D.drew
    have kS : (_ ∧ _ ∧ _ ∧ _ ∧ _ ∧ _ ∧ _ ∧ _ ∧ _ ∧ _ ∧ _) ∧ (_ ∧ _) ∧ _ := ⟨⟨DS.cell0 D 0, DS.cell0 D 1, DS.cell0 D 2, DS.cell0 D 3, DS.cell0 D 4, DS.cell0 D 5, DS.cell0 D 6, DS.cell0 D 7, DS.cell0 D 8, DS.cell0 D 9, DS.cell0 D 10⟩, ⟨DS.cell1 D 0, DS.cell1 D 1⟩, DS.cell2 D 0⟩
    refine wp_region_held_drew (S := (fun w' => (w'.cell? ⟨wF.heap.size + 1, 0, none⟩ = some (.int .i64 kind) ∧ w'.cell? ⟨wF.heap.size + 1, 1, none⟩ = some (.int .i64 id) ∧ w'.cell? ⟨wF.heap.size + 1, 2, none⟩ = some (.slice a1 n1 c1) ∧ w'.cell? ⟨wF.heap.size + 1, 3, none⟩ = some (.slice a2 n2 c2) ∧ w'.cell? ⟨wF.heap.size + 1, 4, none⟩ = some (.int .i64 tick) ∧ w'.cell? ⟨wF.heap.size + 1, 5, none⟩ = some (.slice a3 n3 c3) ∧ w'.cell? ⟨wF.heap.size + 1, 6, none⟩ = some (.slice a4 n4 c4) ∧ w'.cell? ⟨wF.heap.size + 1, 7, none⟩ = some (.int .i64 epoch) ∧ w'.cell? ⟨wF.heap.size + 1, 8, none⟩ = some (.int .i64 seq) ∧ w'.cell? ⟨wF.heap.size + 1, 9, none⟩ = some (.slice a5 n5 c5) ∧ w'.cell? ⟨wF.heap.size + 1, 10, none⟩ = some (.slice a6 n6 c6)) ∧ (w'.cell? ⟨wF.heap.size, 0, none⟩ = some (.int .i64 x) ∧ w'.cell? ⟨wF.heap.size, 1, none⟩ = some (.int .i64 y)) ∧ w'.cell? ⟨wJ.heap.size, 0, none⟩ = some (.slice aj nj cj))) (by kernel_rfl) ?_ (fun hHeld => ?_)
    · (try dsimp only)
      exact kS
    refine wpAnyH_takeD (i := 0) (some 65) (v := ?_) rfl rfl (by kernel_rfl) (by kernel_rfl) (by kernel_rfl) (fun _ _ _ h => h) (Or.inl ⟨by rfl, ?_⟩) (by assumption) ?_
    rotate_left
    (focus (intro w hSw; (try dsimp only at hSw); (first | (go_simp; done) | (go_simp; with_reducible rfl) | with_reducible rfl)))
    (try simp only [Act.put]); (try simp only [List.setIfInBounds_toArray]); (try simp only [List.set_cons_succ]); (try simp only [List.set_cons_zero])
    refine wpAnyH_takeD (i := 1) (some 66) (v := ?_) rfl rfl (by kernel_rfl) (by kernel_rfl) (by kernel_rfl) (fun _ _ _ h => h) (Or.inl ⟨by rfl, ?_⟩) (by assumption) ?_
    rotate_left
    (focus (intro w hSw; (try dsimp only at hSw); (first | (go_simp; done) | (go_simp; with_reducible rfl) | with_reducible rfl)))
    (try simp only [Act.put]); (try simp only [List.setIfInBounds_toArray]); (try simp only [List.set_cons_succ]); (try simp only [List.set_cons_zero])
    refine wpAnyH_takeD (i := 2) (some 67) (v := ?_) rfl rfl (by kernel_rfl) (by kernel_rfl) (by kernel_rfl) (fun _ _ _ h => h) (Or.inl ⟨by rfl, ?_⟩) (by assumption) ?_
    rotate_left
    (focus (intro w hSw; (try dsimp only at hSw); (first | (go_simp; done) | (go_simp; with_reducible rfl) | with_reducible rfl)))
    (try simp only [Act.put]); (try simp only [List.setIfInBounds_toArray]); (try simp only [List.set_cons_succ]); (try simp only [List.set_cons_zero])
    refine wpAnyH_takeD (i := 3) (some 68) (v := ?_) rfl rfl (by kernel_rfl) (by kernel_rfl) (by kernel_rfl) (fun _ _ _ h => h) (Or.inl ⟨by rfl, ?_⟩) (by assumption) ?_
    rotate_left
    (focus (intro w hSw; (try dsimp only at hSw); (first | (go_simp; done) | (go_simp; with_reducible rfl) | with_reducible rfl)))
    (try simp only [Act.put]); (try simp only [List.setIfInBounds_toArray]); (try simp only [List.set_cons_succ]); (try simp only [List.set_cons_zero])
    refine wpAnyH_ready (rs := [4]) (by kernel_rfl) (by simp) (AllReadyH.cons rfl (fun K hK => ?_) AllReadyH.nil)
    refine step_stRD rfl rfl 25 (.tmp 2) (.tmp 65) rfl w.heap.size _ _ rfl rfl D.mem5 si_Jar rfl (by first | rfl | (simp [Value.oneCell']; done)) ?_
    intro w5 Bz g5
    replace D := D.row (b1 := [_, _, _, _, _]) rfl Bz g5
    (try clear kS)
    have kS : (_ ∧ _ ∧ _ ∧ _ ∧ _ ∧ _ ∧ _ ∧ _ ∧ _ ∧ _ ∧ _) ∧ (_ ∧ _) ∧ _ := ⟨⟨DS.cell0 D 0, DS.cell0 D 1, DS.cell0 D 2, DS.cell0 D 3, DS.cell0 D 4, DS.cell0 D 5, DS.cell0 D 6, DS.cell0 D 7, DS.cell0 D 8, DS.cell0 D 9, DS.cell0 D 10⟩, ⟨DS.cell1 D 0, DS.cell1 D 1⟩, DS.cell2 D 0⟩
    refine hK.out _ _ ?_ (fun hHeld2 => ?_)
    · (try dsimp only)
      exact kS
    clear hK K hHeld
    have hHeld := hHeld2
    clear hHeld2
    (try simp only [Act.put]); (try simp only [List.setIfInBounds_toArray]); (try simp only [List.set_cons_succ]); (try simp only [List.set_cons_zero])
    refine wpAnyH_takeD (i := 5) (some 3) (v := ?_) rfl rfl (by kernel_rfl) (by kernel_rfl) (by kernel_rfl) (fun _ _ _ h => h) (Or.inl ⟨by rfl, ?_⟩) (by assumption) ?_
    rotate_left
    (focus (intro w hSw; (try dsimp only at hSw); (first | (go_simp; done) | (go_simp; with_reducible rfl) | with_reducible rfl)))
    (try simp only [Act.put]); (try simp only [List.setIfInBounds_toArray]); (try simp only [List.set_cons_succ]); (try simp only [List.set_cons_zero])
    refine wpAnyH_ready (rs := [6]) (by kernel_rfl) (by simp) (AllReadyH.cons rfl (fun K hK => ?_) AllReadyH.nil)
    refine step_stRD rfl rfl 27 (.tmp 4) (.tmp 67) rfl (w.heap.size + 1) _ _ rfl rfl D.mem4 si_Addr rfl (by first | rfl | (simp [Value.oneCell']; done)) ?_
    intro w5 Bz g5
    replace D := D.row (b1 := [_, _, _, _]) rfl Bz g5
    (try clear kS)
    have kS : (_ ∧ _ ∧ _ ∧ _ ∧ _ ∧ _ ∧ _ ∧ _ ∧ _ ∧ _ ∧ _) ∧ (_ ∧ _) ∧ _ := ⟨⟨DS.cell0 D 0, DS.cell0 D 1, DS.cell0 D 2, DS.cell0 D 3, DS.cell0 D 4, DS.cell0 D 5, DS.cell0 D 6, DS.cell0 D 7, DS.cell0 D 8, DS.cell0 D 9, DS.cell0 D 10⟩, ⟨DS.cell1 D 0, DS.cell1 D 1⟩, DS.cell2 D 0⟩
    refine hK.out _ _ ?_ (fun hHeld2 => ?_)
    · (try dsimp only)
      exact kS
    clear hK K hHeld
    have hHeld := hHeld2
    clear hHeld2
    (try simp only [Act.put]); (try simp only [List.setIfInBounds_toArray]); (try simp only [List.set_cons_succ]); (try simp only [List.set_cons_zero])
    refine wpAnyH_ready (rs := [7]) (by kernel_rfl) (by simp) (AllReadyH.cons rfl (fun K hK => ?_) AllReadyH.nil)
    refine step_stRD rfl rfl 35 (.tmp 5) (.tmp 68) rfl (w.heap.size + 1 + 1) _ _ rfl rfl D.mem3 si_Frame rfl (by first | rfl | (simp [Value.oneCell']; done)) ?_
    intro w5 Bz g5
    replace D := D.row (b1 := [_, _, _]) rfl Bz g5
    (try clear kS)
    have kS : (_ ∧ _ ∧ _ ∧ _ ∧ _ ∧ _ ∧ _ ∧ _ ∧ _ ∧ _ ∧ _) ∧ (_ ∧ _) ∧ _ := ⟨⟨DS.cell0 D 0, DS.cell0 D 1, DS.cell0 D 2, DS.cell0 D 3, DS.cell0 D 4, DS.cell0 D 5, DS.cell0 D 6, DS.cell0 D 7, DS.cell0 D 8, DS.cell0 D 9, DS.cell0 D 10⟩, ⟨DS.cell1 D 0, DS.cell1 D 1⟩, DS.cell2 D 0⟩
    refine hK.out _ _ ?_ (fun hHeld2 => ?_)
    · (try dsimp only)
      exact kS
    clear hK K hHeld
    have hHeld := hHeld2
    clear hHeld2
    (try simp only [Act.put]); (try simp only [List.setIfInBounds_toArray]); (try simp only [List.set_cons_succ]); (try simp only [List.set_cons_zero])
    refine wpAnyH_done (by kernel_rfl) ?_ _
    (try dsimp only)
    have k5 := fun o => D.mem5.cell o
    have k4 := fun o => D.mem4.cell o
    have k3 := fun o => D.mem3.cell o
    (try go_wp2)
    refine bodyPost_ret (v := .tuple #[.agg #[.slice aj nj cj], .int .i64 now, .agg #[.int .i64 x, .int .i64 y], .agg #[.int .i64 kind, .int .i64 id, .slice a1 n1 c1, .slice a2 n2 c2, .int .i64 tick, .slice a3 n3 c3, .slice a4 n4 c4, .int .i64 epoch, .int .i64 seq, .slice a5 n5 c5, .slice a6 n6 c6]]) (by simp [results, Try.results17, go_sem, k5, k4, k3]) rfl (PJu.mk (D.gb hcb) (by (first | exact BR.nil _ _ | exact D.b0 | exact D.tl.b0 | exact D.tl.tl.b0 | exact D.tl.tl.tl.b0 | exact D.tl.tl.tl.tl.b0 | exact D.tl.tl.tl.tl.tl.b0 | exact D.tl.tl.tl.tl.tl.tl.b0 | exact D.tl.tl.tl.tl.tl.tl.tl.b0 | exact D.tl.tl.tl.tl.tl.tl.tl.tl.b0 | exact D.tl.tl.tl.tl.tl.tl.tl.tl.tl.b0 | exact D.tl.tl.tl.tl.tl.tl.tl.tl.tl.tl.b0 | exact D.tl.tl.tl.tl.tl.tl.tl.tl.tl.tl.tl.b0 | exact D.tl.tl.tl.tl.tl.tl.tl.tl.tl.tl.tl.tl.b0 | exact D.tl.tl.tl.tl.tl.tl.tl.tl.tl.tl.tl.tl.tl.b0)) (by (first | exact BR.nil _ _ | exact D.b0 | exact D.tl.b0 | exact D.tl.tl.b0 | exact D.tl.tl.tl.b0 | exact D.tl.tl.tl.tl.b0 | exact D.tl.tl.tl.tl.tl.b0 | exact D.tl.tl.tl.tl.tl.tl.b0 | exact D.tl.tl.tl.tl.tl.tl.tl.b0 | exact D.tl.tl.tl.tl.tl.tl.tl.tl.b0 | exact D.tl.tl.tl.tl.tl.tl.tl.tl.tl.b0 | exact D.tl.tl.tl.tl.tl.tl.tl.tl.tl.tl.b0 | exact D.tl.tl.tl.tl.tl.tl.tl.tl.tl.tl.tl.b0 | exact D.tl.tl.tl.tl.tl.tl.tl.tl.tl.tl.tl.tl.b0 | exact D.tl.tl.tl.tl.tl.tl.tl.tl.tl.tl.tl.tl.tl.b0)) (by (first | exact BR.nil _ _ | exact D.b0 | exact D.tl.b0 | exact D.tl.tl.b0 | exact D.tl.tl.tl.b0 | exact D.tl.tl.tl.tl.b0 | exact D.tl.tl.tl.tl.tl.b0 | exact D.tl.tl.tl.tl.tl.tl.b0 | exact D.tl.tl.tl.tl.tl.tl.tl.b0 | exact D.tl.tl.tl.tl.tl.tl.tl.tl.b0 | exact D.tl.tl.tl.tl.tl.tl.tl.tl.tl.b0 | exact D.tl.tl.tl.tl.tl.tl.tl.tl.tl.tl.b0 | exact D.tl.tl.tl.tl.tl.tl.tl.tl.tl.tl.tl.b0 | exact D.tl.tl.tl.tl.tl.tl.tl.tl.tl.tl.tl.tl.b0 | exact D.tl.tl.tl.tl.tl.tl.tl.tl.tl.tl.tl.tl.tl.b0)) (by (first | exact BR.nil _ _ | exact D.b0 | exact D.tl.b0 | exact D.tl.tl.b0 | exact D.tl.tl.tl.b0 | exact D.tl.tl.tl.tl.b0 | exact D.tl.tl.tl.tl.tl.b0 | exact D.tl.tl.tl.tl.tl.tl.b0 | exact D.tl.tl.tl.tl.tl.tl.tl.b0 | exact D.tl.tl.tl.tl.tl.tl.tl.tl.b0 | exact D.tl.tl.tl.tl.tl.tl.tl.tl.tl.b0 | exact D.tl.tl.tl.tl.tl.tl.tl.tl.tl.tl.b0 | exact D.tl.tl.tl.tl.tl.tl.tl.tl.tl.tl.tl.b0 | exact D.tl.tl.tl.tl.tl.tl.tl.tl.tl.tl.tl.tl.b0 | exact D.tl.tl.tl.tl.tl.tl.tl.tl.tl.tl.tl.tl.tl.b0)) (by (first | exact BR.nil _ _ | exact D.b0 | exact D.tl.b0 | exact D.tl.tl.b0 | exact D.tl.tl.tl.b0 | exact D.tl.tl.tl.tl.b0 | exact D.tl.tl.tl.tl.tl.b0 | exact D.tl.tl.tl.tl.tl.tl.b0 | exact D.tl.tl.tl.tl.tl.tl.tl.b0 | exact D.tl.tl.tl.tl.tl.tl.tl.tl.b0 | exact D.tl.tl.tl.tl.tl.tl.tl.tl.tl.b0 | exact D.tl.tl.tl.tl.tl.tl.tl.tl.tl.tl.b0 | exact D.tl.tl.tl.tl.tl.tl.tl.tl.tl.tl.tl.b0 | exact D.tl.tl.tl.tl.tl.tl.tl.tl.tl.tl.tl.tl.b0 | exact D.tl.tl.tl.tl.tl.tl.tl.tl.tl.tl.tl.tl.tl.b0)) (by (first | exact BR.nil _ _ | exact D.b0 | exact D.tl.b0 | exact D.tl.tl.b0 | exact D.tl.tl.tl.b0 | exact D.tl.tl.tl.tl.b0 | exact D.tl.tl.tl.tl.tl.b0 | exact D.tl.tl.tl.tl.tl.tl.b0 | exact D.tl.tl.tl.tl.tl.tl.tl.b0 | exact D.tl.tl.tl.tl.tl.tl.tl.tl.b0 | exact D.tl.tl.tl.tl.tl.tl.tl.tl.tl.b0 | exact D.tl.tl.tl.tl.tl.tl.tl.tl.tl.tl.b0 | exact D.tl.tl.tl.tl.tl.tl.tl.tl.tl.tl.tl.b0 | exact D.tl.tl.tl.tl.tl.tl.tl.tl.tl.tl.tl.tl.b0 | exact D.tl.tl.tl.tl.tl.tl.tl.tl.tl.tl.tl.tl.tl.b0)) (by (first | exact BR.nil _ _ | exact D.b0 | exact D.tl.b0 | exact D.tl.tl.b0 | exact D.tl.tl.tl.b0 | exact D.tl.tl.tl.tl.b0 | exact D.tl.tl.tl.tl.tl.b0 | exact D.tl.tl.tl.tl.tl.tl.b0 | exact D.tl.tl.tl.tl.tl.tl.tl.b0 | exact D.tl.tl.tl.tl.tl.tl.tl.tl.b0 | exact D.tl.tl.tl.tl.tl.tl.tl.tl.tl.b0 | exact D.tl.tl.tl.tl.tl.tl.tl.tl.tl.tl.b0 | exact D.tl.tl.tl.tl.tl.tl.tl.tl.tl.tl.tl.b0 | exact D.tl.tl.tl.tl.tl.tl.tl.tl.tl.tl.tl.tl.b0 | exact D.tl.tl.tl.tl.tl.tl.tl.tl.tl.tl.tl.tl.tl.b0)))
  cases z5 : ((z : Int) == 5)
  rotate_left
  · go_wp2_with (go_at_call 49; (with_reducible refine d_PBd D (spec_l1Bend _ cb a3 n3 c3 l3 _ D.cur D.tl.tl.tl.r0 hb3) ?_); clear D; intro w1 a3 n3 c3 l3 D; (try clear kF fF kA fA); have kF := fun o => DS.cell0 D o; have fF := fun o => DS.frz0 D o; have kA := fun o => DS.cell1 D o; have fA := fun o => DS.frz1 D o)
    replace D := D.set0 5 (.slice a3 n3 c3)
    (try simp only [List.setIfInBounds_toArray, List.set_cons_succ, List.set_cons_zero] at D)
    (try clear kF fF kA fA)
    (try clear kr)
    replace D := D.drew
    have kS : (_ ∧ _ ∧ _ ∧ _ ∧ _ ∧ _ ∧ _ ∧ _ ∧ _ ∧ _ ∧ _) ∧ (_ ∧ _) ∧ _ := ⟨⟨DS.cell0 D 0, DS.cell0 D 1, DS.cell0 D 2, DS.cell0 D 3, DS.cell0 D 4, DS.cell0 D 5, DS.cell0 D 6, DS.cell0 D 7, DS.cell0 D 8, DS.cell0 D 9, DS.cell0 D 10⟩, ⟨DS.cell1 D 0, DS.cell1 D 1⟩, DS.cell2 D 0⟩
    refine wp_region_held_drew (S := (fun w' => (w'.cell? ⟨wF.heap.size + 1, 0, none⟩ = some (.int .i64 kind) ∧ w'.cell? ⟨wF.heap.size + 1, 1, none⟩ = some (.int .i64 id) ∧ w'.cell? ⟨wF.heap.size + 1, 2, none⟩ = some (.slice a1 n1 c1) ∧ w'.cell? ⟨wF.heap.size + 1, 3, none⟩ = some (.slice a2 n2 c2) ∧ w'.cell? ⟨wF.heap.size + 1, 4, none⟩ = some (.int .i64 tick) ∧ w'.cell? ⟨wF.heap.size + 1, 5, none⟩ = some (.slice a3 n3 c3) ∧ w'.cell? ⟨wF.heap.size + 1, 6, none⟩ = some (.slice a4 n4 c4) ∧ w'.cell? ⟨wF.heap.size + 1, 7, none⟩ = some (.int .i64 epoch) ∧ w'.cell? ⟨wF.heap.size + 1, 8, none⟩ = some (.int .i64 seq) ∧ w'.cell? ⟨wF.heap.size + 1, 9, none⟩ = some (.slice a5 n5 c5) ∧ w'.cell? ⟨wF.heap.size + 1, 10, none⟩ = some (.slice a6 n6 c6)) ∧ (w'.cell? ⟨wF.heap.size, 0, none⟩ = some (.int .i64 x) ∧ w'.cell? ⟨wF.heap.size, 1, none⟩ = some (.int .i64 y)) ∧ w'.cell? ⟨wJ.heap.size, 0, none⟩ = some (.slice aj nj cj))) (by kernel_rfl) ?_ (fun hHeld => ?_)
    · (try dsimp only)
      exact kS
    refine wpAnyH_takeD (i := 0) (some 65) (v := ?_) rfl rfl (by kernel_rfl) (by kernel_rfl) (by kernel_rfl) (fun _ _ _ h => h) (Or.inl ⟨by rfl, ?_⟩) (by assumption) ?_
    rotate_left
    (focus (intro w hSw; (try dsimp only at hSw); (first | (go_simp; done) | (go_simp; with_reducible rfl) | with_reducible rfl)))
    (try simp only [Act.put]); (try simp only [List.setIfInBounds_toArray]); (try simp only [List.set_cons_succ]); (try simp only [List.set_cons_zero])
    refine wpAnyH_takeD (i := 1) (some 66) (v := ?_) rfl rfl (by kernel_rfl) (by kernel_rfl) (by kernel_rfl) (fun _ _ _ h => h) (Or.inl ⟨by rfl, ?_⟩) (by assumption) ?_
    rotate_left
    (focus (intro w hSw; (try dsimp only at hSw); (first | (go_simp; done) | (go_simp; with_reducible rfl) | with_reducible rfl)))
    (try simp only [Act.put]); (try simp only [List.setIfInBounds_toArray]); (try simp only [List.set_cons_succ]); (try simp only [List.set_cons_zero])
    refine wpAnyH_takeD (i := 2) (some 67) (v := ?_) rfl rfl (by kernel_rfl) (by kernel_rfl) (by kernel_rfl) (fun _ _ _ h => h) (Or.inl ⟨by rfl, ?_⟩) (by assumption) ?_
    rotate_left
    (focus (intro w hSw; (try dsimp only at hSw); (first | (go_simp; done) | (go_simp; with_reducible rfl) | with_reducible rfl)))
    (try simp only [Act.put]); (try simp only [List.setIfInBounds_toArray]); (try simp only [List.set_cons_succ]); (try simp only [List.set_cons_zero])
    refine wpAnyH_takeD (i := 3) (some 68) (v := ?_) rfl rfl (by kernel_rfl) (by kernel_rfl) (by kernel_rfl) (fun _ _ _ h => h) (Or.inl ⟨by rfl, ?_⟩) (by assumption) ?_
    rotate_left
    (focus (intro w hSw; (try dsimp only at hSw); (first | (go_simp; done) | (go_simp; with_reducible rfl) | with_reducible rfl)))
    (try simp only [Act.put]); (try simp only [List.setIfInBounds_toArray]); (try simp only [List.set_cons_succ]); (try simp only [List.set_cons_zero])
    refine wpAnyH_ready (rs := [4]) (by kernel_rfl) (by simp) (AllReadyH.cons rfl (fun K hK => ?_) AllReadyH.nil)
    refine step_stRD rfl rfl 25 (.tmp 2) (.tmp 65) rfl w.heap.size _ _ rfl rfl D.mem5 si_Jar rfl (by first | rfl | (simp [Value.oneCell']; done)) ?_
    intro w5 Bz g5
    replace D := D.row (b1 := [_, _, _, _, _]) rfl Bz g5
    (try clear kS)
    have kS : (_ ∧ _ ∧ _ ∧ _ ∧ _ ∧ _ ∧ _ ∧ _ ∧ _ ∧ _ ∧ _) ∧ (_ ∧ _) ∧ _ := ⟨⟨DS.cell0 D 0, DS.cell0 D 1, DS.cell0 D 2, DS.cell0 D 3, DS.cell0 D 4, DS.cell0 D 5, DS.cell0 D 6, DS.cell0 D 7, DS.cell0 D 8, DS.cell0 D 9, DS.cell0 D 10⟩, ⟨DS.cell1 D 0, DS.cell1 D 1⟩, DS.cell2 D 0⟩
    refine hK.out _ _ ?_ (fun hHeld2 => ?_)
    · (try dsimp only)
      exact kS
    clear hK K hHeld
    have hHeld := hHeld2
    clear hHeld2
    (try simp only [Act.put]); (try simp only [List.setIfInBounds_toArray]); (try simp only [List.set_cons_succ]); (try simp only [List.set_cons_zero])
    refine wpAnyH_takeD (i := 5) (some 3) (v := ?_) rfl rfl (by kernel_rfl) (by kernel_rfl) (by kernel_rfl) (fun _ _ _ h => h) (Or.inl ⟨by rfl, ?_⟩) (by assumption) ?_
    rotate_left
    (focus (intro w hSw; (try dsimp only at hSw); (first | (go_simp; done) | (go_simp; with_reducible rfl) | with_reducible rfl)))
    (try simp only [Act.put]); (try simp only [List.setIfInBounds_toArray]); (try simp only [List.set_cons_succ]); (try simp only [List.set_cons_zero])
    refine wpAnyH_ready (rs := [6]) (by kernel_rfl) (by simp) (AllReadyH.cons rfl (fun K hK => ?_) AllReadyH.nil)
    refine step_stRD rfl rfl 27 (.tmp 4) (.tmp 67) rfl (w.heap.size + 1) _ _ rfl rfl D.mem4 si_Addr rfl (by first | rfl | (simp [Value.oneCell']; done)) ?_
    intro w5 Bz g5
    replace D := D.row (b1 := [_, _, _, _]) rfl Bz g5
    (try clear kS)
    have kS : (_ ∧ _ ∧ _ ∧ _ ∧ _ ∧ _ ∧ _ ∧ _ ∧ _ ∧ _ ∧ _) ∧ (_ ∧ _) ∧ _ := ⟨⟨DS.cell0 D 0, DS.cell0 D 1, DS.cell0 D 2, DS.cell0 D 3, DS.cell0 D 4, DS.cell0 D 5, DS.cell0 D 6, DS.cell0 D 7, DS.cell0 D 8, DS.cell0 D 9, DS.cell0 D 10⟩, ⟨DS.cell1 D 0, DS.cell1 D 1⟩, DS.cell2 D 0⟩
    refine hK.out _ _ ?_ (fun hHeld2 => ?_)
    · (try dsimp only)
      exact kS
    clear hK K hHeld
    have hHeld := hHeld2
    clear hHeld2
    (try simp only [Act.put]); (try simp only [List.setIfInBounds_toArray]); (try simp only [List.set_cons_succ]); (try simp only [List.set_cons_zero])
    refine wpAnyH_ready (rs := [7]) (by kernel_rfl) (by simp) (AllReadyH.cons rfl (fun K hK => ?_) AllReadyH.nil)
    refine step_stRD rfl rfl 35 (.tmp 5) (.tmp 68) rfl (w.heap.size + 1 + 1) _ _ rfl rfl D.mem3 si_Frame rfl (by first | rfl | (simp [Value.oneCell']; done)) ?_
    intro w5 Bz g5
    replace D := D.row (b1 := [_, _, _]) rfl Bz g5
    (try clear kS)
    have kS : (_ ∧ _ ∧ _ ∧ _ ∧ _ ∧ _ ∧ _ ∧ _ ∧ _ ∧ _ ∧ _) ∧ (_ ∧ _) ∧ _ := ⟨⟨DS.cell0 D 0, DS.cell0 D 1, DS.cell0 D 2, DS.cell0 D 3, DS.cell0 D 4, DS.cell0 D 5, DS.cell0 D 6, DS.cell0 D 7, DS.cell0 D 8, DS.cell0 D 9, DS.cell0 D 10⟩, ⟨DS.cell1 D 0, DS.cell1 D 1⟩, DS.cell2 D 0⟩
    refine hK.out _ _ ?_ (fun hHeld2 => ?_)
    · (try dsimp only)
      exact kS
    clear hK K hHeld
    have hHeld := hHeld2
    clear hHeld2
    (try simp only [Act.put]); (try simp only [List.setIfInBounds_toArray]); (try simp only [List.set_cons_succ]); (try simp only [List.set_cons_zero])
    refine wpAnyH_done (by kernel_rfl) ?_ _
    (try dsimp only)
    have k5 := fun o => D.mem5.cell o
    have k4 := fun o => D.mem4.cell o
    have k3 := fun o => D.mem3.cell o
    (try go_wp2)
    refine bodyPost_ret (v := .tuple #[.agg #[.slice aj nj cj], .int .i64 now, .agg #[.int .i64 x, .int .i64 y], .agg #[.int .i64 kind, .int .i64 id, .slice a1 n1 c1, .slice a2 n2 c2, .int .i64 tick, .slice a3 n3 c3, .slice a4 n4 c4, .int .i64 epoch, .int .i64 seq, .slice a5 n5 c5, .slice a6 n6 c6]]) (by simp [results, Try.results17, go_sem, k5, k4, k3]) rfl (PJu.mk (D.gb hcb) (by (first | exact BR.nil _ _ | exact D.b0 | exact D.tl.b0 | exact D.tl.tl.b0 | exact D.tl.tl.tl.b0 | exact D.tl.tl.tl.tl.b0 | exact D.tl.tl.tl.tl.tl.b0 | exact D.tl.tl.tl.tl.tl.tl.b0 | exact D.tl.tl.tl.tl.tl.tl.tl.b0 | exact D.tl.tl.tl.tl.tl.tl.tl.tl.b0 | exact D.tl.tl.tl.tl.tl.tl.tl.tl.tl.b0 | exact D.tl.tl.tl.tl.tl.tl.tl.tl.tl.tl.b0 | exact D.tl.tl.tl.tl.tl.tl.tl.tl.tl.tl.tl.b0 | exact D.tl.tl.tl.tl.tl.tl.tl.tl.tl.tl.tl.tl.b0 | exact D.tl.tl.tl.tl.tl.tl.tl.tl.tl.tl.tl.tl.tl.b0)) (by (first | exact BR.nil _ _ | exact D.b0 | exact D.tl.b0 | exact D.tl.tl.b0 | exact D.tl.tl.tl.b0 | exact D.tl.tl.tl.tl.b0 | exact D.tl.tl.tl.tl.tl.b0 | exact D.tl.tl.tl.tl.tl.tl.b0 | exact D.tl.tl.tl.tl.tl.tl.tl.b0 | exact D.tl.tl.tl.tl.tl.tl.tl.tl.b0 | exact D.tl.tl.tl.tl.tl.tl.tl.tl.tl.b0 | exact D.tl.tl.tl.tl.tl.tl.tl.tl.tl.tl.b0 | exact D.tl.tl.tl.tl.tl.tl.tl.tl.tl.tl.tl.b0 | exact D.tl.tl.tl.tl.tl.tl.tl.tl.tl.tl.tl.tl.b0 | exact D.tl.tl.tl.tl.tl.tl.tl.tl.tl.tl.tl.tl.tl.b0)) (by (first | exact BR.nil _ _ | exact D.b0 | exact D.tl.b0 | exact D.tl.tl.b0 | exact D.tl.tl.tl.b0 | exact D.tl.tl.tl.tl.b0 | exact D.tl.tl.tl.tl.tl.b0 | exact D.tl.tl.tl.tl.tl.tl.b0 | exact D.tl.tl.tl.tl.tl.tl.tl.b0 | exact D.tl.tl.tl.tl.tl.tl.tl.tl.b0 | exact D.tl.tl.tl.tl.tl.tl.tl.tl.tl.b0 | exact D.tl.tl.tl.tl.tl.tl.tl.tl.tl.tl.b0 | exact D.tl.tl.tl.tl.tl.tl.tl.tl.tl.tl.tl.b0 | exact D.tl.tl.tl.tl.tl.tl.tl.tl.tl.tl.tl.tl.b0 | exact D.tl.tl.tl.tl.tl.tl.tl.tl.tl.tl.tl.tl.tl.b0)) (by (first | exact BR.nil _ _ | exact D.b0 | exact D.tl.b0 | exact D.tl.tl.b0 | exact D.tl.tl.tl.b0 | exact D.tl.tl.tl.tl.b0 | exact D.tl.tl.tl.tl.tl.b0 | exact D.tl.tl.tl.tl.tl.tl.b0 | exact D.tl.tl.tl.tl.tl.tl.tl.b0 | exact D.tl.tl.tl.tl.tl.tl.tl.tl.b0 | exact D.tl.tl.tl.tl.tl.tl.tl.tl.tl.b0 | exact D.tl.tl.tl.tl.tl.tl.tl.tl.tl.tl.b0 | exact D.tl.tl.tl.tl.tl.tl.tl.tl.tl.tl.tl.b0 | exact D.tl.tl.tl.tl.tl.tl.tl.tl.tl.tl.tl.tl.b0 | exact D.tl.tl.tl.tl.tl.tl.tl.tl.tl.tl.tl.tl.tl.b0)) (by (first | exact BR.nil _ _ | exact D.b0 | exact D.tl.b0 | exact D.tl.tl.b0 | exact D.tl.tl.tl.b0 | exact D.tl.tl.tl.tl.b0 | exact D.tl.tl.tl.tl.tl.b0 | exact D.tl.tl.tl.tl.tl.tl.b0 | exact D.tl.tl.tl.tl.tl.tl.tl.b0 | exact D.tl.tl.tl.tl.tl.tl.tl.tl.b0 | exact D.tl.tl.tl.tl.tl.tl.tl.tl.tl.b0 | exact D.tl.tl.tl.tl.tl.tl.tl.tl.tl.tl.b0 | exact D.tl.tl.tl.tl.tl.tl.tl.tl.tl.tl.tl.b0 | exact D.tl.tl.tl.tl.tl.tl.tl.tl.tl.tl.tl.tl.b0 | exact D.tl.tl.tl.tl.tl.tl.tl.tl.tl.tl.tl.tl.tl.b0)) (by (first | exact BR.nil _ _ | exact D.b0 | exact D.tl.b0 | exact D.tl.tl.b0 | exact D.tl.tl.tl.b0 | exact D.tl.tl.tl.tl.b0 | exact D.tl.tl.tl.tl.tl.b0 | exact D.tl.tl.tl.tl.tl.tl.b0 | exact D.tl.tl.tl.tl.tl.tl.tl.b0 | exact D.tl.tl.tl.tl.tl.tl.tl.tl.b0 | exact D.tl.tl.tl.tl.tl.tl.tl.tl.tl.b0 | exact D.tl.tl.tl.tl.tl.tl.tl.tl.tl.tl.b0 | exact D.tl.tl.tl.tl.tl.tl.tl.tl.tl.tl.tl.b0 | exact D.tl.tl.tl.tl.tl.tl.tl.tl.tl.tl.tl.tl.b0 | exact D.tl.tl.tl.tl.tl.tl.tl.tl.tl.tl.tl.tl.tl.b0)) (by (first | exact BR.nil _ _ | exact D.b0 | exact D.tl.b0 | exact D.tl.tl.b0 | exact D.tl.tl.tl.b0 | exact D.tl.tl.tl.tl.b0 | exact D.tl.tl.tl.tl.tl.b0 | exact D.tl.tl.tl.tl.tl.tl.b0 | exact D.tl.tl.tl.tl.tl.tl.tl.b0 | exact D.tl.tl.tl.tl.tl.tl.tl.tl.b0 | exact D.tl.tl.tl.tl.tl.tl.tl.tl.tl.b0 | exact D.tl.tl.tl.tl.tl.tl.tl.tl.tl.tl.b0 | exact D.tl.tl.tl.tl.tl.tl.tl.tl.tl.tl.tl.b0 | exact D.tl.tl.tl.tl.tl.tl.tl.tl.tl.tl.tl.tl.b0 | exact D.tl.tl.tl.tl.tl.tl.tl.tl.tl.tl.tl.tl.tl.b0)))
  cases z6 : ((z : Int) == 6)
  rotate_left
  · go_wp2_with (first | (go_at_call 50; (with_reducible refine d_PFr D (spec_l7Any _ cb _ D.cur) ?_); clear D; intro w1 kind id a1 n1 c1 l1 a2 n2 c2 l2 tick a3 n3 c3 l3 a4 n4 c4 l4 epoch seq a5 n5 c5 l5 a6 n6 c6 l6 D) | ((with_reducible refine wpList_stD0 D ?_ (.tmp 10) (.tmp 64) ?_ ?_ ?_ ?_ ?_ ?_ ?_ ?_); (focus rfl); (focus rfl); rotate_left; (focus rfl); (focus rfl); (focus (exact si_Frame)); (focus rfl); (focus (first | rfl | (simp [Value.oneCell']; done))); clear D; intro w1 D; (try simp only [Act.put]); (try simp only [List.setIfInBounds_toArray]); (try simp only [List.set_cons_succ]); (try simp only [List.set_cons_zero]); (try clear kc kf); have kr := fun o => DS.cell0 D o))
    (try simp only [List.setIfInBounds_toArray, List.set_cons_succ, List.set_cons_zero] at D)
    (try clear kF fF kA fA)
    (try clear kr)
    replace D := D.drew
    have kS : (_ ∧ _ ∧ _ ∧ _ ∧ _ ∧ _ ∧ _ ∧ _ ∧ _ ∧ _ ∧ _) ∧ (_ ∧ _) ∧ _ := ⟨⟨DS.cell0 D 0, DS.cell0 D 1, DS.cell0 D 2, DS.cell0 D 3, DS.cell0 D 4, DS.cell0 D 5, DS.cell0 D 6, DS.cell0 D 7, DS.cell0 D 8, DS.cell0 D 9, DS.cell0 D 10⟩, ⟨DS.cell1 D 0, DS.cell1 D 1⟩, DS.cell2 D 0⟩
    refine wp_region_held_drew (S := (fun w' => (w'.cell? ⟨wF.heap.size + 1, 0, none⟩ = some (.int .i64 kind) ∧ w'.cell? ⟨wF.heap.size + 1, 1, none⟩ = some (.int .i64 id) ∧ w'.cell? ⟨wF.heap.size + 1, 2, none⟩ = some (.slice a1 n1 c1) ∧ w'.cell? ⟨wF.heap.size + 1, 3, none⟩ = some (.slice a2 n2 c2) ∧ w'.cell? ⟨wF.heap.size + 1, 4, none⟩ = some (.int .i64 tick) ∧ w'.cell? ⟨wF.heap.size + 1, 5, none⟩ = some (.slice a3 n3 c3) ∧ w'.cell? ⟨wF.heap.size + 1, 6, none⟩ = some (.slice a4 n4 c4) ∧ w'.cell? ⟨wF.heap.size + 1, 7, none⟩ = some (.int .i64 epoch) ∧ w'.cell? ⟨wF.heap.size + 1, 8, none⟩ = some (.int .i64 seq) ∧ w'.cell? ⟨wF.heap.size + 1, 9, none⟩ = some (.slice a5 n5 c5) ∧ w'.cell? ⟨wF.heap.size + 1, 10, none⟩ = some (.slice a6 n6 c6)) ∧ (w'.cell? ⟨wF.heap.size, 0, none⟩ = some (.int .i64 x) ∧ w'.cell? ⟨wF.heap.size, 1, none⟩ = some (.int .i64 y)) ∧ w'.cell? ⟨wJ.heap.size, 0, none⟩ = some (.slice aj nj cj))) (by kernel_rfl) ?_ (fun hHeld => ?_)
    · (try dsimp only)
      exact kS
    refine wpAnyH_takeD (i := 0) (some 65) (v := ?_) rfl rfl (by kernel_rfl) (by kernel_rfl) (by kernel_rfl) (fun _ _ _ h => h) (Or.inl ⟨by rfl, ?_⟩) (by assumption) ?_
    rotate_left
    (focus (intro w hSw; (try dsimp only at hSw); (first | (go_simp; done) | (go_simp; with_reducible rfl) | with_reducible rfl)))
    (try simp only [Act.put]); (try simp only [List.setIfInBounds_toArray]); (try simp only [List.set_cons_succ]); (try simp only [List.set_cons_zero])
    refine wpAnyH_takeD (i := 1) (some 66) (v := ?_) rfl rfl (by kernel_rfl) (by kernel_rfl) (by kernel_rfl) (fun _ _ _ h => h) (Or.inl ⟨by rfl, ?_⟩) (by assumption) ?_
    rotate_left
    (focus (intro w hSw; (try dsimp only at hSw); (first | (go_simp; done) | (go_simp; with_reducible rfl) | with_reducible rfl)))
    (try simp only [Act.put]); (try simp only [List.setIfInBounds_toArray]); (try simp only [List.set_cons_succ]); (try simp only [List.set_cons_zero])
    refine wpAnyH_takeD (i := 2) (some 67) (v := ?_) rfl rfl (by kernel_rfl) (by kernel_rfl) (by kernel_rfl) (fun _ _ _ h => h) (Or.inl ⟨by rfl, ?_⟩) (by assumption) ?_
    rotate_left
    (focus (intro w hSw; (try dsimp only at hSw); (first | (go_simp; done) | (go_simp; with_reducible rfl) | with_reducible rfl)))
    (try simp only [Act.put]); (try simp only [List.setIfInBounds_toArray]); (try simp only [List.set_cons_succ]); (try simp only [List.set_cons_zero])
    refine wpAnyH_takeD (i := 3) (some 68) (v := ?_) rfl rfl (by kernel_rfl) (by kernel_rfl) (by kernel_rfl) (fun _ _ _ h => h) (Or.inl ⟨by rfl, ?_⟩) (by assumption) ?_
    rotate_left
    (focus (intro w hSw; (try dsimp only at hSw); (first | (go_simp; done) | (go_simp; with_reducible rfl) | with_reducible rfl)))
    (try simp only [Act.put]); (try simp only [List.setIfInBounds_toArray]); (try simp only [List.set_cons_succ]); (try simp only [List.set_cons_zero])
    refine wpAnyH_ready (rs := [4]) (by kernel_rfl) (by simp) (AllReadyH.cons rfl (fun K hK => ?_) AllReadyH.nil)
    refine step_stRD rfl rfl 25 (.tmp 2) (.tmp 65) rfl w.heap.size _ _ rfl rfl D.mem5 si_Jar rfl (by first | rfl | (simp [Value.oneCell']; done)) ?_
    intro w5 Bz g5
    replace D := D.row (b1 := [_, _, _, _, _]) rfl Bz g5
    (try clear kS)
    have kS : (_ ∧ _ ∧ _ ∧ _ ∧ _ ∧ _ ∧ _ ∧ _ ∧ _ ∧ _ ∧ _) ∧ (_ ∧ _) ∧ _ := ⟨⟨DS.cell0 D 0, DS.cell0 D 1, DS.cell0 D 2, DS.cell0 D 3, DS.cell0 D 4, DS.cell0 D 5, DS.cell0 D 6, DS.cell0 D 7, DS.cell0 D 8, DS.cell0 D 9, DS.cell0 D 10⟩, ⟨DS.cell1 D 0, DS.cell1 D 1⟩, DS.cell2 D 0⟩
    refine hK.out _ _ ?_ (fun hHeld2 => ?_)
    · (try dsimp only)
      exact kS
    clear hK K hHeld
    have hHeld := hHeld2
    clear hHeld2
    (try simp only [Act.put]); (try simp only [List.setIfInBounds_toArray]); (try simp only [List.set_cons_succ]); (try simp only [List.set_cons_zero])
    refine wpAnyH_takeD (i := 5) (some 3) (v := ?_) rfl rfl (by kernel_rfl) (by kernel_rfl) (by kernel_rfl) (fun _ _ _ h => h) (Or.inl ⟨by rfl, ?_⟩) (by assumption) ?_
    rotate_left
    (focus (intro w hSw; (try dsimp only at hSw); (first | (go_simp; done) | (go_simp; with_reducible rfl) | with_reducible rfl)))
    (try simp only [Act.put]); (try simp only [List.setIfInBounds_toArray]); (try simp only [List.set_cons_succ]); (try simp only [List.set_cons_zero])
    refine wpAnyH_ready (rs := [6]) (by kernel_rfl) (by simp) (AllReadyH.cons rfl (fun K hK => ?_) AllReadyH.nil)
    refine step_stRD rfl rfl 27 (.tmp 4) (.tmp 67) rfl (w.heap.size + 1) _ _ rfl rfl D.mem4 si_Addr rfl (by first | rfl | (simp [Value.oneCell']; done)) ?_
    intro w5 Bz g5
    replace D := D.row (b1 := [_, _, _, _]) rfl Bz g5
    (try clear kS)
    have kS : (_ ∧ _ ∧ _ ∧ _ ∧ _ ∧ _ ∧ _ ∧ _ ∧ _ ∧ _ ∧ _) ∧ (_ ∧ _) ∧ _ := ⟨⟨DS.cell0 D 0, DS.cell0 D 1, DS.cell0 D 2, DS.cell0 D 3, DS.cell0 D 4, DS.cell0 D 5, DS.cell0 D 6, DS.cell0 D 7, DS.cell0 D 8, DS.cell0 D 9, DS.cell0 D 10⟩, ⟨DS.cell1 D 0, DS.cell1 D 1⟩, DS.cell2 D 0⟩
    refine hK.out _ _ ?_ (fun hHeld2 => ?_)
    · (try dsimp only)
      exact kS
    clear hK K hHeld
    have hHeld := hHeld2
    clear hHeld2
    (try simp only [Act.put]); (try simp only [List.setIfInBounds_toArray]); (try simp only [List.set_cons_succ]); (try simp only [List.set_cons_zero])
    refine wpAnyH_ready (rs := [7]) (by kernel_rfl) (by simp) (AllReadyH.cons rfl (fun K hK => ?_) AllReadyH.nil)
    refine step_stRD rfl rfl 35 (.tmp 5) (.tmp 68) rfl (w.heap.size + 1 + 1) _ _ rfl rfl D.mem3 si_Frame rfl (by first | rfl | (simp [Value.oneCell']; done)) ?_
    intro w5 Bz g5
    replace D := D.row (b1 := [_, _, _]) rfl Bz g5
    (try clear kS)
    have kS : (_ ∧ _ ∧ _ ∧ _ ∧ _ ∧ _ ∧ _ ∧ _ ∧ _ ∧ _ ∧ _) ∧ (_ ∧ _) ∧ _ := ⟨⟨DS.cell0 D 0, DS.cell0 D 1, DS.cell0 D 2, DS.cell0 D 3, DS.cell0 D 4, DS.cell0 D 5, DS.cell0 D 6, DS.cell0 D 7, DS.cell0 D 8, DS.cell0 D 9, DS.cell0 D 10⟩, ⟨DS.cell1 D 0, DS.cell1 D 1⟩, DS.cell2 D 0⟩
    refine hK.out _ _ ?_ (fun hHeld2 => ?_)
    · (try dsimp only)
      exact kS
    clear hK K hHeld
    have hHeld := hHeld2
    clear hHeld2
    (try simp only [Act.put]); (try simp only [List.setIfInBounds_toArray]); (try simp only [List.set_cons_succ]); (try simp only [List.set_cons_zero])
    refine wpAnyH_done (by kernel_rfl) ?_ _
    (try dsimp only)
    have k5 := fun o => D.mem5.cell o
    have k4 := fun o => D.mem4.cell o
    have k3 := fun o => D.mem3.cell o
    (try go_wp2)
    refine bodyPost_ret (v := .tuple #[.agg #[.slice aj nj cj], .int .i64 now, .agg #[.int .i64 x, .int .i64 y], .agg #[.int .i64 kind, .int .i64 id, .slice a1 n1 c1, .slice a2 n2 c2, .int .i64 tick, .slice a3 n3 c3, .slice a4 n4 c4, .int .i64 epoch, .int .i64 seq, .slice a5 n5 c5, .slice a6 n6 c6]]) (by simp [results, Try.results17, go_sem, k5, k4, k3]) rfl (PJu.mk (D.gb hcb) (by (first | exact BR.nil _ _ | exact D.b0 | exact D.tl.b0 | exact D.tl.tl.b0 | exact D.tl.tl.tl.b0 | exact D.tl.tl.tl.tl.b0 | exact D.tl.tl.tl.tl.tl.b0 | exact D.tl.tl.tl.tl.tl.tl.b0 | exact D.tl.tl.tl.tl.tl.tl.tl.b0 | exact D.tl.tl.tl.tl.tl.tl.tl.tl.b0 | exact D.tl.tl.tl.tl.tl.tl.tl.tl.tl.b0 | exact D.tl.tl.tl.tl.tl.tl.tl.tl.tl.tl.b0 | exact D.tl.tl.tl.tl.tl.tl.tl.tl.tl.tl.tl.b0 | exact D.tl.tl.tl.tl.tl.tl.tl.tl.tl.tl.tl.tl.b0 | exact D.tl.tl.tl.tl.tl.tl.tl.tl.tl.tl.tl.tl.tl.b0)) (by (first | exact BR.nil _ _ | exact D.b0 | exact D.tl.b0 | exact D.tl.tl.b0 | exact D.tl.tl.tl.b0 | exact D.tl.tl.tl.tl.b0 | exact D.tl.tl.tl.tl.tl.b0 | exact D.tl.tl.tl.tl.tl.tl.b0 | exact D.tl.tl.tl.tl.tl.tl.tl.b0 | exact D.tl.tl.tl.tl.tl.tl.tl.tl.b0 | exact D.tl.tl.tl.tl.tl.tl.tl.tl.tl.b0 | exact D.tl.tl.tl.tl.tl.tl.tl.tl.tl.tl.b0 | exact D.tl.tl.tl.tl.tl.tl.tl.tl.tl.tl.tl.b0 | exact D.tl.tl.tl.tl.tl.tl.tl.tl.tl.tl.tl.tl.b0 | exact D.tl.tl.tl.tl.tl.tl.tl.tl.tl.tl.tl.tl.tl.b0)) (by (first | exact BR.nil _ _ | exact D.b0 | exact D.tl.b0 | exact D.tl.tl.b0 | exact D.tl.tl.tl.b0 | exact D.tl.tl.tl.tl.b0 | exact D.tl.tl.tl.tl.tl.b0 | exact D.tl.tl.tl.tl.tl.tl.b0 | exact D.tl.tl.tl.tl.tl.tl.tl.b0 | exact D.tl.tl.tl.tl.tl.tl.tl.tl.b0 | exact D.tl.tl.tl.tl.tl.tl.tl.tl.tl.b0 | exact D.tl.tl.tl.tl.tl.tl.tl.tl.tl.tl.b0 | exact D.tl.tl.tl.tl.tl.tl.tl.tl.tl.tl.tl.b0 | exact D.tl.tl.tl.tl.tl.tl.tl.tl.tl.tl.tl.tl.b0 | exact D.tl.tl.tl.tl.tl.tl.tl.tl.tl.tl.tl.tl.tl.b0)) (by (first | exact BR.nil _ _ | exact D.b0 | exact D.tl.b0 | exact D.tl.tl.b0 | exact D.tl.tl.tl.b0 | exact D.tl.tl.tl.tl.b0 | exact D.tl.tl.tl.tl.tl.b0 | exact D.tl.tl.tl.tl.tl.tl.b0 | exact D.tl.tl.tl.tl.tl.tl.tl.b0 | exact D.tl.tl.tl.tl.tl.tl.tl.tl.b0 | exact D.tl.tl.tl.tl.tl.tl.tl.tl.tl.b0 | exact D.tl.tl.tl.tl.tl.tl.tl.tl.tl.tl.b0 | exact D.tl.tl.tl.tl.tl.tl.tl.tl.tl.tl.tl.b0 | exact D.tl.tl.tl.tl.tl.tl.tl.tl.tl.tl.tl.tl.b0 | exact D.tl.tl.tl.tl.tl.tl.tl.tl.tl.tl.tl.tl.tl.b0)) (by (first | exact BR.nil _ _ | exact D.b0 | exact D.tl.b0 | exact D.tl.tl.b0 | exact D.tl.tl.tl.b0 | exact D.tl.tl.tl.tl.b0 | exact D.tl.tl.tl.tl.tl.b0 | exact D.tl.tl.tl.tl.tl.tl.b0 | exact D.tl.tl.tl.tl.tl.tl.tl.b0 | exact D.tl.tl.tl.tl.tl.tl.tl.tl.b0 | exact D.tl.tl.tl.tl.tl.tl.tl.tl.tl.b0 | exact D.tl.tl.tl.tl.tl.tl.tl.tl.tl.tl.b0 | exact D.tl.tl.tl.tl.tl.tl.tl.tl.tl.tl.tl.b0 | exact D.tl.tl.tl.tl.tl.tl.tl.tl.tl.tl.tl.tl.b0 | exact D.tl.tl.tl.tl.tl.tl.tl.tl.tl.tl.tl.tl.tl.b0)) (by (first | exact BR.nil _ _ | exact D.b0 | exact D.tl.b0 | exact D.tl.tl.b0 | exact D.tl.tl.tl.b0 | exact D.tl.tl.tl.tl.b0 | exact D.tl.tl.tl.tl.tl.b0 | exact D.tl.tl.tl.tl.tl.tl.b0 | exact D.tl.tl.tl.tl.tl.tl.tl.b0 | exact D.tl.tl.tl.tl.tl.tl.tl.tl.b0 | exact D.tl.tl.tl.tl.tl.tl.tl.tl.tl.b0 | exact D.tl.tl.tl.tl.tl.tl.tl.tl.tl.tl.b0 | exact D.tl.tl.tl.tl.tl.tl.tl.tl.tl.tl.tl.b0 | exact D.tl.tl.tl.tl.tl.tl.tl.tl.tl.tl.tl.tl.b0 | exact D.tl.tl.tl.tl.tl.tl.tl.tl.tl.tl.tl.tl.tl.b0)) (by (first | exact BR.nil _ _ | exact D.b0 | exact D.tl.b0 | exact D.tl.tl.b0 | exact D.tl.tl.tl.b0 | exact D.tl.tl.tl.tl.b0 | exact D.tl.tl.tl.tl.tl.b0 | exact D.tl.tl.tl.tl.tl.tl.b0 | exact D.tl.tl.tl.tl.tl.tl.tl.b0 | exact D.tl.tl.tl.tl.tl.tl.tl.tl.b0 | exact D.tl.tl.tl.tl.tl.tl.tl.tl.tl.b0 | exact D.tl.tl.tl.tl.tl.tl.tl.tl.tl.tl.b0 | exact D.tl.tl.tl.tl.tl.tl.tl.tl.tl.tl.tl.b0 | exact D.tl.tl.tl.tl.tl.tl.tl.tl.tl.tl.tl.tl.b0 | exact D.tl.tl.tl.tl.tl.tl.tl.tl.tl.tl.tl.tl.tl.b0)))
  · go_wp2
    (try simp only [List.setIfInBounds_toArray, List.set_cons_succ, List.set_cons_zero] at D)
    (try clear kF fF kA fA)
    (try clear kr)
    replace D := D.drew
    have kS : (_ ∧ _ ∧ _ ∧ _ ∧ _ ∧ _ ∧ _ ∧ _ ∧ _ ∧ _ ∧ _) ∧ (_ ∧ _) ∧ _ := ⟨⟨DS.cell0 D 0, DS.cell0 D 1, DS.cell0 D 2, DS.cell0 D 3, DS.cell0 D 4, DS.cell0 D 5, DS.cell0 D 6, DS.cell0 D 7, DS.cell0 D 8, DS.cell0 D 9, DS.cell0 D 10⟩, ⟨DS.cell1 D 0, DS.cell1 D 1⟩, DS.cell2 D 0⟩
    refine wp_region_held_drew (S := (fun w' => (w'.cell? ⟨wF.heap.size + 1, 0, none⟩ = some (.int .i64 kind) ∧ w'.cell? ⟨wF.heap.size + 1, 1, none⟩ = some (.int .i64 id) ∧ w'.cell? ⟨wF.heap.size + 1, 2, none⟩ = some (.slice a1 n1 c1) ∧ w'.cell? ⟨wF.heap.size + 1, 3, none⟩ = some (.slice a2 n2 c2) ∧ w'.cell? ⟨wF.heap.size + 1, 4, none⟩ = some (.int .i64 tick) ∧ w'.cell? ⟨wF.heap.size + 1, 5, none⟩ = some (.slice a3 n3 c3) ∧ w'.cell? ⟨wF.heap.size + 1, 6, none⟩ = some (.slice a4 n4 c4) ∧ w'.cell? ⟨wF.heap.size + 1, 7, none⟩ = some (.int .i64 epoch) ∧ w'.cell? ⟨wF.heap.size + 1, 8, none⟩ = some (.int .i64 seq) ∧ w'.cell? ⟨wF.heap.size + 1, 9, none⟩ = some (.slice a5 n5 c5) ∧ w'.cell? ⟨wF.heap.size + 1, 10, none⟩ = some (.slice a6 n6 c6)) ∧ (w'.cell? ⟨wF.heap.size, 0, none⟩ = some (.int .i64 x) ∧ w'.cell? ⟨wF.heap.size, 1, none⟩ = some (.int .i64 y)) ∧ w'.cell? ⟨wJ.heap.size, 0, none⟩ = some (.slice aj nj cj))) (by kernel_rfl) ?_ (fun hHeld => ?_)
    · (try dsimp only)
      exact kS
    refine wpAnyH_takeD (i := 0) (some 65) (v := ?_) rfl rfl (by kernel_rfl) (by kernel_rfl) (by kernel_rfl) (fun _ _ _ h => h) (Or.inl ⟨by rfl, ?_⟩) (by assumption) ?_
    rotate_left
    (focus (intro w hSw; (try dsimp only at hSw); (first | (go_simp; done) | (go_simp; with_reducible rfl) | with_reducible rfl)))
    (try simp only [Act.put]); (try simp only [List.setIfInBounds_toArray]); (try simp only [List.set_cons_succ]); (try simp only [List.set_cons_zero])
    refine wpAnyH_takeD (i := 1) (some 66) (v := ?_) rfl rfl (by kernel_rfl) (by kernel_rfl) (by kernel_rfl) (fun _ _ _ h => h) (Or.inl ⟨by rfl, ?_⟩) (by assumption) ?_
    rotate_left
    (focus (intro w hSw; (try dsimp only at hSw); (first | (go_simp; done) | (go_simp; with_reducible rfl) | with_reducible rfl)))
    (try simp only [Act.put]); (try simp only [List.setIfInBounds_toArray]); (try simp only [List.set_cons_succ]); (try simp only [List.set_cons_zero])
    refine wpAnyH_takeD (i := 2) (some 67) (v := ?_) rfl rfl (by kernel_rfl) (by kernel_rfl) (by kernel_rfl) (fun _ _ _ h => h) (Or.inl ⟨by rfl, ?_⟩) (by assumption) ?_
    rotate_left
    (focus (intro w hSw; (try dsimp only at hSw); (first | (go_simp; done) | (go_simp; with_reducible rfl) | with_reducible rfl)))
    (try simp only [Act.put]); (try simp only [List.setIfInBounds_toArray]); (try simp only [List.set_cons_succ]); (try simp only [List.set_cons_zero])
    refine wpAnyH_takeD (i := 3) (some 68) (v := ?_) rfl rfl (by kernel_rfl) (by kernel_rfl) (by kernel_rfl) (fun _ _ _ h => h) (Or.inl ⟨by rfl, ?_⟩) (by assumption) ?_
    rotate_left
    (focus (intro w hSw; (try dsimp only at hSw); (first | (go_simp; done) | (go_simp; with_reducible rfl) | with_reducible rfl)))
    (try simp only [Act.put]); (try simp only [List.setIfInBounds_toArray]); (try simp only [List.set_cons_succ]); (try simp only [List.set_cons_zero])
    refine wpAnyH_ready (rs := [4]) (by kernel_rfl) (by simp) (AllReadyH.cons rfl (fun K hK => ?_) AllReadyH.nil)
    refine step_stRD rfl rfl 25 (.tmp 2) (.tmp 65) rfl w.heap.size _ _ rfl rfl D.mem5 si_Jar rfl (by first | rfl | (simp [Value.oneCell']; done)) ?_
    intro w5 Bz g5
    replace D := D.row (b1 := [_, _, _, _, _]) rfl Bz g5
    (try clear kS)
    have kS : (_ ∧ _ ∧ _ ∧ _ ∧ _ ∧ _ ∧ _ ∧ _ ∧ _ ∧ _ ∧ _) ∧ (_ ∧ _) ∧ _ := ⟨⟨DS.cell0 D 0, DS.cell0 D 1, DS.cell0 D 2, DS.cell0 D 3, DS.cell0 D 4, DS.cell0 D 5, DS.cell0 D 6, DS.cell0 D 7, DS.cell0 D 8, DS.cell0 D 9, DS.cell0 D 10⟩, ⟨DS.cell1 D 0, DS.cell1 D 1⟩, DS.cell2 D 0⟩
    refine hK.out _ _ ?_ (fun hHeld2 => ?_)
    · (try dsimp only)
      exact kS
    clear hK K hHeld
    have hHeld := hHeld2
    clear hHeld2
    (try simp only [Act.put]); (try simp only [List.setIfInBounds_toArray]); (try simp only [List.set_cons_succ]); (try simp only [List.set_cons_zero])
    refine wpAnyH_takeD (i := 5) (some 3) (v := ?_) rfl rfl (by kernel_rfl) (by kernel_rfl) (by kernel_rfl) (fun _ _ _ h => h) (Or.inl ⟨by rfl, ?_⟩) (by assumption) ?_
    rotate_left
    (focus (intro w hSw; (try dsimp only at hSw); (first | (go_simp; done) | (go_simp; with_reducible rfl) | with_reducible rfl)))
    (try simp only [Act.put]); (try simp only [List.setIfInBounds_toArray]); (try simp only [List.set_cons_succ]); (try simp only [List.set_cons_zero])
    refine wpAnyH_ready (rs := [6]) (by kernel_rfl) (by simp) (AllReadyH.cons rfl (fun K hK => ?_) AllReadyH.nil)
    refine step_stRD rfl rfl 27 (.tmp 4) (.tmp 67) rfl (w.heap.size + 1) _ _ rfl rfl D.mem4 si_Addr rfl (by first | rfl | (simp [Value.oneCell']; done)) ?_
    intro w5 Bz g5
    replace D := D.row (b1 := [_, _, _, _]) rfl Bz g5
    (try clear kS)
    have kS : (_ ∧ _ ∧ _ ∧ _ ∧ _ ∧ _ ∧ _ ∧ _ ∧ _ ∧ _ ∧ _) ∧ (_ ∧ _) ∧ _ := ⟨⟨DS.cell0 D 0, DS.cell0 D 1, DS.cell0 D 2, DS.cell0 D 3, DS.cell0 D 4, DS.cell0 D 5, DS.cell0 D 6, DS.cell0 D 7, DS.cell0 D 8, DS.cell0 D 9, DS.cell0 D 10⟩, ⟨DS.cell1 D 0, DS.cell1 D 1⟩, DS.cell2 D 0⟩
    refine hK.out _ _ ?_ (fun hHeld2 => ?_)
    · (try dsimp only)
      exact kS
    clear hK K hHeld
    have hHeld := hHeld2
    clear hHeld2
    (try simp only [Act.put]); (try simp only [List.setIfInBounds_toArray]); (try simp only [List.set_cons_succ]); (try simp only [List.set_cons_zero])
    refine wpAnyH_ready (rs := [7]) (by kernel_rfl) (by simp) (AllReadyH.cons rfl (fun K hK => ?_) AllReadyH.nil)
    refine step_stRD rfl rfl 35 (.tmp 5) (.tmp 68) rfl (w.heap.size + 1 + 1) _ _ rfl rfl D.mem3 si_Frame rfl (by first | rfl | (simp [Value.oneCell']; done)) ?_
    intro w5 Bz g5
    replace D := D.row (b1 := [_, _, _]) rfl Bz g5
    (try clear kS)
    have kS : (_ ∧ _ ∧ _ ∧ _ ∧ _ ∧ _ ∧ _ ∧ _ ∧ _ ∧ _ ∧ _) ∧ (_ ∧ _) ∧ _ := ⟨⟨DS.cell0 D 0, DS.cell0 D 1, DS.cell0 D 2, DS.cell0 D 3, DS.cell0 D 4, DS.cell0 D 5, DS.cell0 D 6, DS.cell0 D 7, DS.cell0 D 8, DS.cell0 D 9, DS.cell0 D 10⟩, ⟨DS.cell1 D 0, DS.cell1 D 1⟩, DS.cell2 D 0⟩
    refine hK.out _ _ ?_ (fun hHeld2 => ?_)
    · (try dsimp only)
      exact kS
    clear hK K hHeld
    have hHeld := hHeld2
    clear hHeld2
    (try simp only [Act.put]); (try simp only [List.setIfInBounds_toArray]); (try simp only [List.set_cons_succ]); (try simp only [List.set_cons_zero])
    refine wpAnyH_done (by kernel_rfl) ?_ _
    (try dsimp only)
    have k5 := fun o => D.mem5.cell o
    have k4 := fun o => D.mem4.cell o
    have k3 := fun o => D.mem3.cell o
    (try go_wp2)
    refine bodyPost_ret (v := .tuple #[.agg #[.slice aj nj cj], .int .i64 now, .agg #[.int .i64 x, .int .i64 y], .agg #[.int .i64 kind, .int .i64 id, .slice a1 n1 c1, .slice a2 n2 c2, .int .i64 tick, .slice a3 n3 c3, .slice a4 n4 c4, .int .i64 epoch, .int .i64 seq, .slice a5 n5 c5, .slice a6 n6 c6]]) (by simp [results, Try.results17, go_sem, k5, k4, k3]) rfl (PJu.mk (D.gb hcb) (by (first | exact BR.nil _ _ | exact D.b0 | exact D.tl.b0 | exact D.tl.tl.b0 | exact D.tl.tl.tl.b0 | exact D.tl.tl.tl.tl.b0 | exact D.tl.tl.tl.tl.tl.b0 | exact D.tl.tl.tl.tl.tl.tl.b0 | exact D.tl.tl.tl.tl.tl.tl.tl.b0 | exact D.tl.tl.tl.tl.tl.tl.tl.tl.b0 | exact D.tl.tl.tl.tl.tl.tl.tl.tl.tl.b0 | exact D.tl.tl.tl.tl.tl.tl.tl.tl.tl.tl.b0 | exact D.tl.tl.tl.tl.tl.tl.tl.tl.tl.tl.tl.b0 | exact D.tl.tl.tl.tl.tl.tl.tl.tl.tl.tl.tl.tl.b0 | exact D.tl.tl.tl.tl.tl.tl.tl.tl.tl.tl.tl.tl.tl.b0)) (by (first | exact BR.nil _ _ | exact D.b0 | exact D.tl.b0 | exact D.tl.tl.b0 | exact D.tl.tl.tl.b0 | exact D.tl.tl.tl.tl.b0 | exact D.tl.tl.tl.tl.tl.b0 | exact D.tl.tl.tl.tl.tl.tl.b0 | exact D.tl.tl.tl.tl.tl.tl.tl.b0 | exact D.tl.tl.tl.tl.tl.tl.tl.tl.b0 | exact D.tl.tl.tl.tl.tl.tl.tl.tl.tl.b0 | exact D.tl.tl.tl.tl.tl.tl.tl.tl.tl.tl.b0 | exact D.tl.tl.tl.tl.tl.tl.tl.tl.tl.tl.tl.b0 | exact D.tl.tl.tl.tl.tl.tl.tl.tl.tl.tl.tl.tl.b0 | exact D.tl.tl.tl.tl.tl.tl.tl.tl.tl.tl.tl.tl.tl.b0)) (by (first | exact BR.nil _ _ | exact D.b0 | exact D.tl.b0 | exact D.tl.tl.b0 | exact D.tl.tl.tl.b0 | exact D.tl.tl.tl.tl.b0 | exact D.tl.tl.tl.tl.tl.b0 | exact D.tl.tl.tl.tl.tl.tl.b0 | exact D.tl.tl.tl.tl.tl.tl.tl.b0 | exact D.tl.tl.tl.tl.tl.tl.tl.tl.b0 | exact D.tl.tl.tl.tl.tl.tl.tl.tl.tl.b0 | exact D.tl.tl.tl.tl.tl.tl.tl.tl.tl.tl.b0 | exact D.tl.tl.tl.tl.tl.tl.tl.tl.tl.tl.tl.b0 | exact D.tl.tl.tl.tl.tl.tl.tl.tl.tl.tl.tl.tl.b0 | exact D.tl.tl.tl.tl.tl.tl.tl.tl.tl.tl.tl.tl.tl.b0)) (by (first | exact BR.nil _ _ | exact D.b0 | exact D.tl.b0 | exact D.tl.tl.b0 | exact D.tl.tl.tl.b0 | exact D.tl.tl.tl.tl.b0 | exact D.tl.tl.tl.tl.tl.b0 | exact D.tl.tl.tl.tl.tl.tl.b0 | exact D.tl.tl.tl.tl.tl.tl.tl.b0 | exact D.tl.tl.tl.tl.tl.tl.tl.tl.b0 | exact D.tl.tl.tl.tl.tl.tl.tl.tl.tl.b0 | exact D.tl.tl.tl.tl.tl.tl.tl.tl.tl.tl.b0 | exact D.tl.tl.tl.tl.tl.tl.tl.tl.tl.tl.tl.b0 | exact D.tl.tl.tl.tl.tl.tl.tl.tl.tl.tl.tl.tl.b0 | exact D.tl.tl.tl.tl.tl.tl.tl.tl.tl.tl.tl.tl.tl.b0)) (by (first | exact BR.nil _ _ | exact D.b0 | exact D.tl.b0 | exact D.tl.tl.b0 | exact D.tl.tl.tl.b0 | exact D.tl.tl.tl.tl.b0 | exact D.tl.tl.tl.tl.tl.b0 | exact D.tl.tl.tl.tl.tl.tl.b0 | exact D.tl.tl.tl.tl.tl.tl.tl.b0 | exact D.tl.tl.tl.tl.tl.tl.tl.tl.b0 | exact D.tl.tl.tl.tl.tl.tl.tl.tl.tl.b0 | exact D.tl.tl.tl.tl.tl.tl.tl.tl.tl.tl.b0 | exact D.tl.tl.tl.tl.tl.tl.tl.tl.tl.tl.tl.b0 | exact D.tl.tl.tl.tl.tl.tl.tl.tl.tl.tl.tl.tl.b0 | exact D.tl.tl.tl.tl.tl.tl.tl.tl.tl.tl.tl.tl.tl.b0)) (by (first | exact BR.nil _ _ | exact D.b0 | exact D.tl.b0 | exact D.tl.tl.b0 | exact D.tl.tl.tl.b0 | exact D.tl.tl.tl.tl.b0 | exact D.tl.tl.tl.tl.tl.b0 | exact D.tl.tl.tl.tl.tl.tl.b0 | exact D.tl.tl.tl.tl.tl.tl.tl.b0 | exact D.tl.tl.tl.tl.tl.tl.tl.tl.b0 | exact D.tl.tl.tl.tl.tl.tl.tl.tl.tl.b0 | exact D.tl.tl.tl.tl.tl.tl.tl.tl.tl.tl.b0 | exact D.tl.tl.tl.tl.tl.tl.tl.tl.tl.tl.tl.b0 | exact D.tl.tl.tl.tl.tl.tl.tl.tl.tl.tl.tl.tl.b0 | exact D.tl.tl.tl.tl.tl.tl.tl.tl.tl.tl.tl.tl.tl.b0)) (by (first | exact BR.nil _ _ | exact D.b0 | exact D.tl.b0 | exact D.tl.tl.b0 | exact D.tl.tl.tl.b0 | exact D.tl.tl.tl.tl.b0 | exact D.tl.tl.tl.tl.tl.b0 | exact D.tl.tl.tl.tl.tl.tl.b0 | exact D.tl.tl.tl.tl.tl.tl.tl.b0 | exact D.tl.tl.tl.tl.tl.tl.tl.tl.b0 | exact D.tl.tl.tl.tl.tl.tl.tl.tl.tl.b0 | exact D.tl.tl.tl.tl.tl.tl.tl.tl.tl.tl.b0 | exact D.tl.tl.tl.tl.tl.tl.tl.tl.tl.tl.tl.b0 | exact D.tl.tl.tl.tl.tl.tl.tl.tl.tl.tl.tl.tl.b0 | exact D.tl.tl.tl.tl.tl.tl.tl.tl.tl.tl.tl.tl.tl.b0)))
end Go.Proofs.Ytjdaafemfpafdaa

/-
  FnJudges returns true for every code. Conditions: none.
-/
namespace Go.Proofs.Ytjdaafemfpafdaa.lJudges
open Go.ChangeShapes Go.WideShapes Go.ChangeAt Go.RowKit
theorem jarM_32 {r : List UInt8} (h : r.length = 12) : (jarM r).length = 32 := by
  rw [jarM, if_pos h]
  exact derM_len (by omega) (by decide)
theorem jarM_0 {r : List UInt8} (h : r.length ≠ 12) : (jarM r).length = 0 := by
  rw [jarM, if_neg h]
  rfl
set_option maxRecDepth 1000000 in
set_option maxHeartbeats 8000000 in
theorem walk (w : World) (v0 : Value) (h0 : InBytes w v0) : Calls Try.prog 4 #[v0] w fun e w' => e = .returned (.bool true) ∧ Below w.heap.size w w' := by
  obtain ⟨a, n, c, l, rfl, r, hC⟩ := h0
  rcases Nat.lt_or_ge 1048576 n with p | p
  · go_enter Try.func4, Try.ntmps4
    go_wp2_with (go_at_call 6; refine (laws_big a n c _).mono ?_; rw [decide_eq_true p]; rintro e w0 ⟨rfl, rfl⟩)
    go_ret
    exact ⟨rfl, Below.refl _ _⟩
  go_enter Try.func4, Try.ntmps4
  go_wp2_with (first
    | (go_at_call 6; refine (laws_big a n c _).mono ?_; rw [decide_eq_false (by omega)]; rintro e w0 ⟨rfl, rfl⟩) | (go_at_call 17; refine (spec_DrawJudge a n c l _ r p).mono ?_; rintro e w1 ⟨aj, nj, cj, lj, now, h, pt, v, F, rfl, rj, R, -, -, G⟩; obtain ⟨kind, id, l1, l2, tick, l3, l4, epoch, seq, l5, l6⟩ := F; obtain ⟨a1, n1, c1, a2, n2, c2, a3, n3, c3, a4, n4, c4, a5, n5, c5, a6, n6, c6, rfl⟩ := R.shape; simp only at R; replace r := r.keep0 G))
  have gA := gb_alloc (gb_alloc (gb_alloc (gb_refl w1) (.cells #[.slice aj nj cj] 25)) (.cells #[.int .i64 h, .int .i64 pt] 27)) (.cells #[.int .i64 kind, .int .i64 id, .slice a1 n1 c1, .slice a2 n2 c2, .int .i64 tick, .slice a3 n3 c3, .slice a4 n4 c4, .int .i64 epoch, .int .i64 seq, .slice a5 n5 c5, .slice a6 n6 c6] 35)
  have b3 := bx3 w1 #[.slice aj nj cj] #[.int .i64 h, .int .i64 pt] #[.int .i64 kind, .int .i64 id, .slice a1 n1 c1, .slice a2 n2 c2, .int .i64 tick, .slice a3 n3 c3, .slice a4 n4 c4, .int .i64 epoch, .int .i64 seq, .slice a5 n5 c5, .slice a6 n6 c6] 25 27 35
  refine (spec_DrawFresh a n c l _ (r.keep0 gA) p).mono ?_
  rintro e w2 ⟨x, y, rfl, g2⟩
  replace gA := gb_trans gA g2
  go_wp2_with (first | (go_at_call 19; refine (spec_DrawJarNew a n c l w2 (r.keep0 gA) p).mono ?_; rintro e w3 ⟨aq, nq, cq, lq, rfl, rq, hq, g3⟩; replace gA := gb_trans gA g3))
  have B3 := b3.1.keep0 (gb_trans g2 g3)
  have B5 := b3.2.1.keep0 (gb_trans g2 g3)
  have B6 := b3.2.2.keep0 (gb_trans g2 g3)
  replace rj := rj.keep0 gA
  replace R := R.keep0 gA
  replace G := gb_trans G gA
  clear gA b3 g2 g3 hq hC
  obtain ⟨J, hJ⟩ : ∃ J, Hid (judgeM lj now h pt (⟨kind, id, l1, l2, tick, l3, l4, epoch, seq, l5, l6⟩ : FrameM) = J) := ⟨_, rfl⟩
  obtain ⟨fb, hf⟩ : ∃ fb, Hid (freshM x y = fb) := ⟨_, rfl⟩
  obtain ⟨jl, hjl⟩ : ∃ jl, Hid (jarM lq = jl) := ⟨_, rfl⟩
  have eq := rq.blen
  have KX : Hid (∀ w', w3.grownBy w' none → (((w'.cell? ⟨w1.heap.size, 0, none⟩ = some (.slice aj nj cj)) ∧ (w'.cell? ⟨w1.heap.size + 1, 0, none⟩ = some (.int .i64 h) ∧ w'.cell? ⟨w1.heap.size + 1, 1, none⟩ = some (.int .i64 pt)) ∧ (w'.cell? ⟨w1.heap.size + 1 + 1, 0, none⟩ = some (.int .i64 kind) ∧ w'.cell? ⟨w1.heap.size + 1 + 1, 1, none⟩ = some (.int .i64 id) ∧ w'.cell? ⟨w1.heap.size + 1 + 1, 2, none⟩ = some (.slice a1 n1 c1) ∧ w'.cell? ⟨w1.heap.size + 1 + 1, 3, none⟩ = some (.slice a2 n2 c2) ∧ w'.cell? ⟨w1.heap.size + 1 + 1, 4, none⟩ = some (.int .i64 tick) ∧ w'.cell? ⟨w1.heap.size + 1 + 1, 5, none⟩ = some (.slice a3 n3 c3) ∧ w'.cell? ⟨w1.heap.size + 1 + 1, 6, none⟩ = some (.slice a4 n4 c4) ∧ w'.cell? ⟨w1.heap.size + 1 + 1, 7, none⟩ = some (.int .i64 epoch) ∧ w'.cell? ⟨w1.heap.size + 1 + 1, 8, none⟩ = some (.int .i64 seq) ∧ w'.cell? ⟨w1.heap.size + 1 + 1, 9, none⟩ = some (.slice a5 n5 c5) ∧ w'.cell? ⟨w1.heap.size + 1 + 1, 10, none⟩ = some (.slice a6 n6 c6))) ∧ w3.grownBy w' none)) := fun w' hg => ⟨⟨(B3.keep0 hg).cell 0, ⟨(B5.keep0 hg).cell 0, (B5.keep0 hg).cell 1⟩, (B6.keep0 hg).cell 0, (B6.keep0 hg).cell 1, (B6.keep0 hg).cell 2, (B6.keep0 hg).cell 3, (B6.keep0 hg).cell 4, (B6.keep0 hg).cell 5, (B6.keep0 hg).cell 6, (B6.keep0 hg).cell 7, (B6.keep0 hg).cell 8, (B6.keep0 hg).cell 9, (B6.keep0 hg).cell 10⟩, hg⟩
  cases q : ((nq : Int) == 12)
  · have hjn := Lib.hid (show jl.length = 0 by rw [← hjl.out]; exact jarM_0 (by rw [eq]; intro e; rw [e] at q; cases q))
    replace eq := Lib.hid eq
    refine wp_region_held_drew (S := (fun w' => ((w'.cell? ⟨w1.heap.size, 0, none⟩ = some (.slice aj nj cj)) ∧ (w'.cell? ⟨w1.heap.size + 1, 0, none⟩ = some (.int .i64 h) ∧ w'.cell? ⟨w1.heap.size + 1, 1, none⟩ = some (.int .i64 pt)) ∧ (w'.cell? ⟨w1.heap.size + 1 + 1, 0, none⟩ = some (.int .i64 kind) ∧ w'.cell? ⟨w1.heap.size + 1 + 1, 1, none⟩ = some (.int .i64 id) ∧ w'.cell? ⟨w1.heap.size + 1 + 1, 2, none⟩ = some (.slice a1 n1 c1) ∧ w'.cell? ⟨w1.heap.size + 1 + 1, 3, none⟩ = some (.slice a2 n2 c2) ∧ w'.cell? ⟨w1.heap.size + 1 + 1, 4, none⟩ = some (.int .i64 tick) ∧ w'.cell? ⟨w1.heap.size + 1 + 1, 5, none⟩ = some (.slice a3 n3 c3) ∧ w'.cell? ⟨w1.heap.size + 1 + 1, 6, none⟩ = some (.slice a4 n4 c4) ∧ w'.cell? ⟨w1.heap.size + 1 + 1, 7, none⟩ = some (.int .i64 epoch) ∧ w'.cell? ⟨w1.heap.size + 1 + 1, 8, none⟩ = some (.int .i64 seq) ∧ w'.cell? ⟨w1.heap.size + 1 + 1, 9, none⟩ = some (.slice a5 n5 c5) ∧ w'.cell? ⟨w1.heap.size + 1 + 1, 10, none⟩ = some (.slice a6 n6 c6))) ∧ w3.grownBy w' none)) (by kernel_rfl) ?_ (fun hHeld => ?_)
    · (try dsimp only)
      (refine KX.out _ ?_; (repeat (first | with_reducible exact gb_refl _ | with_reducible refine gb_alloc ?_ _ | with_reducible refine gb_drewN ?_ _ | with_reducible refine gb_drew ?_)))
    refine wpAnyH_takeD (i := 0) (some 26) (v := ?_) rfl rfl (by kernel_rfl) (by kernel_rfl) (by kernel_rfl) (fun _ _ _ h => h) (Or.inl ⟨by rfl, ?_⟩) (by assumption) ?_
    rotate_left
    (focus (intro w hSw; (try dsimp only at hSw); (first | (go_simp; done) | (go_simp; with_reducible rfl) | with_reducible rfl)))
    (try simp only [Act.put]); (try simp only [List.setIfInBounds_toArray]); (try simp only [List.set_cons_succ]); (try simp only [List.set_cons_zero])
    refine wpAnyH_takeD (i := 1) (some 27) (v := ?_) rfl rfl (by kernel_rfl) (by kernel_rfl) (by kernel_rfl) (fun _ _ _ h => h) (Or.inl ⟨by rfl, ?_⟩) (by assumption) ?_
    rotate_left
    (focus (intro w hSw; (try dsimp only at hSw); (first | (go_simp; done) | (go_simp; with_reducible rfl) | with_reducible rfl)))
    (try simp only [Act.put]); (try simp only [List.setIfInBounds_toArray]); (try simp only [List.set_cons_succ]); (try simp only [List.set_cons_zero])
    refine wpAnyH_takeD (i := 2) (some 28) (v := ?_) rfl rfl (by kernel_rfl) (by kernel_rfl) (by kernel_rfl) (fun _ _ _ h => h) (Or.inl ⟨by rfl, ?_⟩) (by assumption) ?_
    rotate_left
    (focus (intro w hSw; (try dsimp only at hSw); (first | (go_simp; done) | (go_simp; with_reducible rfl) | with_reducible rfl)))
    (try simp only [Act.put]); (try simp only [List.setIfInBounds_toArray]); (try simp only [List.set_cons_succ]); (try simp only [List.set_cons_zero])
    refine wpAnyH_takeD (i := 3) (some 29) (v := ?_) rfl rfl (by kernel_rfl) (by kernel_rfl) (by kernel_rfl) (fun _ _ _ h => h) (Or.inl ⟨by rfl, ?_⟩) (by assumption) ?_
    rotate_left
    (focus (intro w hSw; (try dsimp only at hSw); (first | (go_simp; done) | (go_simp; with_reducible rfl) | with_reducible rfl)))
    (try simp only [Act.put]); (try simp only [List.setIfInBounds_toArray]); (try simp only [List.set_cons_succ]); (try simp only [List.set_cons_zero])
    refine wpAnyH_takeD (i := 5) (some 31) (v := ?_) rfl rfl (by kernel_rfl) (by kernel_rfl) (by kernel_rfl) (fun _ _ _ h => h) (Or.inl ⟨by rfl, ?_⟩) (by assumption) ?_
    rotate_left
    (focus (intro w hSw; (try dsimp only at hSw); (first | (go_simp; done) | (go_simp; with_reducible rfl) | with_reducible rfl)))
    (try simp only [Act.put]); (try simp only [List.setIfInBounds_toArray]); (try simp only [List.set_cons_succ]); (try simp only [List.set_cons_zero])
    refine wpAnyH_takeD (i := 6) (some 32) (v := ?_) rfl rfl (by kernel_rfl) (by kernel_rfl) (by kernel_rfl) (fun _ _ _ h => h) (Or.inl ⟨by rfl, ?_⟩) (by assumption) ?_
    rotate_left
    (focus (intro w hSw; (try dsimp only at hSw); (first | (go_simp; done) | (go_simp; with_reducible rfl) | with_reducible rfl)))
    (try simp only [Act.put]); (try simp only [List.setIfInBounds_toArray]); (try simp only [List.set_cons_succ]); (try simp only [List.set_cons_zero])
    refine wpAnyH_takeD (i := 7) (some 33) (v := ?_) rfl rfl (by kernel_rfl) (by kernel_rfl) (by kernel_rfl) (fun _ _ _ h => h) (Or.inl ⟨by rfl, ?_⟩) (by assumption) ?_
    rotate_left
    (focus (intro w hSw; (try dsimp only at hSw); (first | (go_simp; done) | (go_simp; with_reducible rfl) | with_reducible rfl)))
    (try simp only [Act.put]); (try simp only [List.setIfInBounds_toArray]); (try simp only [List.set_cons_succ]); (try simp only [List.set_cons_zero])
    refine wpAnyH_takeD (i := 8) (some 34) (v := ?_) rfl rfl (by kernel_rfl) (by kernel_rfl) (by kernel_rfl) (fun _ _ _ h => h) (Or.inl ⟨by rfl, ?_⟩) (by assumption) ?_
    rotate_left
    (focus (intro w hSw; (try dsimp only at hSw); (first | (go_simp; done) | (go_simp; with_reducible rfl) | with_reducible rfl)))
    (try simp only [Act.put]); (try simp only [List.setIfInBounds_toArray]); (try simp only [List.set_cons_succ]); (try simp only [List.set_cons_zero])
    refine wpAnyH_ready (rs := [4]) (by kernel_rfl) (by simp) (AllReadyH.cons rfl (fun K hK => ?_) AllReadyH.nil)
    go_simp
    (go_at_call 15; refine (impl_Judge aj nj cj lj now h pt _ (⟨kind, id, l1, l2, tick, l3, l4, epoch, seq, l5, l6⟩ : FrameM) _ (rj.keep0 (by (repeat (first | with_reducible exact gb_refl _ | with_reducible refine gb_alloc ?_ _ | with_reducible refine gb_drewN ?_ _ | with_reducible refine gb_drew ?_)))) (R.keep0 (by (repeat (first | with_reducible exact gb_refl _ | with_reducible refine gb_alloc ?_ _ | with_reducible refine gb_drewN ?_ _ | with_reducible refine gb_drew ?_))))).mono ?_; rw [hJ.out]; rintro e w4 ⟨rfl, g4⟩; skip)
    go_wp2_with fail
    refine hK.out _ _ ?_ (fun hHeld2 => ?_)
    · (try dsimp only)
      (refine KX.out _ ?_; (repeat (first | with_reducible exact gb_refl _ | with_reducible refine gb_alloc ?_ _ | with_reducible refine gb_drewN ?_ _ | with_reducible refine gb_drew ?_ | with_reducible refine gb_trans ?_ g4)))
    clear hK K hHeld
    have hHeld := hHeld2
    clear hHeld2
    (try simp only [Act.put]); (try simp only [List.setIfInBounds_toArray]); (try simp only [List.set_cons_succ]); (try simp only [List.set_cons_zero])
    refine wpAnyH_ready (rs := [9]) (by kernel_rfl) (by simp) (AllReadyH.cons rfl (fun K hK => ?_) AllReadyH.nil)
    go_simp
    (go_at_call 20; refine (spec_Judge aj nj cj lj now h pt _ (⟨kind, id, l1, l2, tick, l3, l4, epoch, seq, l5, l6⟩ : FrameM) _ (rj.keep0 (by (repeat (first | with_reducible exact gb_refl _ | with_reducible refine gb_alloc ?_ _ | with_reducible refine gb_drewN ?_ _ | with_reducible refine gb_drew ?_ | with_reducible refine gb_trans ?_ g4)))) (R.keep0 (by (repeat (first | with_reducible exact gb_refl _ | with_reducible refine gb_alloc ?_ _ | with_reducible refine gb_drewN ?_ _ | with_reducible refine gb_drew ?_ | with_reducible refine gb_trans ?_ g4))))).mono ?_; rw [hJ.out]; rintro e w5 ⟨rfl, g5⟩; skip)
    go_wp2_with fail
    refine hK.out _ _ ?_ (fun hHeld2 => ?_)
    · (try dsimp only)
      (refine KX.out _ ?_; (repeat (first | with_reducible exact gb_refl _ | with_reducible refine gb_alloc ?_ _ | with_reducible refine gb_drewN ?_ _ | with_reducible refine gb_drew ?_ | with_reducible refine gb_trans ?_ g4 | with_reducible refine gb_trans ?_ g5)))
    clear hK K hHeld
    have hHeld := hHeld2
    clear hHeld2
    (try simp only [Act.put]); (try simp only [List.setIfInBounds_toArray]); (try simp only [List.set_cons_succ]); (try simp only [List.set_cons_zero])
    refine wpAnyH_takeD (i := 10) (some 36) (v := ?_) rfl rfl (by kernel_rfl) (by kernel_rfl) (by kernel_rfl) (fun _ _ _ h => h) (Or.inl ⟨by rfl, ?_⟩) (by assumption) ?_
    rotate_left
    (focus (intro w hSw; (try dsimp only at hSw); (first | (go_simp; done) | (go_simp; with_reducible rfl) | with_reducible rfl)))
    (try simp only [Act.put]); (try simp only [List.setIfInBounds_toArray]); (try simp only [List.set_cons_succ]); (try simp only [List.set_cons_zero])
    refine wpAnyH_takeD (i := 11) (some 37) (v := ?_) rfl rfl (by kernel_rfl) (by kernel_rfl) (by kernel_rfl) (fun _ _ _ h => h) (Or.inl ⟨by rfl, ?_⟩) (by assumption) ?_
    rotate_left
    (focus (intro w hSw; (try dsimp only at hSw); (first | (go_simp; done) | (go_simp; with_reducible rfl) | with_reducible rfl)))
    (try simp only [Act.put]); (try simp only [List.setIfInBounds_toArray]); (try simp only [List.set_cons_succ]); (try simp only [List.set_cons_zero])
    refine wpAnyH_takeD (i := 12) (some 38) (v := ?_) rfl rfl (by kernel_rfl) (by kernel_rfl) (by kernel_rfl) (fun _ _ _ h => h) (Or.inl ⟨by rfl, ?_⟩) (by assumption) ?_
    rotate_left
    (focus (intro w hSw; (try dsimp only at hSw); (first | (go_simp; done) | (go_simp; with_reducible rfl) | with_reducible rfl)))
    (try simp only [Act.put]); (try simp only [List.setIfInBounds_toArray]); (try simp only [List.set_cons_succ]); (try simp only [List.set_cons_zero])
    refine wpAnyH_takeD (i := 13) (some 39) (v := ?_) rfl rfl (by kernel_rfl) (by kernel_rfl) (by kernel_rfl) (fun _ _ _ h => h) (Or.inl ⟨by rfl, ?_⟩) (by assumption) ?_
    rotate_left
    (focus (intro w hSw; (try dsimp only at hSw); (first | (go_simp; done) | (go_simp; with_reducible rfl) | with_reducible rfl)))
    (try simp only [Act.put]); (try simp only [List.setIfInBounds_toArray]); (try simp only [List.set_cons_succ]); (try simp only [List.set_cons_zero])
    refine wpAnyH_takeD (i := 15) (some 41) (v := ?_) rfl rfl (by kernel_rfl) (by kernel_rfl) (by kernel_rfl) (fun _ _ _ h => h) (Or.inl ⟨by rfl, ?_⟩) (by assumption) ?_
    rotate_left
    (focus (intro w hSw; (try dsimp only at hSw); (first | (go_simp; done) | (go_simp; with_reducible rfl) | with_reducible rfl)))
    (try simp only [Act.put]); (try simp only [List.setIfInBounds_toArray]); (try simp only [List.set_cons_succ]); (try simp only [List.set_cons_zero])
    refine wpAnyH_takeD (i := 16) (some 42) (v := ?_) rfl rfl (by kernel_rfl) (by kernel_rfl) (by kernel_rfl) (fun _ _ _ h => h) (Or.inl ⟨by rfl, ?_⟩) (by assumption) ?_
    rotate_left
    (focus (intro w hSw; (try dsimp only at hSw); (first | (go_simp; done) | (go_simp; with_reducible rfl) | with_reducible rfl)))
    (try simp only [Act.put]); (try simp only [List.setIfInBounds_toArray]); (try simp only [List.set_cons_succ]); (try simp only [List.set_cons_zero])
    refine wpAnyH_ready (rs := [14]) (by kernel_rfl) (by simp) (AllReadyH.cons rfl (fun K hK => ?_) AllReadyH.nil)
    go_simp
    (go_at_call 16; refine (impl_Fresh _ _ _).mono ?_; rw [hf.out]; rintro e w' ⟨rfl, rfl⟩; skip)
    go_wp2_with fail
    refine hK.out _ _ ?_ (fun hHeld2 => ?_)
    · (try dsimp only)
      (refine KX.out _ ?_; (repeat (first | with_reducible exact gb_refl _ | with_reducible refine gb_alloc ?_ _ | with_reducible refine gb_drewN ?_ _ | with_reducible refine gb_drew ?_ | with_reducible refine gb_trans ?_ g4 | with_reducible refine gb_trans ?_ g5)))
    clear hK K hHeld
    have hHeld := hHeld2
    clear hHeld2
    (try simp only [Act.put]); (try simp only [List.setIfInBounds_toArray]); (try simp only [List.set_cons_succ]); (try simp only [List.set_cons_zero])
    refine wpAnyH_ready (rs := [17]) (by kernel_rfl) (by simp) (AllReadyH.cons rfl (fun K hK => ?_) AllReadyH.nil)
    go_simp
    (go_at_call 21; refine (spec_Fresh _ _ _).mono ?_; rw [hf.out]; rintro e w' ⟨rfl, rfl⟩; skip)
    go_wp2_with fail
    refine hK.out _ _ ?_ (fun hHeld2 => ?_)
    · (try dsimp only)
      (refine KX.out _ ?_; (repeat (first | with_reducible exact gb_refl _ | with_reducible refine gb_alloc ?_ _ | with_reducible refine gb_drewN ?_ _ | with_reducible refine gb_drew ?_ | with_reducible refine gb_trans ?_ g4 | with_reducible refine gb_trans ?_ g5)))
    clear hK K hHeld
    have hHeld := hHeld2
    clear hHeld2
    (try simp only [Act.put]); (try simp only [List.setIfInBounds_toArray]); (try simp only [List.set_cons_succ]); (try simp only [List.set_cons_zero])
    refine wpAnyH_takeD (i := 18) (some 44) (v := ?_) rfl rfl (by kernel_rfl) (by kernel_rfl) (by kernel_rfl) (fun _ _ _ h => h) (Or.inl ⟨by rfl, ?_⟩) (by assumption) ?_
    rotate_left
    (focus (intro w hSw; (try dsimp only at hSw); (first | (go_simp; done) | (go_simp; with_reducible rfl) | with_reducible rfl)))
    (try simp only [Act.put]); (try simp only [List.setIfInBounds_toArray]); (try simp only [List.set_cons_succ]); (try simp only [List.set_cons_zero])
    refine wpAnyH_takeD (i := 19) (some 45) (v := ?_) rfl rfl (by kernel_rfl) (by kernel_rfl) (by kernel_rfl) (fun _ _ _ h => h) (Or.inl ⟨by rfl, ?_⟩) (by assumption) ?_
    rotate_left
    (focus (intro w hSw; (try dsimp only at hSw); (first | (go_simp; done) | (go_simp; with_reducible rfl) | with_reducible rfl)))
    (try simp only [Act.put]); (try simp only [List.setIfInBounds_toArray]); (try simp only [List.set_cons_succ]); (try simp only [List.set_cons_zero])
    refine wpAnyH_takeD (i := 20) (some 46) (v := ?_) rfl rfl (by kernel_rfl) (by kernel_rfl) (by kernel_rfl) (fun _ _ _ h => h) (Or.inl ⟨by rfl, ?_⟩) (by assumption) ?_
    rotate_left
    (focus (intro w hSw; (try dsimp only at hSw); (first | (go_simp; done) | (go_simp; with_reducible rfl) | with_reducible rfl)))
    (try simp only [Act.put]); (try simp only [List.setIfInBounds_toArray]); (try simp only [List.set_cons_succ]); (try simp only [List.set_cons_zero])
    refine wpAnyH_takeD (i := 21) (some 47) (v := ?_) rfl rfl (by kernel_rfl) (by kernel_rfl) (by kernel_rfl) (fun _ _ _ h => h) (Or.inl ⟨by rfl, ?_⟩) (by assumption) ?_
    rotate_left
    (focus (intro w hSw; (try dsimp only at hSw); (first | (go_simp; done) | (go_simp; with_reducible rfl) | with_reducible rfl)))
    (try simp only [Act.put]); (try simp only [List.setIfInBounds_toArray]); (try simp only [List.set_cons_succ]); (try simp only [List.set_cons_zero])
    refine wpAnyH_takeD (i := 24) (some 50) (v := ?_) rfl rfl (by kernel_rfl) (by kernel_rfl) (by kernel_rfl) (fun _ _ _ h => h) (Or.inl ⟨by rfl, ?_⟩) (by assumption) ?_
    rotate_left
    (focus (intro w hSw; (try dsimp only at hSw); (first | (go_simp; done) | (go_simp; with_reducible rfl) | with_reducible rfl)))
    (try simp only [Act.put]); (try simp only [List.setIfInBounds_toArray]); (try simp only [List.set_cons_succ]); (try simp only [List.set_cons_zero])
    refine wpAnyH_takeD (i := 25) (some 51) (v := ?_) rfl rfl (by kernel_rfl) (by kernel_rfl) (by kernel_rfl) (fun _ _ _ h => h) (Or.inl ⟨by rfl, ?_⟩) (by assumption) ?_
    rotate_left
    (focus (intro w hSw; (try dsimp only at hSw); (first | (go_simp; done) | (go_simp; with_reducible rfl) | with_reducible rfl)))
    (try simp only [Act.put]); (try simp only [List.setIfInBounds_toArray]); (try simp only [List.set_cons_succ]); (try simp only [List.set_cons_zero])
    refine wpAnyH_takeD (i := 26) (some 52) (v := ?_) rfl rfl (by kernel_rfl) (by kernel_rfl) (by kernel_rfl) (fun _ _ _ h => h) (Or.inl ⟨by rfl, ?_⟩) (by assumption) ?_
    rotate_left
    (focus (intro w hSw; (try dsimp only at hSw); (first | (go_simp; done) | (go_simp; with_reducible rfl) | with_reducible rfl)))
    (try simp only [Act.put]); (try simp only [List.setIfInBounds_toArray]); (try simp only [List.set_cons_succ]); (try simp only [List.set_cons_zero])
    refine wpAnyH_ready (rs := [22]) (by kernel_rfl) (by simp) (AllReadyH.cons rfl (fun K hK => ?_) AllReadyH.nil)
    go_simp
    (go_at_call 22; refine (impl_JarNew aq nq cq lq _ (rq.keep0 (by (repeat (first | with_reducible exact gb_refl _ | with_reducible refine gb_alloc ?_ _ | with_reducible refine gb_drewN ?_ _ | with_reducible refine gb_drew ?_ | with_reducible refine gb_trans ?_ g4 | with_reducible refine gb_trans ?_ g5))))).mono ?_; rw [hjl.out]; rintro e w6 ⟨v6, rfl, o6, g6⟩; obtain ⟨a7, n7, c7, rfl, o7, -⟩ := o6; simp only at o7; obtain rfl : n7 = 0 := o7.blen.symm.trans hjn.out; skip)
    go_wp2_with fail
    refine hK.out _ _ ?_ (fun hHeld2 => ?_)
    · (try dsimp only)
      (refine KX.out _ ?_; (repeat (first | with_reducible exact gb_refl _ | with_reducible refine gb_alloc ?_ _ | with_reducible refine gb_drewN ?_ _ | with_reducible refine gb_drew ?_ | with_reducible refine gb_trans ?_ g4 | with_reducible refine gb_trans ?_ g5 | with_reducible refine gb_trans ?_ g6)))
    clear hK K hHeld
    have hHeld := hHeld2
    clear hHeld2
    (try simp only [Act.put]); (try simp only [List.setIfInBounds_toArray]); (try simp only [List.set_cons_succ]); (try simp only [List.set_cons_zero])
    refine wpAnyH_ready (rs := [23]) (by kernel_rfl) (by simp) (AllReadyH.cons rfl (fun K hK => ?_) AllReadyH.nil)
    go_simp
    (go_at_call 11; refine (impl_JarOk a7 _ c7 _).mono ?_; rintro e w7 ⟨rfl, g7⟩; skip)
    go_wp2_with fail
    refine hK.out _ _ ?_ (fun hHeld2 => ?_)
    · (try dsimp only)
      (refine KX.out _ ?_; (repeat (first | with_reducible exact gb_refl _ | with_reducible refine gb_alloc ?_ _ | with_reducible refine gb_drewN ?_ _ | with_reducible refine gb_drew ?_ | with_reducible refine gb_trans ?_ g4 | with_reducible refine gb_trans ?_ g5 | with_reducible refine gb_trans ?_ g6 | with_reducible refine gb_trans ?_ g7)))
    clear hK K hHeld
    have hHeld := hHeld2
    clear hHeld2
    (try simp only [Act.put]); (try simp only [List.setIfInBounds_toArray]); (try simp only [List.set_cons_succ]); (try simp only [List.set_cons_zero])
    refine wpAnyH_takeD (i := 27) (some 53) (v := ?_) rfl rfl (by kernel_rfl) (by kernel_rfl) (by kernel_rfl) (fun _ _ _ h => h) (Or.inl ⟨by rfl, ?_⟩) (by assumption) ?_
    rotate_left
    (focus (intro w hSw; (try dsimp only at hSw); (first | (go_simp; done) | (go_simp; with_reducible rfl) | with_reducible rfl)))
    (try simp only [Act.put]); (try simp only [List.setIfInBounds_toArray]); (try simp only [List.set_cons_succ]); (try simp only [List.set_cons_zero])
    refine wpAnyH_takeD (i := 28) (some 54) (v := ?_) rfl rfl (by kernel_rfl) (by kernel_rfl) (by kernel_rfl) (fun _ _ _ h => h) (Or.inl ⟨by rfl, ?_⟩) (by assumption) ?_
    rotate_left
    (focus (intro w hSw; (try dsimp only at hSw); (first | (go_simp; done) | (go_simp; with_reducible rfl) | with_reducible rfl)))
    (try simp only [Act.put]); (try simp only [List.setIfInBounds_toArray]); (try simp only [List.set_cons_succ]); (try simp only [List.set_cons_zero])
    refine wpAnyH_takeD (i := 29) (some 2) (v := ?_) rfl rfl (by kernel_rfl) (by kernel_rfl) (by kernel_rfl) (fun _ _ _ h => h) (Or.inl ⟨by rfl, ?_⟩) (by assumption) ?_
    rotate_left
    (focus (intro w hSw; (try dsimp only at hSw); (first | (go_simp; done) | (go_simp; with_reducible rfl) | with_reducible rfl)))
    (try simp only [Act.put]); (try simp only [List.setIfInBounds_toArray]); (try simp only [List.set_cons_succ]); (try simp only [List.set_cons_zero])
    refine wpAnyH_done (by kernel_rfl) ?_ _
    (try dsimp only)
    have H : w3.grownBy w7 none := (by (repeat (first | with_reducible exact gb_refl _ | with_reducible refine gb_alloc ?_ _ | with_reducible refine gb_drewN ?_ _ | with_reducible refine gb_drew ?_ | with_reducible refine gb_trans ?_ g4 | with_reducible refine gb_trans ?_ g5 | with_reducible refine gb_trans ?_ g6 | with_reducible refine gb_trans ?_ g7)))
    clear KX
    go_wp2
    go_ret
    exact ⟨rfl, gb_below (gb_trans G H)⟩
  · have hjn := Lib.hid (show jl.length = 32 by rw [← hjl.out]; exact jarM_32 (by rw [eq]; simp at q; omega))
    replace eq := Lib.hid eq
    refine wp_region_held_drew (S := (fun w' => ((w'.cell? ⟨w1.heap.size, 0, none⟩ = some (.slice aj nj cj)) ∧ (w'.cell? ⟨w1.heap.size + 1, 0, none⟩ = some (.int .i64 h) ∧ w'.cell? ⟨w1.heap.size + 1, 1, none⟩ = some (.int .i64 pt)) ∧ (w'.cell? ⟨w1.heap.size + 1 + 1, 0, none⟩ = some (.int .i64 kind) ∧ w'.cell? ⟨w1.heap.size + 1 + 1, 1, none⟩ = some (.int .i64 id) ∧ w'.cell? ⟨w1.heap.size + 1 + 1, 2, none⟩ = some (.slice a1 n1 c1) ∧ w'.cell? ⟨w1.heap.size + 1 + 1, 3, none⟩ = some (.slice a2 n2 c2) ∧ w'.cell? ⟨w1.heap.size + 1 + 1, 4, none⟩ = some (.int .i64 tick) ∧ w'.cell? ⟨w1.heap.size + 1 + 1, 5, none⟩ = some (.slice a3 n3 c3) ∧ w'.cell? ⟨w1.heap.size + 1 + 1, 6, none⟩ = some (.slice a4 n4 c4) ∧ w'.cell? ⟨w1.heap.size + 1 + 1, 7, none⟩ = some (.int .i64 epoch) ∧ w'.cell? ⟨w1.heap.size + 1 + 1, 8, none⟩ = some (.int .i64 seq) ∧ w'.cell? ⟨w1.heap.size + 1 + 1, 9, none⟩ = some (.slice a5 n5 c5) ∧ w'.cell? ⟨w1.heap.size + 1 + 1, 10, none⟩ = some (.slice a6 n6 c6))) ∧ w3.grownBy w' none)) (by kernel_rfl) ?_ (fun hHeld => ?_)
    · (try dsimp only)
      (refine KX.out _ ?_; (repeat (first | with_reducible exact gb_refl _ | with_reducible refine gb_alloc ?_ _ | with_reducible refine gb_drewN ?_ _ | with_reducible refine gb_drew ?_)))
    refine wpAnyH_takeD (i := 0) (some 26) (v := ?_) rfl rfl (by kernel_rfl) (by kernel_rfl) (by kernel_rfl) (fun _ _ _ h => h) (Or.inl ⟨by rfl, ?_⟩) (by assumption) ?_
    rotate_left
    (focus (intro w hSw; (try dsimp only at hSw); (first | (go_simp; done) | (go_simp; with_reducible rfl) | with_reducible rfl)))
    (try simp only [Act.put]); (try simp only [List.setIfInBounds_toArray]); (try simp only [List.set_cons_succ]); (try simp only [List.set_cons_zero])
    refine wpAnyH_takeD (i := 1) (some 27) (v := ?_) rfl rfl (by kernel_rfl) (by kernel_rfl) (by kernel_rfl) (fun _ _ _ h => h) (Or.inl ⟨by rfl, ?_⟩) (by assumption) ?_
    rotate_left
    (focus (intro w hSw; (try dsimp only at hSw); (first | (go_simp; done) | (go_simp; with_reducible rfl) | with_reducible rfl)))
    (try simp only [Act.put]); (try simp only [List.setIfInBounds_toArray]); (try simp only [List.set_cons_succ]); (try simp only [List.set_cons_zero])
    refine wpAnyH_takeD (i := 2) (some 28) (v := ?_) rfl rfl (by kernel_rfl) (by kernel_rfl) (by kernel_rfl) (fun _ _ _ h => h) (Or.inl ⟨by rfl, ?_⟩) (by assumption) ?_
    rotate_left
    (focus (intro w hSw; (try dsimp only at hSw); (first | (go_simp; done) | (go_simp; with_reducible rfl) | with_reducible rfl)))
    (try simp only [Act.put]); (try simp only [List.setIfInBounds_toArray]); (try simp only [List.set_cons_succ]); (try simp only [List.set_cons_zero])
    refine wpAnyH_takeD (i := 3) (some 29) (v := ?_) rfl rfl (by kernel_rfl) (by kernel_rfl) (by kernel_rfl) (fun _ _ _ h => h) (Or.inl ⟨by rfl, ?_⟩) (by assumption) ?_
    rotate_left
    (focus (intro w hSw; (try dsimp only at hSw); (first | (go_simp; done) | (go_simp; with_reducible rfl) | with_reducible rfl)))
    (try simp only [Act.put]); (try simp only [List.setIfInBounds_toArray]); (try simp only [List.set_cons_succ]); (try simp only [List.set_cons_zero])
    refine wpAnyH_takeD (i := 5) (some 31) (v := ?_) rfl rfl (by kernel_rfl) (by kernel_rfl) (by kernel_rfl) (fun _ _ _ h => h) (Or.inl ⟨by rfl, ?_⟩) (by assumption) ?_
    rotate_left
    (focus (intro w hSw; (try dsimp only at hSw); (first | (go_simp; done) | (go_simp; with_reducible rfl) | with_reducible rfl)))
    (try simp only [Act.put]); (try simp only [List.setIfInBounds_toArray]); (try simp only [List.set_cons_succ]); (try simp only [List.set_cons_zero])
    refine wpAnyH_takeD (i := 6) (some 32) (v := ?_) rfl rfl (by kernel_rfl) (by kernel_rfl) (by kernel_rfl) (fun _ _ _ h => h) (Or.inl ⟨by rfl, ?_⟩) (by assumption) ?_
    rotate_left
    (focus (intro w hSw; (try dsimp only at hSw); (first | (go_simp; done) | (go_simp; with_reducible rfl) | with_reducible rfl)))
    (try simp only [Act.put]); (try simp only [List.setIfInBounds_toArray]); (try simp only [List.set_cons_succ]); (try simp only [List.set_cons_zero])
    refine wpAnyH_takeD (i := 7) (some 33) (v := ?_) rfl rfl (by kernel_rfl) (by kernel_rfl) (by kernel_rfl) (fun _ _ _ h => h) (Or.inl ⟨by rfl, ?_⟩) (by assumption) ?_
    rotate_left
    (focus (intro w hSw; (try dsimp only at hSw); (first | (go_simp; done) | (go_simp; with_reducible rfl) | with_reducible rfl)))
    (try simp only [Act.put]); (try simp only [List.setIfInBounds_toArray]); (try simp only [List.set_cons_succ]); (try simp only [List.set_cons_zero])
    refine wpAnyH_takeD (i := 8) (some 34) (v := ?_) rfl rfl (by kernel_rfl) (by kernel_rfl) (by kernel_rfl) (fun _ _ _ h => h) (Or.inl ⟨by rfl, ?_⟩) (by assumption) ?_
    rotate_left
    (focus (intro w hSw; (try dsimp only at hSw); (first | (go_simp; done) | (go_simp; with_reducible rfl) | with_reducible rfl)))
    (try simp only [Act.put]); (try simp only [List.setIfInBounds_toArray]); (try simp only [List.set_cons_succ]); (try simp only [List.set_cons_zero])
    refine wpAnyH_ready (rs := [4]) (by kernel_rfl) (by simp) (AllReadyH.cons rfl (fun K hK => ?_) AllReadyH.nil)
    go_simp
    (go_at_call 15; refine (impl_Judge aj nj cj lj now h pt _ (⟨kind, id, l1, l2, tick, l3, l4, epoch, seq, l5, l6⟩ : FrameM) _ (rj.keep0 (by (repeat (first | with_reducible exact gb_refl _ | with_reducible refine gb_alloc ?_ _ | with_reducible refine gb_drewN ?_ _ | with_reducible refine gb_drew ?_)))) (R.keep0 (by (repeat (first | with_reducible exact gb_refl _ | with_reducible refine gb_alloc ?_ _ | with_reducible refine gb_drewN ?_ _ | with_reducible refine gb_drew ?_))))).mono ?_; rw [hJ.out]; rintro e w4 ⟨rfl, g4⟩; skip)
    go_wp2_with fail
    refine hK.out _ _ ?_ (fun hHeld2 => ?_)
    · (try dsimp only)
      (refine KX.out _ ?_; (repeat (first | with_reducible exact gb_refl _ | with_reducible refine gb_alloc ?_ _ | with_reducible refine gb_drewN ?_ _ | with_reducible refine gb_drew ?_ | with_reducible refine gb_trans ?_ g4)))
    clear hK K hHeld
    have hHeld := hHeld2
    clear hHeld2
    (try simp only [Act.put]); (try simp only [List.setIfInBounds_toArray]); (try simp only [List.set_cons_succ]); (try simp only [List.set_cons_zero])
    refine wpAnyH_ready (rs := [9]) (by kernel_rfl) (by simp) (AllReadyH.cons rfl (fun K hK => ?_) AllReadyH.nil)
    go_simp
    (go_at_call 20; refine (spec_Judge aj nj cj lj now h pt _ (⟨kind, id, l1, l2, tick, l3, l4, epoch, seq, l5, l6⟩ : FrameM) _ (rj.keep0 (by (repeat (first | with_reducible exact gb_refl _ | with_reducible refine gb_alloc ?_ _ | with_reducible refine gb_drewN ?_ _ | with_reducible refine gb_drew ?_ | with_reducible refine gb_trans ?_ g4)))) (R.keep0 (by (repeat (first | with_reducible exact gb_refl _ | with_reducible refine gb_alloc ?_ _ | with_reducible refine gb_drewN ?_ _ | with_reducible refine gb_drew ?_ | with_reducible refine gb_trans ?_ g4))))).mono ?_; rw [hJ.out]; rintro e w5 ⟨rfl, g5⟩; skip)
    go_wp2_with fail
    refine hK.out _ _ ?_ (fun hHeld2 => ?_)
    · (try dsimp only)
      (refine KX.out _ ?_; (repeat (first | with_reducible exact gb_refl _ | with_reducible refine gb_alloc ?_ _ | with_reducible refine gb_drewN ?_ _ | with_reducible refine gb_drew ?_ | with_reducible refine gb_trans ?_ g4 | with_reducible refine gb_trans ?_ g5)))
    clear hK K hHeld
    have hHeld := hHeld2
    clear hHeld2
    (try simp only [Act.put]); (try simp only [List.setIfInBounds_toArray]); (try simp only [List.set_cons_succ]); (try simp only [List.set_cons_zero])
    refine wpAnyH_takeD (i := 10) (some 36) (v := ?_) rfl rfl (by kernel_rfl) (by kernel_rfl) (by kernel_rfl) (fun _ _ _ h => h) (Or.inl ⟨by rfl, ?_⟩) (by assumption) ?_
    rotate_left
    (focus (intro w hSw; (try dsimp only at hSw); (first | (go_simp; done) | (go_simp; with_reducible rfl) | with_reducible rfl)))
    (try simp only [Act.put]); (try simp only [List.setIfInBounds_toArray]); (try simp only [List.set_cons_succ]); (try simp only [List.set_cons_zero])
    refine wpAnyH_takeD (i := 11) (some 37) (v := ?_) rfl rfl (by kernel_rfl) (by kernel_rfl) (by kernel_rfl) (fun _ _ _ h => h) (Or.inl ⟨by rfl, ?_⟩) (by assumption) ?_
    rotate_left
    (focus (intro w hSw; (try dsimp only at hSw); (first | (go_simp; done) | (go_simp; with_reducible rfl) | with_reducible rfl)))
    (try simp only [Act.put]); (try simp only [List.setIfInBounds_toArray]); (try simp only [List.set_cons_succ]); (try simp only [List.set_cons_zero])
    refine wpAnyH_takeD (i := 12) (some 38) (v := ?_) rfl rfl (by kernel_rfl) (by kernel_rfl) (by kernel_rfl) (fun _ _ _ h => h) (Or.inl ⟨by rfl, ?_⟩) (by assumption) ?_
    rotate_left
    (focus (intro w hSw; (try dsimp only at hSw); (first | (go_simp; done) | (go_simp; with_reducible rfl) | with_reducible rfl)))
    (try simp only [Act.put]); (try simp only [List.setIfInBounds_toArray]); (try simp only [List.set_cons_succ]); (try simp only [List.set_cons_zero])
    refine wpAnyH_takeD (i := 13) (some 39) (v := ?_) rfl rfl (by kernel_rfl) (by kernel_rfl) (by kernel_rfl) (fun _ _ _ h => h) (Or.inl ⟨by rfl, ?_⟩) (by assumption) ?_
    rotate_left
    (focus (intro w hSw; (try dsimp only at hSw); (first | (go_simp; done) | (go_simp; with_reducible rfl) | with_reducible rfl)))
    (try simp only [Act.put]); (try simp only [List.setIfInBounds_toArray]); (try simp only [List.set_cons_succ]); (try simp only [List.set_cons_zero])
    refine wpAnyH_takeD (i := 15) (some 41) (v := ?_) rfl rfl (by kernel_rfl) (by kernel_rfl) (by kernel_rfl) (fun _ _ _ h => h) (Or.inl ⟨by rfl, ?_⟩) (by assumption) ?_
    rotate_left
    (focus (intro w hSw; (try dsimp only at hSw); (first | (go_simp; done) | (go_simp; with_reducible rfl) | with_reducible rfl)))
    (try simp only [Act.put]); (try simp only [List.setIfInBounds_toArray]); (try simp only [List.set_cons_succ]); (try simp only [List.set_cons_zero])
    refine wpAnyH_takeD (i := 16) (some 42) (v := ?_) rfl rfl (by kernel_rfl) (by kernel_rfl) (by kernel_rfl) (fun _ _ _ h => h) (Or.inl ⟨by rfl, ?_⟩) (by assumption) ?_
    rotate_left
    (focus (intro w hSw; (try dsimp only at hSw); (first | (go_simp; done) | (go_simp; with_reducible rfl) | with_reducible rfl)))
    (try simp only [Act.put]); (try simp only [List.setIfInBounds_toArray]); (try simp only [List.set_cons_succ]); (try simp only [List.set_cons_zero])
    refine wpAnyH_ready (rs := [14]) (by kernel_rfl) (by simp) (AllReadyH.cons rfl (fun K hK => ?_) AllReadyH.nil)
    go_simp
    (go_at_call 16; refine (impl_Fresh _ _ _).mono ?_; rw [hf.out]; rintro e w' ⟨rfl, rfl⟩; skip)
    go_wp2_with fail
    refine hK.out _ _ ?_ (fun hHeld2 => ?_)
    · (try dsimp only)
      (refine KX.out _ ?_; (repeat (first | with_reducible exact gb_refl _ | with_reducible refine gb_alloc ?_ _ | with_reducible refine gb_drewN ?_ _ | with_reducible refine gb_drew ?_ | with_reducible refine gb_trans ?_ g4 | with_reducible refine gb_trans ?_ g5)))
    clear hK K hHeld
    have hHeld := hHeld2
    clear hHeld2
    (try simp only [Act.put]); (try simp only [List.setIfInBounds_toArray]); (try simp only [List.set_cons_succ]); (try simp only [List.set_cons_zero])
    refine wpAnyH_ready (rs := [17]) (by kernel_rfl) (by simp) (AllReadyH.cons rfl (fun K hK => ?_) AllReadyH.nil)
    go_simp
    (go_at_call 21; refine (spec_Fresh _ _ _).mono ?_; rw [hf.out]; rintro e w' ⟨rfl, rfl⟩; skip)
    go_wp2_with fail
    refine hK.out _ _ ?_ (fun hHeld2 => ?_)
    · (try dsimp only)
      (refine KX.out _ ?_; (repeat (first | with_reducible exact gb_refl _ | with_reducible refine gb_alloc ?_ _ | with_reducible refine gb_drewN ?_ _ | with_reducible refine gb_drew ?_ | with_reducible refine gb_trans ?_ g4 | with_reducible refine gb_trans ?_ g5)))
    clear hK K hHeld
    have hHeld := hHeld2
    clear hHeld2
    (try simp only [Act.put]); (try simp only [List.setIfInBounds_toArray]); (try simp only [List.set_cons_succ]); (try simp only [List.set_cons_zero])
    refine wpAnyH_takeD (i := 18) (some 44) (v := ?_) rfl rfl (by kernel_rfl) (by kernel_rfl) (by kernel_rfl) (fun _ _ _ h => h) (Or.inl ⟨by rfl, ?_⟩) (by assumption) ?_
    rotate_left
    (focus (intro w hSw; (try dsimp only at hSw); (first | (go_simp; done) | (go_simp; with_reducible rfl) | with_reducible rfl)))
    (try simp only [Act.put]); (try simp only [List.setIfInBounds_toArray]); (try simp only [List.set_cons_succ]); (try simp only [List.set_cons_zero])
    refine wpAnyH_takeD (i := 19) (some 45) (v := ?_) rfl rfl (by kernel_rfl) (by kernel_rfl) (by kernel_rfl) (fun _ _ _ h => h) (Or.inl ⟨by rfl, ?_⟩) (by assumption) ?_
    rotate_left
    (focus (intro w hSw; (try dsimp only at hSw); (first | (go_simp; done) | (go_simp; with_reducible rfl) | with_reducible rfl)))
    (try simp only [Act.put]); (try simp only [List.setIfInBounds_toArray]); (try simp only [List.set_cons_succ]); (try simp only [List.set_cons_zero])
    refine wpAnyH_takeD (i := 20) (some 46) (v := ?_) rfl rfl (by kernel_rfl) (by kernel_rfl) (by kernel_rfl) (fun _ _ _ h => h) (Or.inl ⟨by rfl, ?_⟩) (by assumption) ?_
    rotate_left
    (focus (intro w hSw; (try dsimp only at hSw); (first | (go_simp; done) | (go_simp; with_reducible rfl) | with_reducible rfl)))
    (try simp only [Act.put]); (try simp only [List.setIfInBounds_toArray]); (try simp only [List.set_cons_succ]); (try simp only [List.set_cons_zero])
    refine wpAnyH_takeD (i := 21) (some 47) (v := ?_) rfl rfl (by kernel_rfl) (by kernel_rfl) (by kernel_rfl) (fun _ _ _ h => h) (Or.inl ⟨by rfl, ?_⟩) (by assumption) ?_
    rotate_left
    (focus (intro w hSw; (try dsimp only at hSw); (first | (go_simp; done) | (go_simp; with_reducible rfl) | with_reducible rfl)))
    (try simp only [Act.put]); (try simp only [List.setIfInBounds_toArray]); (try simp only [List.set_cons_succ]); (try simp only [List.set_cons_zero])
    refine wpAnyH_takeD (i := 24) (some 50) (v := ?_) rfl rfl (by kernel_rfl) (by kernel_rfl) (by kernel_rfl) (fun _ _ _ h => h) (Or.inl ⟨by rfl, ?_⟩) (by assumption) ?_
    rotate_left
    (focus (intro w hSw; (try dsimp only at hSw); (first | (go_simp; done) | (go_simp; with_reducible rfl) | with_reducible rfl)))
    (try simp only [Act.put]); (try simp only [List.setIfInBounds_toArray]); (try simp only [List.set_cons_succ]); (try simp only [List.set_cons_zero])
    refine wpAnyH_takeD (i := 25) (some 51) (v := ?_) rfl rfl (by kernel_rfl) (by kernel_rfl) (by kernel_rfl) (fun _ _ _ h => h) (Or.inl ⟨by rfl, ?_⟩) (by assumption) ?_
    rotate_left
    (focus (intro w hSw; (try dsimp only at hSw); (first | (go_simp; done) | (go_simp; with_reducible rfl) | with_reducible rfl)))
    (try simp only [Act.put]); (try simp only [List.setIfInBounds_toArray]); (try simp only [List.set_cons_succ]); (try simp only [List.set_cons_zero])
    refine wpAnyH_takeD (i := 26) (some 52) (v := ?_) rfl rfl (by kernel_rfl) (by kernel_rfl) (by kernel_rfl) (fun _ _ _ h => h) (Or.inl ⟨by rfl, ?_⟩) (by assumption) ?_
    rotate_left
    (focus (intro w hSw; (try dsimp only at hSw); (first | (go_simp; done) | (go_simp; with_reducible rfl) | with_reducible rfl)))
    (try simp only [Act.put]); (try simp only [List.setIfInBounds_toArray]); (try simp only [List.set_cons_succ]); (try simp only [List.set_cons_zero])
    refine wpAnyH_ready (rs := [22]) (by kernel_rfl) (by simp) (AllReadyH.cons rfl (fun K hK => ?_) AllReadyH.nil)
    go_simp
    (go_at_call 22; refine (impl_JarNew aq nq cq lq _ (rq.keep0 (by (repeat (first | with_reducible exact gb_refl _ | with_reducible refine gb_alloc ?_ _ | with_reducible refine gb_drewN ?_ _ | with_reducible refine gb_drew ?_ | with_reducible refine gb_trans ?_ g4 | with_reducible refine gb_trans ?_ g5))))).mono ?_; rw [hjl.out]; rintro e w6 ⟨v6, rfl, o6, g6⟩; obtain ⟨a7, n7, c7, rfl, o7, -⟩ := o6; simp only at o7; obtain rfl : n7 = 32 := o7.blen.symm.trans hjn.out; skip)
    go_wp2_with fail
    refine hK.out _ _ ?_ (fun hHeld2 => ?_)
    · (try dsimp only)
      (refine KX.out _ ?_; (repeat (first | with_reducible exact gb_refl _ | with_reducible refine gb_alloc ?_ _ | with_reducible refine gb_drewN ?_ _ | with_reducible refine gb_drew ?_ | with_reducible refine gb_trans ?_ g4 | with_reducible refine gb_trans ?_ g5 | with_reducible refine gb_trans ?_ g6)))
    clear hK K hHeld
    have hHeld := hHeld2
    clear hHeld2
    (try simp only [Act.put]); (try simp only [List.setIfInBounds_toArray]); (try simp only [List.set_cons_succ]); (try simp only [List.set_cons_zero])
    refine wpAnyH_ready (rs := [23]) (by kernel_rfl) (by simp) (AllReadyH.cons rfl (fun K hK => ?_) AllReadyH.nil)
    go_simp
    (go_at_call 11; refine (impl_JarOk a7 _ c7 _).mono ?_; rintro e w7 ⟨rfl, g7⟩; skip)
    go_wp2_with fail
    refine hK.out _ _ ?_ (fun hHeld2 => ?_)
    · (try dsimp only)
      (refine KX.out _ ?_; (repeat (first | with_reducible exact gb_refl _ | with_reducible refine gb_alloc ?_ _ | with_reducible refine gb_drewN ?_ _ | with_reducible refine gb_drew ?_ | with_reducible refine gb_trans ?_ g4 | with_reducible refine gb_trans ?_ g5 | with_reducible refine gb_trans ?_ g6 | with_reducible refine gb_trans ?_ g7)))
    clear hK K hHeld
    have hHeld := hHeld2
    clear hHeld2
    (try simp only [Act.put]); (try simp only [List.setIfInBounds_toArray]); (try simp only [List.set_cons_succ]); (try simp only [List.set_cons_zero])
    refine wpAnyH_takeD (i := 27) (some 53) (v := ?_) rfl rfl (by kernel_rfl) (by kernel_rfl) (by kernel_rfl) (fun _ _ _ h => h) (Or.inl ⟨by rfl, ?_⟩) (by assumption) ?_
    rotate_left
    (focus (intro w hSw; (try dsimp only at hSw); (first | (go_simp; done) | (go_simp; with_reducible rfl) | with_reducible rfl)))
    (try simp only [Act.put]); (try simp only [List.setIfInBounds_toArray]); (try simp only [List.set_cons_succ]); (try simp only [List.set_cons_zero])
    refine wpAnyH_takeD (i := 28) (some 54) (v := ?_) rfl rfl (by kernel_rfl) (by kernel_rfl) (by kernel_rfl) (fun _ _ _ h => h) (Or.inl ⟨by rfl, ?_⟩) (by assumption) ?_
    rotate_left
    (focus (intro w hSw; (try dsimp only at hSw); (first | (go_simp; done) | (go_simp; with_reducible rfl) | with_reducible rfl)))
    (try simp only [Act.put]); (try simp only [List.setIfInBounds_toArray]); (try simp only [List.set_cons_succ]); (try simp only [List.set_cons_zero])
    refine wpAnyH_takeD (i := 29) (some 2) (v := ?_) rfl rfl (by kernel_rfl) (by kernel_rfl) (by kernel_rfl) (fun _ _ _ h => h) (Or.inl ⟨by rfl, ?_⟩) (by assumption) ?_
    rotate_left
    (focus (intro w hSw; (try dsimp only at hSw); (first | (go_simp; done) | (go_simp; with_reducible rfl) | with_reducible rfl)))
    (try simp only [Act.put]); (try simp only [List.setIfInBounds_toArray]); (try simp only [List.set_cons_succ]); (try simp only [List.set_cons_zero])
    refine wpAnyH_done (by kernel_rfl) ?_ _
    (try dsimp only)
    have H : w3.grownBy w7 none := (by (repeat (first | with_reducible exact gb_refl _ | with_reducible refine gb_alloc ?_ _ | with_reducible refine gb_drewN ?_ _ | with_reducible refine gb_drew ?_ | with_reducible refine gb_trans ?_ g4 | with_reducible refine gb_trans ?_ g5 | with_reducible refine gb_trans ?_ g6 | with_reducible refine gb_trans ?_ g7)))
    clear KX
    go_wp2
    go_ret
    exact ⟨rfl, gb_below (gb_trans G H)⟩
set_option maxRecDepth 100000 in
theorem lifted (os : Os) (started : os.Started) (H : Type) (enc : TypeId × Value → H) :
    ReturnsInHanded {} Try.checked os 4 .any (Rows.fnJudgesSpec.pre6 enc Try.prog Try.f4 Rows.fnJudgesRow.domain false) (Rows.fnJudgesSpec.post enc Try.prog Try.f4 false true false false) := by
  refine returnsInHanded_of_change (C := Try.checked) own started (by kernel_rfl) Try.func4
    (ChangeSpec.witness6 (enc := enc) (C := Try.checked) false ⟨#[], #[.slice none 0 0], []⟩ 8 (by kernel_rfl) (by kernel_rfl) (by kernel_rfl) (by kernel_rfl)) ?_
  intro W base args ds gs before hval0 hW _ _
  have hval : ∀ (j : Nat) t v, Try.f4.params[j]? = some t → args[j]? = some v → Value.okWide Try.prog W .any base t v := hval0
  have hW2 := hW
  obtain ⟨p, q, hA0, hV, hps, _, _⟩ := hW
  have hA : DataW.TrodAll enc Try.prog W 0 (fun _ => true) true Try.f4.params.toList args.toList ds p := hA0
  rw [Try.params4] at hA hval
  obtain ⟨rfl, rfl⟩ := trodVars_none hV
  obtain ⟨v0, vs0, d0, ds0, p0, q0, hargs, rfl, rfl, h0, r0⟩ := trodAll_cons hA
  obtain ⟨rfl, rfl, rfl⟩ := trodAll_nil r0
  obtain rfl : args = #[v0] := by cases args; simp_all
  have i0 := open_B (hval 0 22 v0 rfl rfl) h0
  clear hA0 hval0
  refine (walk W v0 i0).mono fun e W2 ⟨he, hb⟩ => ?_
  subst he
  exact ⟨_, rfl, law_post (tb := 4) laidOut (by kernel_rfl) (by kernel_rfl) Try.underlying4 rfl ⟨rfl, rfl, rfl⟩ hW2 hb⟩
theorem over : Rows.fnJudgesRow.holds Try.pinned (OpenSpec.ofChange Rows.fnJudgesSpec) :=
  OpenClaim.holds_of_wide 4 Try.f4 rfl rfl rfl rfl rfl rfl rfl ⟨rfl, rfl, rfl, rfl, rfl⟩ rfl rfl rfl rfl rfl (by kernel_rfl) Try.func4 (by kernel_rfl)
    (of_decide_eq_true (by kernel_rfl)) (by unfold Func.isWrapper; first | (rw [if_pos (by decide +kernel)]; kernel_rfl) | (rw [if_neg (by decide +kernel)]; exact ⟨rfl, rfl⟩))
    (fun os started H enc _ => lifted os started H enc)
theorem proved : Rows.FnJudgesSaid :=
  over
#print axioms proved
end Go.Proofs.Ytjdaafemfpafdaa.lJudges

