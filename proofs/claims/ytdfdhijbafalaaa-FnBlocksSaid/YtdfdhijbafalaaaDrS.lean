/-
  Draws of a block and of eight words. Conditions: none beside those that each theorem names.
-/
import Derived.Test.YtdfdhijbafalaaaDrN
import Derived.Test.YtdfdhijbafalaaaShaN
namespace Go.Proofs.Ytdfdhijbafalaaa
open Go.RowKit
def PSc (w : World) (e : Ending) (w' : World) : Prop := ∃ a n c l, e = .returned (.slice a n c) ∧ Rd w' a n c (bys l) ∧ n ≤ 256 ∧ w.grownBy w' none
set_option maxRecDepth 1000000 in
theorem spec_DrawSchedule (a : Option Addr) (n c : Nat) (l : List UInt8) (w : World) (r : Rd w a n c (bys l)) (hn : n ≤ 1048576) : Calls Try.prog 19 #[.slice a n c] w (PSc w) := by
  have hp : 0 < n → ∀ p, a = some p → p.block < w.heap.size := by
    intro h0 p hp
    obtain ⟨b, off, h1, h2, -⟩ := r.pos h0
    rw [h1] at hp
    cases hp
    exact h2
  go_enter Try.func19, Try.ntmps19
  go_wp2_with (first
    | (go_at_call 32; refine (spec_l1New a n c l w.heap.size _ r hn hp (Nat.le_refl _)).mono ?_; rintro e w1 ⟨cb, rfl, cu, hc, g⟩; have D := DS.init cu g)
    | (go_at_call 43; (first | (with_reducible refine d_l1Bytes D ?_ ?_) | (with_reducible refine d_l1Bytes (D.set0 _ _) ?_ ?_) | (with_reducible refine d_l1Bytes (D.box _ _) ?_ ?_) | (with_reducible refine d_l1Bytes ((D.set0 _ _).set0 _ _) ?_ ?_) | (with_reducible refine d_l1Bytes ((D.box _ _).set0 _ _) ?_ ?_)); (focus (first | omega | (have h9 := ofL.le hi (b := 256) (by decide); omega))); clear D; intro w1 a n c l hn D; (try clear kc kf); (try simp only [List.setIfInBounds_toArray, List.set_cons_succ, List.set_cons_zero] at D); (try (have kc := fun o => DS.cell0 D o; have kf := fun o => DS.frz0 D o))) | (go_at_call 44; (first | (with_reducible refine d_l1Int D ?_ ?_ ?_ ?_ ?_ ?_) | (with_reducible refine d_l1Int (D.set0 _ _) ?_ ?_ ?_ ?_ ?_ ?_) | (with_reducible refine d_l1Int (D.box _ _) ?_ ?_ ?_ ?_ ?_ ?_) | (with_reducible refine d_l1Int ((D.set0 _ _).set0 _ _) ?_ ?_ ?_ ?_ ?_ ?_) | (with_reducible refine d_l1Int ((D.box _ _).set0 _ _) ?_ ?_ ?_ ?_ ?_ ?_)); (focus (first | rfl | (simp; done))); (focus (exact rfl)); (focus rfl); (focus decide); (focus decide); clear D; intro w1 x hi D; (try clear kc kf); (try simp only [List.setIfInBounds_toArray, List.set_cons_succ, List.set_cons_zero] at D); (try (have kc := fun o => DS.cell0 D o; have kf := fun o => DS.frz0 D o))))
  go_ret
  exact ⟨_, _, _, _, rfl, D.r0, (D.rs _ (List.mem_cons_self ..)).2.2, D.gb hc⟩
theorem NS.set {B cb g n c : Nat} {w0 w : World} {l : List Int} (N : NS B cb w0 w (some ⟨g, 0, none⟩) n c l) (j : Nat) (x : Int) : NS B cb w0 (w.setCell ⟨g, j, none⟩ (.int .i64 x)) (some ⟨g, 0, none⟩) n c (l.set j x) := by
  have hg := (N.ow.lt _ rfl).1
  have hc := N.cur.le
  have hl := N.lt
  simp only at hg
  exact ⟨N.cur.keepI (gbI_set (p := ⟨g, j, none⟩) (gbI.refl g (g + 1) w) (.inr ⟨Nat.le_refl _, Nat.lt_succ_self _⟩) _) (by omega) (.inl (by omega)), N.dr.set (p := ⟨g, j, none⟩) hg _, by
    have h9 := N.ow.set j (.int .i64 x)
    rw [ins_set] at h9
    exact h9, N.lt⟩
theorem Rd.takeZ {a : Option Addr} {n c : Nat} {l : List Int} {w : World} (r : Rd w a n c (ins l)) (M : Nat) (h : M ≤ n) : Rd w a M c (ins (l.take M)) := by
  have hl := r.ilen
  refine ⟨by rw [ins_len, List.length_take]; omega, by have := r.le; omega, fun j hj => ?_⟩
  obtain ⟨b, off, e, hc⟩ := r.cells j (by omega)
  exact ⟨b, off, e, by rw [hc, ins, ins, List.getElem?_map, List.getElem?_map, List.getElem?_take, if_pos hj]⟩
def PIs (B cb : Nat) (w : World) (e : Ending) (w' : World) : Prop := ∃ a n c l, e = .returned (.slice a n c) ∧ Rd w' a n c (ins l) ∧ (∀ p, a = some p → w.heap.size ≤ p.block) ∧ n ≤ 8 ∧ DE B cb w w'
set_option maxRecDepth 1000000 in
set_option maxHeartbeats 4000000 in
theorem spec_l2H (B cb : Nat) (w : World) (h : Cur B w cb) : Calls Try.prog 46 #[.pointer (some ⟨cb, 0, none⟩)] w (PIs B cb w) := by
  have hcb := h.lt
  go_enter Try.func46, Try.ntmps46
  go_wp2_with (go_at_call 62; refine (spec_Start _).mono ?_; rintro e w1 ⟨a, c, rfl, o, g⟩; have N : NS B cb w w1 a 8 c (startL.map fun x : Nat => (x : Int)) := ⟨h.keep0 g, Dr.of0 g, o, hcb⟩; clear o g)
  obtain ⟨g, rfl⟩ := N.ow.head (by decide)
  have h8 : 8 ≤ c := N.ow.le
  go_loopw [4] (fun i wr => ∃ (j : Nat) (l : List Int), j ≤ 8 ∧ i = .int .i64 (j : Int) ∧ NS B cb w wr (some ⟨g, 0, none⟩) 8 c l) (fun i _ => 8 - (intOf i).toNat)
  case atStart => exact ⟨0, _, by omega, rfl, N⟩
  case round =>
    clear N
    obtain ⟨j, l, hj, rfl, N⟩ := hrel
    by_cases hlt : j < 8
    · go_wp2_with (first | (go_at_call 57; (with_reducible refine d_l1Below N.ds ?_); intro w1 z hz D; replace N := N.by D.de; clear D) | ((go_at_call 61; (with_reducible refine (spec_l1Byte B cb _ N.cur).mono ?_); rintro e w1 ⟨k, hk, rfl, cu, d⟩; replace N := N.by ⟨cu, d⟩; clear cu d); obtain ⟨hf, u, hcu, -⟩ := N.ow.at j hlt))
      refine ⟨⟨j + 1, _, by omega, by go_num, N.set j _⟩, by simp [intOf]; omega⟩
    · obtain rfl : j = 8 := by omega
      go_wp2_with (first | (go_at_call 57; (with_reducible refine d_l1Below N.ds ?_); intro w1 z hz D; replace N := N.by D.de; clear D) | ((go_at_call 44; (with_reducible refine d_l1Int N.ds ?_ ?_ ?_ ?_ ?_ ?_); (focus (first | rfl | (simp; done))); (focus (exact rfl)); (focus rfl); (focus decide); (focus decide); intro w1 u hi D; replace N := N.by D.de; clear D hi); obtain ⟨hf, u', hcu, -⟩ := N.ow.at z (by omega)))
      all_goals first
        | (go_ret; exact ⟨_, _, _, _, rfl, N.ow.rd.takeZ 7 (by decide), fun p hp => (N.ow.lt p hp).1, by decide, N.cur, N.dr⟩)
        | (go_ret; (have M := N.set z u); exact ⟨_, _, _, _, rfl, M.ow.rd, fun p hp => (M.ow.lt p hp).1, by decide, M.cur, M.dr⟩)
        | (go_ret; exact ⟨_, _, _, _, rfl, N.ow.rd, fun p hp => (N.ow.lt p hp).1, by decide, N.cur, N.dr⟩)
def PCm (w : World) (e : Ending) (w' : World) : Prop := ∃ a n c l b m d k, e = .returned (.tuple #[.slice a n c, .slice b m d]) ∧ Rd w' a n c (ins l) ∧ Rd w' b m d (bys k) ∧ (n ≤ 256 ∧ m ≤ 256) ∧ w.grownBy w' none
set_option maxRecDepth 1000000 in
theorem spec_DrawCompress (a : Option Addr) (n c : Nat) (l : List UInt8) (w : World) (r : Rd w a n c (bys l)) (hn : n ≤ 1048576) : Calls Try.prog 21 #[.slice a n c] w (PCm w) := by
  have hp : 0 < n → ∀ p, a = some p → p.block < w.heap.size := by
    intro h0 p hp
    obtain ⟨b, off, h1, h2, -⟩ := r.pos h0
    rw [h1] at hp
    cases hp
    exact h2
  go_enter Try.func21, Try.ntmps21
  go_wp2_with (first
    | (go_at_call 32; refine (spec_l1New a n c l w.heap.size _ r hn hp (Nat.le_refl _)).mono ?_; rintro e w1 ⟨cb, rfl, cu, hc, g⟩; have D := DS.init cu g)
    | (go_at_call 46; (with_reducible refine (spec_l2H _ cb _ D.cur).mono ?_); rintro e w2 ⟨a2, n2, c2, l2, rfl, r2, hb2, hm2, E⟩; replace D := D.addF (D.by E) r2 (fun _ => hb2) (by omega); clear r2 hb2 E)
    | (go_at_call 43; (first | (with_reducible refine d_l1Bytes D ?_ ?_) | (with_reducible refine d_l1Bytes (D.set0 _ _) ?_ ?_) | (with_reducible refine d_l1Bytes (D.box _ _) ?_ ?_) | (with_reducible refine d_l1Bytes ((D.set0 _ _).set0 _ _) ?_ ?_) | (with_reducible refine d_l1Bytes ((D.box _ _).set0 _ _) ?_ ?_)); (focus (first | omega | (have h9 := ofL.le hi (b := 256) (by decide); omega))); clear D; intro w1 a n c l hn D; (try clear kc kf); (try simp only [List.setIfInBounds_toArray, List.set_cons_succ, List.set_cons_zero] at D); (try (have kc := fun o => DS.cell0 D o; have kf := fun o => DS.frz0 D o))) | (go_at_call 44; (first | (with_reducible refine d_l1Int D ?_ ?_ ?_ ?_ ?_ ?_) | (with_reducible refine d_l1Int (D.set0 _ _) ?_ ?_ ?_ ?_ ?_ ?_) | (with_reducible refine d_l1Int (D.box _ _) ?_ ?_ ?_ ?_ ?_ ?_) | (with_reducible refine d_l1Int ((D.set0 _ _).set0 _ _) ?_ ?_ ?_ ?_ ?_ ?_) | (with_reducible refine d_l1Int ((D.box _ _).set0 _ _) ?_ ?_ ?_ ?_ ?_ ?_)); (focus (first | rfl | (simp; done))); (focus (exact rfl)); (focus rfl); (focus decide); (focus decide); clear D; intro w1 x hi D; (try clear kc kf); (try simp only [List.setIfInBounds_toArray, List.set_cons_succ, List.set_cons_zero] at D); (try (have kc := fun o => DS.cell0 D o; have kf := fun o => DS.frz0 D o))))
  refine' bodyPost_ret ?_ rfl ?_; rotate_left; (focus (simp [results, Try.results21, go_sem]; rfl))
  exact ⟨_, _, _, _, _, _, _, _, rfl, D.tl.r0, D.r0, ⟨(D.tl.rs _ (List.mem_cons_self ..)).2.2, (D.rs _ (List.mem_cons_self ..)).2.2⟩, D.gb hc⟩
end Go.Proofs.Ytdfdhijbafalaaa
