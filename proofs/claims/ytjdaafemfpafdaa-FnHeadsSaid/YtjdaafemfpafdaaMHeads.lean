/-
  FnHeads returns true for every code; with the draws and the small functions that this law alone asks for. Conditions: none.
-/
import Derived.Test.YtjdaafemfpafdaaTagI
import Derived.Test.YtjdaafemfpafdaaShaP
import Derived.Test.YtjdaafemfpafdaaDrw
import Derived.Test.YtjdaafemfpafdaaHelpS
import Derived.Test.YtjdaafemfpafdaaLawH
import Derived.Test.YtjdaafemfpafdaaMac
import Derived.Test.YtjdaafemfpafdaaGet
import Derived.Test.YtjdaafemfpafdaaDrF2
import Derived.Test.YtjdaafemfpafdaaDrO
import Derived.Test.YtjdaafemfpafdaaPlSeal
import Derived.Test.YtjdaafemfpafdaaLaw
import Derived.Deep.RegionHeld3
import Derived.Deep.RegionWith
import Derived.IntWalk
/-
  Plain laws on heads: a number's bytes tell the number; heads of unlike epochs, numbers or roles are unlike; what a tag is of begins with its head. Conditions: none beside those that each theorem names.
-/
namespace Go.Proofs.Ytjdaafemfpafdaa
open Go.RowKit
theorem foldl_num (l : List UInt8) : ∀ a : Nat, l.foldl (fun n x => 256 * n + x.toNat) a = a * 256 ^ l.length + num l := by
  induction l with
  | nil => intro a; simp [num]
  | cons x l ih =>
    intro a
    have h1 := ih (256 * a + x.toNat)
    have h2 := ih (256 * 0 + x.toNat)
    simp only [num, List.foldl_cons, List.length_cons] at h1 h2 ⊢
    rw [h1, h2, Nat.pow_succ, Nat.add_mul, Nat.mul_zero, Nat.zero_add, Nat.mul_comm 256 a, Nat.mul_assoc, Nat.mul_comm 256 (256 ^ l.length)]
    omega
theorem num_cons (x : UInt8) (l : List UInt8) : num (x :: l) = x.toNat * 256 ^ l.length + num l := by
  have := foldl_num l x.toNat
  rw [← this]
  simp [num]
theorem num_be (n : Nat) : ∀ k, num (be n k) = n % 256 ^ k
  | 0 => by simp [be, num, Nat.mod_one]
  | k + 1 => by
    have h1 : n % 256 ^ (k + 1) = n % 256 ^ k + 256 ^ k * (n / 256 ^ k % 256) := by rw [Nat.pow_succ, Nat.mod_mul]
    have h2 : (2 : Nat) ^ (8 * k) = 256 ^ k := by rw [Nat.pow_mul]
    rw [be, num_cons, be_len, num_be n k, UInt8.toNat_ofNat', h1, h2, Nat.mul_comm, Nat.add_comm]
theorem be_inj {n m k : Nat} (hn : n < 256 ^ k) (hm : m < 256 ^ k) (h : be n k = be m k) : n = m := by
  have := congrArg num h
  rwa [num_be, num_be, Nat.mod_eq_of_lt hn, Nat.mod_eq_of_lt hm] at this
theorem headM_ok {role : Int} {sn : List UInt8} {epoch seq : Int} (h : headOk role sn.length epoch seq = true) : headM role sn epoch seq = [b8 role] ++ sn ++ be epoch.toNat 4 ++ be seq.toNat 6 := by rw [headM, if_pos h]
theorem headOk_iff {role : Int} {n : Nat} {epoch seq : Int} : headOk role n epoch seq = true ↔ (0 ≤ role ∧ role ≤ 1) ∧ n = 12 ∧ (0 ≤ epoch ∧ epoch ≤ 4294967295) ∧ (0 ≤ seq ∧ seq ≤ 281474976710655) := by
  simp only [headOk, roleB, Bool.and_eq_true, inB_iff, beq_iff_eq]
  omega
theorem headM_len23 {role : Int} {sn : List UInt8} {epoch seq : Int} (h : headOk role sn.length epoch seq = true) : (headM role sn epoch seq).length = 23 := by
  have := (headOk_iff.1 h).2.1
  rw [headM_ok h]
  simp [be_len]
  omega
theorem headM_nil {role : Int} {sn : List UInt8} {epoch seq : Int} (h : headOk role sn.length epoch seq = false) : headM role sn epoch seq = [] := by rw [headM, h]; rfl
theorem head_role {role : Int} {sn : List UInt8} {epoch seq : Int} (h : headOk role sn.length epoch seq = true) : headM role sn epoch seq ≠ headM (1 - role) sn epoch seq := by
  have h1 := headOk_iff.1 h
  have h2 : headOk (1 - role) sn.length epoch seq = true := headOk_iff.2 (by omega)
  rw [headM_ok h, headM_ok h2]
  intro e
  have e1 := congrArg (fun l : List UInt8 => (l.headD 0).toNat) e
  simp only [List.append_assoc, List.cons_append, List.headD_cons] at e1
  have v1 := b8_val (x := role) (by omega) (by omega)
  have v2 := b8_val (x := 1 - role) (by omega) (by omega)
  omega
theorem head_eq {role : Int} {sn : List UInt8} {epoch seq e s : Int} (h : headOk role sn.length epoch seq = true) (he : 0 ≤ e ∧ e < 256) (hs : 0 ≤ s ∧ s < 256) : headM role sn epoch seq = headM role sn e s ↔ e = epoch ∧ s = seq := by
  have h1 := headOk_iff.1 h
  have h2 : headOk role sn.length e s = true := headOk_iff.2 (by omega)
  constructor
  · intro q
    rw [headM_ok h, headM_ok h2] at q
    obtain ⟨q1, q2⟩ := List.append_inj' q (by simp [be_len])
    obtain ⟨q3, q4⟩ := List.append_inj' q1 (by simp [be_len])
    have a1 := be_inj (k := 4) (by omega) (by omega) q4
    have a2 := be_inj (k := 6) (by omega) (by omega) q2
    omega
  · rintro ⟨rfl, rfl⟩
    rfl
theorem tagIn_parts {r : Int} {f : FrameM} (h : tagInM r f ≠ []) : headOk r f.sn.length f.epoch f.seq = true ∧ tagInM r f = [116] ++ headM r f.sn f.epoch f.seq ++ [b8 f.kind] ++ f.body := by
  unfold tagInM at h ⊢
  split at h
  · rename_i h1
    rw [if_pos h1]
    simp only [Bool.and_eq_true] at h1
    obtain ⟨⟨h2, h3⟩, h4⟩ := h1
    refine ⟨?_, rfl⟩
    simp only [frOk, frOkN, h3, if_true, Bool.and_eq_true, inB_iff] at h4
    obtain ⟨⟨⟨⟨⟨⟨⟨⟨⟨a1, a2⟩, a3⟩, a4⟩, a5⟩, a6⟩, a7⟩, a8⟩, a9⟩, a10⟩ := h4
    have := eqN_iff (m := 12).1 a3
    simp only [roleB, inB_iff] at h2
    exact headOk_iff.2 ⟨h2, this, a7, a8⟩
  · exact absurd rfl h
theorem tagIn_len25 {r : Int} {f : FrameM} (h : tagInM r f ≠ []) : (tagInM r f).length = 25 + f.body.length := by
  obtain ⟨h1, h2⟩ := tagIn_parts h
  rw [h2]
  simp [headM_len23 h1]
  omega
end Go.Proofs.Ytjdaafemfpafdaa

/-
  Draws of heads. Conditions: none beside those that each theorem names.
-/
namespace Go.Proofs.Ytjdaafemfpafdaa
open Go.RowKit
def PHd (w : World) (e : Ending) (w' : World) : Prop := ∃ role a n c l ep sq, e = .returned (.tuple #[.int .i64 role, .slice a n c, .int .i64 ep, .int .i64 sq]) ∧ Rd w' a n c (bys l) ∧ n ≤ 256 ∧ w.grownBy w' none
set_option maxRecDepth 1000000 in
theorem spec_DrawHeadOf (a : Option Addr) (n c : Nat) (l : List UInt8) (w : World) (r : Rd w a n c (bys l)) (hn : n ≤ 1048576) : Calls Try.prog 23 #[.slice a n c] w (PHd w) := by
  have hp : 0 < n → ∀ p, a = some p → p.block < w.heap.size := by
    intro h0 p hp
    obtain ⟨b, off, h1, h2, -⟩ := r.pos h0
    rw [h1] at hp
    cases hp
    exact h2
  go_enter Try.func23, Try.ntmps23
  go_wp2_with (first
    | (go_at_call 30; refine (spec_l1New a n c l w.heap.size _ r hn hp (Nat.le_refl _)).mono ?_; rintro e w1 ⟨cb, rfl, cu, hc, g⟩; have D := DS.init cu g)
    | (go_at_call 33; (first | (with_reducible refine d_l1Bytes D ?_ ?_) | (with_reducible refine d_l1Bytes (D.set0 _ _) ?_ ?_) | (with_reducible refine d_l1Bytes (D.box _ _) ?_ ?_) | (with_reducible refine d_l1Bytes ((D.set0 _ _).set0 _ _) ?_ ?_) | (with_reducible refine d_l1Bytes ((D.box _ _).set0 _ _) ?_ ?_)); (focus (first | omega | (have h9 := ofL.le hi (b := 256) (by decide); omega))); clear D; intro w1 a n c l hn D; (try clear kc kf); (try simp only [List.setIfInBounds_toArray, List.set_cons_succ, List.set_cons_zero] at D); (try (have kc := fun o => DS.cell0 D o; have kf := fun o => DS.frz0 D o))) | (go_at_call 34; (first | (with_reducible refine d_l1Int D ?_ ?_ ?_ ?_ ?_ ?_) | (with_reducible refine d_l1Int (D.set0 _ _) ?_ ?_ ?_ ?_ ?_ ?_) | (with_reducible refine d_l1Int (D.box _ _) ?_ ?_ ?_ ?_ ?_ ?_) | (with_reducible refine d_l1Int ((D.set0 _ _).set0 _ _) ?_ ?_ ?_ ?_ ?_ ?_) | (with_reducible refine d_l1Int ((D.box _ _).set0 _ _) ?_ ?_ ?_ ?_ ?_ ?_)); (focus (first | rfl | (simp; done))); (focus (exact rfl)); (focus rfl); (focus decide); (focus decide); clear D; intro w1 x hi D; (try clear kc kf); (try simp only [List.setIfInBounds_toArray, List.set_cons_succ, List.set_cons_zero] at D); (try (have kc := fun o => DS.cell0 D o; have kf := fun o => DS.frz0 D o))))
  refine' bodyPost_ret ?_ rfl ?_; rotate_left; (focus (simp [results, Try.results23, go_sem]; rfl))
  exact ⟨_, _, _, _, _, _, _, rfl, D.r0, (D.rs _ (List.mem_cons_self ..)).2.2, D.gb hc⟩
end Go.Proofs.Ytjdaafemfpafdaa

/-
  Contracts of the small functions of the laws: a byte of the code, a slice's beginning, a bent slice. Conditions: none beside those that each theorem names.
-/
namespace Go.Proofs.Ytjdaafemfpafdaa
open Go.RowKit
set_option maxHeartbeats 1000000 in
theorem laws_at (a : Option Addr) (n c : Nat) (l : List UInt8) (x : Int) (w : World) (h : Rd w a n c (bys l)) (hn : n ≤ 1048576) (h0 : 0 ≤ x) (h1 : x ≤ 10) :
    Calls Try.prog 14 #[.slice a n c, .int .i64 x] w fun e w' => ∃ k : Nat, k < 256 ∧ e = .returned (.int .i64 (k : Int)) ∧ w = w' := by
  obtain ⟨j, rfl⟩ := Int.eq_ofNat_of_zero_le h0
  by_cases hj : j < n
  · obtain ⟨b, off, y, rfl, hy, hc⟩ := h.byte j hj
    have yt := y.toNat_lt
    go_enter Try.func14, Try.ntmps14
    go_wp2
    go_ret
    exact ⟨y.toNat, by omega, rfl, rfl⟩
  · go_enter Try.func14, Try.ntmps14
    go_wp2
    go_ret
    refine ⟨(((j : Int) * 31 + (n : Int) * 7) % 256).toNat, by omega, ret_i (by omega), rfl⟩
set_option maxRecDepth 1000000 in
set_option maxHeartbeats 4000000 in
/-- a slice begins with its beginning -/
theorem laws_starts_t (b off n c : Nat) (q : Option Addr) (m d : Nat) (k s : List UInt8) (w : World) (h1 : Rd w (some ⟨b, off, none⟩) n c (bys (k ++ s))) (h2 : Rd w q m d (bys k)) :
    Calls Try.prog 29 #[.slice (some ⟨b, off, none⟩) n c, .slice q m d] w fun e w' => e = .returned (.bool true) ∧ w.grownBy w' none := by
  have e1 := h1.blen
  have e2 := h2.blen
  rw [List.length_append] at e1
  have hmn : m ≤ n := by omega
  have hnc : n ≤ c := h1.le
  have hmc : m ≤ c := by omega
  have h3 : Rd w (some ⟨b, off, none⟩) m c (bys k) := by
    refine ⟨by rw [bys_len]; exact e2, hmc, fun j hj => ?_⟩
    obtain ⟨b', off', e, hc⟩ := h1.cells j (by omega)
    refine ⟨b', off', e, ?_⟩
    rw [hc, bys, bys, List.map_append, List.getElem?_append_left (by rw [List.length_map]; omega)]
  have KX : Hid (∀ w', w.grownBy w' none → ((convert 22 9 (.slice (some ⟨b, off, none⟩) m c)).run Try.prog w' = .ok (.string (str k)) w' ∧ (convert 22 9 (.slice q m d)).run Try.prog w' = .ok (.string (str k)) w') ∧ w.grownBy w' none) := fun w' g =>
    ⟨⟨(h3.keep0 g).conv (P := Try.prog) 22 5 9 Try.underlying22 Try.underlying5 Try.underlying9, (h2.keep0 g).conv (P := Try.prog) 22 5 9 Try.underlying22 Try.underlying5 Try.underlying9⟩, g⟩
  clear e1 e2
  go_enter Try.func29, Try.ntmps29
  go_wp2
  refine wp_region_held_drew (S := (fun w' => ((convert 22 9 (.slice (some ⟨b, off, none⟩) m c)).run Try.prog w' = .ok (.string (str k)) w' ∧ (convert 22 9 (.slice q m d)).run Try.prog w' = .ok (.string (str k)) w') ∧ w.grownBy w' none)) (by kernel_rfl) ?_ (fun hHeld => ?_)
  · (try dsimp only)
    (refine KX.out _ ?_; (repeat (first | with_reducible exact gb_refl _ | with_reducible refine gb_alloc ?_ _ | with_reducible refine gb_drewN ?_ _ | with_reducible refine gb_drew ?_)))
  refine wpAnyH_takeD (i := 0) (some 5) (v := ?_) rfl rfl (by kernel_rfl) (by kernel_rfl) (by kernel_rfl) (fun _ _ _ h => h) (Or.inl ⟨by rfl, ?_⟩) (by assumption) ?_
  rotate_left
  (focus (intro w hSw; (try dsimp only at hSw); (first | (go_simp; done) | (go_simp; with_reducible rfl) | with_reducible rfl)))
  (try simp only [Act.put]); (try simp only [List.setIfInBounds_toArray]); (try simp only [List.set_cons_succ]); (try simp only [List.set_cons_zero])
  refine wpAnyH_takeD (i := 1) (some 6) (v := ?_) rfl rfl (by kernel_rfl) (by kernel_rfl) (by kernel_rfl) (fun _ _ _ h => h) (Or.inl ⟨by rfl, ?_⟩) (by assumption) ?_
  rotate_left
  (focus (intro w hSw; (try dsimp only at hSw); (first | (go_simp; done) | (go_simp; with_reducible rfl) | with_reducible rfl)))
  (try simp only [Act.put]); (try simp only [List.setIfInBounds_toArray]); (try simp only [List.set_cons_succ]); (try simp only [List.set_cons_zero])
  refine wpAnyH_takeD (i := 2) (some 7) (v := ?_) rfl rfl (by kernel_rfl) (by kernel_rfl) (by kernel_rfl) (fun _ _ _ h => h) (Or.inl ⟨by rfl, ?_⟩) (by assumption) ?_
  rotate_left
  (focus (intro w hSw; (try dsimp only at hSw); (first | (go_simp; done) | (go_simp; with_reducible rfl) | with_reducible rfl)))
  (try simp only [Act.put]); (try simp only [List.setIfInBounds_toArray]); (try simp only [List.set_cons_succ]); (try simp only [List.set_cons_zero])
  refine wpAnyH_takeD (i := 3) (some 8) (v := ?_) rfl rfl (by kernel_rfl) (by kernel_rfl) (by kernel_rfl) (fun _ _ _ h => h) (Or.inl ⟨by rfl, ?_⟩) (by assumption) ?_
  rotate_left
  (focus (intro w hSw; (try dsimp only at hSw); (first | (go_simp; done) | (go_simp; with_reducible rfl) | with_reducible rfl)))
  (try simp only [Act.put]); (try simp only [List.setIfInBounds_toArray]); (try simp only [List.set_cons_succ]); (try simp only [List.set_cons_zero])
  refine wpAnyH_takeD (i := 4) (some 9) (v := ?_) rfl rfl (by kernel_rfl) (by kernel_rfl) (by kernel_rfl) (fun _ _ _ h => h) (Or.inl ⟨by rfl, ?_⟩) (by assumption) ?_
  rotate_left
  (focus (intro w hSw; (try dsimp only at hSw); (first | (go_simp; done) | (go_simp; with_reducible rfl) | with_reducible rfl)))
  (try simp only [Act.put]); (try simp only [List.setIfInBounds_toArray]); (try simp only [List.set_cons_succ]); (try simp only [List.set_cons_zero])
  refine wpAnyH_takeD (i := 5) (some 10) (v := ?_) rfl rfl (by kernel_rfl) (by kernel_rfl) (by kernel_rfl) (fun _ _ _ h => h) (Or.inl ⟨by rfl, ?_⟩) (by assumption) ?_
  rotate_left
  (focus (intro w hSw; (try dsimp only at hSw); (first | (go_simp; done) | (go_simp; with_reducible rfl) | with_reducible rfl)))
  (try simp only [Act.put]); (try simp only [List.setIfInBounds_toArray]); (try simp only [List.set_cons_succ]); (try simp only [List.set_cons_zero])
  refine wpAnyH_takeD (i := 6) (some 11) (v := ?_) rfl rfl (by kernel_rfl) (by kernel_rfl) (by kernel_rfl) (fun _ _ _ h => h) (Or.inl ⟨by rfl, ?_⟩) (by assumption) ?_
  rotate_left
  (focus (intro w hSw; (try dsimp only at hSw); (first | (go_simp; done) | (go_simp; with_reducible rfl) | with_reducible rfl)))
  (try simp only [Act.put]); (try simp only [List.setIfInBounds_toArray]); (try simp only [List.set_cons_succ]); (try simp only [List.set_cons_zero])
  refine wpAnyH_takeD (i := 7) (some 12) (v := ?_) rfl rfl (by kernel_rfl) (by kernel_rfl) (by kernel_rfl) (fun _ _ _ h => h) (Or.inl ⟨by rfl, ?_⟩) (by assumption) ?_
  rotate_left
  (focus (intro w hSw; (try dsimp only at hSw); (first | (go_simp; done) | (go_simp; with_reducible rfl) | with_reducible rfl)))
  (try simp only [Act.put]); (try simp only [List.setIfInBounds_toArray]); (try simp only [List.set_cons_succ]); (try simp only [List.set_cons_zero])
  refine wpAnyH_takeD (i := 8) (some 13) (v := ?_) rfl rfl (by kernel_rfl) (by kernel_rfl) (by kernel_rfl) (fun _ _ _ h => h) (Or.inl ⟨by rfl, ?_⟩) (by assumption) ?_
  rotate_left
  (focus (intro w hSw; (try dsimp only at hSw); (first | (go_simp; done) | (go_simp; with_reducible rfl) | with_reducible rfl)))
  (try simp only [Act.put]); (try simp only [List.setIfInBounds_toArray]); (try simp only [List.set_cons_succ]); (try simp only [List.set_cons_zero])
  refine wpAnyH_takeD (i := 9) (some 14) (v := ?_) rfl rfl (by kernel_rfl) (by kernel_rfl) (by kernel_rfl) (fun _ _ _ h => h) (Or.inl ⟨by rfl, ?_⟩) (by assumption) ?_
  rotate_left
  (focus (intro w hSw; (try dsimp only at hSw); (first | (go_simp; done) | (go_simp; with_reducible rfl) | with_reducible rfl)))
  (try simp only [Act.put]); (try simp only [List.setIfInBounds_toArray]); (try simp only [List.set_cons_succ]); (try simp only [List.set_cons_zero])
  refine wpAnyH_takeD (i := 10) (some 15) (v := ?_) rfl rfl (by kernel_rfl) (by kernel_rfl) (by kernel_rfl) (fun _ _ _ h => h) (Or.inl ⟨by rfl, ?_⟩) (by assumption) ?_
  rotate_left
  (focus (intro w hSw; (try dsimp only at hSw); (first | (go_simp; done) | (go_simp; with_reducible rfl) | with_reducible rfl)))
  (try simp only [Act.put]); (try simp only [List.setIfInBounds_toArray]); (try simp only [List.set_cons_succ]); (try simp only [List.set_cons_zero])
  refine wpAnyH_takeD (i := 11) (some 16) (v := ?_) rfl rfl (by kernel_rfl) (by kernel_rfl) (by kernel_rfl) (fun _ _ _ h => h) (Or.inl ⟨by rfl, ?_⟩) (by assumption) ?_
  rotate_left
  (focus (intro w hSw; (try dsimp only at hSw); (first | (go_simp; done) | (go_simp; with_reducible rfl) | with_reducible rfl)))
  (try simp only [Act.put]); (try simp only [List.setIfInBounds_toArray]); (try simp only [List.set_cons_succ]); (try simp only [List.set_cons_zero])
  refine wpAnyH_takeD (i := 12) (some 17) (v := ?_) rfl rfl (by kernel_rfl) (by kernel_rfl) (by kernel_rfl) (fun _ _ _ h => h) (Or.inl ⟨by rfl, ?_⟩) (by assumption) ?_
  rotate_left
  (focus (intro w hSw; (try dsimp only at hSw); (first | (go_simp; done) | (go_simp; with_reducible rfl) | with_reducible rfl)))
  (try simp only [Act.put]); (try simp only [List.setIfInBounds_toArray]); (try simp only [List.set_cons_succ]); (try simp only [List.set_cons_zero])
  refine wpAnyH_takeD (i := 13) (some 18) (v := ?_) rfl rfl (by kernel_rfl) (by kernel_rfl) (by kernel_rfl) (fun _ _ _ h => h) (Or.inl ⟨by rfl, ?_⟩) (by assumption) ?_
  rotate_left
  (focus (intro w hSw; (try dsimp only at hSw); (first | (go_simp; done) | (go_simp; with_reducible rfl) | with_reducible rfl)))
  (try simp only [Act.put]); (try simp only [List.setIfInBounds_toArray]); (try simp only [List.set_cons_succ]); (try simp only [List.set_cons_zero])
  refine wpAnyH_takeD (i := 14) (some 19) (v := ?_) rfl rfl (by kernel_rfl) (by kernel_rfl) (by kernel_rfl) (fun _ _ _ h => h) (Or.inl ⟨by rfl, ?_⟩) (by assumption) ?_
  rotate_left
  (focus (intro w hSw; (try dsimp only at hSw); (first | (go_simp; done) | (go_simp; with_reducible rfl) | with_reducible rfl)))
  (try simp only [Act.put]); (try simp only [List.setIfInBounds_toArray]); (try simp only [List.set_cons_succ]); (try simp only [List.set_cons_zero])
  refine wpAnyH_takeD (i := 15) (some 4) (v := ?_) rfl rfl (by kernel_rfl) (by kernel_rfl) (by kernel_rfl) (fun _ _ _ h => h) (Or.inl ⟨by rfl, ?_⟩) (by assumption) ?_
  rotate_left
  (focus (intro w hSw; (try dsimp only at hSw); (first | (go_simp; done) | (go_simp; with_reducible rfl) | with_reducible rfl)))
  (try simp only [Act.put]); (try simp only [List.setIfInBounds_toArray]); (try simp only [List.set_cons_succ]); (try simp only [List.set_cons_zero])
  refine wpAnyH_done (by kernel_rfl) ?_ _
  (try dsimp only)
  go_wp2
  go_ret
  exact ⟨rfl, gb_drew (gb_refl _)⟩
theorem bent_byte (x : UInt8) {k : Nat} (_hk : k < 256) : ∃ z : UInt8, z ≠ x ∧ bits .xor .u8 (x.toNat : Int) (IntKind.u8.wrap (IntKind.i64.wrap (1 + (k : Int).tmod 255))) = (z.toNat : Int) := by
  have e0 : IntKind.u8.wrap (IntKind.i64.wrap (1 + (k : Int).tmod 255)) = 1 + (k : Int) % 255 := by
    rw [Int.tmod_eq_emod_of_nonneg (by omega), IntWalk.i64_in _ (by omega), IntWalk.u8_in _ (by omega)]
  rw [e0]
  have e : (1 + (k : Int) % 255) = (((UInt8.ofNat (1 + k % 255)).toNat : Nat) : Int) := by
    rw [UInt8.toNat_ofNat', Nat.mod_eq_of_lt (by omega)]
    omega
  refine ⟨x ^^^ UInt8.ofNat (1 + k % 255), ?_, by rw [e, u8_xor]⟩
  intro h
  have h1 : UInt8.ofNat (1 + k % 255) = 0 := by
    have h2 : x ^^^ (x ^^^ UInt8.ofNat (1 + k % 255)) = x ^^^ x := by rw [h]
    rw [← UInt8.xor_assoc, UInt8.xor_self, UInt8.zero_xor] at h2
    exact h2
  have h3 := congrArg UInt8.toNat h1
  rw [UInt8.toNat_ofNat', Nat.mod_eq_of_lt (by omega)] at h3
  simp at h3
set_option maxRecDepth 1000000 in
set_option maxHeartbeats 4000000 in
/-- a slice with a byte turned -/
theorem laws_bent (a : Option Addr) (n c : Nat) (l : List UInt8) (b : Option Addr) (m d : Nat) (k : List UInt8) (w : World) (h : Rd w a n c (bys l)) (hn : n ≤ 1048576) (hb : Rd w b m d (bys k)) (hm : m ≤ 1048576) :
    Calls Try.prog 13 #[.slice a n c, .slice b m d] w fun e w' => ∃ a' c' k', e = .returned (.slice a' m c') ∧ Ow w.heap.size w' 5 a' m c' (bys k') ∧ (0 < m → k' ≠ k) ∧ w.grownBy w' none := by
  have L := Lib.hid hb.blen
  go_enter Try.func13, Try.ntmps13
  go_wp2_with (first
    | (at_builtin; refine wpList_appB rfl (.tmp 7) (.tmp 8) rfl w.heap.size _ 0 0 [] rfl (new_own _ _) b m d k rfl (hb.keep0 (gb_alloc (gb_refl _) _)) (by have := L.out; simp; omega) (by simp) ?_; intro a2 n2 c2 w2 o2 g2; rw [List.nil_append] at o2; have G2 : w.grownBy w2 none := gb_app (gb_alloc (gb_refl _) _) (new_own w _) (Nat.le_refl _) g2; have e2 := o2.blen.symm.trans L.out; subst e2; clear g2)
    | (go_at_call 14; (with_reducible refine (laws_at a n c l 2 w2 (h.keep0 G2) hn (by decide) (by decide)).mono ?_); rintro e w3 ⟨k1, hk1, rfl, rfl⟩)
    | (go_at_call 14; (with_reducible refine (laws_at a n c l 3 w2 (h.keep0 G2) hn (by decide) (by decide)).mono ?_); rintro e w3 ⟨k2, hk2, rfl, rfl⟩))
  rotate_left
  · go_ret
    exact ⟨_, _, k, rfl, o2, fun h => absurd h (by omega), G2⟩
  obtain ⟨i, hi, hlt⟩ : ∃ i : Nat, ((k1 : Int) * 256 + (k2 : Int)) % (n2 : Int) = (i : Int) ∧ i < n2 :=
    ⟨(((k1 : Int) * 256 + (k2 : Int)) % (n2 : Int)).toNat, by rw [Int.toNat_of_nonneg (Int.emod_nonneg _ (by omega))], by have := Int.emod_lt_of_pos ((k1 : Int) * 256 + (k2 : Int)) (show (0 : Int) < n2 by omega); omega⟩
  rw [hi]
  replace hi := Lib.hid hi
  obtain ⟨g, rfl⟩ := o2.head (by omega)
  obtain ⟨b', off, x, e, hx, hc⟩ := o2.rd.byte i hlt
  cases e
  rw [Nat.zero_add] at hc
  obtain ⟨hf, -⟩ := o2.at i hlt
  have i1 : (0 : Int) ≤ (i : Int) := Int.natCast_nonneg _
  have i2 : (i : Int) < (n2 : Int) := by omega
  go_region_with (go_at_call 14; refine (laws_at a n c l 4 _ ((h.keep0 G2).keep0 (gb_drew (gb_refl _))) hn (by decide) (by decide)).mono ?_; rintro e w4 ⟨k3, hk3, rfl, rfl⟩)
  all_goals go_wp2
  all_goals
    obtain ⟨z, hz, e9⟩ := bent_byte x hk3
    have o3 := o2.set i (.int .u8 (z.toNat : Int))
    rw [bys_set] at o3
    have G3 := gb_set G2 (p := ⟨g, i, none⟩) (.inl (o2.lt _ rfl).1) (.int .u8 (z.toNat : Int))
    have hne : k.set i z ≠ k := by
      intro h9
      have h8 : (k.set i z)[i]? = some z := by rw [List.getElem?_set_self (by have := L.out; omega)]
      rw [h9, hx.out] at h8
      exact hz (Option.some.inj h8).symm
    go_ret
    rw [e9]
    exact ⟨_, _, k.set i z, rfl, o3.drew, fun _ => hne, gb_drew G3⟩
end Go.Proofs.Ytjdaafemfpafdaa

/-
  Draws of what a tag is of. Conditions: none beside those that each theorem names.
-/
namespace Go.Proofs.Ytjdaafemfpafdaa
open Go.RowKit
theorem sealM_small {l : List UInt8} {x : Int} {sn : List UInt8} {epoch seq kind : Int} {plain : List UInt8} (h1 : sn.length ≤ 256) (h2 : plain.length ≤ 256) :
    (sealM l x sn epoch seq kind plain).cn.length ≤ 256 ∧ (sealM l x sn epoch seq kind plain).sn.length ≤ 256 ∧ (sealM l x sn epoch seq kind plain).cookie.length ≤ 256 ∧ (sealM l x sn epoch seq kind plain).proof.length ≤ 256 ∧ (sealM l x sn epoch seq kind plain).body.length ≤ 256 ∧ (sealM l x sn epoch seq kind plain).tag.length ≤ 256 := by
  cases h : sealB l x sn epoch seq kind plain
  · rw [sealM, if_neg (by rw [h]; decide)]
    simp [zeroF]
  · obtain ⟨M, T, k⟩ := sealOk h
    rw [k.eq]
    have := k.tl
    have := k.ml
    simp only [sealF, List.length_nil]
    omega
theorem d_Seal {a0 : Option Addr} {n0 c0 : Nat} {l0 : List UInt8} {x1 : Int} {a2 : Option Addr} {n2 c2 : Nat} {l2 : List UInt8} {x3 x4 x5 : Int} {a6 : Option Addr} {n6 c6 : Nat} {l6 : List UInt8} {B cb : Nat} {w0 w : World} {bs : List Vb} {L : List Sv} {Q : Ending → World → Prop} (D : DS B cb w0 w bs L)
    (r0 : Rd w a0 n0 c0 (bys l0)) (r2 : Rd w a2 n2 c2 (bys l2)) (r6 : Rd w a6 n6 c6 (bys l6)) (h2 : n2 ≤ 256) (h6 : n6 ≤ 256)
    (k : ∀ w' kind id a1 n1 c1 l1 a2 n2 c2 l2 tick a3 n3 c3 l3 a4 n4 c4 l4 epoch seq a5 n5 c5 l5 a6 n6 c6 l6 ok, DS B cb w0 w' bs (⟨a6, n6, c6, bys l6⟩ :: ⟨a5, n5, c5, bys l5⟩ :: ⟨a4, n4, c4, bys l4⟩ :: ⟨a3, n3, c3, bys l3⟩ :: ⟨a2, n2, c2, bys l2⟩ :: ⟨a1, n1, c1, bys l1⟩ :: L) → Q (.returned (.tuple #[.agg #[.int .i64 kind, .int .i64 id, .slice a1 n1 c1, .slice a2 n2 c2, .int .i64 tick, .slice a3 n3 c3, .slice a4 n4 c4, .int .i64 epoch, .int .i64 seq, .slice a5 n5 c5, .slice a6 n6 c6], .bool ok])) w') :
    Calls Try.prog 60 #[.slice a0 n0 c0, .int .i64 x1, .slice a2 n2 c2, .int .i64 x3, .int .i64 x4, .int .i64 x5, .slice a6 n6 c6] w Q := by
  have e2 := r2.blen
  have e6 := r6.blen
  refine (spec_Seal a0 n0 c0 l0 x1 a2 n2 c2 l2 x3 x4 x5 a6 n6 c6 l6 w r0 r2 r6 (by omega) (by omega)).mono ?_
  rintro e w' ⟨v', rfl, o, g⟩
  obtain ⟨s1, s2, s3, s4, s5, s6⟩ := sealM_small (l := l0) (x := x1) (sn := l2) (epoch := x3) (seq := x4) (kind := x5) (plain := l6) (by omega) (by omega)
  revert o s1 s2 s3 s4 s5 s6
  generalize sealM l0 x1 l2 x3 x4 x5 l6 = F
  obtain ⟨kind, id, l1, l2', tick, l3, l4, epoch, seq, l5, l6'⟩ := F
  rintro ⟨b1, m1, d1, b2, m2, d2, b3, m3, d3, b4, m4, d4, b5, m5, d5, b6, m6, d6, rfl, ⟨o1, -⟩, ⟨o2, -⟩, ⟨o3, -⟩, ⟨o4, -⟩, ⟨o5, -⟩, ⟨o6, -⟩, -⟩ s1 s2 s3 s4 s5 s6
  simp only at o1 o2 o3 o4 o5 o6 s1 s2 s3 s4 s5 s6
  have D0 := D.grow g
  have D1 := D.addO D0 o1 (by have := o1.blen; omega)
  have D2 := D.addO D1 o2 (by have := o2.blen; omega)
  have D3 := D.addO D2 o3 (by have := o3.blen; omega)
  have D4 := D.addO D3 o4 (by have := o4.blen; omega)
  have D5 := D.addO D4 o5 (by have := o5.blen; omega)
  have D6 := D.addO D5 o6 (by have := o6.blen; omega)
  exact k w' _ _ _ _ _ l1 _ _ _ l2' _ _ _ _ l3 _ _ _ l4 _ _ _ _ _ l5 _ _ _ l6' _ D6
def PTi (w : World) (e : Ending) (w' : World) : Prop := ∃ x v f, e = .returned (.tuple #[.int .i64 x, v]) ∧ FrameR w' v f ∧ f.tot ≤ 1536 ∧ w.grownBy w' none
theorem PTi.mk {w w' : World} {x kind id tick epoch seq : Int} {a1 a2 a3 a4 a5 a6 : Option Addr} {n1 c1 n2 c2 n3 c3 n4 c4 n5 c5 n6 c6 : Nat} (g : w.grownBy w' none)
    (h1 : BR w w' a1 n1 c1) (h2 : BR w w' a2 n2 c2) (h3 : BR w w' a3 n3 c3) (h4 : BR w w' a4 n4 c4) (h5 : BR w w' a5 n5 c5) (h6 : BR w w' a6 n6 c6) : PTi w (.returned (.tuple #[.int .i64 x, .agg #[.int .i64 kind, .int .i64 id, .slice a1 n1 c1, .slice a2 n2 c2, .int .i64 tick, .slice a3 n3 c3, .slice a4 n4 c4, .int .i64 epoch, .int .i64 seq, .slice a5 n5 c5, .slice a6 n6 c6]])) w' := by
  obtain ⟨l1, r1, -, b1⟩ := h1
  obtain ⟨l2, r2, -, b2⟩ := h2
  obtain ⟨l3, r3, -, b3⟩ := h3
  obtain ⟨l4, r4, -, b4⟩ := h4
  obtain ⟨l5, r5, -, b5⟩ := h5
  obtain ⟨l6, r6, -, b6⟩ := h6
  refine ⟨x, _, ⟨kind, id, l1, l2, tick, l3, l4, epoch, seq, l5, l6⟩, rfl, ⟨_, _, _, _, _, _, _, _, _, _, _, _, _, _, _, _, _, _, rfl, r1, r2, r3, r4, r5, r6⟩, ?_, g⟩
  have := r1.blen; have := r2.blen; have := r3.blen; have := r4.blen; have := r5.blen; have := r6.blen
  simp only [FrameM.tot]
  omega
set_option maxRecDepth 1000000 in
set_option maxHeartbeats 8000000 in
theorem spec_DrawTagInput (a : Option Addr) (n c : Nat) (l : List UInt8) (w : World) (r : Rd w a n c (bys l)) (hn : n ≤ 1048576) :
    Calls Try.prog 25 #[.slice a n c] w (PTi w) := by
  go_enter Try.func25, Try.ntmps25
  go_wp2_with (first
    | (go_at_call 30; refine (spec_l1New a n c l w.heap.size _ (r.keep0 (gb_alloc (gb_refl _) _)) hn r.pb (gb_alloc (gb_refl _) _).size).mono ?_; rintro e w1 ⟨cb, rfl, cu, hc, g⟩; have D := DS.init1 (Bx.new w _ _) cu (gb_alloc (gb_refl w) _) (Nat.le_refl _) hc g; have hcb : w.heap.size ≤ cb := Nat.le_trans (gb_alloc (gb_refl w) _).size hc; clear g hc cu) | (go_at_call 34; (first | (with_reducible refine d_l1Int D ?_ ?_ ?_ ?_ ?_ ?_) | (with_reducible refine d_l1Int (D.set0 _ _) ?_ ?_ ?_ ?_ ?_ ?_) | (with_reducible refine d_l1Int (D.box _ _) ?_ ?_ ?_ ?_ ?_ ?_) | (with_reducible refine d_l1Int ((D.set0 _ _).set0 _ _) ?_ ?_ ?_ ?_ ?_ ?_) | (with_reducible refine d_l1Int ((D.box _ _).set0 _ _) ?_ ?_ ?_ ?_ ?_ ?_)); (focus (first | rfl | (simp; done))); (focus (exact rfl)); (focus rfl); (focus decide); (focus decide); clear D; intro w1 x hi D; (try clear kc kf); (try simp only [List.setIfInBounds_toArray, List.set_cons_succ, List.set_cons_zero] at D); (try (have kc := fun o => DS.cell0 D o; have kf := fun o => DS.frz0 D o))) | (go_at_call 50; (with_reducible refine d_PFr D (spec_l7Any _ cb _ D.cur) ?_); clear D; intro wF kind id a1 n1 c1 l1 a2 n2 c2 l2 tick a3 n3 c3 l3 a4 n4 c4 l4 epoch seq a5 n5 c5 l5 a6 n6 c6 l6 D)
    | (go_at_call 59; refine (spec_Sealed _ _).mono ?_; obtain ⟨sb, hsb⟩ : ∃ sb, sealedB kind = sb := ⟨_, rfl⟩; rw [hsb]; rintro e w' ⟨rfl, rfl⟩; clear hsb; cases sb)
    | (go_at_call 51; (with_reducible refine d_l1Once (D.box _ _) ?_); clear D; intro w1 o D; cases o)
    | (go_at_call 33; (first | (with_reducible refine d_l1Bytes D ?_ ?_) | (with_reducible refine d_l1Bytes (D.set0 _ _) ?_ ?_) | (with_reducible refine d_l1Bytes (D.box _ _) ?_ ?_) | (with_reducible refine d_l1Bytes ((D.set0 _ _).set0 _ _) ?_ ?_) | (with_reducible refine d_l1Bytes ((D.box _ _).set0 _ _) ?_ ?_)); (focus (first | omega | (have h9 := ofL.le hi (b := 256) (by decide); omega))); clear D; intro w1 a n c l hn D; (try clear kc kf); (try simp only [List.setIfInBounds_toArray, List.set_cons_succ, List.set_cons_zero] at D); (try (have kc := fun o => DS.cell0 D o; have kf := fun o => DS.frz0 D o))) | (go_at_call 60; (with_reducible refine d_Seal D D.tl.tl.r0 D.tl.r0 D.r0 ?_ ?_ ?_); (focus (exact (D.tl.rs _ (List.mem_cons_self ..)).2.2)); (focus (exact (D.rs _ (List.mem_cons_self ..)).2.2)); clear D; intro w1 kind id a1 n1 c1 l1 a2 n2 c2 l2 tick a3 n3 c3 l3 a4 n4 c4 l4 epoch seq a5 n5 c5 l5 a6 n6 c6 l6 ok D; (try clear kc kf)) | ((with_reducible refine wpList_stD0 D ?_ (.tmp 6) (.tmp 31) ?_ ?_ ?_ ?_ ?_ ?_ ?_ ?_); (focus rfl); (focus rfl); rotate_left; (focus rfl); (focus rfl); (focus (exact si_Frame)); (focus rfl); (focus (first | rfl | (simp [Value.oneCell']; done))); clear D; intro w1 D; (try simp only [Act.put]); (try simp only [List.setIfInBounds_toArray]); (try simp only [List.set_cons_succ]); (try simp only [List.set_cons_zero]); (try clear kc kf); have kr := fun o => DS.cell0 D o))
  · replace D := D.drew
    have kS : _ ∧ _ ∧ _ ∧ _ ∧ _ ∧ _ ∧ _ ∧ _ ∧ _ ∧ _ ∧ _ := ⟨((D.bx _ (List.mem_cons_self ..)).1).cell 0, ((D.bx _ (List.mem_cons_self ..)).1).cell 1, ((D.bx _ (List.mem_cons_self ..)).1).cell 2, ((D.bx _ (List.mem_cons_self ..)).1).cell 3, ((D.bx _ (List.mem_cons_self ..)).1).cell 4, ((D.bx _ (List.mem_cons_self ..)).1).cell 5, ((D.bx _ (List.mem_cons_self ..)).1).cell 6, ((D.bx _ (List.mem_cons_self ..)).1).cell 7, ((D.bx _ (List.mem_cons_self ..)).1).cell 8, ((D.bx _ (List.mem_cons_self ..)).1).cell 9, ((D.bx _ (List.mem_cons_self ..)).1).cell 10⟩
    refine wp_region_held_drew (S := (fun w' => w'.cell? ⟨wF.heap.size, 0, none⟩ = some (.int .i64 kind) ∧ w'.cell? ⟨wF.heap.size, 1, none⟩ = some (.int .i64 id) ∧ w'.cell? ⟨wF.heap.size, 2, none⟩ = some (.slice a1 n1 c1) ∧ w'.cell? ⟨wF.heap.size, 3, none⟩ = some (.slice a2 n2 c2) ∧ w'.cell? ⟨wF.heap.size, 4, none⟩ = some (.int .i64 tick) ∧ w'.cell? ⟨wF.heap.size, 5, none⟩ = some (.slice a3 n3 c3) ∧ w'.cell? ⟨wF.heap.size, 6, none⟩ = some (.slice a4 n4 c4) ∧ w'.cell? ⟨wF.heap.size, 7, none⟩ = some (.int .i64 epoch) ∧ w'.cell? ⟨wF.heap.size, 8, none⟩ = some (.int .i64 seq) ∧ w'.cell? ⟨wF.heap.size, 9, none⟩ = some (.slice a5 n5 c5) ∧ w'.cell? ⟨wF.heap.size, 10, none⟩ = some (.slice a6 n6 c6))) (by kernel_rfl) ?_ (fun hHeld => ?_)
    · (try dsimp only)
      exact kS
    refine wpAnyH_takeD (i := 0) (some 33) (v := ?_) rfl rfl (by kernel_rfl) (by kernel_rfl) (by kernel_rfl) (fun _ _ _ h => h) (Or.inl ⟨by rfl, ?_⟩) (by assumption) ?_
    rotate_left
    (focus (intro w hSw; (try dsimp only at hSw); (first | (go_simp; done) | (go_simp; with_reducible rfl) | with_reducible rfl)))
    (try simp only [Act.put]); (try simp only [List.setIfInBounds_toArray]); (try simp only [List.set_cons_succ]); (try simp only [List.set_cons_zero])
    refine wpAnyH_takeD (i := 1) (some 34) (v := ?_) rfl rfl (by kernel_rfl) (by kernel_rfl) (by kernel_rfl) (fun _ _ _ h => h) (Or.inl ⟨by rfl, ?_⟩) (by assumption) ?_
    rotate_left
    (focus (intro w hSw; (try dsimp only at hSw); (first | (go_simp; done) | (go_simp; with_reducible rfl) | with_reducible rfl)))
    (try simp only [Act.put]); (try simp only [List.setIfInBounds_toArray]); (try simp only [List.set_cons_succ]); (try simp only [List.set_cons_zero])
    refine wpAnyH_takeD (i := 2) (some 2) (v := ?_) rfl rfl (by kernel_rfl) (by kernel_rfl) (by kernel_rfl) (fun _ _ _ h => h) (Or.inl ⟨by rfl, ?_⟩) (by assumption) ?_
    rotate_left
    (focus (intro w hSw; (try dsimp only at hSw); (first | (go_simp; done) | (go_simp; with_reducible rfl) | with_reducible rfl)))
    (try simp only [Act.put]); (try simp only [List.setIfInBounds_toArray]); (try simp only [List.set_cons_succ]); (try simp only [List.set_cons_zero])
    refine wpAnyH_ready (rs := [3]) (by kernel_rfl) (by simp) (AllReadyH.cons rfl (fun K hK => ?_) AllReadyH.nil)
    refine step_stRD rfl rfl 35 (.tmp 3) (.tmp 34) rfl w.heap.size _ _ rfl rfl ((D.bx _ (List.mem_cons_of_mem _ (List.mem_cons_self ..))).1) si_Frame rfl (by first | rfl | (simp [Value.oneCell']; done)) ?_
    intro w5 Bz g5
    replace D := D.row (b1 := [_]) rfl Bz g5
    clear kS
    have kS : _ ∧ _ ∧ _ ∧ _ ∧ _ ∧ _ ∧ _ ∧ _ ∧ _ ∧ _ ∧ _ := ⟨((D.bx _ (List.mem_cons_self ..)).1).cell 0, ((D.bx _ (List.mem_cons_self ..)).1).cell 1, ((D.bx _ (List.mem_cons_self ..)).1).cell 2, ((D.bx _ (List.mem_cons_self ..)).1).cell 3, ((D.bx _ (List.mem_cons_self ..)).1).cell 4, ((D.bx _ (List.mem_cons_self ..)).1).cell 5, ((D.bx _ (List.mem_cons_self ..)).1).cell 6, ((D.bx _ (List.mem_cons_self ..)).1).cell 7, ((D.bx _ (List.mem_cons_self ..)).1).cell 8, ((D.bx _ (List.mem_cons_self ..)).1).cell 9, ((D.bx _ (List.mem_cons_self ..)).1).cell 10⟩
    refine hK.out _ _ ?_ (fun hHeld2 => ?_)
    · (try dsimp only)
      exact kS
    clear hK K hHeld
    have hHeld := hHeld2
    clear hHeld2
    (try simp only [Act.put]); (try simp only [List.setIfInBounds_toArray]); (try simp only [List.set_cons_succ]); (try simp only [List.set_cons_zero])
    refine wpAnyH_done (by kernel_rfl) ?_ _
    (try dsimp only)
    have kd := fun o => DS.cell1 D o
    (try go_wp2)
    refine bodyPost_ret (v := .tuple #[.int .i64 x, .agg #[.int .i64 kind, .int .i64 id, .slice a1 n1 c1, .slice a2 n2 c2, .int .i64 tick, .slice a3 n3 c3, .slice a4 n4 c4, .int .i64 epoch, .int .i64 seq, .slice a5 n5 c5, .slice a6 n6 c6]]) (by simp [results, Try.results25, go_sem, kd]) rfl (PTi.mk (D.gb hcb) (by (first | exact BR.nil _ _ | exact D.b0 | exact D.tl.b0 | exact D.tl.tl.b0 | exact D.tl.tl.tl.b0 | exact D.tl.tl.tl.tl.b0 | exact D.tl.tl.tl.tl.tl.b0 | exact D.tl.tl.tl.tl.tl.tl.b0)) (by (first | exact BR.nil _ _ | exact D.b0 | exact D.tl.b0 | exact D.tl.tl.b0 | exact D.tl.tl.tl.b0 | exact D.tl.tl.tl.tl.b0 | exact D.tl.tl.tl.tl.tl.b0 | exact D.tl.tl.tl.tl.tl.tl.b0)) (by (first | exact BR.nil _ _ | exact D.b0 | exact D.tl.b0 | exact D.tl.tl.b0 | exact D.tl.tl.tl.b0 | exact D.tl.tl.tl.tl.b0 | exact D.tl.tl.tl.tl.tl.b0 | exact D.tl.tl.tl.tl.tl.tl.b0)) (by (first | exact BR.nil _ _ | exact D.b0 | exact D.tl.b0 | exact D.tl.tl.b0 | exact D.tl.tl.tl.b0 | exact D.tl.tl.tl.tl.b0 | exact D.tl.tl.tl.tl.tl.b0 | exact D.tl.tl.tl.tl.tl.tl.b0)) (by (first | exact BR.nil _ _ | exact D.b0 | exact D.tl.b0 | exact D.tl.tl.b0 | exact D.tl.tl.tl.b0 | exact D.tl.tl.tl.tl.b0 | exact D.tl.tl.tl.tl.tl.b0 | exact D.tl.tl.tl.tl.tl.tl.b0)) (by (first | exact BR.nil _ _ | exact D.b0 | exact D.tl.b0 | exact D.tl.tl.b0 | exact D.tl.tl.tl.b0 | exact D.tl.tl.tl.tl.b0 | exact D.tl.tl.tl.tl.tl.b0 | exact D.tl.tl.tl.tl.tl.tl.b0)))
  · replace D := D.drew
    have kS : _ ∧ _ ∧ _ ∧ _ ∧ _ ∧ _ ∧ _ ∧ _ ∧ _ ∧ _ ∧ _ := ⟨((D.bx _ (List.mem_cons_self ..)).1).cell 0, ((D.bx _ (List.mem_cons_self ..)).1).cell 1, ((D.bx _ (List.mem_cons_self ..)).1).cell 2, ((D.bx _ (List.mem_cons_self ..)).1).cell 3, ((D.bx _ (List.mem_cons_self ..)).1).cell 4, ((D.bx _ (List.mem_cons_self ..)).1).cell 5, ((D.bx _ (List.mem_cons_self ..)).1).cell 6, ((D.bx _ (List.mem_cons_self ..)).1).cell 7, ((D.bx _ (List.mem_cons_self ..)).1).cell 8, ((D.bx _ (List.mem_cons_self ..)).1).cell 9, ((D.bx _ (List.mem_cons_self ..)).1).cell 10⟩
    refine wp_region_held_drew (S := (fun w' => w'.cell? ⟨wF.heap.size, 0, none⟩ = some (.int .i64 kind) ∧ w'.cell? ⟨wF.heap.size, 1, none⟩ = some (.int .i64 id) ∧ w'.cell? ⟨wF.heap.size, 2, none⟩ = some (.slice a1 n1 c1) ∧ w'.cell? ⟨wF.heap.size, 3, none⟩ = some (.slice a2 n2 c2) ∧ w'.cell? ⟨wF.heap.size, 4, none⟩ = some (.int .i64 tick) ∧ w'.cell? ⟨wF.heap.size, 5, none⟩ = some (.slice a3 n3 c3) ∧ w'.cell? ⟨wF.heap.size, 6, none⟩ = some (.slice a4 n4 c4) ∧ w'.cell? ⟨wF.heap.size, 7, none⟩ = some (.int .i64 epoch) ∧ w'.cell? ⟨wF.heap.size, 8, none⟩ = some (.int .i64 seq) ∧ w'.cell? ⟨wF.heap.size, 9, none⟩ = some (.slice a5 n5 c5) ∧ w'.cell? ⟨wF.heap.size, 10, none⟩ = some (.slice a6 n6 c6))) (by kernel_rfl) ?_ (fun hHeld => ?_)
    · (try dsimp only)
      exact kS
    refine wpAnyH_takeD (i := 0) (some 33) (v := ?_) rfl rfl (by kernel_rfl) (by kernel_rfl) (by kernel_rfl) (fun _ _ _ h => h) (Or.inl ⟨by rfl, ?_⟩) (by assumption) ?_
    rotate_left
    (focus (intro w hSw; (try dsimp only at hSw); (first | (go_simp; done) | (go_simp; with_reducible rfl) | with_reducible rfl)))
    (try simp only [Act.put]); (try simp only [List.setIfInBounds_toArray]); (try simp only [List.set_cons_succ]); (try simp only [List.set_cons_zero])
    refine wpAnyH_takeD (i := 1) (some 34) (v := ?_) rfl rfl (by kernel_rfl) (by kernel_rfl) (by kernel_rfl) (fun _ _ _ h => h) (Or.inl ⟨by rfl, ?_⟩) (by assumption) ?_
    rotate_left
    (focus (intro w hSw; (try dsimp only at hSw); (first | (go_simp; done) | (go_simp; with_reducible rfl) | with_reducible rfl)))
    (try simp only [Act.put]); (try simp only [List.setIfInBounds_toArray]); (try simp only [List.set_cons_succ]); (try simp only [List.set_cons_zero])
    refine wpAnyH_takeD (i := 2) (some 2) (v := ?_) rfl rfl (by kernel_rfl) (by kernel_rfl) (by kernel_rfl) (fun _ _ _ h => h) (Or.inl ⟨by rfl, ?_⟩) (by assumption) ?_
    rotate_left
    (focus (intro w hSw; (try dsimp only at hSw); (first | (go_simp; done) | (go_simp; with_reducible rfl) | with_reducible rfl)))
    (try simp only [Act.put]); (try simp only [List.setIfInBounds_toArray]); (try simp only [List.set_cons_succ]); (try simp only [List.set_cons_zero])
    refine wpAnyH_ready (rs := [3]) (by kernel_rfl) (by simp) (AllReadyH.cons rfl (fun K hK => ?_) AllReadyH.nil)
    refine step_stRD rfl rfl 35 (.tmp 3) (.tmp 34) rfl w.heap.size _ _ rfl rfl ((D.bx _ (List.mem_cons_of_mem _ (List.mem_cons_self ..))).1) si_Frame rfl (by first | rfl | (simp [Value.oneCell']; done)) ?_
    intro w5 Bz g5
    replace D := D.row (b1 := [_]) rfl Bz g5
    clear kS
    have kS : _ ∧ _ ∧ _ ∧ _ ∧ _ ∧ _ ∧ _ ∧ _ ∧ _ ∧ _ ∧ _ := ⟨((D.bx _ (List.mem_cons_self ..)).1).cell 0, ((D.bx _ (List.mem_cons_self ..)).1).cell 1, ((D.bx _ (List.mem_cons_self ..)).1).cell 2, ((D.bx _ (List.mem_cons_self ..)).1).cell 3, ((D.bx _ (List.mem_cons_self ..)).1).cell 4, ((D.bx _ (List.mem_cons_self ..)).1).cell 5, ((D.bx _ (List.mem_cons_self ..)).1).cell 6, ((D.bx _ (List.mem_cons_self ..)).1).cell 7, ((D.bx _ (List.mem_cons_self ..)).1).cell 8, ((D.bx _ (List.mem_cons_self ..)).1).cell 9, ((D.bx _ (List.mem_cons_self ..)).1).cell 10⟩
    refine hK.out _ _ ?_ (fun hHeld2 => ?_)
    · (try dsimp only)
      exact kS
    clear hK K hHeld
    have hHeld := hHeld2
    clear hHeld2
    (try simp only [Act.put]); (try simp only [List.setIfInBounds_toArray]); (try simp only [List.set_cons_succ]); (try simp only [List.set_cons_zero])
    refine wpAnyH_done (by kernel_rfl) ?_ _
    (try dsimp only)
    have kd := fun o => DS.cell1 D o
    (try go_wp2)
    refine bodyPost_ret (v := .tuple #[.int .i64 x, .agg #[.int .i64 kind, .int .i64 id, .slice a1 n1 c1, .slice a2 n2 c2, .int .i64 tick, .slice a3 n3 c3, .slice a4 n4 c4, .int .i64 epoch, .int .i64 seq, .slice a5 n5 c5, .slice a6 n6 c6]]) (by simp [results, Try.results25, go_sem, kd]) rfl (PTi.mk (D.gb hcb) (by (first | exact BR.nil _ _ | exact D.b0 | exact D.tl.b0 | exact D.tl.tl.b0 | exact D.tl.tl.tl.b0 | exact D.tl.tl.tl.tl.b0 | exact D.tl.tl.tl.tl.tl.b0 | exact D.tl.tl.tl.tl.tl.tl.b0)) (by (first | exact BR.nil _ _ | exact D.b0 | exact D.tl.b0 | exact D.tl.tl.b0 | exact D.tl.tl.tl.b0 | exact D.tl.tl.tl.tl.b0 | exact D.tl.tl.tl.tl.tl.b0 | exact D.tl.tl.tl.tl.tl.tl.b0)) (by (first | exact BR.nil _ _ | exact D.b0 | exact D.tl.b0 | exact D.tl.tl.b0 | exact D.tl.tl.tl.b0 | exact D.tl.tl.tl.tl.b0 | exact D.tl.tl.tl.tl.tl.b0 | exact D.tl.tl.tl.tl.tl.tl.b0)) (by (first | exact BR.nil _ _ | exact D.b0 | exact D.tl.b0 | exact D.tl.tl.b0 | exact D.tl.tl.tl.b0 | exact D.tl.tl.tl.tl.b0 | exact D.tl.tl.tl.tl.tl.b0 | exact D.tl.tl.tl.tl.tl.tl.b0)) (by (first | exact BR.nil _ _ | exact D.b0 | exact D.tl.b0 | exact D.tl.tl.b0 | exact D.tl.tl.tl.b0 | exact D.tl.tl.tl.tl.b0 | exact D.tl.tl.tl.tl.tl.b0 | exact D.tl.tl.tl.tl.tl.tl.b0)) (by (first | exact BR.nil _ _ | exact D.b0 | exact D.tl.b0 | exact D.tl.tl.b0 | exact D.tl.tl.tl.b0 | exact D.tl.tl.tl.tl.b0 | exact D.tl.tl.tl.tl.tl.b0 | exact D.tl.tl.tl.tl.tl.tl.b0)))
  · replace D := (D.box #[.int .i64 kind, .int .i64 id, .slice a1 n1 c1, .slice a2 n2 c2, .int .i64 tick, .slice a3 n3 c3, .slice a4 n4 c4, .int .i64 epoch, .int .i64 seq, .slice a5 n5 c5, .slice a6 n6 c6] 35).drew
    have kS : _ ∧ _ ∧ _ ∧ _ ∧ _ ∧ _ ∧ _ ∧ _ ∧ _ ∧ _ ∧ _ := ⟨((D.bx _ (List.mem_cons_self ..)).1).cell 0, ((D.bx _ (List.mem_cons_self ..)).1).cell 1, ((D.bx _ (List.mem_cons_self ..)).1).cell 2, ((D.bx _ (List.mem_cons_self ..)).1).cell 3, ((D.bx _ (List.mem_cons_self ..)).1).cell 4, ((D.bx _ (List.mem_cons_self ..)).1).cell 5, ((D.bx _ (List.mem_cons_self ..)).1).cell 6, ((D.bx _ (List.mem_cons_self ..)).1).cell 7, ((D.bx _ (List.mem_cons_self ..)).1).cell 8, ((D.bx _ (List.mem_cons_self ..)).1).cell 9, ((D.bx _ (List.mem_cons_self ..)).1).cell 10⟩
    refine wp_region_held_drew (S := (fun w' => w'.cell? ⟨wF.heap.size, 0, none⟩ = some (.int .i64 kind) ∧ w'.cell? ⟨wF.heap.size, 1, none⟩ = some (.int .i64 id) ∧ w'.cell? ⟨wF.heap.size, 2, none⟩ = some (.slice a1 n1 c1) ∧ w'.cell? ⟨wF.heap.size, 3, none⟩ = some (.slice a2 n2 c2) ∧ w'.cell? ⟨wF.heap.size, 4, none⟩ = some (.int .i64 tick) ∧ w'.cell? ⟨wF.heap.size, 5, none⟩ = some (.slice a3 n3 c3) ∧ w'.cell? ⟨wF.heap.size, 6, none⟩ = some (.slice a4 n4 c4) ∧ w'.cell? ⟨wF.heap.size, 7, none⟩ = some (.int .i64 epoch) ∧ w'.cell? ⟨wF.heap.size, 8, none⟩ = some (.int .i64 seq) ∧ w'.cell? ⟨wF.heap.size, 9, none⟩ = some (.slice a5 n5 c5) ∧ w'.cell? ⟨wF.heap.size, 10, none⟩ = some (.slice a6 n6 c6))) (by kernel_rfl) ?_ (fun hHeld => ?_)
    · (try dsimp only)
      exact kS
    refine wpAnyH_takeD (i := 0) (some 33) (v := ?_) rfl rfl (by kernel_rfl) (by kernel_rfl) (by kernel_rfl) (fun _ _ _ h => h) (Or.inl ⟨by rfl, ?_⟩) (by assumption) ?_
    rotate_left
    (focus (intro w hSw; (try dsimp only at hSw); (first | (go_simp; done) | (go_simp; with_reducible rfl) | with_reducible rfl)))
    (try simp only [Act.put]); (try simp only [List.setIfInBounds_toArray]); (try simp only [List.set_cons_succ]); (try simp only [List.set_cons_zero])
    refine wpAnyH_takeD (i := 1) (some 34) (v := ?_) rfl rfl (by kernel_rfl) (by kernel_rfl) (by kernel_rfl) (fun _ _ _ h => h) (Or.inl ⟨by rfl, ?_⟩) (by assumption) ?_
    rotate_left
    (focus (intro w hSw; (try dsimp only at hSw); (first | (go_simp; done) | (go_simp; with_reducible rfl) | with_reducible rfl)))
    (try simp only [Act.put]); (try simp only [List.setIfInBounds_toArray]); (try simp only [List.set_cons_succ]); (try simp only [List.set_cons_zero])
    refine wpAnyH_takeD (i := 2) (some 2) (v := ?_) rfl rfl (by kernel_rfl) (by kernel_rfl) (by kernel_rfl) (fun _ _ _ h => h) (Or.inl ⟨by rfl, ?_⟩) (by assumption) ?_
    rotate_left
    (focus (intro w hSw; (try dsimp only at hSw); (first | (go_simp; done) | (go_simp; with_reducible rfl) | with_reducible rfl)))
    (try simp only [Act.put]); (try simp only [List.setIfInBounds_toArray]); (try simp only [List.set_cons_succ]); (try simp only [List.set_cons_zero])
    refine wpAnyH_ready (rs := [3]) (by kernel_rfl) (by simp) (AllReadyH.cons rfl (fun K hK => ?_) AllReadyH.nil)
    refine step_stRD rfl rfl 35 (.tmp 3) (.tmp 34) rfl w.heap.size _ _ rfl rfl ((D.bx _ (List.mem_cons_of_mem _ (List.mem_cons_self ..))).1) si_Frame rfl (by first | rfl | (simp [Value.oneCell']; done)) ?_
    intro w5 Bz g5
    replace D := D.row (b1 := [_]) rfl Bz g5
    clear kS
    have kS : _ ∧ _ ∧ _ ∧ _ ∧ _ ∧ _ ∧ _ ∧ _ ∧ _ ∧ _ ∧ _ := ⟨((D.bx _ (List.mem_cons_self ..)).1).cell 0, ((D.bx _ (List.mem_cons_self ..)).1).cell 1, ((D.bx _ (List.mem_cons_self ..)).1).cell 2, ((D.bx _ (List.mem_cons_self ..)).1).cell 3, ((D.bx _ (List.mem_cons_self ..)).1).cell 4, ((D.bx _ (List.mem_cons_self ..)).1).cell 5, ((D.bx _ (List.mem_cons_self ..)).1).cell 6, ((D.bx _ (List.mem_cons_self ..)).1).cell 7, ((D.bx _ (List.mem_cons_self ..)).1).cell 8, ((D.bx _ (List.mem_cons_self ..)).1).cell 9, ((D.bx _ (List.mem_cons_self ..)).1).cell 10⟩
    refine hK.out _ _ ?_ (fun hHeld2 => ?_)
    · (try dsimp only)
      exact kS
    clear hK K hHeld
    have hHeld := hHeld2
    clear hHeld2
    (try simp only [Act.put]); (try simp only [List.setIfInBounds_toArray]); (try simp only [List.set_cons_succ]); (try simp only [List.set_cons_zero])
    refine wpAnyH_done (by kernel_rfl) ?_ _
    (try dsimp only)
    have kd := fun o => DS.cell1 D o
    (try go_wp2)
    refine bodyPost_ret (v := .tuple #[.int .i64 x, .agg #[.int .i64 kind, .int .i64 id, .slice a1 n1 c1, .slice a2 n2 c2, .int .i64 tick, .slice a3 n3 c3, .slice a4 n4 c4, .int .i64 epoch, .int .i64 seq, .slice a5 n5 c5, .slice a6 n6 c6]]) (by simp [results, Try.results25, go_sem, kd]) rfl (PTi.mk (D.gb hcb) (by (first | exact BR.nil _ _ | exact D.b0 | exact D.tl.b0 | exact D.tl.tl.b0 | exact D.tl.tl.tl.b0 | exact D.tl.tl.tl.tl.b0 | exact D.tl.tl.tl.tl.tl.b0 | exact D.tl.tl.tl.tl.tl.tl.b0)) (by (first | exact BR.nil _ _ | exact D.b0 | exact D.tl.b0 | exact D.tl.tl.b0 | exact D.tl.tl.tl.b0 | exact D.tl.tl.tl.tl.b0 | exact D.tl.tl.tl.tl.tl.b0 | exact D.tl.tl.tl.tl.tl.tl.b0)) (by (first | exact BR.nil _ _ | exact D.b0 | exact D.tl.b0 | exact D.tl.tl.b0 | exact D.tl.tl.tl.b0 | exact D.tl.tl.tl.tl.b0 | exact D.tl.tl.tl.tl.tl.b0 | exact D.tl.tl.tl.tl.tl.tl.b0)) (by (first | exact BR.nil _ _ | exact D.b0 | exact D.tl.b0 | exact D.tl.tl.b0 | exact D.tl.tl.tl.b0 | exact D.tl.tl.tl.tl.b0 | exact D.tl.tl.tl.tl.tl.b0 | exact D.tl.tl.tl.tl.tl.tl.b0)) (by (first | exact BR.nil _ _ | exact D.b0 | exact D.tl.b0 | exact D.tl.tl.b0 | exact D.tl.tl.tl.b0 | exact D.tl.tl.tl.tl.b0 | exact D.tl.tl.tl.tl.tl.b0 | exact D.tl.tl.tl.tl.tl.tl.b0)) (by (first | exact BR.nil _ _ | exact D.b0 | exact D.tl.b0 | exact D.tl.tl.b0 | exact D.tl.tl.tl.b0 | exact D.tl.tl.tl.tl.b0 | exact D.tl.tl.tl.tl.tl.b0 | exact D.tl.tl.tl.tl.tl.tl.b0)))
end Go.Proofs.Ytjdaafemfpafdaa

/-
  FnHeads returns true for every code. Conditions: none.
-/
namespace Go.Proofs.Ytjdaafemfpafdaa.lHeads
open Go.ChangeShapes Go.WideShapes Go.ChangeAt Go.RowKit
theorem Rd.tailB {b off n c : Nat} {x : UInt8} {l : List UInt8} {w : World} (h : Rd w (some ⟨b, off, none⟩) (n + 1) c (bys (x :: l))) : Rd w (some ⟨b, off + 1, none⟩) n (c - 1) (bys l) := by
  have hl := h.blen
  rw [List.length_cons] at hl
  refine ⟨by rw [bys_len]; omega, by have := h.le; omega, fun j hj => ⟨b, off + 1, rfl, ?_⟩⟩
  obtain ⟨b', off', e, hc⟩ := h.cells (j + 1) (by omega)
  cases e
  rw [show off + 1 + j = off + (j + 1) by omega, hc]
  simp [bys]
set_option maxRecDepth 1000000 in
set_option maxHeartbeats 8000000 in
theorem walk (w : World) (v0 : Value) (h0 : InBytes w v0) : Calls Try.prog 5 #[v0] w fun e w' => e = .returned (.bool true) ∧ Below w.heap.size w w' := by
  obtain ⟨a, n, c, l, rfl, r, hC⟩ := h0
  rcases Nat.lt_or_ge 1048576 n with p | p
  · go_enter Try.func5, Try.ntmps5
    go_wp2_with (go_at_call 6; refine (laws_big a n c _).mono ?_; rw [decide_eq_true p]; rintro e w0 ⟨rfl, rfl⟩)
    go_ret
    exact ⟨rfl, Below.refl _ _⟩
  go_enter Try.func5, Try.ntmps5
  go_wp2_with (first
    | (go_at_call 6; refine (laws_big a n c _).mono ?_; rw [decide_eq_false (by omega)]; rintro e w0 ⟨rfl, rfl⟩) | (go_at_call 23; refine (spec_DrawHeadOf a n c l _ r p).mono ?_; rintro e w1 ⟨role, b, m, d, sl, ep, sq, rfl, rb, hm, G⟩; replace r := r.keep0 G; replace hm := Lib.hid hm; have eL := Lib.hid rb.blen) | (go_at_call 24; (with_reducible refine (impl_HeadOf role b m d sl ep sq w1 rb).mono ?_); obtain ⟨H, hH⟩ : ∃ H, Hid (headM role sl ep sq = H) := ⟨_, rfl⟩; rw [hH.out]; rintro e w2 ⟨a7, n7, c7, rfl, o7, g2⟩; have r7 := o7.rd; clear o7; (replace rb := rb.keep0 g2); (replace r := r.keep0 g2); (replace G := gb_trans G g2); clear g2) | (go_at_call 25; refine (spec_DrawTagInput a n c l _ r p).mono ?_; rintro e w3 ⟨x, v, F, rfl, R3, hF, g3⟩; obtain ⟨kind, id, l1, l2, tick, l3, l4, epoch, seq, l5, l6⟩ := F; obtain ⟨a1, n1, c1, a2, n2, c2, a3, n3, c3, a4, n4, c4, a5, n5, c5, a6, n6, c6, rfl⟩ := R3.shape; simp only at R3; replace hF := Lib.hid hF; (replace rb := rb.keep0 g3); (replace r := r.keep0 g3); (replace G := gb_trans G g3); replace r7 := r7.keep0 g3; clear g3) | (go_at_call 26; refine (impl_TagInput x _ (⟨kind, id, l1, l2, tick, l3, l4, epoch, seq, l5, l6⟩ : FrameM) _ (R3.keep0 (gb_alloc (gb_refl _) _))).mono ?_; obtain ⟨T, hT⟩ : ∃ T, Hid (tagInM x (⟨kind, id, l1, l2, tick, l3, l4, epoch, seq, l5, l6⟩ : FrameM) = T) := ⟨_, rfl⟩; rw [hT.out]; rintro e w4 ⟨a8, n8, c8, rfl, o8, g4⟩; have r8 := o8.rd; clear o8; have gA := gb_trans (gb_alloc (gb_refl w3) _) g4; have B9 := (Bx.new w3 35 #[.int .i64 kind, .int .i64 id, .slice a1 n1 c1, .slice a2 n2 c2, .int .i64 tick, .slice a3 n3 c3, .slice a4 n4 c4, .int .i64 epoch, .int .i64 seq, .slice a5 n5 c5, .slice a6 n6 c6]).keep0 g4; (replace rb := rb.keep0 gA); (replace r := r.keep0 gA); (replace G := gb_trans G gA); replace R3 := R3.keep0 gA; replace r7 := r7.keep0 gA; clear gA g4; have k9 := fun o => B9.cell o) | (go_at_call 27; (with_reducible refine (spec_HeadOf role b m d sl ep sq w4 rb).mono ?_); rw [hH.out]; rintro e w5 ⟨a10, n10, c10, rfl, o10, g5⟩; (replace rb := rb.keep0 g5); (replace r := r.keep0 g5); (replace R3 := R3.keep0 g5); (replace r7 := r7.keep0 g5); (replace r8 := r8.keep0 g5); (replace B9 := B9.keep0 g5); (replace G := gb_trans G g5); clear k9; have k9 := fun o => B9.cell o; clear g5) | (go_at_call 9; (with_reducible refine (laws_same_t a7 n7 c7 a10 n10 c10 H _ r7 o10.rd).mono ?_); rintro e w' ⟨rfl, rfl⟩) | (go_at_call 28; (with_reducible refine (spec_TagInput x _ (⟨kind, id, l1, l2, tick, l3, l4, epoch, seq, l5, l6⟩ : FrameM) w5 R3).mono ?_); rw [hT.out]; rintro e w6 ⟨a11, n11, c11, rfl, o11, g6⟩; (replace rb := rb.keep0 g6); (replace r := r.keep0 g6); (replace R3 := R3.keep0 g6); (replace r7 := r7.keep0 g6); (replace r8 := r8.keep0 g6); (replace B9 := B9.keep0 g6); (replace G := gb_trans G g6); clear k9; have k9 := fun o => B9.cell o; clear g6) | (go_at_call 9; (with_reducible refine (laws_same_t a8 n8 c8 a11 n11 c11 T _ r8 o11.rd).mono ?_); rintro e w' ⟨rfl, rfl⟩))
  have hT8 := Lib.hid r8.blen
  have hH7 := Lib.hid r7.blen
  clear o10 o11
  have KX : Hid (∀ w', w6.grownBy w' none → (w'.cell? ⟨w3.heap.size, 0, none⟩ = some (.int .i64 kind) ∧ w'.cell? ⟨w3.heap.size, 1, none⟩ = some (.int .i64 id) ∧ w'.cell? ⟨w3.heap.size, 2, none⟩ = some (.slice a1 n1 c1) ∧ w'.cell? ⟨w3.heap.size, 3, none⟩ = some (.slice a2 n2 c2) ∧ w'.cell? ⟨w3.heap.size, 4, none⟩ = some (.int .i64 tick) ∧ w'.cell? ⟨w3.heap.size, 5, none⟩ = some (.slice a3 n3 c3) ∧ w'.cell? ⟨w3.heap.size, 6, none⟩ = some (.slice a4 n4 c4) ∧ w'.cell? ⟨w3.heap.size, 7, none⟩ = some (.int .i64 epoch) ∧ w'.cell? ⟨w3.heap.size, 8, none⟩ = some (.int .i64 seq) ∧ w'.cell? ⟨w3.heap.size, 9, none⟩ = some (.slice a5 n5 c5) ∧ w'.cell? ⟨w3.heap.size, 10, none⟩ = some (.slice a6 n6 c6) ∧ w6.grownBy w' none)) := fun w' hg => ⟨(B9.keep0 hg).cell 0, (B9.keep0 hg).cell 1, (B9.keep0 hg).cell 2, (B9.keep0 hg).cell 3, (B9.keep0 hg).cell 4, (B9.keep0 hg).cell 5, (B9.keep0 hg).cell 6, (B9.keep0 hg).cell 7, (B9.keep0 hg).cell 8, (B9.keep0 hg).cell 9, (B9.keep0 hg).cell 10, hg⟩
  rcases Nat.eq_zero_or_pos n8 with z8 | z8
  · have fz : decide (0 < n8) = false := decide_eq_false (by omega)
    have fz2 : decide ((0 : Int) < (n8 : Int)) = false := decide_eq_false (by omega)
    refine wp_region_held_drew (S := (fun w' => w'.cell? ⟨w3.heap.size, 0, none⟩ = some (.int .i64 kind) ∧ w'.cell? ⟨w3.heap.size, 1, none⟩ = some (.int .i64 id) ∧ w'.cell? ⟨w3.heap.size, 2, none⟩ = some (.slice a1 n1 c1) ∧ w'.cell? ⟨w3.heap.size, 3, none⟩ = some (.slice a2 n2 c2) ∧ w'.cell? ⟨w3.heap.size, 4, none⟩ = some (.int .i64 tick) ∧ w'.cell? ⟨w3.heap.size, 5, none⟩ = some (.slice a3 n3 c3) ∧ w'.cell? ⟨w3.heap.size, 6, none⟩ = some (.slice a4 n4 c4) ∧ w'.cell? ⟨w3.heap.size, 7, none⟩ = some (.int .i64 epoch) ∧ w'.cell? ⟨w3.heap.size, 8, none⟩ = some (.int .i64 seq) ∧ w'.cell? ⟨w3.heap.size, 9, none⟩ = some (.slice a5 n5 c5) ∧ w'.cell? ⟨w3.heap.size, 10, none⟩ = some (.slice a6 n6 c6) ∧ w6.grownBy w' none)) (by kernel_rfl) ?_ (fun hHeld => ?_)
    · (try dsimp only)
      (refine KX.out _ ?_; (repeat (first | with_reducible exact gb_refl _ | with_reducible refine gb_alloc ?_ _ | with_reducible refine gb_drewN ?_ _ | with_reducible refine gb_drew ?_)))
    refine wpAnyH_takeD (i := 0) (some 51) (v := ?_) rfl rfl (by kernel_rfl) (by kernel_rfl) (by kernel_rfl) (fun _ _ _ h => h) (Or.inl ⟨by rfl, ?_⟩) (by assumption) ?_
    rotate_left
    (focus (intro w hSw; (try dsimp only at hSw); (first | (go_simp; done) | (go_simp; with_reducible rfl) | with_reducible rfl)))
    (try simp only [Act.put]); (try simp only [List.setIfInBounds_toArray]); (try simp only [List.set_cons_succ]); (try simp only [List.set_cons_zero])
    refine wpAnyH_takeD (i := 1) (some 52) (v := ?_) rfl rfl (by kernel_rfl) (by kernel_rfl) (by kernel_rfl) (fun _ _ _ h => h) (Or.inl ⟨by rfl, ?_⟩) (by assumption) ?_
    rotate_left
    (focus (intro w hSw; (try dsimp only at hSw); (first | (go_simp; done) | (go_simp; with_reducible rfl) | with_reducible rfl)))
    (try simp only [Act.put]); (try simp only [List.setIfInBounds_toArray]); (try simp only [List.set_cons_succ]); (try simp only [List.set_cons_zero])
    refine wpAnyH_takeD (i := 2) (some 53) (v := ?_) rfl rfl (by kernel_rfl) (by kernel_rfl) (by kernel_rfl) (fun _ _ _ h => h) (Or.inl ⟨by rfl, ?_⟩) (by assumption) ?_
    rotate_left
    (focus (intro w hSw; (try dsimp only at hSw); (first | (go_simp; done) | (go_simp; with_reducible rfl) | with_reducible rfl)))
    (try simp only [Act.put]); (try simp only [List.setIfInBounds_toArray]); (try simp only [List.set_cons_succ]); (try simp only [List.set_cons_zero])
    refine wpAnyH_takeD (i := 3) (some 54) (v := ?_) rfl rfl (by kernel_rfl) (by kernel_rfl) (by kernel_rfl) (fun _ _ _ h => h) (Or.inl ⟨by rfl, ?_⟩) (by assumption) ?_
    rotate_left
    (focus (intro w hSw; (try dsimp only at hSw); (first | (go_simp; done) | (go_simp; with_reducible rfl) | with_reducible rfl)))
    (try simp only [Act.put]); (try simp only [List.setIfInBounds_toArray]); (try simp only [List.set_cons_succ]); (try simp only [List.set_cons_zero])
    refine wpAnyH_takeD (i := 4) (some 55) (v := undef) rfl rfl (by kernel_rfl) (by kernel_rfl) (by kernel_rfl) (fun _ _ _ h => h) (Or.inr ⟨by rfl, rfl⟩) (by assumption) ?_
    (try simp only [Act.put]); (try simp only [List.setIfInBounds_toArray]); (try simp only [List.set_cons_succ]); (try simp only [List.set_cons_zero])
    refine wpAnyH_takeD (i := 5) (some 56) (v := undef) rfl rfl (by kernel_rfl) (by kernel_rfl) (by kernel_rfl) (fun _ _ _ h => h) (Or.inr ⟨by rfl, rfl⟩) (by assumption) ?_
    (try simp only [Act.put]); (try simp only [List.setIfInBounds_toArray]); (try simp only [List.set_cons_succ]); (try simp only [List.set_cons_zero])
    refine wpAnyH_takeD (i := 6) (some 57) (v := undef) rfl rfl (by kernel_rfl) (by kernel_rfl) (by kernel_rfl) (fun _ _ _ h => h) (Or.inr ⟨by rfl, rfl⟩) (by assumption) ?_
    (try simp only [Act.put]); (try simp only [List.setIfInBounds_toArray]); (try simp only [List.set_cons_succ]); (try simp only [List.set_cons_zero])
    refine wpAnyH_takeD (i := 7) (some 58) (v := undef) rfl rfl (by kernel_rfl) (by kernel_rfl) (by kernel_rfl) (fun _ _ _ h => h) (Or.inr ⟨by rfl, rfl⟩) (by assumption) ?_
    (try simp only [Act.put]); (try simp only [List.setIfInBounds_toArray]); (try simp only [List.set_cons_succ]); (try simp only [List.set_cons_zero])
    refine wpAnyH_takeD (i := 8) (some 59) (v := undef) rfl rfl (by kernel_rfl) (by kernel_rfl) (by kernel_rfl) (fun _ _ _ h => h) (Or.inr ⟨by rfl, rfl⟩) (by assumption) ?_
    (try simp only [Act.put]); (try simp only [List.setIfInBounds_toArray]); (try simp only [List.set_cons_succ]); (try simp only [List.set_cons_zero])
    refine wpAnyH_takeD (i := 9) (some 60) (v := undef) rfl rfl (by kernel_rfl) (by kernel_rfl) (by kernel_rfl) (fun _ _ _ h => h) (Or.inr ⟨by rfl, rfl⟩) (by assumption) ?_
    (try simp only [Act.put]); (try simp only [List.setIfInBounds_toArray]); (try simp only [List.set_cons_succ]); (try simp only [List.set_cons_zero])
    refine wpAnyH_takeD (i := 10) (some 61) (v := undef) rfl rfl (by kernel_rfl) (by kernel_rfl) (by kernel_rfl) (fun _ _ _ h => h) (Or.inr ⟨by rfl, rfl⟩) (by assumption) ?_
    (try simp only [Act.put]); (try simp only [List.setIfInBounds_toArray]); (try simp only [List.set_cons_succ]); (try simp only [List.set_cons_zero])
    refine wpAnyH_takeD (i := 11) (some 62) (v := undef) rfl rfl (by kernel_rfl) (by kernel_rfl) (by kernel_rfl) (fun _ _ _ h => h) (Or.inr ⟨by rfl, rfl⟩) (by assumption) ?_
    (try simp only [Act.put]); (try simp only [List.setIfInBounds_toArray]); (try simp only [List.set_cons_succ]); (try simp only [List.set_cons_zero])
    refine wpAnyH_takeD (i := 12) (some 63) (v := undef) rfl rfl (by kernel_rfl) (by kernel_rfl) (by kernel_rfl) (fun _ _ _ h => h) (Or.inr ⟨by rfl, rfl⟩) (by assumption) ?_
    (try simp only [Act.put]); (try simp only [List.setIfInBounds_toArray]); (try simp only [List.set_cons_succ]); (try simp only [List.set_cons_zero])
    refine wpAnyH_takeD (i := 13) (some 64) (v := undef) rfl rfl (by kernel_rfl) (by kernel_rfl) (by kernel_rfl) (fun _ _ _ h => h) (Or.inr ⟨by rfl, rfl⟩) (by assumption) ?_
    (try simp only [Act.put]); (try simp only [List.setIfInBounds_toArray]); (try simp only [List.set_cons_succ]); (try simp only [List.set_cons_zero])
    refine wpAnyH_takeD (i := 14) (some 65) (v := undef) rfl rfl (by kernel_rfl) (by kernel_rfl) (by kernel_rfl) (fun _ _ _ h => h) (Or.inr ⟨by rfl, rfl⟩) (by assumption) ?_
    (try simp only [Act.put]); (try simp only [List.setIfInBounds_toArray]); (try simp only [List.set_cons_succ]); (try simp only [List.set_cons_zero])
    refine wpAnyH_takeD (i := 15) (some 66) (v := undef) rfl rfl (by kernel_rfl) (by kernel_rfl) (by kernel_rfl) (fun _ _ _ h => h) (Or.inr ⟨by rfl, rfl⟩) (by assumption) ?_
    (try simp only [Act.put]); (try simp only [List.setIfInBounds_toArray]); (try simp only [List.set_cons_succ]); (try simp only [List.set_cons_zero])
    refine wpAnyH_takeD (i := 16) (some 67) (v := undef) rfl rfl (by kernel_rfl) (by kernel_rfl) (by kernel_rfl) (fun _ _ _ h => h) (Or.inr ⟨by rfl, rfl⟩) (by assumption) ?_
    (try simp only [Act.put]); (try simp only [List.setIfInBounds_toArray]); (try simp only [List.set_cons_succ]); (try simp only [List.set_cons_zero])
    refine wpAnyH_takeD (i := 17) (some 68) (v := undef) rfl rfl (by kernel_rfl) (by kernel_rfl) (by kernel_rfl) (fun _ _ _ h => h) (Or.inr ⟨by rfl, rfl⟩) (by assumption) ?_
    (try simp only [Act.put]); (try simp only [List.setIfInBounds_toArray]); (try simp only [List.set_cons_succ]); (try simp only [List.set_cons_zero])
    refine wpAnyH_takeD (i := 18) (some 69) (v := undef) rfl rfl (by kernel_rfl) (by kernel_rfl) (by kernel_rfl) (fun _ _ _ h => h) (Or.inr ⟨by rfl, rfl⟩) (by assumption) ?_
    (try simp only [Act.put]); (try simp only [List.setIfInBounds_toArray]); (try simp only [List.set_cons_succ]); (try simp only [List.set_cons_zero])
    refine wpAnyH_takeD (i := 19) (some 70) (v := undef) rfl rfl (by kernel_rfl) (by kernel_rfl) (by kernel_rfl) (fun _ _ _ h => h) (Or.inr ⟨by rfl, rfl⟩) (by assumption) ?_
    (try simp only [Act.put]); (try simp only [List.setIfInBounds_toArray]); (try simp only [List.set_cons_succ]); (try simp only [List.set_cons_zero])
    refine wpAnyH_takeD (i := 20) (some 71) (v := undef) rfl rfl (by kernel_rfl) (by kernel_rfl) (by kernel_rfl) (fun _ _ _ h => h) (Or.inr ⟨by rfl, rfl⟩) (by assumption) ?_
    (try simp only [Act.put]); (try simp only [List.setIfInBounds_toArray]); (try simp only [List.set_cons_succ]); (try simp only [List.set_cons_zero])
    refine wpAnyH_takeD (i := 21) (some 72) (v := undef) rfl rfl (by kernel_rfl) (by kernel_rfl) (by kernel_rfl) (fun _ _ _ h => h) (Or.inr ⟨by rfl, rfl⟩) (by assumption) ?_
    (try simp only [Act.put]); (try simp only [List.setIfInBounds_toArray]); (try simp only [List.set_cons_succ]); (try simp only [List.set_cons_zero])
    refine wpAnyH_takeD (i := 22) (some 73) (v := undef) rfl rfl (by kernel_rfl) (by kernel_rfl) (by kernel_rfl) (fun _ _ _ h => h) (Or.inr ⟨by rfl, rfl⟩) (by assumption) ?_
    (try simp only [Act.put]); (try simp only [List.setIfInBounds_toArray]); (try simp only [List.set_cons_succ]); (try simp only [List.set_cons_zero])
    refine wpAnyH_takeD (i := 23) (some 74) (v := undef) rfl rfl (by kernel_rfl) (by kernel_rfl) (by kernel_rfl) (fun _ _ _ h => h) (Or.inr ⟨by rfl, rfl⟩) (by assumption) ?_
    (try simp only [Act.put]); (try simp only [List.setIfInBounds_toArray]); (try simp only [List.set_cons_succ]); (try simp only [List.set_cons_zero])
    refine wpAnyH_takeD (i := 24) (some 75) (v := undef) rfl rfl (by kernel_rfl) (by kernel_rfl) (by kernel_rfl) (fun _ _ _ h => h) (Or.inr ⟨by rfl, rfl⟩) (by assumption) ?_
    (try simp only [Act.put]); (try simp only [List.setIfInBounds_toArray]); (try simp only [List.set_cons_succ]); (try simp only [List.set_cons_zero])
    refine wpAnyH_takeD (i := 25) (some 76) (v := ?_) rfl rfl (by kernel_rfl) (by kernel_rfl) (by kernel_rfl) (fun _ _ _ h => h) (Or.inl ⟨by rfl, ?_⟩) (by assumption) ?_
    rotate_left
    (focus (intro w hSw; (try dsimp only at hSw); (first | (go_simp; done) | (go_simp; with_reducible rfl) | with_reducible rfl)))
    (try simp only [Act.put]); (try simp only [List.setIfInBounds_toArray]); (try simp only [List.set_cons_succ]); (try simp only [List.set_cons_zero])
    refine wpAnyH_done (by kernel_rfl) ?_ _
    (try dsimp only)
    clear fz fz2
    have q9 : w6.grownBy w6.drew none := gb_drew (gb_refl _)
    clear KX
    replace rb := rb.keep0 q9
    replace r := r.keep0 q9
    replace r7 := r7.keep0 q9
    replace G := gb_trans G q9
    clear R3 r8 B9 k9 q9
    cases hok : headOk role sl.length ep sq
    · obtain rfl : n7 = 0 := by rw [← hH7.out, ← hH.out, headM_nil hok]; rfl
      have hno := Lib.hid (show ¬ ((0 ≤ role ∧ role ≤ 1) ∧ m = 12 ∧ (0 ≤ ep ∧ ep ≤ 4294967295) ∧ (0 ≤ sq ∧ sq ≤ 281474976710655)) from fun h => by
        rw [headOk_iff.2 (by rw [eL.out]; exact h)] at hok
        cases hok)
      clear hok
      by_cases q1 : role < 0
      · go_wp2
        go_ret
        exact ⟨rfl, gb_below G⟩
      by_cases q2 : 1 < role
      · go_wp2
        go_ret
        exact ⟨rfl, gb_below G⟩
      cases q3 : ((m : Int) != 12)
      rotate_left
      · go_wp2
        go_ret
        exact ⟨rfl, gb_below G⟩
      by_cases q4 : ep < 0
      · go_wp2
        go_ret
        exact ⟨rfl, gb_below G⟩
      by_cases q5 : 4294967295 < ep
      · go_wp2
        go_ret
        exact ⟨rfl, gb_below G⟩
      by_cases q6 : sq < 0
      · go_wp2
        go_ret
        exact ⟨rfl, gb_below G⟩
      by_cases q7 : 281474976710656 ≤ sq
      · go_wp2
        go_ret
        exact ⟨rfl, gb_below G⟩
      exact absurd ⟨by omega, by simp at q3; omega, by omega, by omega⟩ hno.out
    · obtain rfl : n7 = 23 := by rw [← hH7.out, ← hH.out, headM_len23 hok]
      have hne := Lib.hid (show eqL H (headM (1 - role) sl ep sq) = false by
        rw [← hH.out]
        exact Bool.eq_false_iff.2 (fun h => head_role hok (eqL_iff.1 h)))
      have hq := Lib.hid (show ∀ k1 k2 : Nat, k1 < 256 → k2 < 256 → eqL H (headM role sl k1 k2) = ((k1 : Int) == ep && (k2 : Int) == sq) by
        intro k1 k2 h1 h2
        rw [← hH.out, Bool.eq_iff_iff, eqL_iff, head_eq hok (by omega) (by omega), Bool.and_eq_true, beq_iff_eq, beq_iff_eq])
      obtain ⟨⟨q1, q2⟩, -, ⟨q3, q4⟩, q5, q6⟩ := headOk_iff.1 hok
      clear hok
      go_wp2_with (first | (go_at_call 14; (with_reducible refine (laws_at a n c l 2 _ r p (by decide) (by decide)).mono ?_); rintro e w' ⟨k1, hk1, rfl, rfl⟩) | (go_at_call 14; (with_reducible refine (laws_at a n c l 3 _ r p (by decide) (by decide)).mono ?_); rintro e w' ⟨k2, hk2, rfl, rfl⟩))
      have hq2 := hq.out k1 k2 hk1 hk2
      cases e1 : ((k1 : Int) == ep)
      all_goals cases e2 : ((k2 : Int) == sq)
      all_goals
        rw [e1, e2] at hq2
        replace hq2 := Lib.hid hq2
        refine (impl_HeadOf (1 - role) b m d sl ep sq _ rb).mono ?_
        rintro e w9 ⟨a12, n12, c12, rfl, o12, g9⟩
        have r12 := o12.rd
        replace r7 := r7.keep0 g9
        replace rb := rb.keep0 g9
        replace G := gb_trans G g9
        clear o12 g9
        go_wp2_with (first | (go_at_call 9; (with_reducible refine (laws_same a7 23 c7 a12 n12 c12 H (headM (1 - role) sl ep sq) w9 r7 r12).mono ?_); rw [hne.out]; rintro e w' ⟨rfl, rfl⟩) | (go_at_call 24; (with_reducible refine (impl_HeadOf role b m d sl (k1 : Int) (k2 : Int) w9 rb).mono ?_); rintro e w10 ⟨a13, n13, c13, rfl, o13, g10⟩; have r13 := o13.rd; replace r7 := r7.keep0 g10; replace G := gb_trans G g10; clear o13) | (go_at_call 9; (with_reducible refine (laws_same a7 23 c7 a13 n13 c13 H (headM role sl k1 k2) w10 r7 r13).mono ?_); rw [hq2.out]; rintro e w' ⟨rfl, rfl⟩))
        go_ret
        exact ⟨rfl, gb_below G⟩
  · have hTn : tagInM x (⟨kind, id, l1, l2, tick, l3, l4, epoch, seq, l5, l6⟩ : FrameM) ≠ [] := by
      rw [hT.out]
      intro e
      rw [e] at hT8
      have h9 := hT8.out
      simp at h9
      omega
    obtain ⟨hok9, hparts⟩ := tagIn_parts hTn
    have hlen9 := tagIn_len25 hTn
    rw [hT.out] at hparts hlen9
    simp only at hparts hlen9 hok9
    have e5 : l5.length = n5 := by
      obtain ⟨b1, m1, d1, b2, m2, d2, b3, m3, d3, b4, m4, d4, b5, m5, d5, b6, m6, d6, e, -, -, -, -, s5, -⟩ := R3
      cases e
      exact s5.blen
    obtain ⟨HM, hHM⟩ : ∃ HM, Hid (headM x l2 epoch seq = HM) := ⟨_, rfl⟩
    rw [hHM.out] at hparts
    obtain ⟨bb, off, rfl, -⟩ := r8.pos z8
    have hN : n8 = 25 + n5 := by rw [← hT8.out, hlen9, e5]
    have rT : Rd w6 (some ⟨bb, off + 1, none⟩) (n8 - 1) (c8 - 1) (bys (HM ++ ([b8 kind] ++ l5))) := Rd.tailB (x := 116) (by rw [Nat.sub_add_cancel z8]; rw [hparts] at r8; simpa using r8)
    have r2' : ∃ u, Rd w6 a2 n2 c2 (bys l2) ∧ u = 0 := by
      obtain ⟨b1, m1, d1, b2, m2, d2, b3, m3, d3, b4, m4, d4, b5, m5, d5, b6, m6, d6, e, -, s2, -⟩ := R3
      cases e
      exact ⟨0, s2, rfl⟩
    obtain ⟨-, r2, -⟩ := r2'
    have hc8 : n8 ≤ c8 := r8.le
    have hN2 : n8 ≤ 2000 := by
      have h9 := hF.out
      simp only [FrameM.tot] at h9
      omega
    have hn5 : n5 ≤ 2000 := by omega
    have fz : decide (0 < n8) = true := decide_eq_true (by omega)
    have fz2 : decide ((0 : Int) < (n8 : Int)) = true := decide_eq_true (by omega)
    have f1 : ((n8 : Int) != 25 + (n5 : Int)) = false := by rw [bne_eq_false_iff_eq]; omega
    have f4 : 1 ≤ n8 := by omega
    have f5 : (1 : Int) ≤ (n8 : Int) := by omega
    have f6 : 1 < c8 := by omega
    replace hN := Lib.hid hN
    have f3 : IntKind.i64.wrap (25 + (n5 : Int)) = 25 + (n5 : Int) := IntWalk.i64_in _ (by omega)
    clear hTn hlen9 hparts hok9 e5
    refine wp_region_held_drew (S := (fun w' => w'.cell? ⟨w3.heap.size, 0, none⟩ = some (.int .i64 kind) ∧ w'.cell? ⟨w3.heap.size, 1, none⟩ = some (.int .i64 id) ∧ w'.cell? ⟨w3.heap.size, 2, none⟩ = some (.slice a1 n1 c1) ∧ w'.cell? ⟨w3.heap.size, 3, none⟩ = some (.slice a2 n2 c2) ∧ w'.cell? ⟨w3.heap.size, 4, none⟩ = some (.int .i64 tick) ∧ w'.cell? ⟨w3.heap.size, 5, none⟩ = some (.slice a3 n3 c3) ∧ w'.cell? ⟨w3.heap.size, 6, none⟩ = some (.slice a4 n4 c4) ∧ w'.cell? ⟨w3.heap.size, 7, none⟩ = some (.int .i64 epoch) ∧ w'.cell? ⟨w3.heap.size, 8, none⟩ = some (.int .i64 seq) ∧ w'.cell? ⟨w3.heap.size, 9, none⟩ = some (.slice a5 n5 c5) ∧ w'.cell? ⟨w3.heap.size, 10, none⟩ = some (.slice a6 n6 c6) ∧ w6.grownBy w' none)) (by kernel_rfl) ?_ (fun hHeld => ?_)
    · (try dsimp only)
      (refine KX.out _ ?_; (repeat (first | with_reducible exact gb_refl _ | with_reducible refine gb_alloc ?_ _ | with_reducible refine gb_drewN ?_ _ | with_reducible refine gb_drew ?_)))
    refine wpAnyH_takeD (i := 0) (some 51) (v := ?_) rfl rfl (by kernel_rfl) (by kernel_rfl) (by kernel_rfl) (fun _ _ _ h => h) (Or.inl ⟨by rfl, ?_⟩) (by assumption) ?_
    rotate_left
    (focus (intro w hSw; (try dsimp only at hSw); (first | (go_simp; done) | (go_simp; with_reducible rfl) | with_reducible rfl)))
    (try simp only [Act.put]); (try simp only [List.setIfInBounds_toArray]); (try simp only [List.set_cons_succ]); (try simp only [List.set_cons_zero])
    refine wpAnyH_takeD (i := 1) (some 52) (v := ?_) rfl rfl (by kernel_rfl) (by kernel_rfl) (by kernel_rfl) (fun _ _ _ h => h) (Or.inl ⟨by rfl, ?_⟩) (by assumption) ?_
    rotate_left
    (focus (intro w hSw; (try dsimp only at hSw); (first | (go_simp; done) | (go_simp; with_reducible rfl) | with_reducible rfl)))
    (try simp only [Act.put]); (try simp only [List.setIfInBounds_toArray]); (try simp only [List.set_cons_succ]); (try simp only [List.set_cons_zero])
    refine wpAnyH_takeD (i := 2) (some 53) (v := ?_) rfl rfl (by kernel_rfl) (by kernel_rfl) (by kernel_rfl) (fun _ _ _ h => h) (Or.inl ⟨by rfl, ?_⟩) (by assumption) ?_
    rotate_left
    (focus (intro w hSw; (try dsimp only at hSw); (first | (go_simp; done) | (go_simp; with_reducible rfl) | with_reducible rfl)))
    (try simp only [Act.put]); (try simp only [List.setIfInBounds_toArray]); (try simp only [List.set_cons_succ]); (try simp only [List.set_cons_zero])
    refine wpAnyH_takeD (i := 3) (some 54) (v := ?_) rfl rfl (by kernel_rfl) (by kernel_rfl) (by kernel_rfl) (fun _ _ _ h => h) (Or.inl ⟨by rfl, ?_⟩) (by assumption) ?_
    rotate_left
    (focus (intro w hSw; (try dsimp only at hSw); (first | (go_simp; done) | (go_simp; with_reducible rfl) | with_reducible rfl)))
    (try simp only [Act.put]); (try simp only [List.setIfInBounds_toArray]); (try simp only [List.set_cons_succ]); (try simp only [List.set_cons_zero])
    refine wpAnyH_takeD (i := 4) (some 55) (v := ?_) rfl rfl (by kernel_rfl) (by kernel_rfl) (by kernel_rfl) (fun _ _ _ h => h) (Or.inl ⟨by rfl, ?_⟩) (by assumption) ?_
    rotate_left
    (focus (intro w hSw; (try dsimp only at hSw); (first | (go_simp; done) | (go_simp; with_reducible rfl) | with_reducible rfl)))
    (try simp only [Act.put]); (try simp only [List.setIfInBounds_toArray]); (try simp only [List.set_cons_succ]); (try simp only [List.set_cons_zero])
    refine wpAnyH_takeD (i := 5) (some 56) (v := ?_) rfl rfl (by kernel_rfl) (by kernel_rfl) (by kernel_rfl) (fun _ _ _ h => h) (Or.inl ⟨by rfl, ?_⟩) (by assumption) ?_
    rotate_left
    (focus (intro w hSw; (try dsimp only at hSw); (first | (go_simp; done) | (go_simp; with_reducible rfl) | with_reducible rfl)))
    (try simp only [Act.put]); (try simp only [List.setIfInBounds_toArray]); (try simp only [List.set_cons_succ]); (try simp only [List.set_cons_zero])
    refine wpAnyH_takeD (i := 6) (some 57) (v := ?_) rfl rfl (by kernel_rfl) (by kernel_rfl) (by kernel_rfl) (fun _ _ _ h => h) (Or.inl ⟨by rfl, ?_⟩) (by assumption) ?_
    rotate_left
    (focus (intro w hSw; (try dsimp only at hSw); (first | (go_simp; done) | (go_simp; with_reducible rfl) | with_reducible rfl)))
    (try simp only [Act.put]); (try simp only [List.setIfInBounds_toArray]); (try simp only [List.set_cons_succ]); (try simp only [List.set_cons_zero])
    refine wpAnyH_takeD (i := 7) (some 58) (v := ?_) rfl rfl (by kernel_rfl) (by kernel_rfl) (by kernel_rfl) (fun _ _ _ h => h) (Or.inl ⟨by rfl, ?_⟩) (by assumption) ?_
    rotate_left
    (focus (intro w hSw; (try dsimp only at hSw); (first | (go_simp; done) | (go_simp; with_reducible rfl) | with_reducible rfl)))
    (try simp only [Act.put]); (try simp only [List.setIfInBounds_toArray]); (try simp only [List.set_cons_succ]); (try simp only [List.set_cons_zero])
    refine wpAnyH_takeD (i := 8) (some 59) (v := ?_) rfl rfl (by kernel_rfl) (by kernel_rfl) (by kernel_rfl) (fun _ _ _ h => h) (Or.inl ⟨by rfl, ?_⟩) (by assumption) ?_
    rotate_left
    (focus (intro w hSw; (try dsimp only at hSw); (first | (go_simp; done) | (go_simp; with_reducible rfl) | with_reducible rfl)))
    (try simp only [Act.put]); (try simp only [List.setIfInBounds_toArray]); (try simp only [List.set_cons_succ]); (try simp only [List.set_cons_zero])
    refine wpAnyH_takeD (i := 9) (some 60) (v := ?_) rfl rfl (by kernel_rfl) (by kernel_rfl) (by kernel_rfl) (fun _ _ _ h => h) (Or.inl ⟨by rfl, ?_⟩) (by assumption) ?_
    rotate_left
    (focus (intro w hSw; (try dsimp only at hSw); (first | (go_simp; done) | (go_simp; with_reducible rfl) | with_reducible rfl)))
    (try simp only [Act.put]); (try simp only [List.setIfInBounds_toArray]); (try simp only [List.set_cons_succ]); (try simp only [List.set_cons_zero])
    refine wpAnyH_takeD (i := 10) (some 61) (v := ?_) rfl rfl (by kernel_rfl) (by kernel_rfl) (by kernel_rfl) (fun _ _ _ h => h) (Or.inl ⟨by rfl, ?_⟩) (by assumption) ?_
    rotate_left
    (focus (intro w hSw; (try dsimp only at hSw); (first | (go_simp; done) | (go_simp; with_reducible rfl) | with_reducible rfl)))
    (try simp only [Act.put]); (try simp only [List.setIfInBounds_toArray]); (try simp only [List.set_cons_succ]); (try simp only [List.set_cons_zero])
    refine wpAnyH_takeD (i := 11) (some 62) (v := ?_) rfl rfl (by kernel_rfl) (by kernel_rfl) (by kernel_rfl) (fun _ _ _ h => h) (Or.inl ⟨by rfl, ?_⟩) (by assumption) ?_
    rotate_left
    (focus (intro w hSw; (try dsimp only at hSw); (first | (go_simp; done) | (go_simp; with_reducible rfl) | with_reducible rfl)))
    (try simp only [Act.put]); (try simp only [List.setIfInBounds_toArray]); (try simp only [List.set_cons_succ]); (try simp only [List.set_cons_zero])
    refine wpAnyH_takeD (i := 12) (some 63) (v := ?_) rfl rfl (by kernel_rfl) (by kernel_rfl) (by kernel_rfl) (fun _ _ _ h => h) (Or.inl ⟨by rfl, ?_⟩) (by assumption) ?_
    rotate_left
    (focus (intro w hSw; (try dsimp only at hSw); (first | (go_simp; done) | (go_simp; with_reducible rfl) | with_reducible rfl)))
    (try simp only [Act.put]); (try simp only [List.setIfInBounds_toArray]); (try simp only [List.set_cons_succ]); (try simp only [List.set_cons_zero])
    refine wpAnyH_ready (rs := [13]) (by kernel_rfl) (by simp) (AllReadyH.cons rfl (fun K hK => ?_) AllReadyH.nil)
    go_simp
    (go_at_call 24; refine (impl_HeadOf x a2 n2 c2 l2 epoch seq _ (r2.keep0 (by (repeat (first | with_reducible exact gb_refl _ | with_reducible refine gb_alloc ?_ _ | with_reducible refine gb_drewN ?_ _ | with_reducible refine gb_drew ?_))))).mono ?_; rw [hHM.out]; rintro e w7 ⟨a12, n12, c12, rfl, o12, g7⟩; skip)
    go_wp2_with fail
    refine hK.out _ _ ?_ (fun hHeld2 => ?_)
    · (try dsimp only)
      (refine KX.out _ ?_; (repeat (first | with_reducible exact gb_refl _ | with_reducible refine gb_alloc ?_ _ | with_reducible refine gb_drewN ?_ _ | with_reducible refine gb_drew ?_ | with_reducible refine gb_trans ?_ g7)))
    clear hK K hHeld
    have hHeld := hHeld2
    clear hHeld2
    (try simp only [Act.put]); (try simp only [List.setIfInBounds_toArray]); (try simp only [List.set_cons_succ]); (try simp only [List.set_cons_zero])
    refine wpAnyH_ready (rs := [14]) (by kernel_rfl) (by simp) (AllReadyH.cons rfl (fun K hK => ?_) AllReadyH.nil)
    go_simp
    (go_at_call 29; refine (laws_starts_t bb (off + 1) (n8 - 1) (c8 - 1) a12 n12 c12 HM _ _ (rT.keep0 (by (repeat (first | with_reducible exact gb_refl _ | with_reducible refine gb_alloc ?_ _ | with_reducible refine gb_drewN ?_ _ | with_reducible refine gb_drew ?_ | with_reducible refine gb_trans ?_ g7)))) o12.rd).mono ?_; rintro e w8 ⟨rfl, g8⟩; skip)
    go_wp2_with fail
    refine hK.out _ _ ?_ (fun hHeld2 => ?_)
    · (try dsimp only)
      (refine KX.out _ ?_; (repeat (first | with_reducible exact gb_refl _ | with_reducible refine gb_alloc ?_ _ | with_reducible refine gb_drewN ?_ _ | with_reducible refine gb_drew ?_ | with_reducible refine gb_trans ?_ g7 | with_reducible refine gb_trans ?_ g8)))
    clear hK K hHeld
    have hHeld := hHeld2
    clear hHeld2
    (try simp only [Act.put]); (try simp only [List.setIfInBounds_toArray]); (try simp only [List.set_cons_succ]); (try simp only [List.set_cons_zero])
    refine wpAnyH_takeD (i := 15) (some 66) (v := ?_) rfl rfl (by kernel_rfl) (by kernel_rfl) (by kernel_rfl) (fun _ _ _ h => h) (Or.inl ⟨by rfl, ?_⟩) (by assumption) ?_
    rotate_left
    (focus (intro w hSw; (try dsimp only at hSw); (first | (go_simp; done) | (go_simp; with_reducible rfl) | with_reducible rfl)))
    (try simp only [Act.put]); (try simp only [List.setIfInBounds_toArray]); (try simp only [List.set_cons_succ]); (try simp only [List.set_cons_zero])
    refine wpAnyH_takeD (i := 16) (some 67) (v := ?_) rfl rfl (by kernel_rfl) (by kernel_rfl) (by kernel_rfl) (fun _ _ _ h => h) (Or.inl ⟨by rfl, ?_⟩) (by assumption) ?_
    rotate_left
    (focus (intro w hSw; (try dsimp only at hSw); (first | (go_simp; done) | (go_simp; with_reducible rfl) | with_reducible rfl)))
    (try simp only [Act.put]); (try simp only [List.setIfInBounds_toArray]); (try simp only [List.set_cons_succ]); (try simp only [List.set_cons_zero])
    refine wpAnyH_takeD (i := 17) (some 68) (v := ?_) rfl rfl (by kernel_rfl) (by kernel_rfl) (by kernel_rfl) (fun _ _ _ h => h) (Or.inl ⟨by rfl, ?_⟩) (by assumption) ?_
    rotate_left
    (focus (intro w hSw; (try dsimp only at hSw); (first | (go_simp; done) | (go_simp; with_reducible rfl) | with_reducible rfl)))
    (try simp only [Act.put]); (try simp only [List.setIfInBounds_toArray]); (try simp only [List.set_cons_succ]); (try simp only [List.set_cons_zero])
    refine wpAnyH_takeD (i := 18) (some 69) (v := ?_) rfl rfl (by kernel_rfl) (by kernel_rfl) (by kernel_rfl) (fun _ _ _ h => h) (Or.inl ⟨by rfl, ?_⟩) (by assumption) ?_
    rotate_left
    (focus (intro w hSw; (try dsimp only at hSw); (first | (go_simp; done) | (go_simp; with_reducible rfl) | with_reducible rfl)))
    (try simp only [Act.put]); (try simp only [List.setIfInBounds_toArray]); (try simp only [List.set_cons_succ]); (try simp only [List.set_cons_zero])
    refine wpAnyH_takeD (i := 19) (some 70) (v := ?_) rfl rfl (by kernel_rfl) (by kernel_rfl) (by kernel_rfl) (fun _ _ _ h => h) (Or.inl ⟨by rfl, ?_⟩) (by assumption) ?_
    rotate_left
    (focus (intro w hSw; (try dsimp only at hSw); (first | (go_simp; done) | (go_simp; with_reducible rfl) | with_reducible rfl)))
    (try simp only [Act.put]); (try simp only [List.setIfInBounds_toArray]); (try simp only [List.set_cons_succ]); (try simp only [List.set_cons_zero])
    refine wpAnyH_takeD (i := 20) (some 71) (v := ?_) rfl rfl (by kernel_rfl) (by kernel_rfl) (by kernel_rfl) (fun _ _ _ h => h) (Or.inl ⟨by rfl, ?_⟩) (by assumption) ?_
    rotate_left
    (focus (intro w hSw; (try dsimp only at hSw); (first | (go_simp; done) | (go_simp; with_reducible rfl) | with_reducible rfl)))
    (try simp only [Act.put]); (try simp only [List.setIfInBounds_toArray]); (try simp only [List.set_cons_succ]); (try simp only [List.set_cons_zero])
    refine wpAnyH_takeD (i := 21) (some 72) (v := ?_) rfl rfl (by kernel_rfl) (by kernel_rfl) (by kernel_rfl) (fun _ _ _ h => h) (Or.inl ⟨by rfl, ?_⟩) (by assumption) ?_
    rotate_left
    (focus (intro w hSw; (try dsimp only at hSw); (first | (go_simp; done) | (go_simp; with_reducible rfl) | with_reducible rfl)))
    (try simp only [Act.put]); (try simp only [List.setIfInBounds_toArray]); (try simp only [List.set_cons_succ]); (try simp only [List.set_cons_zero])
    refine wpAnyH_takeD (i := 22) (some 73) (v := ?_) rfl rfl (by kernel_rfl) (by kernel_rfl) (by kernel_rfl) (fun _ _ _ h => h) (Or.inl ⟨by rfl, ?_⟩) (by assumption) ?_
    rotate_left
    (focus (intro w hSw; (try dsimp only at hSw); (first | (go_simp; done) | (go_simp; with_reducible rfl) | with_reducible rfl)))
    (try simp only [Act.put]); (try simp only [List.setIfInBounds_toArray]); (try simp only [List.set_cons_succ]); (try simp only [List.set_cons_zero])
    refine wpAnyH_takeD (i := 23) (some 74) (v := ?_) rfl rfl (by kernel_rfl) (by kernel_rfl) (by kernel_rfl) (fun _ _ _ h => h) (Or.inl ⟨by rfl, ?_⟩) (by assumption) ?_
    rotate_left
    (focus (intro w hSw; (try dsimp only at hSw); (first | (go_simp; done) | (go_simp; with_reducible rfl) | with_reducible rfl)))
    (try simp only [Act.put]); (try simp only [List.setIfInBounds_toArray]); (try simp only [List.set_cons_succ]); (try simp only [List.set_cons_zero])
    refine wpAnyH_takeD (i := 24) (some 75) (v := ?_) rfl rfl (by kernel_rfl) (by kernel_rfl) (by kernel_rfl) (fun _ _ _ h => h) (Or.inl ⟨by rfl, ?_⟩) (by assumption) ?_
    rotate_left
    (focus (intro w hSw; (try dsimp only at hSw); (first | (go_simp; done) | (go_simp; with_reducible rfl) | with_reducible rfl)))
    (try simp only [Act.put]); (try simp only [List.setIfInBounds_toArray]); (try simp only [List.set_cons_succ]); (try simp only [List.set_cons_zero])
    refine wpAnyH_takeD (i := 25) (some 76) (v := ?_) rfl rfl (by kernel_rfl) (by kernel_rfl) (by kernel_rfl) (fun _ _ _ h => h) (Or.inl ⟨by rfl, ?_⟩) (by assumption) ?_
    rotate_left
    (focus (intro w hSw; (try dsimp only at hSw); (first | (go_simp; done) | (go_simp; with_reducible rfl) | with_reducible rfl)))
    (try simp only [Act.put]); (try simp only [List.setIfInBounds_toArray]); (try simp only [List.set_cons_succ]); (try simp only [List.set_cons_zero])
    refine wpAnyH_done (by kernel_rfl) ?_ _
    (try dsimp only)
    have q9 : w6.grownBy w8 none := (by (repeat (first | with_reducible exact gb_refl _ | with_reducible refine gb_alloc ?_ _ | with_reducible refine gb_drewN ?_ _ | with_reducible refine gb_drew ?_ | with_reducible refine gb_trans ?_ g7 | with_reducible refine gb_trans ?_ g8)))
    clear f1 f3 f4 f5 f6 fz fz2 rT r2
    clear KX
    replace rb := rb.keep0 q9
    replace r := r.keep0 q9
    replace r7 := r7.keep0 q9
    replace G := gb_trans G q9
    clear R3 r8 B9 k9 q9
    cases hok : headOk role sl.length ep sq
    · obtain rfl : n7 = 0 := by rw [← hH7.out, ← hH.out, headM_nil hok]; rfl
      have hno := Lib.hid (show ¬ ((0 ≤ role ∧ role ≤ 1) ∧ m = 12 ∧ (0 ≤ ep ∧ ep ≤ 4294967295) ∧ (0 ≤ sq ∧ sq ≤ 281474976710655)) from fun h => by
        rw [headOk_iff.2 (by rw [eL.out]; exact h)] at hok
        cases hok)
      clear hok
      by_cases q1 : role < 0
      · go_wp2
        go_ret
        exact ⟨rfl, gb_below G⟩
      by_cases q2 : 1 < role
      · go_wp2
        go_ret
        exact ⟨rfl, gb_below G⟩
      cases q3 : ((m : Int) != 12)
      rotate_left
      · go_wp2
        go_ret
        exact ⟨rfl, gb_below G⟩
      by_cases q4 : ep < 0
      · go_wp2
        go_ret
        exact ⟨rfl, gb_below G⟩
      by_cases q5 : 4294967295 < ep
      · go_wp2
        go_ret
        exact ⟨rfl, gb_below G⟩
      by_cases q6 : sq < 0
      · go_wp2
        go_ret
        exact ⟨rfl, gb_below G⟩
      by_cases q7 : 281474976710656 ≤ sq
      · go_wp2
        go_ret
        exact ⟨rfl, gb_below G⟩
      exact absurd ⟨by omega, by simp at q3; omega, by omega, by omega⟩ hno.out
    · obtain rfl : n7 = 23 := by rw [← hH7.out, ← hH.out, headM_len23 hok]
      have hne := Lib.hid (show eqL H (headM (1 - role) sl ep sq) = false by
        rw [← hH.out]
        exact Bool.eq_false_iff.2 (fun h => head_role hok (eqL_iff.1 h)))
      have hq := Lib.hid (show ∀ k1 k2 : Nat, k1 < 256 → k2 < 256 → eqL H (headM role sl k1 k2) = ((k1 : Int) == ep && (k2 : Int) == sq) by
        intro k1 k2 h1 h2
        rw [← hH.out, Bool.eq_iff_iff, eqL_iff, head_eq hok (by omega) (by omega), Bool.and_eq_true, beq_iff_eq, beq_iff_eq])
      obtain ⟨⟨q1, q2⟩, -, ⟨q3, q4⟩, q5, q6⟩ := headOk_iff.1 hok
      clear hok
      go_wp2_with (first | (go_at_call 14; (with_reducible refine (laws_at a n c l 2 _ r p (by decide) (by decide)).mono ?_); rintro e w' ⟨k1, hk1, rfl, rfl⟩) | (go_at_call 14; (with_reducible refine (laws_at a n c l 3 _ r p (by decide) (by decide)).mono ?_); rintro e w' ⟨k2, hk2, rfl, rfl⟩))
      have hq2 := hq.out k1 k2 hk1 hk2
      cases e1 : ((k1 : Int) == ep)
      all_goals cases e2 : ((k2 : Int) == sq)
      all_goals
        rw [e1, e2] at hq2
        replace hq2 := Lib.hid hq2
        refine (impl_HeadOf (1 - role) b m d sl ep sq _ rb).mono ?_
        rintro e w9 ⟨a12, n12, c12, rfl, o12, g9⟩
        have r12 := o12.rd
        replace r7 := r7.keep0 g9
        replace rb := rb.keep0 g9
        replace G := gb_trans G g9
        clear o12 g9
        go_wp2_with (first | (go_at_call 9; (with_reducible refine (laws_same a7 23 c7 a12 n12 c12 H (headM (1 - role) sl ep sq) w9 r7 r12).mono ?_); rw [hne.out]; rintro e w' ⟨rfl, rfl⟩) | (go_at_call 24; (with_reducible refine (impl_HeadOf role b m d sl (k1 : Int) (k2 : Int) w9 rb).mono ?_); rintro e w10 ⟨a13, n13, c13, rfl, o13, g10⟩; have r13 := o13.rd; replace r7 := r7.keep0 g10; replace G := gb_trans G g10; clear o13) | (go_at_call 9; (with_reducible refine (laws_same a7 23 c7 a13 n13 c13 H (headM role sl k1 k2) w10 r7 r13).mono ?_); rw [hq2.out]; rintro e w' ⟨rfl, rfl⟩))
        go_ret
        exact ⟨rfl, gb_below G⟩
set_option maxRecDepth 100000 in
theorem lifted (os : Os) (started : os.Started) (H : Type) (enc : TypeId × Value → H) :
    ReturnsInHanded {} Try.checked os 5 .any (Rows.fnHeadsSpec.pre6 enc Try.prog Try.f5 Rows.fnHeadsRow.domain false) (Rows.fnHeadsSpec.post enc Try.prog Try.f5 false true false false) := by
  refine returnsInHanded_of_change (C := Try.checked) own started (by kernel_rfl) Try.func5
    (ChangeSpec.witness6 (enc := enc) (C := Try.checked) false ⟨#[], #[.slice none 0 0], []⟩ 8 (by kernel_rfl) (by kernel_rfl) (by kernel_rfl) (by kernel_rfl)) ?_
  intro W base args ds gs before hval0 hW _ _
  have hval : ∀ (j : Nat) t v, Try.f5.params[j]? = some t → args[j]? = some v → Value.okWide Try.prog W .any base t v := hval0
  have hW2 := hW
  obtain ⟨p, q, hA0, hV, hps, _, _⟩ := hW
  have hA : DataW.TrodAll enc Try.prog W 0 (fun _ => true) true Try.f5.params.toList args.toList ds p := hA0
  rw [Try.params5] at hA hval
  obtain ⟨rfl, rfl⟩ := trodVars_none hV
  obtain ⟨v0, vs0, d0, ds0, p0, q0, hargs, rfl, rfl, h0, r0⟩ := trodAll_cons hA
  obtain ⟨rfl, rfl, rfl⟩ := trodAll_nil r0
  obtain rfl : args = #[v0] := by cases args; simp_all
  have i0 := open_B (hval 0 22 v0 rfl rfl) h0
  clear hA0 hval0
  refine (walk W v0 i0).mono fun e W2 ⟨he, hb⟩ => ?_
  subst he
  exact ⟨_, rfl, law_post (tb := 4) laidOut (by kernel_rfl) (by kernel_rfl) Try.underlying4 rfl ⟨rfl, rfl, rfl⟩ hW2 hb⟩
theorem over : Rows.fnHeadsRow.holds Try.pinned (OpenSpec.ofChange Rows.fnHeadsSpec) :=
  OpenClaim.holds_of_wide 5 Try.f5 rfl rfl rfl rfl rfl rfl rfl ⟨rfl, rfl, rfl, rfl, rfl⟩ rfl rfl rfl rfl rfl (by kernel_rfl) Try.func5 (by kernel_rfl)
    (of_decide_eq_true (by kernel_rfl)) (by unfold Func.isWrapper; first | (rw [if_pos (by decide +kernel)]; kernel_rfl) | (rw [if_neg (by decide +kernel)]; exact ⟨rfl, rfl⟩))
    (fun os started H enc _ => lifted os started H enc)
theorem proved : Rows.FnHeadsSaid :=
  over
#print axioms proved
end Go.Proofs.Ytjdaafemfpafdaa.lHeads

