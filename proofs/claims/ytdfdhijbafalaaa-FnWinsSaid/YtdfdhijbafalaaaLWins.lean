/-
  FnWins returns true for every code. Conditions: none.
-/
import Derived.Test.YtdfdhijbafalaaaLaw
import Derived.Test.YtdfdhijbafalaaaLawW
import Derived.Test.YtdfdhijbafalaaaPlWin
import Derived.Test.YtdfdhijbafalaaaDrN
import Derived.Deep.RegionHeld3
import Derived.IntWalk
namespace Go.Proofs.Ytdfdhijbafalaaa.lWins
open Go.ChangeShapes Go.WideShapes Go.ChangeAt Go.RowKit
/-- the window's variable, the numbers that were taken -/
structure WL (w0 w : World) (q : Nat) (t : Int) (l : List Int) (a : Option Addr) (n c : Nat) (g : List Int) (b : Option Addr) (m d : Nat) : Prop where
  gb : w0.grownBy w none
  bx : Bx w q 27 #[.int .i64 t, .slice a n c]
  hq : w0.heap.size ≤ q
  o4 : Ow w0.heap.size w 3 a n c (ins l)
  o5 : Ow w0.heap.size w 3 b m d (ins g)
  n4 : ∀ p, a = some p → p.block ≠ q
  n5 : ∀ p, b = some p → p.block ≠ q
  n45 : dj a b
section
variable {w0 w w' : World} {q : Nat} {t : Int} {l : List Int} {a : Option Addr} {n c : Nat} {g : List Int} {b : Option Addr} {m d : Nat}
theorem WL.grow (W : WL w0 w q t l a n c g b m d) (h : w.grownBy w' none) : WL w0 w' q t l a n c g b m d :=
  ⟨gb_trans W.gb h, W.bx.keep0 h, W.hq, W.o4.keep0 h, W.o5.keep0 h, W.n4, W.n5, W.n45⟩
theorem WL.r4 (W : WL w0 w q t l a n c g b m d) : WinR w (.agg #[.int .i64 t, .slice a n c]) ⟨t, l⟩ := ⟨_, _, _, rfl, W.o4.rd⟩
theorem WL.app (W : WL w0 w q t l a n c g b m d) {b' : Option Addr} {m' d' : Nat} {g' : List Int} (o : Ow w0.heap.size w' 3 b' m' d' (ins g')) (h : w.grownBy w' (b.map (·.block))) (hb : ∀ p, b' = some p → (∃ q, b = some q ∧ q.block = p.block) ∨ w.heap.size ≤ p.block) : WL w0 w' q t l a n c g' b' m' d' := by
  refine ⟨gb_app W.gb W.o5 (Nat.le_refl _) h, W.bx.keepRow h (fun e => ?_), W.hq, W.o4.keep h (fun p hp e => ?_), o, W.n4, fun p hp => ?_, fun p p' hp hp' => ?_⟩
  · obtain ⟨p, hp, h9⟩ := rowOf e
    exact W.n5 p hp h9
  · obtain ⟨p', hp', h9⟩ := rowOf e.symm
    exact W.n45 p p' hp hp' h9.symm
  · rcases hb p hp with ⟨p', hp', h9⟩ | h9
    · rw [← h9]; exact W.n5 p' hp'
    · have := W.bx.lt; omega
  · rcases hb p' hp' with ⟨p2, hp2, h9⟩ | h9
    · rw [← h9]; exact W.n45 p p2 hp hp2
    · have := (W.o4.lt p hp).2; omega
/-- the window's variable is laid anew -/
theorem WL.lay (W : WL w0 w q t l a n c g b m d) {t' : Int} {l' : List Int} {a' : Option Addr} {n' c' : Nat} {B : Nat} (o : Ow B w 3 a' n' c' (ins l')) (hB : w0.heap.size ≤ B) (n4 : ∀ p, a' = some p → p.block ≠ q) (n45 : dj a' b) :
    WL w0 ((w.setCell ⟨q, 0, none⟩ (.int .i64 t')).setCell ⟨q, 1, none⟩ (.slice a' n' c')) q t' l' a' n' c' g b m d :=
  ⟨gb_set (gb_set W.gb (p := ⟨q, 0, none⟩) (.inl W.hq) _) (p := ⟨q, 1, none⟩) (.inl W.hq) _, (W.bx.set 0 _).set 1 _, W.hq,
    ((o.mono hB).setO ⟨q, 0, none⟩ _ n4).setO ⟨q, 1, none⟩ _ n4, (W.o5.setO ⟨q, 0, none⟩ _ W.n5).setO ⟨q, 1, none⟩ _ W.n5, n4, W.n5, n45⟩
end
theorem dj_app {B : Nat} {w : World} {e : TypeId} {a b b' : Option Addr} {n c : Nat} {xs : List Value} (d : dj a b) (o : Ow B w e a n c xs) (h : ∀ p, b' = some p → (∃ q, b = some q ∧ q.block = p.block) ∨ w.heap.size ≤ p.block) : dj a b' := by
  intro p p' hp hp'
  rcases h p' hp' with ⟨p2, hp2, e⟩ | e
  · rw [← e]; exact d p p2 hp hp2
  · have := (o.lt p hp).2; omega
theorem row_ne {b : Option Addr} {q : Nat} (h : ∀ p, b = some p → p.block ≠ q) : b.map (·.block) ≠ some q := by
  intro e
  obtain ⟨p, hp, h9⟩ := rowOf e
  exact h p hp h9
theorem ins_snoc (g : List Int) (v : Int) : ins g ++ [.int .i64 v] = ins (g ++ [v]) := by simp [ins]
theorem win_ext {f : WinM} {t : Int} {l : List Int} (h1 : f.top = t) (h2 : f.bits = l) : f = ⟨t, l⟩ := by
  subst h1 h2
  rfl
theorem cellK {w w' : World} {b o : Nat} {v : Value} (h : w.cell? ⟨b, o, none⟩ = some v) (g : w.grownBy w' none) : w'.cell? ⟨b, o, none⟩ = some v :=
  (World.cell?_of_block (g.block b (block_lt_of_cell h) (by simp))).trans h
def cnt (t : Int) (g : List Int) : Nat := (g.filter fun x => decide (t - 1024 < x)).length
theorem cnt_t {t u : Int} {g : List Int} {y : Nat} (h : g[y]? = some u) (h2 : t - 1024 < u) : cnt t (g.take (y + 1)) = cnt t (g.take y) + 1 := by
  rw [cnt, take_succ_some h, List.filter_append, List.length_append, List.filter_cons_of_pos (by simpa using h2)]
  rfl
theorem cnt_f {t u : Int} {g : List Int} {y : Nat} (h : g[y]? = some u) (h2 : ¬ t - 1024 < u) : cnt t (g.take (y + 1)) = cnt t (g.take y) := by
  rw [cnt, take_succ_some h, List.filter_append, List.length_append, List.filter_cons_of_neg (by simpa using h2)]
  rfl
theorem cnt_le (t : Int) (g : List Int) : cnt t g ≤ g.length := List.length_filter_le _ _
theorem mem_take_succ {g : List Int} {y : Nat} {u v : Int} (h : g[y]? = some u) : decide (v ∈ g.take (y + 1)) = (decide (v ∈ g.take y) || u == v) := by
  rw [take_succ_some h, Bool.eq_iff_iff]
  simp only [List.mem_append, List.mem_singleton, decide_eq_true_eq, Bool.or_eq_true, beq_iff_eq]
  exact ⟨fun h => h.imp id Eq.symm, fun h => h.imp id Eq.symm⟩
set_option maxRecDepth 1000000 in
set_option maxHeartbeats 8000000 in
theorem walk (w : World) (v0 : Value) (h0 : InBytes w v0) : Calls Try.prog 3 #[v0] w fun e w' => e = .returned (.bool true) ∧ Below w.heap.size w w' := by
  obtain ⟨a, n, c, l, rfl, r, hC⟩ := h0
  rcases Nat.lt_or_ge 1048576 n with p | p
  · go_enter Try.func3, Try.ntmps3
    go_wp2_with (go_at_call 6; refine (laws_big a n c _).mono ?_; rw [decide_eq_true p]; rintro e w0 ⟨rfl, rfl⟩)
    go_ret
    exact ⟨rfl, Below.refl _ _⟩
  go_enter Try.func3, Try.ntmps3
  go_wp2_with (first | (go_at_call 6; refine (laws_big a n c _).mono ?_; rw [decide_eq_false (by omega)]; rintro e w0 ⟨rfl, rfl⟩) | (go_at_call 7; refine (spec_DrawNums a n c l _ r p).mono ?_; rintro e w1 ⟨b, m, d, L, rfl, rl, hm, G1⟩) | (go_at_call 8; refine (impl_WinNew _).mono ?_; rintro e w2 ⟨v2, rfl, o2, g2⟩; obtain ⟨a2, n2, c2, rfl, o2, u2⟩ := o2))
  have W : WL w1 ((w2.alloc (.cells #[.int .i64 winNew.top, .slice a2 n2 c2] 27)).alloc (.cells #[] 3)) w2.heap.size winNew.top winNew.bits a2 n2 c2 [] (some ⟨w2.heap.size + 1, 0, none⟩) 0 0 := by
    refine ⟨gb_alloc (gb_alloc g2 _) _, (Bx.new _ _ _).old _, g2.size, (o2.keep0 (gb_alloc (gb_alloc (gb_refl _) _) _)), (new_own' _ _ _ (by simp)).mono (by have := g2.size; omega), fun p hp => by have := u2 p hp; omega, ?_, ?_⟩
    · rintro p hp
      cases hp
      simp
    · rintro p p' hp hp'
      cases hp'
      have := u2 p hp
      simp
      omega
  clear hC
  have hL := Lib.hid rl.ilen
  clear g2 o2 u2
  go_loopw [5, 6, 7] (fun g5 t6 i wr => ∃ (j : Nat) (t : Int) (l4 g : List Int) (a4 : Option Addr) (n4 c4 : Nat) (b5 : Option Addr) (m5 d5 : Nat), j ≤ m ∧ i = .int .i64 (j : Int) ∧ t6 = .int .i64 t ∧ g5 = .slice b5 m5 d5 ∧ Hid (wRun (L.take j) = (⟨t, l4⟩, g)) ∧ WL w1 wr w2.heap.size t l4 a4 n4 c4 g b5 m5 d5) (fun _ _ i _ => m - (intOf i).toNat)
  case atStart => exact ⟨0, winNew.top, winNew.bits, [], a2, n2, c2, _, 0, 0, by omega, rfl, rfl, rfl, rfl, W⟩
  case round =>
    clear W
    obtain ⟨j, t, l4, g, a4, n4, c4, b5, m5, d5, hj, rfl, rfl, rfl, hfg, W⟩ := hrel
    have wi := WI.run (L.take j)
    have hlen := wRun_bits (L.take j)
    have hm5 := wRun_len (L.take j)
    rw [hfg.out] at wi hlen hm5
    simp only at wi hlen hm5
    replace hm5 : m5 ≤ 256 := by have := W.o5.rd.ilen; have := hL.out; rw [List.length_take] at hm5; omega
    replace hlen := Lib.hid (show l4.length ≤ 1073741824 by omega)
    have kq := fun o => W.bx.cell o
    have fq := fun o => W.bx.frozen o
    have lq := W.bx.lt
    have ht : -1 ≤ t ∧ t ≤ 281474976710655 := (winOk_iff.1 wi.ok).1
    by_cases hlt : j < m
    · obtain ⟨bb, off, v, rfl, hv, hc⟩ := (rl.keep0 W.gb).int j hlt
      go_wp2
      go_loop [9, 10] (fun h k => ∃ y : Nat, y ≤ m5 ∧ k = .int .i64 (y : Int) ∧ h = .bool (decide (v ∈ g.take y))) (fun _ k => m5 - (intOf k).toNat)
      case atStart => exact ⟨0, Nat.zero_le _, rfl, by simp⟩
      case round =>
        obtain ⟨y, hy, rfl, rfl⟩ := hrel
        by_cases hy2 : y < m5
        · obtain ⟨bg, og, u, e5, hu, hcu⟩ := W.o5.rd.int y hy2
          subst e5
          have hs := Lib.hid (mem_take_succ (v := v) hu.out)
          obtain ⟨hd, hhd⟩ : ∃ hd, Hid (decide (v ∈ g.take y) = hd) := ⟨_, rfl⟩
          rw [hhd.out]
          cases hd
          · obtain ⟨ub, hub⟩ : ∃ ub, (u == v) = ub := ⟨_, rfl⟩
            have hub2 := Lib.hid hub
            cases ub
            all_goals
              go_wp2
              go_round
              case rel => exact ⟨y + 1, by omega, by go_num, by rw [hs.out, hhd.out, hub2.out]; rfl⟩
              case measure => simp [intOf]; omega
          · go_wp2
            go_round
            case rel => exact ⟨y + 1, by omega, by go_num, by rw [hs.out, hhd.out]; rfl⟩
            case measure => simp [intOf]; omega
        · obtain rfl : y = m5 := by omega
          have hgt : g.take y = g := List.take_of_length_le (by have := W.o5.rd.ilen; omega)
          rw [hgt]
          clear hgt hy hy2
          obtain ⟨hd, hhd⟩ : ∃ hd, Hid (decide (v ∈ g) = hd) := ⟨_, rfl⟩
          have hmay := wi.may v
          rw [hhd.out] at hmay ⊢
          have hru := wRun_succ hv.out
          rw [hfg.out] at hru
          simp only [wStep] at hru
          replace hmay := Lib.hid hmay
          replace hru := Lib.hid hru
          have hno : Hid (winMay ⟨t, l4⟩ v = false → wRun (L.take (j + 1)) = (⟨t, l4⟩, g)) := fun h => by rw [hru.out, h, winAdd_no h]; rfl
          have hyes : Hid (winMay ⟨t, l4⟩ v = true → wRun (L.take (j + 1)) = (winAddM ⟨t, l4⟩ v, g ++ [v])) := fun h => by rw [hru.out, h]; rfl
          have hwok := Lib.hid wi.ok
          by_cases h1 : 0 ≤ v
          rotate_left
          · have hM : Hid (winMay ⟨t, l4⟩ v = false) := by rw [Hid, hmay.out, decide_eq_false h1]; rfl
            have hA : Hid (winAddM ⟨t, l4⟩ v = ⟨t, l4⟩) := winAdd_no hM.out
            have hok := hwok
            obtain ⟨l9, hl9⟩ : ∃ l9, l9 = l4 := ⟨_, rfl⟩
            have hlen9 := hlen
            rw [← hl9] at hlen9
            replace hl9 := Lib.hid hl9
            go_wp2_with (first | (go_at_call 9; refine (impl_WinAdd _ ⟨t, l4⟩ v _ W.r4 hlen.out).mono ?_; rw [hM.out, hA.out]; rintro e w3 ⟨v3, rfl, o3, g3⟩; obtain ⟨a3, n3, c3, rfl, o3, u3⟩ := o3; have n3q := Lib.hid (show ∀ p, a3 = some p → p.block ≠ w2.heap.size from fun p hp => Nat.ne_of_gt (Nat.lt_of_lt_of_le W.bx.lt (o3.lt p hp).1)); have d35 := Lib.hid (dj.symm (dj_of (fun p hp => (W.o5.lt p hp).2) (fun p hp => (o3.lt p hp).1))); replace o3 := o3.mono W.gb.size; replace W := W.grow g3; clear g3 u3 kq fq lq; have n5x := Lib.hid (show ∀ p, b5 = some p → p.block ≠ w3.heap.size from fun p hp => Nat.ne_of_lt (W.o5.lt p hp).2); have kq := fun o => W.bx.cell o; have fq := fun o => W.bx.frozen o; have lq := W.bx.lt; simp only at o3) | (go_at_call 10; refine (impl_WinMay _ ⟨t, l4⟩ v _ (W.grow (gb_alloc (gb_refl _) _)).r4 hlen.out).mono ?_; rw [hM.out]; rintro e w4 ⟨rfl, g4⟩; have X := (Bx.new w3 27 #[.int .i64 t, .slice a3 n3 c3]).keep0 g4; replace o3 := o3.keep0 (gb_trans (gb_alloc (gb_refl _) _) g4); replace W := W.grow (gb_trans (gb_alloc (gb_refl _) _) g4); clear g4 kq fq lq; have kq := fun o => W.bx.cell o; have fq := fun o => W.bx.frozen o; have lq := W.bx.lt; have kx := fun o => X.cell o; have lx := X.lt) | (rw [← hl9.out] at o3 hok; (go_at_call 11; refine (impl_WinOk _ ⟨t, l9⟩ _ ⟨_, _, _, rfl, o3.rd⟩ hlen9.out).mono ?_; rw [hok.out]; rintro e w5 ⟨rfl, g5⟩; replace X := X.keep0 g5; replace o3 := o3.keep0 g5; replace W := W.grow g5; clear g5 kq fq lq kx lx; have kq := fun o => W.bx.cell o; have fq := fun o => W.bx.frozen o; have lq := W.bx.lt; have kx := fun o => X.cell o; have lx := X.lt)))
            refine ⟨⟨j + 1, t, l4, g, a3, n3, c3, b5, y, d5, by omega, by go_num, rfl, rfl, hno.out hM.out, W.lay (by rw [← hl9.out]; exact o3) (Nat.le_refl _) n3q.out d35.out⟩, by simp [intOf]; omega⟩
          by_cases h2 : v < 281474976710656
          rotate_left
          · have hM : Hid (winMay ⟨t, l4⟩ v = false) := by rw [Hid, hmay.out, decide_eq_false h2]; simp
            have hA : Hid (winAddM ⟨t, l4⟩ v = ⟨t, l4⟩) := winAdd_no hM.out
            have hok := hwok
            obtain ⟨l9, hl9⟩ : ∃ l9, l9 = l4 := ⟨_, rfl⟩
            have hlen9 := hlen
            rw [← hl9] at hlen9
            replace hl9 := Lib.hid hl9
            go_wp2_with (first | (go_at_call 9; refine (impl_WinAdd _ ⟨t, l4⟩ v _ W.r4 hlen.out).mono ?_; rw [hM.out, hA.out]; rintro e w3 ⟨v3, rfl, o3, g3⟩; obtain ⟨a3, n3, c3, rfl, o3, u3⟩ := o3; have n3q := Lib.hid (show ∀ p, a3 = some p → p.block ≠ w2.heap.size from fun p hp => Nat.ne_of_gt (Nat.lt_of_lt_of_le W.bx.lt (o3.lt p hp).1)); have d35 := Lib.hid (dj.symm (dj_of (fun p hp => (W.o5.lt p hp).2) (fun p hp => (o3.lt p hp).1))); replace o3 := o3.mono W.gb.size; replace W := W.grow g3; clear g3 u3 kq fq lq; have n5x := Lib.hid (show ∀ p, b5 = some p → p.block ≠ w3.heap.size from fun p hp => Nat.ne_of_lt (W.o5.lt p hp).2); have kq := fun o => W.bx.cell o; have fq := fun o => W.bx.frozen o; have lq := W.bx.lt; simp only at o3) | (go_at_call 10; refine (impl_WinMay _ ⟨t, l4⟩ v _ (W.grow (gb_alloc (gb_refl _) _)).r4 hlen.out).mono ?_; rw [hM.out]; rintro e w4 ⟨rfl, g4⟩; have X := (Bx.new w3 27 #[.int .i64 t, .slice a3 n3 c3]).keep0 g4; replace o3 := o3.keep0 (gb_trans (gb_alloc (gb_refl _) _) g4); replace W := W.grow (gb_trans (gb_alloc (gb_refl _) _) g4); clear g4 kq fq lq; have kq := fun o => W.bx.cell o; have fq := fun o => W.bx.frozen o; have lq := W.bx.lt; have kx := fun o => X.cell o; have lx := X.lt) | (rw [← hl9.out] at o3 hok; (go_at_call 11; refine (impl_WinOk _ ⟨t, l9⟩ _ ⟨_, _, _, rfl, o3.rd⟩ hlen9.out).mono ?_; rw [hok.out]; rintro e w5 ⟨rfl, g5⟩; replace X := X.keep0 g5; replace o3 := o3.keep0 g5; replace W := W.grow g5; clear g5 kq fq lq kx lx; have kq := fun o => W.bx.cell o; have fq := fun o => W.bx.frozen o; have lq := W.bx.lt; have kx := fun o => X.cell o; have lx := X.lt)))
            refine ⟨⟨j + 1, t, l4, g, a3, n3, c3, b5, y, d5, by omega, by go_num, rfl, rfl, hno.out hM.out, W.lay (by rw [← hl9.out]; exact o3) (Nat.le_refl _) n3q.out d35.out⟩, by simp [intOf]; omega⟩
          cases hd
          rotate_left
          · have hM : Hid (winMay ⟨t, l4⟩ v = false) := by rw [Hid, hmay.out]; simp
            have hA : Hid (winAddM ⟨t, l4⟩ v = ⟨t, l4⟩) := winAdd_no hM.out
            have hok := hwok
            obtain ⟨l9, hl9⟩ : ∃ l9, l9 = l4 := ⟨_, rfl⟩
            have hlen9 := hlen
            rw [← hl9] at hlen9
            replace hl9 := Lib.hid hl9
            go_wp2_with (first | (go_at_call 9; refine (impl_WinAdd _ ⟨t, l4⟩ v _ W.r4 hlen.out).mono ?_; rw [hM.out, hA.out]; rintro e w3 ⟨v3, rfl, o3, g3⟩; obtain ⟨a3, n3, c3, rfl, o3, u3⟩ := o3; have n3q := Lib.hid (show ∀ p, a3 = some p → p.block ≠ w2.heap.size from fun p hp => Nat.ne_of_gt (Nat.lt_of_lt_of_le W.bx.lt (o3.lt p hp).1)); have d35 := Lib.hid (dj.symm (dj_of (fun p hp => (W.o5.lt p hp).2) (fun p hp => (o3.lt p hp).1))); replace o3 := o3.mono W.gb.size; replace W := W.grow g3; clear g3 u3 kq fq lq; have n5x := Lib.hid (show ∀ p, b5 = some p → p.block ≠ w3.heap.size from fun p hp => Nat.ne_of_lt (W.o5.lt p hp).2); have kq := fun o => W.bx.cell o; have fq := fun o => W.bx.frozen o; have lq := W.bx.lt; simp only at o3) | (go_at_call 10; refine (impl_WinMay _ ⟨t, l4⟩ v _ (W.grow (gb_alloc (gb_refl _) _)).r4 hlen.out).mono ?_; rw [hM.out]; rintro e w4 ⟨rfl, g4⟩; have X := (Bx.new w3 27 #[.int .i64 t, .slice a3 n3 c3]).keep0 g4; replace o3 := o3.keep0 (gb_trans (gb_alloc (gb_refl _) _) g4); replace W := W.grow (gb_trans (gb_alloc (gb_refl _) _) g4); clear g4 kq fq lq; have kq := fun o => W.bx.cell o; have fq := fun o => W.bx.frozen o; have lq := W.bx.lt; have kx := fun o => X.cell o; have lx := X.lt) | (rw [← hl9.out] at o3 hok; (go_at_call 11; refine (impl_WinOk _ ⟨t, l9⟩ _ ⟨_, _, _, rfl, o3.rd⟩ hlen9.out).mono ?_; rw [hok.out]; rintro e w5 ⟨rfl, g5⟩; replace X := X.keep0 g5; replace o3 := o3.keep0 g5; replace W := W.grow g5; clear g5 kq fq lq kx lx; have kq := fun o => W.bx.cell o; have fq := fun o => W.bx.frozen o; have lq := W.bx.lt; have kx := fun o => X.cell o; have lx := X.lt)))
            refine ⟨⟨j + 1, t, l4, g, a3, n3, c3, b5, y, d5, by omega, by go_num, rfl, rfl, hno.out hM.out, W.lay (by rw [← hl9.out]; exact o3) (Nat.le_refl _) n3q.out d35.out⟩, by simp [intOf]; omega⟩
          by_cases h3 : t - 1024 < v
          rotate_left
          · have hM : Hid (winMay ⟨t, l4⟩ v = false) := by rw [Hid, hmay.out]; simp; omega
            have hA : Hid (winAddM ⟨t, l4⟩ v = ⟨t, l4⟩) := winAdd_no hM.out
            have hok := hwok
            obtain ⟨l9, hl9⟩ : ∃ l9, l9 = l4 := ⟨_, rfl⟩
            have hlen9 := hlen
            rw [← hl9] at hlen9
            replace hl9 := Lib.hid hl9
            go_wp2_with (first | (go_at_call 9; refine (impl_WinAdd _ ⟨t, l4⟩ v _ W.r4 hlen.out).mono ?_; rw [hM.out, hA.out]; rintro e w3 ⟨v3, rfl, o3, g3⟩; obtain ⟨a3, n3, c3, rfl, o3, u3⟩ := o3; have n3q := Lib.hid (show ∀ p, a3 = some p → p.block ≠ w2.heap.size from fun p hp => Nat.ne_of_gt (Nat.lt_of_lt_of_le W.bx.lt (o3.lt p hp).1)); have d35 := Lib.hid (dj.symm (dj_of (fun p hp => (W.o5.lt p hp).2) (fun p hp => (o3.lt p hp).1))); replace o3 := o3.mono W.gb.size; replace W := W.grow g3; clear g3 u3 kq fq lq; have n5x := Lib.hid (show ∀ p, b5 = some p → p.block ≠ w3.heap.size from fun p hp => Nat.ne_of_lt (W.o5.lt p hp).2); have kq := fun o => W.bx.cell o; have fq := fun o => W.bx.frozen o; have lq := W.bx.lt; simp only at o3) | (go_at_call 10; refine (impl_WinMay _ ⟨t, l4⟩ v _ (W.grow (gb_alloc (gb_refl _) _)).r4 hlen.out).mono ?_; rw [hM.out]; rintro e w4 ⟨rfl, g4⟩; have X := (Bx.new w3 27 #[.int .i64 t, .slice a3 n3 c3]).keep0 g4; replace o3 := o3.keep0 (gb_trans (gb_alloc (gb_refl _) _) g4); replace W := W.grow (gb_trans (gb_alloc (gb_refl _) _) g4); clear g4 kq fq lq; have kq := fun o => W.bx.cell o; have fq := fun o => W.bx.frozen o; have lq := W.bx.lt; have kx := fun o => X.cell o; have lx := X.lt) | (rw [← hl9.out] at o3 hok; (go_at_call 11; refine (impl_WinOk _ ⟨t, l9⟩ _ ⟨_, _, _, rfl, o3.rd⟩ hlen9.out).mono ?_; rw [hok.out]; rintro e w5 ⟨rfl, g5⟩; replace X := X.keep0 g5; replace o3 := o3.keep0 g5; replace W := W.grow g5; clear g5 kq fq lq kx lx; have kq := fun o => W.bx.cell o; have fq := fun o => W.bx.frozen o; have lq := W.bx.lt; have kx := fun o => X.cell o; have lx := X.lt)))
            refine ⟨⟨j + 1, t, l4, g, a3, n3, c3, b5, y, d5, by omega, by go_num, rfl, rfl, hno.out hM.out, W.lay (by rw [← hl9.out]; exact o3) (Nat.le_refl _) n3q.out d35.out⟩, by simp [intOf]; omega⟩
          have hM : Hid (winMay ⟨t, l4⟩ v = true) := by rw [Hid, hmay.out]; simp; omega
          by_cases h4 : t < v
          · obtain ⟨l9, hl9⟩ : ∃ l9, Hid ((winAddM ⟨t, l4⟩ v).bits = l9) := ⟨_, rfl⟩
            have hA := Lib.hid (win_ext (show (winAddM ⟨t, l4⟩ v).top = v by rw [winAdd_top hM.out]; simp only; omega) hl9.out)
            have hlen9 := Lib.hid (show l9.length ≤ 1073741824 by rw [← hl9.out, winAddM_len]; exact hlen.out)
            have hok := Lib.hid (show winOk ⟨v, l9⟩ = true by rw [← hA.out]; exact winAdd_ok hM.out)
            obtain ⟨i0, hi, hz0, hz1, hz2⟩ := info_parts inf_int
            go_wp2_with (first | (go_at_call 9; refine (impl_WinAdd _ ⟨t, l4⟩ v _ W.r4 hlen.out).mono ?_; rw [hM.out, hA.out]; rintro e w3 ⟨v3, rfl, o3, g3⟩; obtain ⟨a3, n3, c3, rfl, o3, u3⟩ := o3; have n3q := Lib.hid (show ∀ p, a3 = some p → p.block ≠ w2.heap.size from fun p hp => Nat.ne_of_gt (Nat.lt_of_lt_of_le W.bx.lt (o3.lt p hp).1)); have d35 := Lib.hid (dj.symm (dj_of (fun p hp => (W.o5.lt p hp).2) (fun p hp => (o3.lt p hp).1))); replace o3 := o3.mono W.gb.size; replace W := W.grow g3; clear g3 u3 kq fq lq; have n5x := Lib.hid (show ∀ p, b5 = some p → p.block ≠ w3.heap.size from fun p hp => Nat.ne_of_lt (W.o5.lt p hp).2); have kq := fun o => W.bx.cell o; have fq := fun o => W.bx.frozen o; have lq := W.bx.lt; simp only at o3) | (go_at_call 10; refine (impl_WinMay _ ⟨t, l4⟩ v _ (W.grow (gb_alloc (gb_refl _) _)).r4 hlen.out).mono ?_; rw [hM.out]; rintro e w4 ⟨rfl, g4⟩; have X := (Bx.new w3 27 #[.int .i64 v, .slice a3 n3 c3]).keep0 g4; replace o3 := o3.keep0 (gb_trans (gb_alloc (gb_refl _) _) g4); replace W := W.grow (gb_trans (gb_alloc (gb_refl _) _) g4); clear g4 kq fq lq; have kq := fun o => W.bx.cell o; have fq := fun o => W.bx.frozen o; have lq := W.bx.lt; have kx := fun o => X.cell o; have lx := X.lt) | (go_at_call 11; refine (impl_WinOk _ ⟨v, l9⟩ _ ⟨_, _, _, rfl, o3.rd⟩ hlen9.out).mono ?_; rw [hok.out]; rintro e w5 ⟨rfl, g5⟩; replace X := X.keep0 g5; replace o3 := o3.keep0 g5; replace W := W.grow g5; clear g5 kq fq lq kx lx; have kq := fun o => W.bx.cell o; have fq := fun o => W.bx.frozen o; have lq := W.bx.lt; have kx := fun o => X.cell o; have lx := X.lt) | (have d0 := d35; (at_builtin; refine wpList_app rfl _ _ 24 24 rfl w1.heap.size 3 i0 (.int .i64 0) 8 Try.underlying24 hi hz0 hz1 hz2 rfl b5 y d5 (ins g) rfl (W.o5.keep0 (gb_alloc (gb_refl _) _)) _ rfl 1 [.int .i64 v] (new_src Try.underlying24 w5 #[.int .i64 v] _ 1 rfl (by simp [Value.oneCell'])) (by unfold maxLen; omega) (by omega) (by have := W.gb.size; simp; omega) ?_; intro b9 c9 w9 o9 g9 h9; rw [ins_snoc] at o9; have q9 := gb_alloc (gb_refl w5) (.cells #[.int .i64 v] 3); replace o3 := o3.keep0 q9; replace d35 := Lib.hid (dj_app d35.out o3 h9); replace o3 := o3.keep g9 (dj.symm d0.out).ne; replace X := (X.keep0 q9).keepRow g9 (row_ne n5x.out); replace W := (W.grow q9).app o9 g9 h9; clear q9 o9 g9 h9 kq fq lq kx lx; have kq := fun o => W.bx.cell o; have fq := fun o => W.bx.frozen o; have lq := W.bx.lt; have kx := fun o => X.cell o; have lx := X.lt)))
            refine ⟨⟨j + 1, v, l9, g ++ [v], a3, n3, c3, b9, y + 1, c9, by omega, by go_num, rfl, rfl, by rw [Hid, hyes.out hM.out, hA.out], W.lay o3 (Nat.le_refl _) n3q.out d35.out⟩, by simp [intOf]; omega⟩
          · obtain ⟨l9, hl9⟩ : ∃ l9, Hid ((winAddM ⟨t, l4⟩ v).bits = l9) := ⟨_, rfl⟩
            have hA := Lib.hid (win_ext (show (winAddM ⟨t, l4⟩ v).top = t by rw [winAdd_top hM.out]; simp only; omega) hl9.out)
            have hlen9 := Lib.hid (show l9.length ≤ 1073741824 by rw [← hl9.out, winAddM_len]; exact hlen.out)
            have hok := Lib.hid (show winOk ⟨t, l9⟩ = true by rw [← hA.out]; exact winAdd_ok hM.out)
            obtain ⟨i0, hi, hz0, hz1, hz2⟩ := info_parts inf_int
            go_wp2_with (first | (go_at_call 9; refine (impl_WinAdd _ ⟨t, l4⟩ v _ W.r4 hlen.out).mono ?_; rw [hM.out, hA.out]; rintro e w3 ⟨v3, rfl, o3, g3⟩; obtain ⟨a3, n3, c3, rfl, o3, u3⟩ := o3; have n3q := Lib.hid (show ∀ p, a3 = some p → p.block ≠ w2.heap.size from fun p hp => Nat.ne_of_gt (Nat.lt_of_lt_of_le W.bx.lt (o3.lt p hp).1)); have d35 := Lib.hid (dj.symm (dj_of (fun p hp => (W.o5.lt p hp).2) (fun p hp => (o3.lt p hp).1))); replace o3 := o3.mono W.gb.size; replace W := W.grow g3; clear g3 u3 kq fq lq; have n5x := Lib.hid (show ∀ p, b5 = some p → p.block ≠ w3.heap.size from fun p hp => Nat.ne_of_lt (W.o5.lt p hp).2); have kq := fun o => W.bx.cell o; have fq := fun o => W.bx.frozen o; have lq := W.bx.lt; simp only at o3) | (go_at_call 10; refine (impl_WinMay _ ⟨t, l4⟩ v _ (W.grow (gb_alloc (gb_refl _) _)).r4 hlen.out).mono ?_; rw [hM.out]; rintro e w4 ⟨rfl, g4⟩; have X := (Bx.new w3 27 #[.int .i64 t, .slice a3 n3 c3]).keep0 g4; replace o3 := o3.keep0 (gb_trans (gb_alloc (gb_refl _) _) g4); replace W := W.grow (gb_trans (gb_alloc (gb_refl _) _) g4); clear g4 kq fq lq; have kq := fun o => W.bx.cell o; have fq := fun o => W.bx.frozen o; have lq := W.bx.lt; have kx := fun o => X.cell o; have lx := X.lt) | (go_at_call 11; refine (impl_WinOk _ ⟨t, l9⟩ _ ⟨_, _, _, rfl, o3.rd⟩ hlen9.out).mono ?_; rw [hok.out]; rintro e w5 ⟨rfl, g5⟩; replace X := X.keep0 g5; replace o3 := o3.keep0 g5; replace W := W.grow g5; clear g5 kq fq lq kx lx; have kq := fun o => W.bx.cell o; have fq := fun o => W.bx.frozen o; have lq := W.bx.lt; have kx := fun o => X.cell o; have lx := X.lt) | (have d0 := d35; (at_builtin; refine wpList_app rfl _ _ 24 24 rfl w1.heap.size 3 i0 (.int .i64 0) 8 Try.underlying24 hi hz0 hz1 hz2 rfl b5 y d5 (ins g) rfl (W.o5.keep0 (gb_alloc (gb_refl _) _)) _ rfl 1 [.int .i64 v] (new_src Try.underlying24 w5 #[.int .i64 v] _ 1 rfl (by simp [Value.oneCell'])) (by unfold maxLen; omega) (by omega) (by have := W.gb.size; simp; omega) ?_; intro b9 c9 w9 o9 g9 h9; rw [ins_snoc] at o9; have q9 := gb_alloc (gb_refl w5) (.cells #[.int .i64 v] 3); replace o3 := o3.keep0 q9; replace d35 := Lib.hid (dj_app d35.out o3 h9); replace o3 := o3.keep g9 (dj.symm d0.out).ne; replace X := (X.keep0 q9).keepRow g9 (row_ne n5x.out); replace W := (W.grow q9).app o9 g9 h9; clear q9 o9 g9 h9 kq fq lq kx lx; have kq := fun o => W.bx.cell o; have fq := fun o => W.bx.frozen o; have lq := W.bx.lt; have kx := fun o => X.cell o; have lx := X.lt)))
            refine ⟨⟨j + 1, t, l9, g ++ [v], a3, n3, c3, b9, y + 1, c9, by omega, by go_num, rfl, rfl, by rw [Hid, hyes.out hM.out, hA.out], W.lay o3 (Nat.le_refl _) n3q.out d35.out⟩, by simp [intOf]; omega⟩
    · obtain rfl : j = m := by omega
      have hz := Lib.hid (show L.take j = L from List.take_of_length_le (by have := hL.out; omega))
      rw [hz.out] at hfg
      obtain ⟨ML, hML⟩ : ∃ ML, Hid (winList ⟨t, l4⟩ = ML) := ⟨_, rfl⟩
      have hrise := Lib.hid (show ∀ i x y, ML[i]? = some x → ML[i + 1]? = some y → x < y by rw [← hML.out]; exact fun i x y => winList_rise)
      have hmem := Lib.hid (show ∀ x ∈ ML, winHas ⟨t, l4⟩ x = true by rw [← hML.out]; exact fun x => mem_winList.1)
      have hcnt := Lib.hid (wi.count)
      have hhas := Lib.hid (show ∀ x ∈ g, t - 1024 < x → winHas ⟨t, l4⟩ x = true from fun x => wi.has)
      have hle : ML.length ≤ 1024 := by rw [← hML.out]; exact winList_len _
      rw [hML.out] at hcnt
      have hwf : Hid (winOf L = ⟨t, l4⟩) := by rw [Hid, ← wRun_fst, hfg.out]
      clear wi
      go_wp2_with (go_at_call 12; refine (impl_WinList _ ⟨t, l4⟩ _ W.r4 hlen.out).mono ?_; rw [hML.out]; rintro e w3 ⟨a6, n6, c6, rfl, o6, g3⟩; replace W := W.grow g3; clear g3 kq fq lq)
      replace hle : n6 ≤ 1024 := by have := o6.rd.ilen; omega
      have h6 := Lib.hid o6.rd.ilen
      replace o6 := o6.rd
      go_loopw [16] (fun i wr => ∃ y : Nat, y ≤ n6 ∧ i = .int .i64 (y : Int) ∧ w3.grownBy wr none) (fun i _ => n6 - (intOf i).toNat)
      case atStart => exact ⟨0, Nat.zero_le _, rfl, gb_refl _⟩
      case round =>
        obtain ⟨y, hy, rfl, hgr⟩ := hrel
        replace W := W.grow hgr
        replace o6 := o6.keep0 hgr
        by_cases hy2 : y < n6
        · obtain ⟨b6, f6, x, rfl, hx, hcx⟩ := o6.int y hy2
          have hx2 := Lib.hid (hmem.out x (List.mem_of_getElem? hx.out))
          by_cases hy0 : y = 0
          · have hg0 : decide (0 < y) = false := decide_eq_false (by omega)
            have hg1 : decide ((0 : Int) < (y : Int)) = false := decide_eq_false (by omega)
            replace hy0 := Lib.hid hy0
            go_wp2
            have b1 : (0 : Int) ≤ (y : Int) := Int.natCast_nonneg _
            have b2 : (y : Int) < (n6 : Int) := by omega
            have KX : Hid (∀ w', wr.grownBy w' none → ((w'.cell? ⟨w2.heap.size, 0, none⟩ = some (.int .i64 t) ∧ w'.cell? ⟨w2.heap.size, 1, none⟩ = some (.slice a4 n4 c4) ∧ w'.cell? ⟨b6, f6 + y, none⟩ = some (.int .i64 x)) ∧ wr.grownBy w' none)) := fun w' hg => ⟨⟨(W.bx.keep0 hg).cell 0, (W.bx.keep0 hg).cell 1, cellK hcx hg⟩, hg⟩
            refine wp_region_held_drew (S := (fun w' => (w'.cell? ⟨w2.heap.size, 0, none⟩ = some (.int .i64 t) ∧ w'.cell? ⟨w2.heap.size, 1, none⟩ = some (.slice a4 n4 c4) ∧ w'.cell? ⟨b6, f6 + y, none⟩ = some (.int .i64 x)) ∧ wr.grownBy w' none)) (by kernel_rfl) ?_ (fun hHeld => ?_)
            · (try dsimp only)
              (refine KX.out _ ?_; (repeat (first | with_reducible exact gb_refl _ | with_reducible refine gb_alloc ?_ _ | with_reducible refine gb_drewN ?_ _ | with_reducible refine gb_drew ?_)))
            refine wpAnyH_takeD (i := 0) (some 108) (v := ?_) rfl rfl (by kernel_rfl) (by kernel_rfl) (by kernel_rfl) (fun _ _ _ h => h) (Or.inl ⟨by rfl, ?_⟩) (by assumption) ?_
            rotate_left
            (focus (intro w hSw; (try dsimp only at hSw); (first | (go_simp; done) | (go_simp; with_reducible rfl) | with_reducible rfl)))
            (try simp only [Act.put]); (try simp only [List.setIfInBounds_toArray]); (try simp only [List.set_cons_succ]); (try simp only [List.set_cons_zero])
            refine wpAnyH_takeD (i := 1) (some 109) (v := ?_) rfl rfl (by kernel_rfl) (by kernel_rfl) (by kernel_rfl) (fun _ _ _ h => h) (Or.inl ⟨by rfl, ?_⟩) (by assumption) ?_
            rotate_left
            (focus (intro w hSw; (try dsimp only at hSw); (first | (go_simp; done) | (go_simp; with_reducible rfl) | with_reducible rfl)))
            (try simp only [Act.put]); (try simp only [List.setIfInBounds_toArray]); (try simp only [List.set_cons_succ]); (try simp only [List.set_cons_zero])
            refine wpAnyH_takeD (i := 2) (some 110) (v := ?_) rfl rfl (by kernel_rfl) (by kernel_rfl) (by kernel_rfl) (fun _ _ _ h => h) (Or.inl ⟨by rfl, ?_⟩) (by assumption) ?_
            rotate_left
            (focus (intro w hSw; (try dsimp only at hSw); (first | (go_simp; done) | (go_simp; with_reducible rfl) | with_reducible rfl)))
            (try simp only [Act.put]); (try simp only [List.setIfInBounds_toArray]); (try simp only [List.set_cons_succ]); (try simp only [List.set_cons_zero])
            refine wpAnyH_takeD (i := 3) (some 111) (v := undef) rfl rfl (by kernel_rfl) (by kernel_rfl) (by kernel_rfl) (fun _ _ _ h => h) (Or.inr ⟨by rfl, rfl⟩) (by assumption) ?_
            (try simp only [Act.put]); (try simp only [List.setIfInBounds_toArray]); (try simp only [List.set_cons_succ]); (try simp only [List.set_cons_zero])
            refine wpAnyH_takeD (i := 4) (some 112) (v := undef) rfl rfl (by kernel_rfl) (by kernel_rfl) (by kernel_rfl) (fun _ _ _ h => h) (Or.inr ⟨by rfl, rfl⟩) (by assumption) ?_
            (try simp only [Act.put]); (try simp only [List.setIfInBounds_toArray]); (try simp only [List.set_cons_succ]); (try simp only [List.set_cons_zero])
            refine wpAnyH_takeD (i := 5) (some 113) (v := undef) rfl rfl (by kernel_rfl) (by kernel_rfl) (by kernel_rfl) (fun _ _ _ h => h) (Or.inr ⟨by rfl, rfl⟩) (by assumption) ?_
            (try simp only [Act.put]); (try simp only [List.setIfInBounds_toArray]); (try simp only [List.set_cons_succ]); (try simp only [List.set_cons_zero])
            refine wpAnyH_takeD (i := 6) (some 114) (v := undef) rfl rfl (by kernel_rfl) (by kernel_rfl) (by kernel_rfl) (fun _ _ _ h => h) (Or.inr ⟨by rfl, rfl⟩) (by assumption) ?_
            (try simp only [Act.put]); (try simp only [List.setIfInBounds_toArray]); (try simp only [List.set_cons_succ]); (try simp only [List.set_cons_zero])
            refine wpAnyH_takeD (i := 7) (some 115) (v := undef) rfl rfl (by kernel_rfl) (by kernel_rfl) (by kernel_rfl) (fun _ _ _ h => h) (Or.inr ⟨by rfl, rfl⟩) (by assumption) ?_
            (try simp only [Act.put]); (try simp only [List.setIfInBounds_toArray]); (try simp only [List.set_cons_succ]); (try simp only [List.set_cons_zero])
            refine wpAnyH_takeD (i := 8) (some 116) (v := undef) rfl rfl (by kernel_rfl) (by kernel_rfl) (by kernel_rfl) (fun _ _ _ h => h) (Or.inr ⟨by rfl, rfl⟩) (by assumption) ?_
            (try simp only [Act.put]); (try simp only [List.setIfInBounds_toArray]); (try simp only [List.set_cons_succ]); (try simp only [List.set_cons_zero])
            refine wpAnyH_takeD (i := 9) (some 117) (v := undef) rfl rfl (by kernel_rfl) (by kernel_rfl) (by kernel_rfl) (fun _ _ _ h => h) (Or.inr ⟨by rfl, rfl⟩) (by assumption) ?_
            (try simp only [Act.put]); (try simp only [List.setIfInBounds_toArray]); (try simp only [List.set_cons_succ]); (try simp only [List.set_cons_zero])
            refine wpAnyH_takeD (i := 10) (some 118) (v := undef) rfl rfl (by kernel_rfl) (by kernel_rfl) (by kernel_rfl) (fun _ _ _ h => h) (Or.inr ⟨by rfl, rfl⟩) (by assumption) ?_
            (try simp only [Act.put]); (try simp only [List.setIfInBounds_toArray]); (try simp only [List.set_cons_succ]); (try simp only [List.set_cons_zero])
            refine wpAnyH_takeD (i := 11) (some 119) (v := undef) rfl rfl (by kernel_rfl) (by kernel_rfl) (by kernel_rfl) (fun _ _ _ h => h) (Or.inr ⟨by rfl, rfl⟩) (by assumption) ?_
            (try simp only [Act.put]); (try simp only [List.setIfInBounds_toArray]); (try simp only [List.set_cons_succ]); (try simp only [List.set_cons_zero])
            refine wpAnyH_takeD (i := 12) (some 120) (v := undef) rfl rfl (by kernel_rfl) (by kernel_rfl) (by kernel_rfl) (fun _ _ _ h => h) (Or.inr ⟨by rfl, rfl⟩) (by assumption) ?_
            (try simp only [Act.put]); (try simp only [List.setIfInBounds_toArray]); (try simp only [List.set_cons_succ]); (try simp only [List.set_cons_zero])
            refine wpAnyH_takeD (i := 13) (some 121) (v := ?_) rfl rfl (by kernel_rfl) (by kernel_rfl) (by kernel_rfl) (fun _ _ _ h => h) (Or.inl ⟨by rfl, ?_⟩) (by assumption) ?_
            rotate_left
            (focus (intro w hSw; (try dsimp only at hSw); (first | (go_simp; done) | (go_simp; with_reducible rfl) | with_reducible rfl)))
            (try simp only [Act.put]); (try simp only [List.setIfInBounds_toArray]); (try simp only [List.set_cons_succ]); (try simp only [List.set_cons_zero])
            refine wpAnyH_takeD (i := 14) (some 122) (v := ?_) rfl rfl (by kernel_rfl) (by kernel_rfl) (by kernel_rfl) (fun _ _ _ h => h) (Or.inl ⟨by rfl, ?_⟩) (by assumption) ?_
            rotate_left
            (focus (intro w hSw; (try dsimp only at hSw); (first | (go_simp; done) | (go_simp; with_reducible rfl) | with_reducible rfl)))
            (try simp only [Act.put]); (try simp only [List.setIfInBounds_toArray]); (try simp only [List.set_cons_succ]); (try simp only [List.set_cons_zero])
            refine wpAnyH_takeD (i := 15) (some 123) (v := ?_) rfl rfl (by kernel_rfl) (by kernel_rfl) (by kernel_rfl) (fun _ _ _ h => h) (Or.inl ⟨by rfl, ?_⟩) (by assumption) ?_
            rotate_left
            (focus (intro w hSw; (try dsimp only at hSw); (first | (go_simp; done) | (go_simp; with_reducible rfl) | with_reducible rfl)))
            (try simp only [Act.put]); (try simp only [List.setIfInBounds_toArray]); (try simp only [List.set_cons_succ]); (try simp only [List.set_cons_zero])
            refine wpAnyH_takeD (i := 16) (some 124) (v := ?_) rfl rfl (by kernel_rfl) (by kernel_rfl) (by kernel_rfl) (fun _ _ _ h => h) (Or.inl ⟨by rfl, ?_⟩) (by assumption) ?_
            rotate_left
            (focus (intro w hSw; (try dsimp only at hSw); (first | (go_simp; done) | (go_simp; with_reducible rfl) | with_reducible rfl)))
            (try simp only [Act.put]); (try simp only [List.setIfInBounds_toArray]); (try simp only [List.set_cons_succ]); (try simp only [List.set_cons_zero])
            refine wpAnyH_takeD (i := 17) (some 125) (v := ?_) rfl rfl (by kernel_rfl) (by kernel_rfl) (by kernel_rfl) (fun _ _ _ h => h) (Or.inl ⟨by rfl, ?_⟩) (by assumption) ?_
            rotate_left
            (focus (intro w hSw; (try dsimp only at hSw); (first | (go_simp; done) | (go_simp; with_reducible rfl) | with_reducible rfl)))
            (try simp only [Act.put]); (try simp only [List.setIfInBounds_toArray]); (try simp only [List.set_cons_succ]); (try simp only [List.set_cons_zero])
            refine wpAnyH_takeD (i := 18) (some 126) (v := ?_) rfl rfl (by kernel_rfl) (by kernel_rfl) (by kernel_rfl) (fun _ _ _ h => h) (Or.inl ⟨by rfl, ?_⟩) (by assumption) ?_
            rotate_left
            (focus (intro w hSw; (try dsimp only at hSw); (first | (go_simp; done) | (go_simp; with_reducible rfl) | with_reducible rfl)))
            (try simp only [Act.put]); (try simp only [List.setIfInBounds_toArray]); (try simp only [List.set_cons_succ]); (try simp only [List.set_cons_zero])
            refine wpAnyH_takeD (i := 19) (some 127) (v := ?_) rfl rfl (by kernel_rfl) (by kernel_rfl) (by kernel_rfl) (fun _ _ _ h => h) (Or.inl ⟨by rfl, ?_⟩) (by assumption) ?_
            rotate_left
            (focus (intro w hSw; (try dsimp only at hSw); (first | (go_simp; done) | (go_simp; with_reducible rfl) | with_reducible rfl)))
            (try simp only [Act.put]); (try simp only [List.setIfInBounds_toArray]); (try simp only [List.set_cons_succ]); (try simp only [List.set_cons_zero])
            refine wpAnyH_ready (rs := [20]) (by kernel_rfl) (by simp) (AllReadyH.cons rfl (fun K hK => ?_) AllReadyH.nil)
            go_simp
            ((go_at_call 13; refine (impl_WinHas _ ⟨t, l4⟩ x _ (W.grow (by (repeat (first | with_reducible exact gb_refl _ | with_reducible refine gb_alloc ?_ _ | with_reducible refine gb_drewN ?_ _ | with_reducible refine gb_drew ?_)))).r4 hlen.out).mono ?_; rw [hx2.out]; rintro e w7 ⟨rfl, g7⟩; skip))
            go_wp2_with fail
            refine hK.out _ _ ?_ (fun hHeld2 => ?_)
            · (try dsimp only)
              (refine KX.out _ ?_; (repeat (first | with_reducible exact gb_refl _ | with_reducible refine gb_alloc ?_ _ | with_reducible refine gb_drewN ?_ _ | with_reducible refine gb_drew ?_ | with_reducible refine gb_trans ?_ g7)))
            clear hK K hHeld
            have hHeld := hHeld2
            clear hHeld2
            (try simp only [Act.put]); (try simp only [List.setIfInBounds_toArray]); (try simp only [List.set_cons_succ]); (try simp only [List.set_cons_zero])
            refine wpAnyH_takeD (i := 21) (some 129) (v := ?_) rfl rfl (by kernel_rfl) (by kernel_rfl) (by kernel_rfl) (fun _ _ _ h => h) (Or.inl ⟨by rfl, ?_⟩) (by assumption) ?_
            rotate_left
            (focus (intro w hSw; (try dsimp only at hSw); (first | (go_simp; done) | (go_simp; with_reducible rfl) | with_reducible rfl)))
            (try simp only [Act.put]); (try simp only [List.setIfInBounds_toArray]); (try simp only [List.set_cons_succ]); (try simp only [List.set_cons_zero])
            refine wpAnyH_takeD (i := 22) (some 130) (v := ?_) rfl rfl (by kernel_rfl) (by kernel_rfl) (by kernel_rfl) (fun _ _ _ h => h) (Or.inl ⟨by rfl, ?_⟩) (by assumption) ?_
            rotate_left
            (focus (intro w hSw; (try dsimp only at hSw); (first | (go_simp; done) | (go_simp; with_reducible rfl) | with_reducible rfl)))
            (try simp only [Act.put]); (try simp only [List.setIfInBounds_toArray]); (try simp only [List.set_cons_succ]); (try simp only [List.set_cons_zero])
            refine wpAnyH_done (by kernel_rfl) ?_ _
            (try dsimp only)
            have H : wr.grownBy w7 none := (by (repeat (first | with_reducible exact gb_refl _ | with_reducible refine gb_alloc ?_ _ | with_reducible refine gb_drewN ?_ _ | with_reducible refine gb_drew ?_ | with_reducible refine gb_trans ?_ g7)))
            clear KX
            go_wp2
            refine ⟨⟨y + 1, by omega, by go_num, gb_trans hgr H⟩, by simp [intOf]; omega⟩
          · obtain ⟨z, hz⟩ : ∃ k, y = k + 1 := ⟨y - 1, by omega⟩
            obtain ⟨b7, f7, x', e7, hx', hcx'⟩ := o6.int z (by omega)
            cases e7
            have hlt2 := hrise.out z x' x hx'.out (by rw [← hz]; exact hx.out)
            have hg0 : decide (0 < y) = true := decide_eq_true (by omega)
            have hg1 : decide ((0 : Int) < (y : Int)) = true := decide_eq_true (by omega)
            have hge : decide (x ≤ x') = false := decide_eq_false (by omega)
            have y1 : (0 : Int) ≤ (y : Int) := Int.natCast_nonneg _
            have y2 : (y : Int) < (n6 : Int) := by omega
            have y3 : (0 : Int) ≤ (z : Int) := Int.natCast_nonneg _
            have y4 : (z : Int) < (n6 : Int) := by omega
            have y6 : z < n6 := by omega
            have y5 : (y : Int) - 1 = (z : Int) := by omega
            replace hz := Lib.hid hz
            clear hy0
            go_wp2
            have wr1 : IntKind.i64.wrap ((y : Int) - 1) = (z : Int) := by rw [y5]; exact IntWalk.i64_in _ (by omega)
            have wr2 : IntKind.i64.wrap (z : Int) = (z : Int) := IntWalk.i64_in _ (by omega)
            have KX : Hid (∀ w', wr.grownBy w' none → ((w'.cell? ⟨w2.heap.size, 0, none⟩ = some (.int .i64 t) ∧ w'.cell? ⟨w2.heap.size, 1, none⟩ = some (.slice a4 n4 c4) ∧ w'.cell? ⟨b6, f6 + y, none⟩ = some (.int .i64 x) ∧ w'.cell? ⟨b6, f6 + z, none⟩ = some (.int .i64 x')) ∧ wr.grownBy w' none)) := fun w' hg => ⟨⟨(W.bx.keep0 hg).cell 0, (W.bx.keep0 hg).cell 1, cellK hcx hg, cellK hcx' hg⟩, hg⟩
            refine wp_region_held_drew (S := (fun w' => (w'.cell? ⟨w2.heap.size, 0, none⟩ = some (.int .i64 t) ∧ w'.cell? ⟨w2.heap.size, 1, none⟩ = some (.slice a4 n4 c4) ∧ w'.cell? ⟨b6, f6 + y, none⟩ = some (.int .i64 x) ∧ w'.cell? ⟨b6, f6 + z, none⟩ = some (.int .i64 x')) ∧ wr.grownBy w' none)) (by kernel_rfl) ?_ (fun hHeld => ?_)
            · (try dsimp only)
              (refine KX.out _ ?_; (repeat (first | with_reducible exact gb_refl _ | with_reducible refine gb_alloc ?_ _ | with_reducible refine gb_drewN ?_ _ | with_reducible refine gb_drew ?_)))
            refine wpAnyH_takeD (i := 0) (some 108) (v := ?_) rfl rfl (by kernel_rfl) (by kernel_rfl) (by kernel_rfl) (fun _ _ _ h => h) (Or.inl ⟨by rfl, ?_⟩) (by assumption) ?_
            rotate_left
            (focus (intro w hSw; (try dsimp only at hSw); (first | (go_simp; done) | (go_simp; with_reducible rfl) | with_reducible rfl)))
            (try simp only [Act.put]); (try simp only [List.setIfInBounds_toArray]); (try simp only [List.set_cons_succ]); (try simp only [List.set_cons_zero])
            refine wpAnyH_takeD (i := 1) (some 109) (v := ?_) rfl rfl (by kernel_rfl) (by kernel_rfl) (by kernel_rfl) (fun _ _ _ h => h) (Or.inl ⟨by rfl, ?_⟩) (by assumption) ?_
            rotate_left
            (focus (intro w hSw; (try dsimp only at hSw); (first | (go_simp; done) | (go_simp; with_reducible rfl) | with_reducible rfl)))
            (try simp only [Act.put]); (try simp only [List.setIfInBounds_toArray]); (try simp only [List.set_cons_succ]); (try simp only [List.set_cons_zero])
            refine wpAnyH_takeD (i := 2) (some 110) (v := ?_) rfl rfl (by kernel_rfl) (by kernel_rfl) (by kernel_rfl) (fun _ _ _ h => h) (Or.inl ⟨by rfl, ?_⟩) (by assumption) ?_
            rotate_left
            (focus (intro w hSw; (try dsimp only at hSw); (first | (go_simp; done) | (go_simp; with_reducible rfl) | with_reducible rfl)))
            (try simp only [Act.put]); (try simp only [List.setIfInBounds_toArray]); (try simp only [List.set_cons_succ]); (try simp only [List.set_cons_zero])
            refine wpAnyH_takeD (i := 3) (some 111) (v := ?_) rfl rfl (by kernel_rfl) (by kernel_rfl) (by kernel_rfl) (fun _ _ _ h => h) (Or.inl ⟨by rfl, ?_⟩) (by assumption) ?_
            rotate_left
            (focus (intro w hSw; (try dsimp only at hSw); (first | (go_simp; done) | (go_simp; with_reducible rfl) | with_reducible rfl)))
            (try simp only [Act.put]); (try simp only [List.setIfInBounds_toArray]); (try simp only [List.set_cons_succ]); (try simp only [List.set_cons_zero])
            refine wpAnyH_takeD (i := 4) (some 112) (v := ?_) rfl rfl (by kernel_rfl) (by kernel_rfl) (by kernel_rfl) (fun _ _ _ h => h) (Or.inl ⟨by rfl, ?_⟩) (by assumption) ?_
            rotate_left
            (focus (intro w hSw; (try dsimp only at hSw); (first | (go_simp; done) | (go_simp; with_reducible rfl) | with_reducible rfl)))
            (try simp only [Act.put]); (try simp only [List.setIfInBounds_toArray]); (try simp only [List.set_cons_succ]); (try simp only [List.set_cons_zero])
            refine wpAnyH_takeD (i := 5) (some 113) (v := ?_) rfl rfl (by kernel_rfl) (by kernel_rfl) (by kernel_rfl) (fun _ _ _ h => h) (Or.inl ⟨by rfl, ?_⟩) (by assumption) ?_
            rotate_left
            (focus (intro w hSw; (try dsimp only at hSw); (first | (go_simp; done) | (go_simp; with_reducible rfl) | with_reducible rfl)))
            (try simp only [Act.put]); (try simp only [List.setIfInBounds_toArray]); (try simp only [List.set_cons_succ]); (try simp only [List.set_cons_zero])
            refine wpAnyH_takeD (i := 6) (some 114) (v := ?_) rfl rfl (by kernel_rfl) (by kernel_rfl) (by kernel_rfl) (fun _ _ _ h => h) (Or.inl ⟨by rfl, ?_⟩) (by assumption) ?_
            rotate_left
            (focus (intro w hSw; (try dsimp only at hSw); (first | (go_simp; done) | (go_simp; with_reducible rfl) | with_reducible rfl)))
            (try simp only [Act.put]); (try simp only [List.setIfInBounds_toArray]); (try simp only [List.set_cons_succ]); (try simp only [List.set_cons_zero])
            refine wpAnyH_takeD (i := 7) (some 115) (v := ?_) rfl rfl (by kernel_rfl) (by kernel_rfl) (by kernel_rfl) (fun _ _ _ h => h) (Or.inl ⟨by rfl, ?_⟩) (by assumption) ?_
            rotate_left
            (focus (intro w hSw; (try dsimp only at hSw); (first | (go_simp; done) | (go_simp; with_reducible rfl) | with_reducible rfl)))
            (try simp only [Act.put]); (try simp only [List.setIfInBounds_toArray]); (try simp only [List.set_cons_succ]); (try simp only [List.set_cons_zero])
            refine wpAnyH_takeD (i := 8) (some 116) (v := ?_) rfl rfl (by kernel_rfl) (by kernel_rfl) (by kernel_rfl) (fun _ _ _ h => h) (Or.inl ⟨by rfl, ?_⟩) (by assumption) ?_
            rotate_left
            (focus (intro w hSw; (try dsimp only at hSw); (first | (go_simp; done) | (go_simp; with_reducible rfl) | with_reducible rfl)))
            (try simp only [Act.put]); (try simp only [List.setIfInBounds_toArray]); (try simp only [List.set_cons_succ]); (try simp only [List.set_cons_zero])
            refine wpAnyH_takeD (i := 9) (some 117) (v := ?_) rfl rfl (by kernel_rfl) (by kernel_rfl) (by kernel_rfl) (fun _ _ _ h => h) (Or.inl ⟨by rfl, ?_⟩) (by assumption) ?_
            rotate_left
            (focus (intro w hSw; (try dsimp only at hSw); (first | (go_simp; done) | (go_simp; with_reducible rfl) | with_reducible rfl)))
            (try simp only [Act.put]); (try simp only [List.setIfInBounds_toArray]); (try simp only [List.set_cons_succ]); (try simp only [List.set_cons_zero])
            refine wpAnyH_takeD (i := 10) (some 118) (v := ?_) rfl rfl (by kernel_rfl) (by kernel_rfl) (by kernel_rfl) (fun _ _ _ h => h) (Or.inl ⟨by rfl, ?_⟩) (by assumption) ?_
            rotate_left
            (focus (intro w hSw; (try dsimp only at hSw); (first | (go_simp; done) | (go_simp; with_reducible rfl) | with_reducible rfl)))
            (try simp only [Act.put]); (try simp only [List.setIfInBounds_toArray]); (try simp only [List.set_cons_succ]); (try simp only [List.set_cons_zero])
            refine wpAnyH_takeD (i := 11) (some 119) (v := ?_) rfl rfl (by kernel_rfl) (by kernel_rfl) (by kernel_rfl) (fun _ _ _ h => h) (Or.inl ⟨by rfl, ?_⟩) (by assumption) ?_
            rotate_left
            (focus (intro w hSw; (try dsimp only at hSw); (first | (go_simp; done) | (go_simp; with_reducible rfl) | with_reducible rfl)))
            (try simp only [Act.put]); (try simp only [List.setIfInBounds_toArray]); (try simp only [List.set_cons_succ]); (try simp only [List.set_cons_zero])
            refine wpAnyH_takeD (i := 12) (some 120) (v := ?_) rfl rfl (by kernel_rfl) (by kernel_rfl) (by kernel_rfl) (fun _ _ _ h => h) (Or.inl ⟨by rfl, ?_⟩) (by assumption) ?_
            rotate_left
            (focus (intro w hSw; (try dsimp only at hSw); (first | (go_simp; done) | (go_simp; with_reducible rfl) | with_reducible rfl)))
            (try simp only [Act.put]); (try simp only [List.setIfInBounds_toArray]); (try simp only [List.set_cons_succ]); (try simp only [List.set_cons_zero])
            refine wpAnyH_takeD (i := 13) (some 121) (v := ?_) rfl rfl (by kernel_rfl) (by kernel_rfl) (by kernel_rfl) (fun _ _ _ h => h) (Or.inl ⟨by rfl, ?_⟩) (by assumption) ?_
            rotate_left
            (focus (intro w hSw; (try dsimp only at hSw); (first | (go_simp; done) | (go_simp; with_reducible rfl) | with_reducible rfl)))
            (try simp only [Act.put]); (try simp only [List.setIfInBounds_toArray]); (try simp only [List.set_cons_succ]); (try simp only [List.set_cons_zero])
            refine wpAnyH_takeD (i := 14) (some 122) (v := ?_) rfl rfl (by kernel_rfl) (by kernel_rfl) (by kernel_rfl) (fun _ _ _ h => h) (Or.inl ⟨by rfl, ?_⟩) (by assumption) ?_
            rotate_left
            (focus (intro w hSw; (try dsimp only at hSw); (first | (go_simp; done) | (go_simp; with_reducible rfl) | with_reducible rfl)))
            (try simp only [Act.put]); (try simp only [List.setIfInBounds_toArray]); (try simp only [List.set_cons_succ]); (try simp only [List.set_cons_zero])
            refine wpAnyH_takeD (i := 15) (some 123) (v := ?_) rfl rfl (by kernel_rfl) (by kernel_rfl) (by kernel_rfl) (fun _ _ _ h => h) (Or.inl ⟨by rfl, ?_⟩) (by assumption) ?_
            rotate_left
            (focus (intro w hSw; (try dsimp only at hSw); (first | (go_simp; done) | (go_simp; with_reducible rfl) | with_reducible rfl)))
            (try simp only [Act.put]); (try simp only [List.setIfInBounds_toArray]); (try simp only [List.set_cons_succ]); (try simp only [List.set_cons_zero])
            refine wpAnyH_takeD (i := 16) (some 124) (v := ?_) rfl rfl (by kernel_rfl) (by kernel_rfl) (by kernel_rfl) (fun _ _ _ h => h) (Or.inl ⟨by rfl, ?_⟩) (by assumption) ?_
            rotate_left
            (focus (intro w hSw; (try dsimp only at hSw); (first | (go_simp; done) | (go_simp; with_reducible rfl) | with_reducible rfl)))
            (try simp only [Act.put]); (try simp only [List.setIfInBounds_toArray]); (try simp only [List.set_cons_succ]); (try simp only [List.set_cons_zero])
            refine wpAnyH_takeD (i := 17) (some 125) (v := ?_) rfl rfl (by kernel_rfl) (by kernel_rfl) (by kernel_rfl) (fun _ _ _ h => h) (Or.inl ⟨by rfl, ?_⟩) (by assumption) ?_
            rotate_left
            (focus (intro w hSw; (try dsimp only at hSw); (first | (go_simp; done) | (go_simp; with_reducible rfl) | with_reducible rfl)))
            (try simp only [Act.put]); (try simp only [List.setIfInBounds_toArray]); (try simp only [List.set_cons_succ]); (try simp only [List.set_cons_zero])
            refine wpAnyH_takeD (i := 18) (some 126) (v := ?_) rfl rfl (by kernel_rfl) (by kernel_rfl) (by kernel_rfl) (fun _ _ _ h => h) (Or.inl ⟨by rfl, ?_⟩) (by assumption) ?_
            rotate_left
            (focus (intro w hSw; (try dsimp only at hSw); (first | (go_simp; done) | (go_simp; with_reducible rfl) | with_reducible rfl)))
            (try simp only [Act.put]); (try simp only [List.setIfInBounds_toArray]); (try simp only [List.set_cons_succ]); (try simp only [List.set_cons_zero])
            refine wpAnyH_takeD (i := 19) (some 127) (v := ?_) rfl rfl (by kernel_rfl) (by kernel_rfl) (by kernel_rfl) (fun _ _ _ h => h) (Or.inl ⟨by rfl, ?_⟩) (by assumption) ?_
            rotate_left
            (focus (intro w hSw; (try dsimp only at hSw); (first | (go_simp; done) | (go_simp; with_reducible rfl) | with_reducible rfl)))
            (try simp only [Act.put]); (try simp only [List.setIfInBounds_toArray]); (try simp only [List.set_cons_succ]); (try simp only [List.set_cons_zero])
            refine wpAnyH_ready (rs := [20]) (by kernel_rfl) (by simp) (AllReadyH.cons rfl (fun K hK => ?_) AllReadyH.nil)
            go_simp
            ((go_at_call 13; refine (impl_WinHas _ ⟨t, l4⟩ x _ (W.grow (by (repeat (first | with_reducible exact gb_refl _ | with_reducible refine gb_alloc ?_ _ | with_reducible refine gb_drewN ?_ _ | with_reducible refine gb_drew ?_)))).r4 hlen.out).mono ?_; rw [hx2.out]; rintro e w7 ⟨rfl, g7⟩; skip))
            go_wp2_with fail
            refine hK.out _ _ ?_ (fun hHeld2 => ?_)
            · (try dsimp only)
              (refine KX.out _ ?_; (repeat (first | with_reducible exact gb_refl _ | with_reducible refine gb_alloc ?_ _ | with_reducible refine gb_drewN ?_ _ | with_reducible refine gb_drew ?_ | with_reducible refine gb_trans ?_ g7)))
            clear hK K hHeld
            have hHeld := hHeld2
            clear hHeld2
            (try simp only [Act.put]); (try simp only [List.setIfInBounds_toArray]); (try simp only [List.set_cons_succ]); (try simp only [List.set_cons_zero])
            refine wpAnyH_takeD (i := 21) (some 129) (v := ?_) rfl rfl (by kernel_rfl) (by kernel_rfl) (by kernel_rfl) (fun _ _ _ h => h) (Or.inl ⟨by rfl, ?_⟩) (by assumption) ?_
            rotate_left
            (focus (intro w hSw; (try dsimp only at hSw); (first | (go_simp; done) | (go_simp; with_reducible rfl) | with_reducible rfl)))
            (try simp only [Act.put]); (try simp only [List.setIfInBounds_toArray]); (try simp only [List.set_cons_succ]); (try simp only [List.set_cons_zero])
            refine wpAnyH_takeD (i := 22) (some 130) (v := ?_) rfl rfl (by kernel_rfl) (by kernel_rfl) (by kernel_rfl) (fun _ _ _ h => h) (Or.inl ⟨by rfl, ?_⟩) (by assumption) ?_
            rotate_left
            (focus (intro w hSw; (try dsimp only at hSw); (first | (go_simp; done) | (go_simp; with_reducible rfl) | with_reducible rfl)))
            (try simp only [Act.put]); (try simp only [List.setIfInBounds_toArray]); (try simp only [List.set_cons_succ]); (try simp only [List.set_cons_zero])
            refine wpAnyH_done (by kernel_rfl) ?_ _
            (try dsimp only)
            have H : wr.grownBy w7 none := (by (repeat (first | with_reducible exact gb_refl _ | with_reducible refine gb_alloc ?_ _ | with_reducible refine gb_drewN ?_ _ | with_reducible refine gb_drew ?_ | with_reducible refine gb_trans ?_ g7)))
            clear KX
            go_wp2
            refine ⟨⟨y + 1, by omega, by go_num, gb_trans hgr H⟩, by simp [intOf]; omega⟩
        · obtain rfl : n6 = y := by omega
          have hk := fun y => cnt_le t (g.take y)
          have hk2 : ∀ y, cnt t (g.take y) ≤ 256 := fun y => Nat.le_trans (hk y) (by rw [List.length_take]; have := W.o5.rd.ilen; omega)
          clear hk
          replace hk2 := Lib.hid hk2
          have w9 := gb_refl wr
          go_wp2
          go_loopw [15, 17] (fun k i ws => ∃ y : Nat, y ≤ m5 ∧ i = .int .i64 (y : Int) ∧ k = .int .i64 (cnt t (g.take y) : Nat) ∧ wr.grownBy ws none) (fun _ i _ => m5 - (intOf i).toNat)
          case atStart => exact ⟨0, Nat.zero_le _, rfl, rfl, gb_refl _⟩
          case round =>
            clear w9
            obtain ⟨y, hy, rfl, rfl, hgs⟩ := hrel
            replace W := W.grow hgs
            by_cases hy2 : y < m5
            · obtain ⟨b7, f7, u, e5, hu, hcu⟩ := W.o5.rd.int y hy2
              subst e5
              obtain ⟨k, hk⟩ : ∃ k, Hid (cnt t (g.take y) = k) := ⟨_, rfl⟩
              have hkk : k ≤ 256 := by rw [← hk.out]; exact hk2.out y
              rw [hk.out]
              by_cases h5 : t - 1024 < u
              · have hk3 := Lib.hid ((cnt_t hu.out h5).trans (by rw [hk.out]))
                have hx2 := Lib.hid (hhas.out u (List.mem_of_getElem? hu.out) h5)
                go_wp2
                have y1 : (0 : Int) ≤ (y : Int) := Int.natCast_nonneg _
                have KX : Hid (∀ w', wr.grownBy w' none → ((w'.cell? ⟨w2.heap.size, 0, none⟩ = some (.int .i64 t) ∧ w'.cell? ⟨w2.heap.size, 1, none⟩ = some (.slice a4 n4 c4) ∧ w'.cell? ⟨b7, f7 + y, none⟩ = some (.int .i64 u)) ∧ wr.grownBy w' none)) := fun w' hg => ⟨⟨(W.bx.keep0 hg).cell 0, (W.bx.keep0 hg).cell 1, cellK hcu hg⟩, hg⟩
                refine wp_region_held_drew (S := (fun w' => (w'.cell? ⟨w2.heap.size, 0, none⟩ = some (.int .i64 t) ∧ w'.cell? ⟨w2.heap.size, 1, none⟩ = some (.slice a4 n4 c4) ∧ w'.cell? ⟨b7, f7 + y, none⟩ = some (.int .i64 u)) ∧ wr.grownBy w' none)) (by kernel_rfl) ?_ (fun hHeld => ?_)
                · (try dsimp only)
                  (refine KX.out _ ?_; (repeat (first | with_reducible exact gb_refl _ | with_reducible refine gb_alloc ?_ _ | with_reducible refine gb_drewN ?_ _ | with_reducible refine gb_drew ?_)))
                refine wpAnyH_takeD (i := 0) (some 146) (v := ?_) rfl rfl (by kernel_rfl) (by kernel_rfl) (by kernel_rfl) (fun _ _ _ h => h) (Or.inl ⟨by rfl, ?_⟩) (by assumption) ?_
                rotate_left
                (focus (intro w hSw; (try dsimp only at hSw); (first | (go_simp; done) | (go_simp; with_reducible rfl) | with_reducible rfl)))
                (try simp only [Act.put]); (try simp only [List.setIfInBounds_toArray]); (try simp only [List.set_cons_succ]); (try simp only [List.set_cons_zero])
                refine wpAnyH_takeD (i := 1) (some 147) (v := ?_) rfl rfl (by kernel_rfl) (by kernel_rfl) (by kernel_rfl) (fun _ _ _ h => h) (Or.inl ⟨by rfl, ?_⟩) (by assumption) ?_
                rotate_left
                (focus (intro w hSw; (try dsimp only at hSw); (first | (go_simp; done) | (go_simp; with_reducible rfl) | with_reducible rfl)))
                (try simp only [Act.put]); (try simp only [List.setIfInBounds_toArray]); (try simp only [List.set_cons_succ]); (try simp only [List.set_cons_zero])
                refine wpAnyH_takeD (i := 2) (some 148) (v := ?_) rfl rfl (by kernel_rfl) (by kernel_rfl) (by kernel_rfl) (fun _ _ _ h => h) (Or.inl ⟨by rfl, ?_⟩) (by assumption) ?_
                rotate_left
                (focus (intro w hSw; (try dsimp only at hSw); (first | (go_simp; done) | (go_simp; with_reducible rfl) | with_reducible rfl)))
                (try simp only [Act.put]); (try simp only [List.setIfInBounds_toArray]); (try simp only [List.set_cons_succ]); (try simp only [List.set_cons_zero])
                refine wpAnyH_takeD (i := 3) (some 149) (v := ?_) rfl rfl (by kernel_rfl) (by kernel_rfl) (by kernel_rfl) (fun _ _ _ h => h) (Or.inl ⟨by rfl, ?_⟩) (by assumption) ?_
                rotate_left
                (focus (intro w hSw; (try dsimp only at hSw); (first | (go_simp; done) | (go_simp; with_reducible rfl) | with_reducible rfl)))
                (try simp only [Act.put]); (try simp only [List.setIfInBounds_toArray]); (try simp only [List.set_cons_succ]); (try simp only [List.set_cons_zero])
                refine wpAnyH_takeD (i := 4) (some 150) (v := ?_) rfl rfl (by kernel_rfl) (by kernel_rfl) (by kernel_rfl) (fun _ _ _ h => h) (Or.inl ⟨by rfl, ?_⟩) (by assumption) ?_
                rotate_left
                (focus (intro w hSw; (try dsimp only at hSw); (first | (go_simp; done) | (go_simp; with_reducible rfl) | with_reducible rfl)))
                (try simp only [Act.put]); (try simp only [List.setIfInBounds_toArray]); (try simp only [List.set_cons_succ]); (try simp only [List.set_cons_zero])
                refine wpAnyH_ready (rs := [5]) (by kernel_rfl) (by simp) (AllReadyH.cons rfl (fun K hK => ?_) AllReadyH.nil)
                go_simp
                ((go_at_call 13; refine (impl_WinHas _ ⟨t, l4⟩ u _ (W.grow (by (repeat (first | with_reducible exact gb_refl _ | with_reducible refine gb_alloc ?_ _ | with_reducible refine gb_drewN ?_ _ | with_reducible refine gb_drew ?_)))).r4 hlen.out).mono ?_; rw [hx2.out]; rintro e w7 ⟨rfl, g7⟩; skip))
                go_wp2_with fail
                refine hK.out _ _ ?_ (fun hHeld2 => ?_)
                · (try dsimp only)
                  (refine KX.out _ ?_; (repeat (first | with_reducible exact gb_refl _ | with_reducible refine gb_alloc ?_ _ | with_reducible refine gb_drewN ?_ _ | with_reducible refine gb_drew ?_ | with_reducible refine gb_trans ?_ g7)))
                clear hK K hHeld
                have hHeld := hHeld2
                clear hHeld2
                (try simp only [Act.put]); (try simp only [List.setIfInBounds_toArray]); (try simp only [List.set_cons_succ]); (try simp only [List.set_cons_zero])
                refine wpAnyH_takeD (i := 6) (some 152) (v := ?_) rfl rfl (by kernel_rfl) (by kernel_rfl) (by kernel_rfl) (fun _ _ _ h => h) (Or.inl ⟨by rfl, ?_⟩) (by assumption) ?_
                rotate_left
                (focus (intro w hSw; (try dsimp only at hSw); (first | (go_simp; done) | (go_simp; with_reducible rfl) | with_reducible rfl)))
                (try simp only [Act.put]); (try simp only [List.setIfInBounds_toArray]); (try simp only [List.set_cons_succ]); (try simp only [List.set_cons_zero])
                refine wpAnyH_done (by kernel_rfl) ?_ _
                (try dsimp only)
                have H : wr.grownBy w7 none := (by (repeat (first | with_reducible exact gb_refl _ | with_reducible refine gb_alloc ?_ _ | with_reducible refine gb_drewN ?_ _ | with_reducible refine gb_drew ?_ | with_reducible refine gb_trans ?_ g7)))
                clear KX
                go_wp2
                refine ⟨⟨y + 1, by omega, by go_num, by rw [hk3.out]; rfl, gb_trans hgs H⟩, by simp [intOf]; omega⟩
              · have hk3 := Lib.hid ((cnt_f hu.out h5).trans hk.out)
                go_wp2
                refine ⟨⟨y + 1, by omega, by go_num, by rw [hk3.out], hgs⟩, by simp [intOf]; omega⟩
            · obtain rfl : m5 = y := by omega
              have hg9 : g.take m5 = g := List.take_of_length_le (by have := W.o5.rd.ilen; omega)
              rw [hg9, show cnt t g = n6 from hcnt.out.trans h6.out]
              clear hg9
              go_wp2
              have KX : Hid (∀ w', wr.grownBy w' none → (w'.cell? ⟨w2.heap.size, 0, none⟩ = some (.int .i64 t) ∧ w'.cell? ⟨w2.heap.size, 1, none⟩ = some (.slice a4 n4 c4) ∧ wr.grownBy w' none)) := fun w' hg => ⟨(W.bx.keep0 hg).cell 0, (W.bx.keep0 hg).cell 1, hg⟩
              refine wp_region_held_drew (S := (fun w' => w'.cell? ⟨w2.heap.size, 0, none⟩ = some (.int .i64 t) ∧ w'.cell? ⟨w2.heap.size, 1, none⟩ = some (.slice a4 n4 c4) ∧ wr.grownBy w' none)) (by kernel_rfl) ?_ (fun hHeld => ?_)
              · (try dsimp only)
                (refine KX.out _ ?_; (repeat (first | with_reducible exact gb_refl _ | with_reducible refine gb_alloc ?_ _ | with_reducible refine gb_drewN ?_ _ | with_reducible refine gb_drew ?_)))
              refine wpAnyH_takeD (i := 0) (some 153) (v := ?_) rfl rfl (by kernel_rfl) (by kernel_rfl) (by kernel_rfl) (fun _ _ _ h => h) (Or.inl ⟨by rfl, ?_⟩) (by assumption) ?_
              rotate_left
              (focus (intro w hSw; (try dsimp only at hSw); (first | (go_simp; done) | (go_simp; with_reducible rfl) | with_reducible rfl)))
              (try simp only [Act.put]); (try simp only [List.setIfInBounds_toArray]); (try simp only [List.set_cons_succ]); (try simp only [List.set_cons_zero])
              refine wpAnyH_takeD (i := 1) (some 154) (v := ?_) rfl rfl (by kernel_rfl) (by kernel_rfl) (by kernel_rfl) (fun _ _ _ h => h) (Or.inl ⟨by rfl, ?_⟩) (by assumption) ?_
              rotate_left
              (focus (intro w hSw; (try dsimp only at hSw); (first | (go_simp; done) | (go_simp; with_reducible rfl) | with_reducible rfl)))
              (try simp only [Act.put]); (try simp only [List.setIfInBounds_toArray]); (try simp only [List.set_cons_succ]); (try simp only [List.set_cons_zero])
              refine wpAnyH_takeD (i := 2) (some 155) (v := ?_) rfl rfl (by kernel_rfl) (by kernel_rfl) (by kernel_rfl) (fun _ _ _ h => h) (Or.inl ⟨by rfl, ?_⟩) (by assumption) ?_
              rotate_left
              (focus (intro w hSw; (try dsimp only at hSw); (first | (go_simp; done) | (go_simp; with_reducible rfl) | with_reducible rfl)))
              (try simp only [Act.put]); (try simp only [List.setIfInBounds_toArray]); (try simp only [List.set_cons_succ]); (try simp only [List.set_cons_zero])
              refine wpAnyH_takeD (i := 3) (some 156) (v := ?_) rfl rfl (by kernel_rfl) (by kernel_rfl) (by kernel_rfl) (fun _ _ _ h => h) (Or.inl ⟨by rfl, ?_⟩) (by assumption) ?_
              rotate_left
              (focus (intro w hSw; (try dsimp only at hSw); (first | (go_simp; done) | (go_simp; with_reducible rfl) | with_reducible rfl)))
              (try simp only [Act.put]); (try simp only [List.setIfInBounds_toArray]); (try simp only [List.set_cons_succ]); (try simp only [List.set_cons_zero])
              refine wpAnyH_takeD (i := 4) (some 157) (v := ?_) rfl rfl (by kernel_rfl) (by kernel_rfl) (by kernel_rfl) (fun _ _ _ h => h) (Or.inl ⟨by rfl, ?_⟩) (by assumption) ?_
              rotate_left
              (focus (intro w hSw; (try dsimp only at hSw); (first | (go_simp; done) | (go_simp; with_reducible rfl) | with_reducible rfl)))
              (try simp only [Act.put]); (try simp only [List.setIfInBounds_toArray]); (try simp only [List.set_cons_succ]); (try simp only [List.set_cons_zero])
              refine wpAnyH_takeD (i := 5) (some 158) (v := ?_) rfl rfl (by kernel_rfl) (by kernel_rfl) (by kernel_rfl) (fun _ _ _ h => h) (Or.inl ⟨by rfl, ?_⟩) (by assumption) ?_
              rotate_left
              (focus (intro w hSw; (try dsimp only at hSw); (first | (go_simp; done) | (go_simp; with_reducible rfl) | with_reducible rfl)))
              (try simp only [Act.put]); (try simp only [List.setIfInBounds_toArray]); (try simp only [List.set_cons_succ]); (try simp only [List.set_cons_zero])
              refine wpAnyH_takeD (i := 6) (some 159) (v := ?_) rfl rfl (by kernel_rfl) (by kernel_rfl) (by kernel_rfl) (fun _ _ _ h => h) (Or.inl ⟨by rfl, ?_⟩) (by assumption) ?_
              rotate_left
              (focus (intro w hSw; (try dsimp only at hSw); (first | (go_simp; done) | (go_simp; with_reducible rfl) | with_reducible rfl)))
              (try simp only [Act.put]); (try simp only [List.setIfInBounds_toArray]); (try simp only [List.set_cons_succ]); (try simp only [List.set_cons_zero])
              refine wpAnyH_ready (rs := [7]) (by kernel_rfl) (by simp) (AllReadyH.cons rfl (fun K hK => ?_) AllReadyH.nil)
              go_simp
              (go_at_call 15; refine (impl_WinOf b j d L _ (rl.keep0 (gb_trans W.gb (by (repeat (first | with_reducible exact gb_refl _ | with_reducible refine gb_alloc ?_ _ | with_reducible refine gb_drewN ?_ _ | with_reducible refine gb_drew ?_))))) (by omega)).mono ?_; rw [hwf.out]; rintro e w7 ⟨v7, rfl, o7, g7⟩; skip)
              go_wp2_with fail
              refine hK.out _ _ ?_ (fun hHeld2 => ?_)
              · (try dsimp only)
                (refine KX.out _ ?_; (repeat (first | with_reducible exact gb_refl _ | with_reducible refine gb_alloc ?_ _ | with_reducible refine gb_drewN ?_ _ | with_reducible refine gb_drew ?_ | with_reducible refine gb_trans ?_ g7)))
              clear hK K hHeld
              have hHeld := hHeld2
              clear hHeld2
              (try simp only [Act.put]); (try simp only [List.setIfInBounds_toArray]); (try simp only [List.set_cons_succ]); (try simp only [List.set_cons_zero])
              refine wpAnyH_ready (rs := [8]) (by kernel_rfl) (by simp) (AllReadyH.cons rfl (fun K hK => ?_) AllReadyH.nil)
              go_simp
              (go_at_call 14; refine (laws_sameWin_t _ _ ⟨t, l4⟩ _ (W.grow (by (repeat (first | with_reducible exact gb_refl _ | with_reducible refine gb_alloc ?_ _ | with_reducible refine gb_drewN ?_ _ | with_reducible refine gb_drew ?_ | with_reducible refine gb_trans ?_ g7)))).r4 o7.r hlen.out).mono ?_; rintro e w8 ⟨rfl, g8⟩; skip)
              go_wp2_with fail
              refine hK.out _ _ ?_ (fun hHeld2 => ?_)
              · (try dsimp only)
                (refine KX.out _ ?_; (repeat (first | with_reducible exact gb_refl _ | with_reducible refine gb_alloc ?_ _ | with_reducible refine gb_drewN ?_ _ | with_reducible refine gb_drew ?_ | with_reducible refine gb_trans ?_ g7 | with_reducible refine gb_trans ?_ g8)))
              clear hK K hHeld
              have hHeld := hHeld2
              clear hHeld2
              (try simp only [Act.put]); (try simp only [List.setIfInBounds_toArray]); (try simp only [List.set_cons_succ]); (try simp only [List.set_cons_zero])
              refine wpAnyH_takeD (i := 9) (some 162) (v := ?_) rfl rfl (by kernel_rfl) (by kernel_rfl) (by kernel_rfl) (fun _ _ _ h => h) (Or.inl ⟨by rfl, ?_⟩) (by assumption) ?_
              rotate_left
              (focus (intro w hSw; (try dsimp only at hSw); (first | (go_simp; done) | (go_simp; with_reducible rfl) | with_reducible rfl)))
              (try simp only [Act.put]); (try simp only [List.setIfInBounds_toArray]); (try simp only [List.set_cons_succ]); (try simp only [List.set_cons_zero])
              refine wpAnyH_takeD (i := 10) (some 2) (v := ?_) rfl rfl (by kernel_rfl) (by kernel_rfl) (by kernel_rfl) (fun _ _ _ h => h) (Or.inl ⟨by rfl, ?_⟩) (by assumption) ?_
              rotate_left
              (focus (intro w hSw; (try dsimp only at hSw); (first | (go_simp; done) | (go_simp; with_reducible rfl) | with_reducible rfl)))
              (try simp only [Act.put]); (try simp only [List.setIfInBounds_toArray]); (try simp only [List.set_cons_succ]); (try simp only [List.set_cons_zero])
              refine wpAnyH_done (by kernel_rfl) ?_ _
              (try dsimp only)
              have H : wr.grownBy w8 none := (by (repeat (first | with_reducible exact gb_refl _ | with_reducible refine gb_alloc ?_ _ | with_reducible refine gb_drewN ?_ _ | with_reducible refine gb_drew ?_ | with_reducible refine gb_trans ?_ g7 | with_reducible refine gb_trans ?_ g8)))
              clear KX
              go_wp2
              go_ret
              exact ⟨rfl, gb_below (gb_trans G1 (gb_trans W.gb H))⟩
set_option maxRecDepth 100000 in
theorem lifted (os : Os) (started : os.Started) (H : Type) (enc : TypeId × Value → H) :
    ReturnsInHanded {} Try.checked os 3 .any (Rows.fnWinsSpec.pre6 enc Try.prog Try.f3 Rows.fnWinsRow.domain false) (Rows.fnWinsSpec.post enc Try.prog Try.f3 false true false false) := by
  refine returnsInHanded_of_change (C := Try.checked) own started (by kernel_rfl) Try.func3
    (ChangeSpec.witness6 (enc := enc) (C := Try.checked) false ⟨#[], #[.slice none 0 0], []⟩ 8 (by kernel_rfl) (by kernel_rfl) (by kernel_rfl) (by kernel_rfl)) ?_
  intro W base args ds gs before hval0 hW _ _
  have hval : ∀ (j : Nat) t v, Try.f3.params[j]? = some t → args[j]? = some v → Value.okWide Try.prog W .any base t v := hval0
  have hW2 := hW
  obtain ⟨p, q, hA0, hV, hps, _, _⟩ := hW
  have hA : DataW.TrodAll enc Try.prog W 0 (fun _ => true) true Try.f3.params.toList args.toList ds p := hA0
  rw [Try.params3] at hA hval
  obtain ⟨rfl, rfl⟩ := trodVars_none hV
  obtain ⟨v0, vs0, d0, ds0, p0, q0, hargs, rfl, rfl, h0, r0⟩ := trodAll_cons hA
  obtain ⟨rfl, rfl, rfl⟩ := trodAll_nil r0
  obtain rfl : args = #[v0] := by cases args; simp_all
  have i0 := open_B (hval 0 22 v0 rfl rfl) h0
  clear hA0 hval0
  refine (walk W v0 i0).mono fun e W2 ⟨he, hb⟩ => ?_
  subst he
  exact ⟨_, rfl, law_post (tb := 4) laidOut (by kernel_rfl) (by kernel_rfl) Try.underlying4 rfl ⟨rfl, rfl, rfl⟩ hW2 hb⟩
theorem over : Rows.fnWinsRow.holds Try.pinned (OpenSpec.ofChange Rows.fnWinsSpec) :=
  OpenClaim.holds_of_wide 3 Try.f3 rfl rfl rfl rfl rfl rfl rfl ⟨rfl, rfl, rfl, rfl, rfl⟩ rfl rfl rfl rfl rfl (by kernel_rfl) Try.func3 (by kernel_rfl)
    (of_decide_eq_true (by kernel_rfl)) (by unfold Func.isWrapper; first | (rw [if_pos (by decide +kernel)]; kernel_rfl) | (rw [if_neg (by decide +kernel)]; exact ⟨rfl, rfl⟩))
    (fun os started H enc _ => lifted os started H enc)
theorem proved : Rows.FnWinsSaid :=
  over
#print axioms proved
end Go.Proofs.Ytdfdhijbafalaaa.lWins
