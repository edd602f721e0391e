/-
  Contracts of the two functions that roll a generator. Conditions: none beside those that each theorem names.
-/
import Derived.Test.YtpkhmbibemfhhaaWind
import Derived.Test.YtpkhmbibemfhhaaKeys2
import Derived.Test.YtpkhmbibemfhhaaCell
import Derived.Test.YtpkhmbibemfhhaaSet1
import Derived.Deep.RegionHeld3
namespace Go.Proofs.Ytpkhmbibemfhhaa
open Go.RowKit
def rollOk (f : DiceM) : Bool := diceOkB f && !(f.n == 10000)
def rollD (f : DiceM) : DiceM := if rollOk f = true then ⟨f.seed, f.n + 1⟩ else f
def rollB (f : DiceM) : List UInt8 := if rollOk f = true then diceAtM f.seed f.n else []
theorem rollD_tot (f : DiceM) : (rollD f).tot = f.tot := by
  unfold rollD
  split <;> rfl
theorem rollB_le (f : DiceM) : (rollB f).length ≤ 12 := by
  unfold rollB diceAtM
  split
  · split
    · exact List.length_take_le _ _
    · simp
  · simp
theorem cutRoll {P : Program} {c : Code} {Q : Exit → Act → World → Prop} {a : Act} {w : World} (G : Nat → Option Addr → Nat → Nat → Act) (F : Nat → Option Addr → Nat → Nat → World → Prop)
    (br : c.wp P (fun ex a' w' => match ex with | .normal => (∃ q b2 m2 d2, a' = G q b2 m2 d2 ∧ F q b2 m2 d2 w') | _ => False) a w) (rest : ∀ q b2 m2 d2 w', F q b2 m2 d2 w' → Q .normal (G q b2 m2 d2) w') : c.wp P Q a w := by
  refine Code.wp_mono (fun e a w h => ?_) br
  cases e <;> first | exact h.elim | (obtain ⟨q, b2, m2, d2, rfl, h2⟩ := h; exact rest _ _ _ _ _ h2)
set_option maxRecDepth 1000000 in
set_option maxHeartbeats 4000000 in
theorem impl_Roll (v : Value) (f : DiceM) (w : World) (h : DiceR w v f) (hn : f.seed.length ≤ 1048576) :
    Calls Try.prog 41 #[v] w fun e w' => ∃ M v1 a n c, e = .returned (.tuple #[v1, .slice a n c]) ∧ w.heap.size ≤ M ∧ M ≤ w'.heap.size ∧
      DiceO w.heap.size M w' v1 (rollD f) ∧ Ow M w' 5 a n c (bys (rollB f)) ∧ w.grownBy w' none := by
  obtain ⟨a1, n1, c1, rfl, r1⟩ := h
  obtain ⟨l1, dn⟩ := f
  simp only at r1 hn ⊢
  have hn1 : n1 ≤ 1048576 := by have := r1.blen; omega
  have G := gb_alloc (gb_alloc (gb_refl w) (.cells #[.slice a1 n1 c1, .int .i64 dn] 58)) (.cells #[.slice none 0 0, .int .i64 0] 58)
  obtain ⟨B1, B2⟩ := bx2 w #[.slice a1 n1 c1, .int .i64 dn] #[.slice none 0 0, .int .i64 0] 58 58
  have zW : ((w.alloc (.cells #[.slice a1 n1 c1, .int .i64 dn] 58)).alloc (.cells #[.slice none 0 0, .int .i64 0] 58)).heap.size = w.heap.size + 2 := by first | rfl | (simp; done)
  obtain ⟨RD, hRD⟩ : ∃ D, D = rollD ⟨l1, dn⟩ := ⟨_, rfl⟩
  obtain ⟨RB, hRB⟩ : ∃ D, D = rollB ⟨l1, dn⟩ := ⟨_, rfl⟩
  rw [← hRD, ← hRB]
  replace hRD := Lib.hid hRD
  replace hRB := Lib.hid hRB
  go_enter Try.func41, Try.ntmps41
  go_wp2_with fail
  refine' cutRoll _ (fun q b1 m1 d1 w' => w.grownBy w' none ∧ w.heap.size + 2 ≤ q ∧ Bx w' w.heap.size 58 #[.slice a1 n1 c1, .int .i64 dn] ∧ Bx w' (w.heap.size + 1) 58 #[.slice none 0 0, .int .i64 0] ∧ Bx w' q 58 #[.slice b1 m1 d1, .int .i64 dn] ∧
    Ow (w.heap.size + 2) w' 5 b1 m1 d1 (bys l1) ∧ (∀ p, b1 = some p → p.block ≠ q)) ?br ?rest
  case br =>
    have KX : Hid (∀ w', ((w.alloc (.cells #[.slice a1 n1 c1, .int .i64 dn] 58)).alloc (.cells #[.slice none 0 0, .int .i64 0] 58)).grownBy w' none → (w'.cell? ⟨w.heap.size, 0, none⟩ = some (.slice a1 n1 c1) ∧ w'.cell? ⟨w.heap.size, 1, none⟩ = some (.int .i64 dn) ∧ ((w.alloc (.cells #[.slice a1 n1 c1, .int .i64 dn] 58)).alloc (.cells #[.slice none 0 0, .int .i64 0] 58)).grownBy w' none)) := fun w' hg => ⟨(B1.keep0 hg).cell 0, (B1.keep0 hg).cell 1, hg⟩
    have gc := gb_drew (gb_refl ((w.alloc (.cells #[.slice a1 n1 c1, .int .i64 dn] 58)).alloc (.cells #[.slice none 0 0, .int .i64 0] 58)))
    have zD : (World.drew ((w.alloc (.cells #[.slice a1 n1 c1, .int .i64 dn] 58)).alloc (.cells #[.slice none 0 0, .int .i64 0] 58))).heap.size = w.heap.size + 2 := by first | rfl | (simp; done)
    refine wp_region_held_drew (S := (fun w' => w'.cell? ⟨w.heap.size, 0, none⟩ = some (.slice a1 n1 c1) ∧ w'.cell? ⟨w.heap.size, 1, none⟩ = some (.int .i64 dn) ∧ ((w.alloc (.cells #[.slice a1 n1 c1, .int .i64 dn] 58)).alloc (.cells #[.slice none 0 0, .int .i64 0] 58)).grownBy w' none)) (by kernel_rfl) ?_ (fun hHeld => ?_)
    · (try dsimp only)
      refine KX.out _ ?_; exact gc
    refine wpAnyH_takeD (i := 0) (some 5) (v := ?_) rfl rfl (by kernel_rfl) (by kernel_rfl) (by kernel_rfl) (fun _ _ _ h => h) (Or.inl ⟨by rfl, ?_⟩) (by assumption) ?_
    rotate_left
    (focus (intro w hSw; (try dsimp only at hSw); (first | (go_simp; done) | (go_simp; with_reducible rfl) | with_reducible rfl)))
    (try simp only [Act.put]); (try simp only [List.setIfInBounds_toArray]); (try simp only [List.set_cons_succ]); (try simp only [List.set_cons_zero])
    refine wpAnyH_takeD (i := 1) (some 6) (v := ?_) rfl rfl (by kernel_rfl) (by kernel_rfl) (by kernel_rfl) (fun _ _ _ h => h) (Or.inl ⟨by rfl, ?_⟩) (by assumption) ?_
    rotate_left
    (focus (intro w hSw; (try dsimp only at hSw); (first | (go_simp; done) | (go_simp; with_reducible rfl) | with_reducible rfl)))
    (try simp only [Act.put]); (try simp only [List.setIfInBounds_toArray]); (try simp only [List.set_cons_succ]); (try simp only [List.set_cons_zero])
    refine wpAnyH_takeD (i := 3) (some 8) (v := ?_) rfl rfl (by kernel_rfl) (by kernel_rfl) (by kernel_rfl) (fun _ _ _ h => h) (Or.inl ⟨by rfl, ?_⟩) (by assumption) ?_
    rotate_left
    (focus (intro w hSw; (try dsimp only at hSw); (first | (go_simp; done) | (go_simp; with_reducible rfl) | with_reducible rfl)))
    (try simp only [Act.put]); (try simp only [List.setIfInBounds_toArray]); (try simp only [List.set_cons_succ]); (try simp only [List.set_cons_zero])
    refine wpAnyH_takeD (i := 4) (some 9) (v := ?_) rfl rfl (by kernel_rfl) (by kernel_rfl) (by kernel_rfl) (fun _ _ _ h => h) (Or.inl ⟨by rfl, ?_⟩) (by assumption) ?_
    rotate_left
    (focus (intro w hSw; (try dsimp only at hSw); (first | (go_simp; done) | (go_simp; with_reducible rfl) | with_reducible rfl)))
    (try simp only [Act.put]); (try simp only [List.setIfInBounds_toArray]); (try simp only [List.set_cons_succ]); (try simp only [List.set_cons_zero])
    refine wpAnyH_ready (rs := [2, 6]) (by kernel_rfl) (by simp) (AllReadyH.cons rfl (fun K hK => ?_) (AllReadyH.cons rfl (fun K hK => ?_) AllReadyH.nil))
    · go_simp
      go_at_call 95
      (with_reducible refine (impl_clone a1 n1 c1 l1 _ (r1.keep0 (gb_trans G gc)) (by omega)).mono ?_)
      rintro e wA ⟨b1, m1, d1, rfl, o1, gA⟩
      have u1 := fun p hp => (o1.lt p hp).2
      have zA := gA.size
      have yA := gc.size
      (try replace bq := bq.keep0 gA)
      replace gc := gb_trans gc gA
      go_wp2_with fail
      refine hK.out _ _ ?_ (fun hHeld2 => ?_)
      · (try dsimp only)
        refine KX.out _ ?_; exact gc
      clear hK K hHeld
      have hHeld := hHeld2
      clear hHeld2
      (try simp only [Act.put]); (try simp only [List.setIfInBounds_toArray]); (try simp only [List.set_cons_succ]); (try simp only [List.set_cons_zero])
      refine wpAnyH_takeD (i := 5) (some 10) (v := ?_) rfl rfl (by kernel_rfl) (by kernel_rfl) (by kernel_rfl) (fun _ _ _ h => h) (Or.inl ⟨by rfl, ?_⟩) (by assumption) ?_
      rotate_left
      (focus (intro w hSw; (try dsimp only at hSw); (first | (go_simp; done) | (go_simp; with_reducible rfl) | with_reducible rfl)))
      (try simp only [Act.put]); (try simp only [List.setIfInBounds_toArray]); (try simp only [List.set_cons_succ]); (try simp only [List.set_cons_zero])
      refine wpAnyH_ready (rs := [6]) (by kernel_rfl) (by simp) (AllReadyH.cons rfl (fun K hK => ?_) AllReadyH.nil)
      refine step_alD rfl (some 4) rfl 58 _ rfl al_Dice ?_
      intro q wQ hq bq gQ
      have lq := Nat.le_trans gc.size hq
      have yq := bq.lt
      have zQ := gQ.size
      (try replace o1 := o1.keep0 gQ)
      replace gc := gb_trans gc gQ
      refine hK.out _ _ ?_ (fun hHeld2 => ?_)
      · (try dsimp only)
        refine KX.out _ ?_; exact gc
      clear hK K hHeld
      have hHeld := hHeld2
      clear hHeld2
      (try simp only [Act.put]); (try simp only [List.setIfInBounds_toArray]); (try simp only [List.set_cons_succ]); (try simp only [List.set_cons_zero])
      refine wpAnyH_ready (rs := [7]) (by kernel_rfl) (by simp) (AllReadyH.cons rfl (fun K hK => ?_) AllReadyH.nil)
      refine step_stRD rfl rfl 58 (.tmp 4) (.tmp 10) rfl q _ _ rfl rfl bq si_Dice rfl (by first | rfl | (simp [Value.oneCell']; done)) ?_
      intro wS bs gS
      have zS := gS.size
      have nn : ∀ p, b1 = some p → p.block ≠ q := fun p hp => by have := o1.lt p hp; have := u1 p hp; omega
      replace o1 := o1.row gS nn
      replace gc := gb_row gc gS lq
      refine hK.out _ _ ?_ (fun hHeld2 => ?_)
      · (try dsimp only)
        refine KX.out _ ?_; exact gc
      clear hK K hHeld
      have hHeld := hHeld2
      clear hHeld2
      (try simp only [Act.put]); (try simp only [List.setIfInBounds_toArray]); (try simp only [List.set_cons_succ]); (try simp only [List.set_cons_zero])
      refine wpAnyH_done (by kernel_rfl) ?_ _
      (try dsimp only)
      refine ⟨q, b1, m1, d1, ?_, gb_trans G gc, (by omega), B1.keep0 gc, B2.keep0 gc, bs, o1.mono (by omega), nn⟩
      exact rfl
    · refine step_alD rfl (some 4) rfl 58 _ rfl al_Dice ?_
      intro q wQ hq bq gQ
      have lq := Nat.le_trans gc.size hq
      have yq := bq.lt
      have zQ := gQ.size
      (try replace o1 := o1.keep0 gQ)
      replace gc := gb_trans gc gQ
      refine hK.out _ _ ?_ (fun hHeld2 => ?_)
      · (try dsimp only)
        refine KX.out _ ?_; exact gc
      clear hK K hHeld
      have hHeld := hHeld2
      clear hHeld2
      (try simp only [Act.put]); (try simp only [List.setIfInBounds_toArray]); (try simp only [List.set_cons_succ]); (try simp only [List.set_cons_zero])
      refine wpAnyH_ready (rs := [2]) (by kernel_rfl) (by simp) (AllReadyH.cons rfl (fun K hK => ?_) AllReadyH.nil)
      go_simp
      go_at_call 95
      (with_reducible refine (impl_clone a1 n1 c1 l1 _ (r1.keep0 (gb_trans G gc)) (by omega)).mono ?_)
      rintro e wA ⟨b1, m1, d1, rfl, o1, gA⟩
      have u1 := fun p hp => (o1.lt p hp).2
      have zA := gA.size
      have yA := gc.size
      (try replace bq := bq.keep0 gA)
      replace gc := gb_trans gc gA
      go_wp2_with fail
      refine hK.out _ _ ?_ (fun hHeld2 => ?_)
      · (try dsimp only)
        refine KX.out _ ?_; exact gc
      clear hK K hHeld
      have hHeld := hHeld2
      clear hHeld2
      (try simp only [Act.put]); (try simp only [List.setIfInBounds_toArray]); (try simp only [List.set_cons_succ]); (try simp only [List.set_cons_zero])
      refine wpAnyH_takeD (i := 5) (some 10) (v := ?_) rfl rfl (by kernel_rfl) (by kernel_rfl) (by kernel_rfl) (fun _ _ _ h => h) (Or.inl ⟨by rfl, ?_⟩) (by assumption) ?_
      rotate_left
      (focus (intro w hSw; (try dsimp only at hSw); (first | (go_simp; done) | (go_simp; with_reducible rfl) | with_reducible rfl)))
      (try simp only [Act.put]); (try simp only [List.setIfInBounds_toArray]); (try simp only [List.set_cons_succ]); (try simp only [List.set_cons_zero])
      refine wpAnyH_ready (rs := [7]) (by kernel_rfl) (by simp) (AllReadyH.cons rfl (fun K hK => ?_) AllReadyH.nil)
      refine step_stRD rfl rfl 58 (.tmp 4) (.tmp 10) rfl q _ _ rfl rfl bq si_Dice rfl (by first | rfl | (simp [Value.oneCell']; done)) ?_
      intro wS bs gS
      have zS := gS.size
      have nn : ∀ p, b1 = some p → p.block ≠ q := fun p hp => by have := o1.lt p hp; have := u1 p hp; omega
      replace o1 := o1.row gS nn
      replace gc := gb_row gc gS lq
      refine hK.out _ _ ?_ (fun hHeld2 => ?_)
      · (try dsimp only)
        refine KX.out _ ?_; exact gc
      clear hK K hHeld
      have hHeld := hHeld2
      clear hHeld2
      (try simp only [Act.put]); (try simp only [List.setIfInBounds_toArray]); (try simp only [List.set_cons_succ]); (try simp only [List.set_cons_zero])
      refine wpAnyH_done (by kernel_rfl) ?_ _
      (try dsimp only)
      refine ⟨q, b1, m1, d1, ?_, gb_trans G gc, (by omega), B1.keep0 gc, B2.keep0 gc, bs, o1.mono (by omega), nn⟩
      exact rfl
  case rest =>
    rintro q b1 m1 d1 w1 ⟨G1, lq, B1, B2, Bq, o1, nq⟩
    have k1 := fun o => B1.cell o
    have f1 := fun o => B1.frozen o
    have k2 := fun o => B2.cell o
    have f2 := fun o => B2.frozen o
    have kq := fun o => Bq.cell o
    have fq := fun o => Bq.frozen o
    have t1 := B1.lt
    have t2 := B2.lt
    have tq := Bq.lt
    have u1 := fun p hp => (o1.lt p hp).2
    cases hk : diceOkB ⟨l1, dn⟩
    · have E : rollOk ⟨l1, dn⟩ = false := by rw [rollOk, hk]; rfl
      obtain rfl : RD = ⟨l1, dn⟩ := hRD.out.trans (by rw [rollD, E]; rfl)
      obtain rfl : RB = [] := hRB.out.trans (by rw [rollB, E]; rfl)
      clear E
      replace hk := Lib.hid hk
      go_wp2_with (go_at_call 42; refine (impl_DiceOkR _ ⟨l1, dn⟩ _ (diceR_mk (r1.keep0 G1))).mono ?_; rw [hk.out]; rintro e w2 ⟨rfl, g2⟩; replace B1 := B1.keep0 g2; replace B2 := B2.keep0 g2; replace Bq := Bq.keep0 g2; replace o1 := o1.keep0 g2; replace G1 := gb_trans G1 g2; clear k1 f1 k2 f2 kq fq t1 t2 tq; have k1 := fun o => B1.cell o; have f1 := fun o => B1.frozen o; have k2 := fun o => B2.cell o; have f2 := fun o => B2.frozen o; have kq := fun o => Bq.cell o; have fq := fun o => Bq.frozen o; have t1 := B1.lt; have t2 := B2.lt; have tq := Bq.lt)
      have q1 := G1.size
      have z2 := g2.size
      have NB : ∀ p, b1 = some p → p.block ≠ w.heap.size + 1 := fun p hp => by have := (o1.lt p hp).1; omega
      refine bodyPost_ret (v := .tuple #[.agg #[.slice b1 m1 d1, .int .i64 dn], .slice _ 0 0]) (by simp [results, Try.results41, go_sem, k2] <;> rfl) rfl ⟨w2.heap.size, _, _, _, _, rfl, by omega, by simp [World.setCell], ⟨_, _, _, rfl, ((o1.setO ⟨w.heap.size + 1, 0, none⟩ _ NB).setO ⟨w.heap.size + 1, 1, none⟩ _ NB).mono (by omega), fun p hp => (o1.lt p hp).2⟩, Ow.nil _ _ _, gb_set (gb_set G1 (.inl (by simp only; omega)) _) (.inl (by simp only; omega)) _⟩
    have hb := hk
    simp only [diceOkB, Bool.and_eq_true, inB_iff] at hb
    obtain ⟨-, hs0, hs1⟩ := hb
    cases h5 : (dn == 10000)
    rotate_left
    · have E : rollOk ⟨l1, dn⟩ = false := by simp [rollOk, h5]
      obtain rfl : RD = ⟨l1, dn⟩ := hRD.out.trans (by rw [rollD, E]; rfl)
      obtain rfl : RB = [] := hRB.out.trans (by rw [rollB, E]; rfl)
      clear E
      replace hk := Lib.hid hk
      go_wp2_with (go_at_call 42; refine (impl_DiceOkR _ ⟨l1, dn⟩ _ (diceR_mk (r1.keep0 G1))).mono ?_; rw [hk.out]; rintro e w2 ⟨rfl, g2⟩; replace B1 := B1.keep0 g2; replace B2 := B2.keep0 g2; replace Bq := Bq.keep0 g2; replace o1 := o1.keep0 g2; replace G1 := gb_trans G1 g2; clear k1 f1 k2 f2 kq fq t1 t2 tq; have k1 := fun o => B1.cell o; have f1 := fun o => B1.frozen o; have k2 := fun o => B2.cell o; have f2 := fun o => B2.frozen o; have kq := fun o => Bq.cell o; have fq := fun o => Bq.frozen o; have t1 := B1.lt; have t2 := B2.lt; have tq := Bq.lt)
      have q1 := G1.size
      have z2 := g2.size
      have NB : ∀ p, b1 = some p → p.block ≠ w.heap.size + 1 := fun p hp => by have := (o1.lt p hp).1; omega
      refine bodyPost_ret (v := .tuple #[.agg #[.slice b1 m1 d1, .int .i64 dn], .slice _ 0 0]) (by simp [results, Try.results41, go_sem, k2] <;> rfl) rfl ⟨w2.heap.size, _, _, _, _, rfl, by omega, by simp [World.setCell], ⟨_, _, _, rfl, ((o1.setO ⟨w.heap.size + 1, 0, none⟩ _ NB).setO ⟨w.heap.size + 1, 1, none⟩ _ NB).mono (by omega), fun p hp => (o1.lt p hp).2⟩, Ow.nil _ _ _, gb_set (gb_set G1 (.inl (by simp only; omega)) _) (.inl (by simp only; omega)) _⟩
    have E : rollOk ⟨l1, dn⟩ = true := by simp [rollOk, h5, hk]
    obtain rfl : RD = ⟨l1, dn + 1⟩ := hRD.out.trans (by rw [rollD, E]; rfl)
    obtain rfl : RB = diceAtM l1 dn := hRB.out.trans (by rw [rollB, E]; rfl)
    clear E
    replace hk := Lib.hid hk
    go_wp2_with (go_at_call 42; refine (impl_DiceOkR _ ⟨l1, dn⟩ _ (diceR_mk (r1.keep0 G1))).mono ?_; rw [hk.out]; rintro e w2 ⟨rfl, g2⟩; replace B1 := B1.keep0 g2; replace B2 := B2.keep0 g2; replace Bq := Bq.keep0 g2; replace o1 := o1.keep0 g2; replace G1 := gb_trans G1 g2; clear k1 f1 k2 f2 kq fq t1 t2 tq; have k1 := fun o => B1.cell o; have f1 := fun o => B1.frozen o; have k2 := fun o => B2.cell o; have f2 := fun o => B2.frozen o; have kq := fun o => Bq.cell o; have fq := fun o => Bq.frozen o; have t1 := B1.lt; have t2 := B2.lt; have tq := Bq.lt)
    obtain ⟨wx, hwx⟩ : ∃ wx, wx = w2.setCell ⟨q, 1, none⟩ (.int .i64 (dn + 1)) := ⟨_, rfl⟩
    replace Bq := Bq.set 1 (.int .i64 (dn + 1))
    replace B1 := B1.setO ⟨q, 1, none⟩ (.int .i64 (dn + 1)) (by simp only; omega)
    replace B2 := B2.setO ⟨q, 1, none⟩ (.int .i64 (dn + 1)) (by simp only; omega)
    replace o1 := o1.setO ⟨q, 1, none⟩ (.int .i64 (dn + 1)) nq
    replace G1 := gb_set G1 (p := ⟨q, 1, none⟩) (.inl (by simp only; omega)) (.int .i64 (dn + 1))
    rw [← hwx] at Bq B1 B2 o1 G1 ⊢
    clear k1 f1 k2 f2 kq fq t1 t2 tq u1
    have u1 := fun p hp => (o1.lt p hp).2
    have Bq' : Bx wx q 58 #[.slice b1 m1 d1, .int .i64 (dn + 1)] := Bq
    have tq9 := Bq'.lt
    have KX : Hid (∀ w', gbI (w.heap.size + 1) (w.heap.size + 2) wx w' → (w'.cell? ⟨w.heap.size, 0, none⟩ = some (.slice a1 n1 c1) ∧ w'.cell? ⟨w.heap.size, 1, none⟩ = some (.int .i64 dn) ∧ w'.cell? ⟨q, 0, none⟩ = some (.slice b1 m1 d1) ∧ w'.cell? ⟨q, 1, none⟩ = some (.int .i64 (dn + 1)) ∧ gbI (w.heap.size + 1) (w.heap.size + 2) wx w')) := fun w' hg => ⟨(B1.keepI hg (.inl (Nat.lt_succ_self _))).cell 0, (B1.keepI hg (.inl (Nat.lt_succ_self _))).cell 1, (Bq'.keepI hg (.inr lq)).cell 0, (Bq'.keepI hg (.inr lq)).cell 1, hg⟩
    clear hwx Bq
    have gc := gbI_drew (gbI.refl (w.heap.size + 1) (w.heap.size + 2) wx)
    replace B2 := B2.drew
    have zx : (World.drew wx).heap.size = wx.heap.size := rfl
    refine wp_region_held_drew (S := (fun w' => w'.cell? ⟨w.heap.size, 0, none⟩ = some (.slice a1 n1 c1) ∧ w'.cell? ⟨w.heap.size, 1, none⟩ = some (.int .i64 dn) ∧ w'.cell? ⟨q, 0, none⟩ = some (.slice b1 m1 d1) ∧ w'.cell? ⟨q, 1, none⟩ = some (.int .i64 (dn + 1)) ∧ gbI (w.heap.size + 1) (w.heap.size + 2) wx w')) (by kernel_rfl) ?_ (fun hHeld => ?_)
    · (try dsimp only)
      refine KX.out _ ?_; exact gc
    refine wpAnyH_takeD (i := 0) (some 24) (v := ?_) rfl rfl (by kernel_rfl) (by kernel_rfl) (by kernel_rfl) (fun _ _ _ h => h) (Or.inl ⟨by rfl, ?_⟩) (by assumption) ?_
    rotate_left
    (focus (intro w hSw; (try dsimp only at hSw); (first | (go_simp; done) | (go_simp; with_reducible rfl) | with_reducible rfl)))
    (try simp only [Act.put]); (try simp only [List.setIfInBounds_toArray]); (try simp only [List.set_cons_succ]); (try simp only [List.set_cons_zero])
    refine wpAnyH_takeD (i := 1) (some 25) (v := ?_) rfl rfl (by kernel_rfl) (by kernel_rfl) (by kernel_rfl) (fun _ _ _ h => h) (Or.inl ⟨by rfl, ?_⟩) (by assumption) ?_
    rotate_left
    (focus (intro w hSw; (try dsimp only at hSw); (first | (go_simp; done) | (go_simp; with_reducible rfl) | with_reducible rfl)))
    (try simp only [Act.put]); (try simp only [List.setIfInBounds_toArray]); (try simp only [List.set_cons_succ]); (try simp only [List.set_cons_zero])
    refine wpAnyH_takeD (i := 2) (some 26) (v := ?_) rfl rfl (by kernel_rfl) (by kernel_rfl) (by kernel_rfl) (fun _ _ _ h => h) (Or.inl ⟨by rfl, ?_⟩) (by assumption) ?_
    rotate_left
    (focus (intro w hSw; (try dsimp only at hSw); (first | (go_simp; done) | (go_simp; with_reducible rfl) | with_reducible rfl)))
    (try simp only [Act.put]); (try simp only [List.setIfInBounds_toArray]); (try simp only [List.set_cons_succ]); (try simp only [List.set_cons_zero])
    refine wpAnyH_takeD (i := 3) (some 27) (v := ?_) rfl rfl (by kernel_rfl) (by kernel_rfl) (by kernel_rfl) (fun _ _ _ h => h) (Or.inl ⟨by rfl, ?_⟩) (by assumption) ?_
    rotate_left
    (focus (intro w hSw; (try dsimp only at hSw); (first | (go_simp; done) | (go_simp; with_reducible rfl) | with_reducible rfl)))
    (try simp only [Act.put]); (try simp only [List.setIfInBounds_toArray]); (try simp only [List.set_cons_succ]); (try simp only [List.set_cons_zero])
    refine wpAnyH_takeD (i := 4) (some 28) (v := ?_) rfl rfl (by kernel_rfl) (by kernel_rfl) (by kernel_rfl) (fun _ _ _ h => h) (Or.inl ⟨by rfl, ?_⟩) (by assumption) ?_
    rotate_left
    (focus (intro w hSw; (try dsimp only at hSw); (first | (go_simp; done) | (go_simp; with_reducible rfl) | with_reducible rfl)))
    (try simp only [Act.put]); (try simp only [List.setIfInBounds_toArray]); (try simp only [List.set_cons_succ]); (try simp only [List.set_cons_zero])
    refine wpAnyH_ready (rs := [5]) (by kernel_rfl) (by simp) (AllReadyH.cons rfl (fun K hK => ?_) AllReadyH.nil)
    go_simp
    go_at_call 45
    refine (impl_DiceAt a1 n1 c1 l1 dn _ (r1.keep0 (gb_drew G1))).mono ?_
    rintro e w3 ⟨b9, m9, d9, rfl, o9, g3⟩
    have u9 := fun p hp => (o9.lt p hp).2
    replace o1 := (o1.keep0 (gb_drew (gb_refl wx))).keep0 g3
    replace B2 := B2.keep0 g3
    have G3 := gb_trans (gb_drew G1) g3
    have z3 := g3.size
    replace gc := gc.trans (gbI.of0 g3)
    go_wp2_with fail
    refine hK.out _ _ ?_ (fun hHeld2 => ?_)
    · (try dsimp only)
      refine KX.out _ ?_; exact gc
    clear hK K hHeld
    have hHeld := hHeld2
    clear hHeld2
    (try simp only [Act.put]); (try simp only [List.setIfInBounds_toArray]); (try simp only [List.set_cons_succ]); (try simp only [List.set_cons_zero])
    refine wpAnyH_ready (rs := [6]) (by kernel_rfl) (by simp) (AllReadyH.cons rfl (fun K hK => ?_) AllReadyH.nil)
    refine step_stRD rfl rfl 58 (.tmp 2) (.tmp 24) rfl (w.heap.size + 1) _ _ rfl rfl B2 si_Dice rfl (by first | rfl | (simp [Value.oneCell']; done)) ?_
    intro w4 C2 g4
    have z4 := g4.size
    replace gc := gbI_row gc g4 (by omega) (by omega)
    refine hK.out _ _ ?_ (fun hHeld2 => ?_)
    · (try dsimp only)
      refine KX.out _ ?_; exact gc
    clear hK K hHeld
    have hHeld := hHeld2
    clear hHeld2
    (try simp only [Act.put]); (try simp only [List.setIfInBounds_toArray]); (try simp only [List.set_cons_succ]); (try simp only [List.set_cons_zero])
    refine wpAnyH_takeD (i := 7) (some 3) (v := ?_) rfl rfl (by kernel_rfl) (by kernel_rfl) (by kernel_rfl) (fun _ _ _ h => h) (Or.inl ⟨by rfl, ?_⟩) (by assumption) ?_
    rotate_left
    (focus (intro w hSw; (try dsimp only at hSw); (first | (go_simp; done) | (go_simp; with_reducible rfl) | with_reducible rfl)))
    (try simp only [Act.put]); (try simp only [List.setIfInBounds_toArray]); (try simp only [List.set_cons_succ]); (try simp only [List.set_cons_zero])
    refine wpAnyH_done (by kernel_rfl) ?_ _
    (try dsimp only)
    skip
    have kk := fun o => C2.cell o
    go_wp2
    have G4 := gb_row G3 g4 (by omega)
    have q1 := G1.size
    refine bodyPost_ret (v := .tuple #[.agg #[.slice b1 m1 d1, .int .i64 (dn + 1)], .slice b9 m9 d9]) (by simp [results, Try.results41, go_sem, kk]) rfl ⟨wx.heap.size, _, _, _, _, rfl, by omega, by omega, ⟨_, _, _, rfl, (o1.row g4 (fun p hp => by have := (o1.lt p hp).1; omega)).mono (by omega), u1⟩, (o9.row g4 (fun p hp => by have := (o9.lt p hp).1; omega)).mono (by omega), G4⟩
set_option maxRecDepth 1000000 in
set_option maxHeartbeats 4000000 in
theorem spec_Roll (v : Value) (f : DiceM) (w : World) (h : DiceR w v f) (hn : f.seed.length ≤ 1048576) :
    Calls Try.prog 47 #[v] w fun e w' => ∃ M v1 a n c, e = .returned (.tuple #[v1, .slice a n c]) ∧ w.heap.size ≤ M ∧ M ≤ w'.heap.size ∧
      DiceO w.heap.size M w' v1 (rollD f) ∧ Ow M w' 5 a n c (bys (rollB f)) ∧ w.grownBy w' none := by
  obtain ⟨a1, n1, c1, rfl, r1⟩ := h
  obtain ⟨l1, dn⟩ := f
  simp only at r1 hn ⊢
  have hn1 : n1 ≤ 1048576 := by have := r1.blen; omega
  have G := gb_alloc (gb_alloc (gb_refl w) (.cells #[.slice a1 n1 c1, .int .i64 dn] 58)) (.cells #[.slice none 0 0, .int .i64 0] 58)
  obtain ⟨B1, B2⟩ := bx2 w #[.slice a1 n1 c1, .int .i64 dn] #[.slice none 0 0, .int .i64 0] 58 58
  have zW : ((w.alloc (.cells #[.slice a1 n1 c1, .int .i64 dn] 58)).alloc (.cells #[.slice none 0 0, .int .i64 0] 58)).heap.size = w.heap.size + 2 := by first | rfl | (simp; done)
  obtain ⟨RD, hRD⟩ : ∃ D, D = rollD ⟨l1, dn⟩ := ⟨_, rfl⟩
  obtain ⟨RB, hRB⟩ : ∃ D, D = rollB ⟨l1, dn⟩ := ⟨_, rfl⟩
  rw [← hRD, ← hRB]
  replace hRD := Lib.hid hRD
  replace hRB := Lib.hid hRB
  have k1 := fun o => B1.cell o
  have f1 := fun o => B1.frozen o
  have t1 := B1.lt
  go_enter Try.func47, Try.ntmps47
  go_wp2_with (go_at_call 98; refine (spec_l10Copy _ ⟨l1, dn⟩ _ (diceR_mk (r1.keep0 G)) (Nat.le_trans hn (by decide))).mono ?_; rintro e w1 ⟨v9, rfl, o9, g1⟩; obtain ⟨b1, m1, d1, rfl, o1, u9⟩ := o9; clear k1 f1 t1; have k1 := fun o => (B1.keep0 g1).cell o; have t1 := (B1.keep0 g1).lt)
  have gA := gb_alloc (gb_refl w1) (.cells #[.slice b1 m1 d1, .int .i64 dn] 58)
  have zg := g1.size
  have lq : w.heap.size + 2 ≤ w1.heap.size := by omega
  have Bq := Bx.new w1 58 #[.slice b1 m1 d1, .int .i64 dn]
  have nq : ∀ p, b1 = some p → p.block ≠ w1.heap.size := fun p hp => Nat.ne_of_lt (o1.lt p hp).2
  replace B1 := (B1.keep0 g1).keep0 gA
  replace B2 := (B2.keep0 g1).keep0 gA
  replace o1 := (o1.keep0 gA).mono (B' := w.heap.size + 2) (by omega)
  have G1 := gb_trans (gb_trans G g1) gA
  clear k1 t1 gA
  obtain ⟨wN, hwN⟩ : ∃ x, x = w1.alloc (.cells #[.slice b1 m1 d1, .int .i64 dn] 58) := ⟨_, rfl⟩
  rw [← hwN] at B1 B2 Bq o1 G1 ⊢
  obtain ⟨q, hq⟩ : ∃ q, q = w1.heap.size := ⟨_, rfl⟩
  rw [← hq] at Bq lq nq ⊢
  clear hwN hq zg u9 g1
  have k1 := fun o => B1.cell o
  have f1 := fun o => B1.frozen o
  have k2 := fun o => B2.cell o
  have f2 := fun o => B2.frozen o
  have kq := fun o => Bq.cell o
  have fq := fun o => Bq.frozen o
  have t1 := B1.lt
  have t2 := B2.lt
  have tq := Bq.lt
  have u1 := fun p hp => (o1.lt p hp).2
  cases hk : diceOkB ⟨l1, dn⟩
  · have E : rollOk ⟨l1, dn⟩ = false := by rw [rollOk, hk]; rfl
    obtain rfl : RD = ⟨l1, dn⟩ := hRD.out.trans (by rw [rollD, E]; rfl)
    obtain rfl : RB = [] := hRB.out.trans (by rw [rollB, E]; rfl)
    clear E
    replace hk := Lib.hid hk
    go_wp2_with (go_at_call 43; refine (spec_DiceOkR _ ⟨l1, dn⟩ _ (diceR_mk (r1.keep0 G1))).mono ?_; rw [hk.out]; rintro e w2 ⟨rfl, g2⟩; replace B1 := B1.keep0 g2; replace B2 := B2.keep0 g2; replace Bq := Bq.keep0 g2; replace o1 := o1.keep0 g2; replace G1 := gb_trans G1 g2; clear k1 f1 k2 f2 kq fq t1 t2 tq; have k1 := fun o => B1.cell o; have f1 := fun o => B1.frozen o; have k2 := fun o => B2.cell o; have f2 := fun o => B2.frozen o; have kq := fun o => Bq.cell o; have fq := fun o => Bq.frozen o; have t1 := B1.lt; have t2 := B2.lt; have tq := Bq.lt)
    have q1 := G1.size
    have z2 := g2.size
    have NB : ∀ p, b1 = some p → p.block ≠ w.heap.size + 1 := fun p hp => by have := (o1.lt p hp).1; omega
    have BB := (((B2.set 0 (.slice b1 m1 d1)).set 1 (.int .i64 dn)).old (.cells #[] 5))
    have kk := fun o => BB.cell o
    refine bodyPost_ret (v := .tuple #[.agg #[.slice b1 m1 d1, .int .i64 dn], .slice (some ⟨w2.heap.size, 0, none⟩) 0 0]) (by simp [results, Try.results47, go_sem, kk]) rfl ⟨w2.heap.size, _, _, _, _, rfl, by omega, by simp [World.setCell], ⟨_, _, _, rfl, (((o1.setO ⟨w.heap.size + 1, 0, none⟩ _ NB).setO ⟨w.heap.size + 1, 1, none⟩ _ NB).keep0 (gb_alloc (gb_refl _) _)).mono (by omega), fun p hp => (o1.lt p hp).2⟩, new_own' _ _ _ (by simp [World.setCell]), gb_alloc (gb_set (gb_set G1 (.inl (by simp only; omega)) _) (.inl (by simp only; omega)) _) _⟩
  have hb := hk
  simp only [diceOkB, Bool.and_eq_true, inB_iff] at hb
  obtain ⟨-, hs0, hs1⟩ := hb
  cases h5 : (dn == 10000)
  rotate_left
  · have E : rollOk ⟨l1, dn⟩ = false := by simp [rollOk, h5]
    obtain rfl : RD = ⟨l1, dn⟩ := hRD.out.trans (by rw [rollD, E]; rfl)
    obtain rfl : RB = [] := hRB.out.trans (by rw [rollB, E]; rfl)
    clear E
    replace hk := Lib.hid hk
    go_wp2_with (go_at_call 43; refine (spec_DiceOkR _ ⟨l1, dn⟩ _ (diceR_mk (r1.keep0 G1))).mono ?_; rw [hk.out]; rintro e w2 ⟨rfl, g2⟩; replace B1 := B1.keep0 g2; replace B2 := B2.keep0 g2; replace Bq := Bq.keep0 g2; replace o1 := o1.keep0 g2; replace G1 := gb_trans G1 g2; clear k1 f1 k2 f2 kq fq t1 t2 tq; have k1 := fun o => B1.cell o; have f1 := fun o => B1.frozen o; have k2 := fun o => B2.cell o; have f2 := fun o => B2.frozen o; have kq := fun o => Bq.cell o; have fq := fun o => Bq.frozen o; have t1 := B1.lt; have t2 := B2.lt; have tq := Bq.lt)
    have q1 := G1.size
    have z2 := g2.size
    have NB : ∀ p, b1 = some p → p.block ≠ w.heap.size + 1 := fun p hp => by have := (o1.lt p hp).1; omega
    have BB := (((B2.set 0 (.slice b1 m1 d1)).set 1 (.int .i64 dn)).old (.cells #[] 5))
    have kk := fun o => BB.cell o
    refine bodyPost_ret (v := .tuple #[.agg #[.slice b1 m1 d1, .int .i64 dn], .slice (some ⟨w2.heap.size, 0, none⟩) 0 0]) (by simp [results, Try.results47, go_sem, kk]) rfl ⟨w2.heap.size, _, _, _, _, rfl, by omega, by simp [World.setCell], ⟨_, _, _, rfl, (((o1.setO ⟨w.heap.size + 1, 0, none⟩ _ NB).setO ⟨w.heap.size + 1, 1, none⟩ _ NB).keep0 (gb_alloc (gb_refl _) _)).mono (by omega), fun p hp => (o1.lt p hp).2⟩, new_own' _ _ _ (by simp [World.setCell]), gb_alloc (gb_set (gb_set G1 (.inl (by simp only; omega)) _) (.inl (by simp only; omega)) _) _⟩
  have E : rollOk ⟨l1, dn⟩ = true := by simp [rollOk, h5, hk]
  obtain rfl : RD = ⟨l1, dn + 1⟩ := hRD.out.trans (by rw [rollD, E]; rfl)
  obtain rfl : RB = diceAtM l1 dn := hRB.out.trans (by rw [rollB, E]; rfl)
  clear E
  replace hk := Lib.hid hk
  go_wp2_with (go_at_call 43; refine (spec_DiceOkR _ ⟨l1, dn⟩ _ (diceR_mk (r1.keep0 G1))).mono ?_; rw [hk.out]; rintro e w2 ⟨rfl, g2⟩; replace B1 := B1.keep0 g2; replace B2 := B2.keep0 g2; replace Bq := Bq.keep0 g2; replace o1 := o1.keep0 g2; replace G1 := gb_trans G1 g2; clear k1 f1 k2 f2 kq fq t1 t2 tq; have k1 := fun o => B1.cell o; have f1 := fun o => B1.frozen o; have k2 := fun o => B2.cell o; have f2 := fun o => B2.frozen o; have kq := fun o => Bq.cell o; have fq := fun o => Bq.frozen o; have t1 := B1.lt; have t2 := B2.lt; have tq := Bq.lt)
  obtain ⟨wx, hwx⟩ : ∃ wx, wx = w2.setCell ⟨q, 1, none⟩ (.int .i64 (dn + 1)) := ⟨_, rfl⟩
  replace Bq := Bq.set 1 (.int .i64 (dn + 1))
  replace B1 := B1.setO ⟨q, 1, none⟩ (.int .i64 (dn + 1)) (by simp only; omega)
  replace B2 := B2.setO ⟨q, 1, none⟩ (.int .i64 (dn + 1)) (by simp only; omega)
  replace o1 := o1.setO ⟨q, 1, none⟩ (.int .i64 (dn + 1)) nq
  replace G1 := gb_set G1 (p := ⟨q, 1, none⟩) (.inl (by simp only; omega)) (.int .i64 (dn + 1))
  rw [← hwx] at Bq B1 B2 o1 G1 ⊢
  clear k1 f1 k2 f2 kq fq t1 t2 tq u1
  have u1 := fun p hp => (o1.lt p hp).2
  have Bq' : Bx wx q 58 #[.slice b1 m1 d1, .int .i64 (dn + 1)] := Bq
  have tq9 := Bq'.lt
  have KX : Hid (∀ w', gbI (w.heap.size + 1) (w.heap.size + 2) wx w' → (w'.cell? ⟨w.heap.size, 0, none⟩ = some (.slice a1 n1 c1) ∧ w'.cell? ⟨w.heap.size, 1, none⟩ = some (.int .i64 dn) ∧ w'.cell? ⟨q, 0, none⟩ = some (.slice b1 m1 d1) ∧ w'.cell? ⟨q, 1, none⟩ = some (.int .i64 (dn + 1)) ∧ gbI (w.heap.size + 1) (w.heap.size + 2) wx w')) := fun w' hg => ⟨(B1.keepI hg (.inl (Nat.lt_succ_self _))).cell 0, (B1.keepI hg (.inl (Nat.lt_succ_self _))).cell 1, (Bq'.keepI hg (.inr lq)).cell 0, (Bq'.keepI hg (.inr lq)).cell 1, hg⟩
  clear hwx Bq
  have gc := gbI_drew (gbI.refl (w.heap.size + 1) (w.heap.size + 2) wx)
  replace B2 := B2.drew
  have zx : (World.drew wx).heap.size = wx.heap.size := rfl
  refine wp_region_held_drew (S := (fun w' => w'.cell? ⟨w.heap.size, 0, none⟩ = some (.slice a1 n1 c1) ∧ w'.cell? ⟨w.heap.size, 1, none⟩ = some (.int .i64 dn) ∧ w'.cell? ⟨q, 0, none⟩ = some (.slice b1 m1 d1) ∧ w'.cell? ⟨q, 1, none⟩ = some (.int .i64 (dn + 1)) ∧ gbI (w.heap.size + 1) (w.heap.size + 2) wx w')) (by kernel_rfl) ?_ (fun hHeld => ?_)
  · (try dsimp only)
    refine KX.out _ ?_; exact gc
  refine wpAnyH_takeD (i := 0) (some 21) (v := ?_) rfl rfl (by kernel_rfl) (by kernel_rfl) (by kernel_rfl) (fun _ _ _ h => h) (Or.inl ⟨by rfl, ?_⟩) (by assumption) ?_
  rotate_left
  (focus (intro w hSw; (try dsimp only at hSw); (first | (go_simp; done) | (go_simp; with_reducible rfl) | with_reducible rfl)))
  (try simp only [Act.put]); (try simp only [List.setIfInBounds_toArray]); (try simp only [List.set_cons_succ]); (try simp only [List.set_cons_zero])
  refine wpAnyH_takeD (i := 1) (some 22) (v := ?_) rfl rfl (by kernel_rfl) (by kernel_rfl) (by kernel_rfl) (fun _ _ _ h => h) (Or.inl ⟨by rfl, ?_⟩) (by assumption) ?_
  rotate_left
  (focus (intro w hSw; (try dsimp only at hSw); (first | (go_simp; done) | (go_simp; with_reducible rfl) | with_reducible rfl)))
  (try simp only [Act.put]); (try simp only [List.setIfInBounds_toArray]); (try simp only [List.set_cons_succ]); (try simp only [List.set_cons_zero])
  refine wpAnyH_takeD (i := 2) (some 23) (v := ?_) rfl rfl (by kernel_rfl) (by kernel_rfl) (by kernel_rfl) (fun _ _ _ h => h) (Or.inl ⟨by rfl, ?_⟩) (by assumption) ?_
  rotate_left
  (focus (intro w hSw; (try dsimp only at hSw); (first | (go_simp; done) | (go_simp; with_reducible rfl) | with_reducible rfl)))
  (try simp only [Act.put]); (try simp only [List.setIfInBounds_toArray]); (try simp only [List.set_cons_succ]); (try simp only [List.set_cons_zero])
  refine wpAnyH_takeD (i := 3) (some 24) (v := ?_) rfl rfl (by kernel_rfl) (by kernel_rfl) (by kernel_rfl) (fun _ _ _ h => h) (Or.inl ⟨by rfl, ?_⟩) (by assumption) ?_
  rotate_left
  (focus (intro w hSw; (try dsimp only at hSw); (first | (go_simp; done) | (go_simp; with_reducible rfl) | with_reducible rfl)))
  (try simp only [Act.put]); (try simp only [List.setIfInBounds_toArray]); (try simp only [List.set_cons_succ]); (try simp only [List.set_cons_zero])
  refine wpAnyH_takeD (i := 4) (some 25) (v := ?_) rfl rfl (by kernel_rfl) (by kernel_rfl) (by kernel_rfl) (fun _ _ _ h => h) (Or.inl ⟨by rfl, ?_⟩) (by assumption) ?_
  rotate_left
  (focus (intro w hSw; (try dsimp only at hSw); (first | (go_simp; done) | (go_simp; with_reducible rfl) | with_reducible rfl)))
  (try simp only [Act.put]); (try simp only [List.setIfInBounds_toArray]); (try simp only [List.set_cons_succ]); (try simp only [List.set_cons_zero])
  refine wpAnyH_ready (rs := [5]) (by kernel_rfl) (by simp) (AllReadyH.cons rfl (fun K hK => ?_) AllReadyH.nil)
  go_simp
  go_at_call 99
  refine (spec_DiceAt a1 n1 c1 l1 dn _ (r1.keep0 (gb_drew G1))).mono ?_
  rintro e w3 ⟨b9, m9, d9, rfl, o9, g3⟩
  have u9 := fun p hp => (o9.lt p hp).2
  replace o1 := (o1.keep0 (gb_drew (gb_refl wx))).keep0 g3
  replace B2 := B2.keep0 g3
  have G3 := gb_trans (gb_drew G1) g3
  have z3 := g3.size
  replace gc := gc.trans (gbI.of0 g3)
  go_wp2_with fail
  refine hK.out _ _ ?_ (fun hHeld2 => ?_)
  · (try dsimp only)
    refine KX.out _ ?_; exact gc
  clear hK K hHeld
  have hHeld := hHeld2
  clear hHeld2
  (try simp only [Act.put]); (try simp only [List.setIfInBounds_toArray]); (try simp only [List.set_cons_succ]); (try simp only [List.set_cons_zero])
  refine wpAnyH_ready (rs := [6]) (by kernel_rfl) (by simp) (AllReadyH.cons rfl (fun K hK => ?_) AllReadyH.nil)
  refine step_stRD rfl rfl 58 (.tmp 2) (.tmp 21) rfl (w.heap.size + 1) _ _ rfl rfl B2 si_Dice rfl (by first | rfl | (simp [Value.oneCell']; done)) ?_
  intro w4 C2 g4
  have z4 := g4.size
  replace gc := gbI_row gc g4 (by omega) (by omega)
  refine hK.out _ _ ?_ (fun hHeld2 => ?_)
  · (try dsimp only)
    refine KX.out _ ?_; exact gc
  clear hK K hHeld
  have hHeld := hHeld2
  clear hHeld2
  (try simp only [Act.put]); (try simp only [List.setIfInBounds_toArray]); (try simp only [List.set_cons_succ]); (try simp only [List.set_cons_zero])
  refine wpAnyH_takeD (i := 7) (some 3) (v := ?_) rfl rfl (by kernel_rfl) (by kernel_rfl) (by kernel_rfl) (fun _ _ _ h => h) (Or.inl ⟨by rfl, ?_⟩) (by assumption) ?_
  rotate_left
  (focus (intro w hSw; (try dsimp only at hSw); (first | (go_simp; done) | (go_simp; with_reducible rfl) | with_reducible rfl)))
  (try simp only [Act.put]); (try simp only [List.setIfInBounds_toArray]); (try simp only [List.set_cons_succ]); (try simp only [List.set_cons_zero])
  refine wpAnyH_done (by kernel_rfl) ?_ _
  (try dsimp only)
  skip
  have kk := fun o => C2.cell o
  go_wp2
  have G4 := gb_row G3 g4 (by omega)
  have q1 := G1.size
  refine bodyPost_ret (v := .tuple #[.agg #[.slice b1 m1 d1, .int .i64 (dn + 1)], .slice b9 m9 d9]) (by simp [results, Try.results47, go_sem, kk]) rfl ⟨wx.heap.size, _, _, _, _, rfl, by omega, by omega, ⟨_, _, _, rfl, (o1.row g4 (fun p hp => by have := (o1.lt p hp).1; omega)).mono (by omega), u1⟩, (o9.row g4 (fun p hp => by have := (o9.lt p hp).1; omega)).mono (by omega), G4⟩
end Go.Proofs.Ytpkhmbibemfhhaa
