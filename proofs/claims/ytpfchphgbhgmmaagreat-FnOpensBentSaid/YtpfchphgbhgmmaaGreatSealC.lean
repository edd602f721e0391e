/-
  Contracts of the functions that seal a frame. Conditions: none beside those that each theorem names.
-/
import Derived.Test.YtpfchphgbhgmmaaGreatKeys3
import Derived.Test.YtpfchphgbhgmmaaGreatTagS
import Derived.Test.YtpfchphgbhgmmaaGreatTagI
import Derived.Test.YtpfchphgbhgmmaaGreatStrm
import Derived.Test.YtpfchphgbhgmmaaGreatCell
import Derived.Deep.RegionHeld3
namespace Go.Proofs.YtpfchphgbhgmmaaGreat
open Go.RowKit
def sealF (kind : Int) (sn : List UInt8) (epoch seq : Int) (body tag : List UInt8) : FrameM := ⟨kind, 0, [], sn, 0, [], [], epoch, seq, body, tag⟩
def z16 : List UInt8 := List.replicate 16 0
def sealB (l : List UInt8) (x : Int) (sn : List UInt8) (epoch seq kind : Int) (plain : List UInt8) : Bool :=
  ((l.length : Int) == 32) && (roleB x && (sealedB kind && frOk (sealF kind sn epoch seq plain z16)))
def sealM (l : List UInt8) (x : Int) (sn : List UInt8) (epoch seq kind : Int) (plain : List UInt8) : FrameM :=
  if sealB l x sn epoch seq kind plain = true then
    sealF kind sn epoch seq (mixM l (headM x sn epoch seq) plain) (tagM l (tagInM x (sealF kind sn epoch seq (mixM l (headM x sn epoch seq) plain) z16)))
  else zeroF
theorem sealB_S {l : List UInt8} {x : Int} {sn : List UInt8} {epoch seq kind : Int} {plain : List UInt8} (h : sealB l x sn epoch seq kind plain = true) : l.length = 32 ∧ sn.length ≤ 12 ∧ plain.length ≤ 40 ∧ 4 ≤ kind ∧ kind ≤ 8 := by
  simp only [sealB, Bool.and_eq_true, beq_iff_eq] at h
  obtain ⟨h1, -, h2, h3⟩ := h
  have h4 := frOk_S h3 h2
  exact ⟨by omega, h4.1, h4.2.2.1, h4.2.2.2.2.2.2.2.1, h4.2.2.2.2.2.2.2.2⟩
theorem sealB_spec (l : List UInt8) (x : Int) (sn : List UInt8) (epoch seq kind : Int) (plain : List UInt8) :
    sealB l x sn epoch seq kind plain = (((l.length : Int) == 32) && (!(((headM x sn epoch seq).length : Int) == 0) && (sealedB kind && bodyB kind plain.length))) := by
  have hh : (((headM x sn epoch seq).length : Int) == 0) = !headOk x sn.length epoch seq := by
    unfold headM
    split
    · rename_i h
      rw [h]
      simp
      omega
    · rename_i h
      simp at h
      simp [h]
  rw [hh, Bool.not_not, sealB]
  cases hk : sealedB kind
  · simp
  · have : frOk (sealF kind sn epoch seq plain z16) = (eqN sn.length 12 && inB epoch 0 4294967295 && inB seq 0 281474976710655 && bodyB kind plain.length) := by
      simp [frOk, frOkN, sealF, hk, eqI, eqN, z16]
    rw [this]
    simp [headOk, eqN]
    ac_rfl
theorem sealF_tot (kind : Int) (sn : List UInt8) (epoch seq : Int) (body tag : List UInt8) : (sealF kind sn epoch seq body tag).tot = sn.length + body.length + tag.length := by
  simp [FrameM.tot, sealF]
theorem sealM_tot (l : List UInt8) (x : Int) (sn : List UInt8) (epoch seq kind : Int) (plain : List UInt8) : (sealM l x sn epoch seq kind plain).tot ≤ 68 := by
  unfold sealM
  split
  · rename_i h
    obtain ⟨h1, h2, h3, -⟩ := sealB_S h
    have h4 := tagM_le l (tagInM x (sealF kind sn epoch seq (mixM l (headM x sn epoch seq) plain) z16))
    have h5 : (mixM l (headM x sn epoch seq) plain).length = plain.length := mixM_len (by omega) (Nat.le_trans (headM_len _ _ _ _) (by decide)) (by omega)
    rw [sealF_tot]
    omega
  · simp [FrameM.tot, zeroF]
theorem sealF_R {w : World} {kind epoch seq : Int} {b2 : Option Addr} {m2 d2 : Nat} {sn : List UInt8} {b5 : Option Addr} {m5 d5 : Nat} {body : List UInt8} {b6 : Option Addr} {m6 d6 : Nat} {tag : List UInt8}
    (o2 : Rd w b2 m2 d2 (bys sn)) (o5 : Rd w b5 m5 d5 (bys body)) (o6 : Rd w b6 m6 d6 (bys tag)) :
    FrameR w (.agg #[.int .i64 kind, .int .i64 0, .slice none 0 0, .slice b2 m2 d2, .int .i64 0, .slice none 0 0, .slice none 0 0, .int .i64 epoch, .int .i64 seq, .slice b5 m5 d5, .slice b6 m6 d6]) (sealF kind sn epoch seq body tag) :=
  ⟨_, _, _, _, _, _, _, _, _, _, _, _, _, _, _, _, _, _, rfl, Rd.nil _ _ _, o2, Rd.nil _ _ _, Rd.nil _ _ _, o5, o6⟩
theorem sealM_f {l : List UInt8} {x : Int} {sn : List UInt8} {epoch seq kind : Int} {plain : List UInt8} (h : sealB l x sn epoch seq kind plain = false) : sealM l x sn epoch seq kind plain = zeroF := by rw [sealM, h]; rfl
section
variable {w : World}
theorem step_mkBD {ops : Array Oper} {o : Oper} {ac : Act} {K : Act → World → Prop} {Q : Exit → Act → World → Prop} {E : Prop} (hgd : o.guard = none) (d : Option Tmp) (hd : o.dst = d) (x y : Operand)
    (ho : o.op = .makeSlice 22 x y) (n : Nat) (hx : ac.eval x = .int .i64 (n : Int)) (hy : ac.eval y = .int .i64 (n : Int)) (hn : n ≤ 1073741824)
    (h : ∀ a' w', Ow w.heap.size w' 5 a' n n (bys (List.replicate n 0)) → w.grownBy w' none → K (ac.put d (.slice a' n n)) w') :
    if Region.wanted o (yielded ops ac.tmps) = true then Oper.wp Tryz.prog o ac w K Q else E := by
  subst hd
  exact step_mkB hgd x y ho n hx hy hn (fun w' h1 h2 => h _ w' h1 h2)
end
theorem cutSeal {P : Program} {c : Code} {Q : Exit → Act → World → Prop} {a : Act} {w : World} (G : Nat → Option Addr → Nat → Nat → Option Addr → Nat → Nat → Option Addr → Act) (F : Nat → Option Addr → Nat → Nat → Option Addr → Nat → Nat → Option Addr → World → Prop)
    (br : c.wp P (fun ex a' w' => match ex with | .normal => (∃ q b2 m2 d2 b5 m5 d5 b6, a' = G q b2 m2 d2 b5 m5 d5 b6 ∧ F q b2 m2 d2 b5 m5 d5 b6 w') | _ => False) a w) (rest : ∀ q b2 m2 d2 b5 m5 d5 b6 w', F q b2 m2 d2 b5 m5 d5 b6 w' → Q .normal (G q b2 m2 d2 b5 m5 d5 b6) w') : c.wp P Q a w := by
  refine Code.wp_mono (fun e a w h => ?_) br
  cases e <;> first | exact h.elim | (obtain ⟨q, b2, m2, d2, b5, m5, d5, b6, rfl, h2⟩ := h; exact rest _ _ _ _ _ _ _ _ _ h2)
set_option maxRecDepth 1000000 in
set_option maxHeartbeats 4000000 in
theorem impl_Seal (a0 : Option Addr) (n0 c0 : Nat) (l0 : List UInt8) (x1 : Int) (a2 : Option Addr) (n2 c2 : Nat) (l2 : List UInt8) (x3 x4 x5 : Int) (a6 : Option Addr) (n6 c6 : Nat) (l6 : List UInt8) (w : World) (r0 : Rd w a0 n0 c0 (bys l0)) (r2 : Rd w a2 n2 c2 (bys l2)) (r6 : Rd w a6 n6 c6 (bys l6)) (s2 : l2.length ≤ 1048576) (s6 : l6.length ≤ 1048576) :
    Calls Tryz.prog 27 #[.slice a0 n0 c0, .int .i64 x1, .slice a2 n2 c2, .int .i64 x3, .int .i64 x4, .int .i64 x5, .slice a6 n6 c6] w fun e w' => ∃ v', e = .returned (.tuple #[v', .bool (sealB l0 x1 l2 x3 x4 x5 l6)]) ∧ FrameO w.heap.size w'.heap.size w' v' (sealM l0 x1 l2 x3 x4 x5 l6) ∧ w.grownBy w' none := by
  have e0 := Lib.hid r0.blen
  have e2 := r2.blen
  have e6 := r6.blen
  have G := gb_alloc (gb_refl w) (.cells #[.int .i64 0, .int .i64 0, .slice none 0 0, .slice none 0 0, .int .i64 0, .slice none 0 0, .slice none 0 0, .int .i64 0, .int .i64 0, .slice none 0 0, .slice none 0 0] 32)
  have bz := bx1 w #[.int .i64 0, .int .i64 0, .slice none 0 0, .slice none 0 0, .int .i64 0, .slice none 0 0, .slice none 0 0, .int .i64 0, .int .i64 0, .slice none 0 0, .slice none 0 0] 32
  obtain ⟨RB, hRB⟩ : ∃ B, B = sealB l0 x1 l2 x3 x4 x5 l6 := ⟨_, rfl⟩
  obtain ⟨RF, hRF⟩ : ∃ F, F = sealM l0 x1 l2 x3 x4 x5 l6 := ⟨_, rfl⟩
  rw [← hRB, ← hRF]
  replace hRB := Lib.hid hRB
  replace hRF := Lib.hid hRF
  go_enter Tryz.func27, Tryz.ntmps27
  go_wp2_with fail
  refine' cutSeal _ (fun q b2 m2 d2 b5 m5 d5 b6 w' => w.grownBy w' none ∧ w.heap.size + 1 ≤ q ∧ Bx w' w.heap.size 32 #[.int .i64 0, .int .i64 0, .slice none 0 0, .slice none 0 0, .int .i64 0, .slice none 0 0, .slice none 0 0, .int .i64 0, .int .i64 0, .slice none 0 0, .slice none 0 0] ∧ Bx w' q 32 #[.int .i64 x5, .int .i64 0, .slice none 0 0, .slice b2 m2 d2, .int .i64 0, .slice none 0 0, .slice none 0 0, .int .i64 x3, .int .i64 x4, .slice b5 m5 d5, .slice b6 16 16] ∧
    Ow (w.heap.size + 1) w' 5 b2 m2 d2 (bys l2) ∧ Rd w' b5 m5 d5 (bys l6) ∧ Ow (w.heap.size + 1) w' 5 b6 16 16 (bys z16) ∧ (∀ p, b2 = some p → p.block ≠ q) ∧ (∀ p, b6 = some p → p.block ≠ q)) ?br ?rest
  case br =>
    have gc := gb_drew (gb_refl (w.alloc (.cells #[.int .i64 0, .int .i64 0, .slice none 0 0, .slice none 0 0, .int .i64 0, .slice none 0 0, .slice none 0 0, .int .i64 0, .int .i64 0, .slice none 0 0, .slice none 0 0] 32)))
    have zD : (World.drew (w.alloc (.cells #[.int .i64 0, .int .i64 0, .slice none 0 0, .slice none 0 0, .int .i64 0, .slice none 0 0, .slice none 0 0, .int .i64 0, .int .i64 0, .slice none 0 0, .slice none 0 0] 32))).heap.size = w.heap.size + 1 := by first | rfl | (simp; done)
    have zE : (w.alloc (.cells #[.int .i64 0, .int .i64 0, .slice none 0 0, .slice none 0 0, .int .i64 0, .slice none 0 0, .slice none 0 0, .int .i64 0, .int .i64 0, .slice none 0 0, .slice none 0 0] 32)).heap.size = w.heap.size + 1 := by first | rfl | (simp; done)
    refine wp_region_held_drew (S := (fun w' => (w.alloc (.cells #[.int .i64 0, .int .i64 0, .slice none 0 0, .slice none 0 0, .int .i64 0, .slice none 0 0, .slice none 0 0, .int .i64 0, .int .i64 0, .slice none 0 0, .slice none 0 0] 32)).grownBy w' none)) (by kernel_rfl) ?_ (fun hHeld => ?_)
    · (try dsimp only)
      exact gc
    refine wpAnyH_takeD (i := 0) (some 17) (v := ?_) rfl rfl (by kernel_rfl) (by kernel_rfl) (by kernel_rfl) (fun _ _ _ h => h) (Or.inl ⟨by rfl, ?_⟩) (by assumption) ?_
    rotate_left
    (focus (intro w hSw; (try dsimp only at hSw); (first | (go_simp; done) | (go_simp; with_reducible rfl) | with_reducible rfl)))
    (try simp only [Act.put]); (try simp only [List.setIfInBounds_toArray]); (try simp only [List.set_cons_succ]); (try simp only [List.set_cons_zero])
    refine wpAnyH_takeD (i := 1) (some 18) (v := ?_) rfl rfl (by kernel_rfl) (by kernel_rfl) (by kernel_rfl) (fun _ _ _ h => h) (Or.inl ⟨by rfl, ?_⟩) (by assumption) ?_
    rotate_left
    (focus (intro w hSw; (try dsimp only at hSw); (first | (go_simp; done) | (go_simp; with_reducible rfl) | with_reducible rfl)))
    (try simp only [Act.put]); (try simp only [List.setIfInBounds_toArray]); (try simp only [List.set_cons_succ]); (try simp only [List.set_cons_zero])
    refine wpAnyH_takeD (i := 3) (some 20) (v := ?_) rfl rfl (by kernel_rfl) (by kernel_rfl) (by kernel_rfl) (fun _ _ _ h => h) (Or.inl ⟨by rfl, ?_⟩) (by assumption) ?_
    rotate_left
    (focus (intro w hSw; (try dsimp only at hSw); (first | (go_simp; done) | (go_simp; with_reducible rfl) | with_reducible rfl)))
    (try simp only [Act.put]); (try simp only [List.setIfInBounds_toArray]); (try simp only [List.set_cons_succ]); (try simp only [List.set_cons_zero])
    refine wpAnyH_takeD (i := 4) (some 21) (v := ?_) rfl rfl (by kernel_rfl) (by kernel_rfl) (by kernel_rfl) (fun _ _ _ h => h) (Or.inl ⟨by rfl, ?_⟩) (by assumption) ?_
    rotate_left
    (focus (intro w hSw; (try dsimp only at hSw); (first | (go_simp; done) | (go_simp; with_reducible rfl) | with_reducible rfl)))
    (try simp only [Act.put]); (try simp only [List.setIfInBounds_toArray]); (try simp only [List.set_cons_succ]); (try simp only [List.set_cons_zero])
    refine wpAnyH_takeD (i := 5) (some 22) (v := ?_) rfl rfl (by kernel_rfl) (by kernel_rfl) (by kernel_rfl) (fun _ _ _ h => h) (Or.inl ⟨by rfl, ?_⟩) (by assumption) ?_
    rotate_left
    (focus (intro w hSw; (try dsimp only at hSw); (first | (go_simp; done) | (go_simp; with_reducible rfl) | with_reducible rfl)))
    (try simp only [Act.put]); (try simp only [List.setIfInBounds_toArray]); (try simp only [List.set_cons_succ]); (try simp only [List.set_cons_zero])
    refine wpAnyH_ready (rs := [2, 7, 9]) (by kernel_rfl) (by simp) (AllReadyH.cons rfl (fun K hK => ?_) (AllReadyH.cons rfl (fun K hK => ?_) (AllReadyH.cons rfl (fun K hK => ?_) AllReadyH.nil)))
    · go_simp
      go_at_call 35
      (with_reducible refine (impl_clone a2 n2 c2 l2 _ (r2.keep0 (gb_trans G gc)) (by omega)).mono ?_)
      rintro e wA ⟨b2, m2, d2, rfl, o2, gA⟩
      have u2 := fun p hp => (o2.lt p hp).2
      have zA := gA.size
      have yA := gc.size
      (try replace o6 := o6.keep0 gA)
      (try replace bq := bq.keep0 gA)
      replace gc := gb_trans gc gA
      go_wp2_with fail
      refine hK.out _ _ ?_ (fun hHeld2 => ?_)
      · (try dsimp only)
        exact gc
      clear hK K hHeld
      have hHeld := hHeld2
      clear hHeld2
      (try simp only [Act.put]); (try simp only [List.setIfInBounds_toArray]); (try simp only [List.set_cons_succ]); (try simp only [List.set_cons_zero])
      refine wpAnyH_ready (rs := [6, 7, 9]) (by kernel_rfl) (by simp) (AllReadyH.cons rfl (fun K hK => ?_) (AllReadyH.cons rfl (fun K hK => ?_) (AllReadyH.cons rfl (fun K hK => ?_) AllReadyH.nil)))
      · go_simp
        go_at_call 35
        (with_reducible refine (impl_clone a6 n6 c6 l6 _ (r6.keep0 (gb_trans G gc)) (by omega)).mono ?_)
        rintro e wB ⟨b5, m5, d5, rfl, o5, gB⟩
        have u5 := fun p hp => (o5.lt p hp).2
        have zB := gB.size
        have yB := gc.size
        (try replace o6 := o6.keep0 gB)
        (try replace o2 := o2.keep0 gB)
        (try replace bq := bq.keep0 gB)
        replace gc := gb_trans gc gB
        go_wp2_with fail
        refine hK.out _ _ ?_ (fun hHeld2 => ?_)
        · (try dsimp only)
          exact gc
        clear hK K hHeld
        have hHeld := hHeld2
        clear hHeld2
        (try simp only [Act.put]); (try simp only [List.setIfInBounds_toArray]); (try simp only [List.set_cons_succ]); (try simp only [List.set_cons_zero])
        refine wpAnyH_ready (rs := [7, 9]) (by kernel_rfl) (by simp) (AllReadyH.cons rfl (fun K hK => ?_) (AllReadyH.cons rfl (fun K hK => ?_) AllReadyH.nil))
        · refine step_mkBD rfl (some 24) rfl _ _ rfl 16 rfl rfl (by decide) ?_
          intro b6 wM o6 gM
          have u6 := fun p hp => (o6.lt p hp).2
          have zM := gM.size
          have yM := gc.size
          (try replace o2 := o2.keep0 gM)
          (try replace o5 := o5.keep0 gM)
          (try replace bq := bq.keep0 gM)
          replace gc := gb_trans gc gM
          refine hK.out _ _ ?_ (fun hHeld2 => ?_)
          · (try dsimp only)
            exact gc
          clear hK K hHeld
          have hHeld := hHeld2
          clear hHeld2
          (try simp only [Act.put]); (try simp only [List.setIfInBounds_toArray]); (try simp only [List.set_cons_succ]); (try simp only [List.set_cons_zero])
          refine wpAnyH_takeD (i := 8) (some 25) (v := ?_) rfl rfl (by kernel_rfl) (by kernel_rfl) (by kernel_rfl) (fun _ _ _ h => h) (Or.inl ⟨by rfl, ?_⟩) (by assumption) ?_
          rotate_left
          (focus (intro w hSw; (try dsimp only at hSw); (first | (go_simp; done) | (go_simp; with_reducible rfl) | with_reducible rfl)))
          (try simp only [Act.put]); (try simp only [List.setIfInBounds_toArray]); (try simp only [List.set_cons_succ]); (try simp only [List.set_cons_zero])
          refine wpAnyH_ready (rs := [9]) (by kernel_rfl) (by simp) (AllReadyH.cons rfl (fun K hK => ?_) AllReadyH.nil)
          refine step_alD rfl (some 16) rfl 32 _ rfl al_Frame ?_
          intro q wQ hq bq gQ
          have lq := Nat.le_trans gc.size hq
          have yq := bq.lt
          have zQ := gQ.size
          (try replace o2 := o2.keep0 gQ)
          (try replace o5 := o5.keep0 gQ)
          (try replace o6 := o6.keep0 gQ)
          replace gc := gb_trans gc gQ
          refine hK.out _ _ ?_ (fun hHeld2 => ?_)
          · (try dsimp only)
            exact gc
          clear hK K hHeld
          have hHeld := hHeld2
          clear hHeld2
          (try simp only [Act.put]); (try simp only [List.setIfInBounds_toArray]); (try simp only [List.set_cons_succ]); (try simp only [List.set_cons_zero])
          refine wpAnyH_ready (rs := [10]) (by kernel_rfl) (by simp) (AllReadyH.cons rfl (fun K hK => ?_) AllReadyH.nil)
          refine step_stRD rfl rfl 32 (.tmp 16) (.tmp 25) rfl q _ _ rfl rfl bq si_Frame rfl (by first | rfl | (simp [Value.oneCell']; done)) ?_
          intro wS bs gS
          have zS := gS.size
          have n2 : ∀ p, b2 = some p → p.block ≠ q := fun p hp => by have := o2.lt p hp; have := u2 p hp; omega
          have n5 : ∀ p, b5 = some p → p.block ≠ q := fun p hp => by have := o5.lt p hp; have := u5 p hp; omega
          have n6 := fun (p : Addr) hp => (show p.block ≠ q by have := o6.lt p hp; have := u6 p hp; omega)
          replace o2 := o2.row gS n2
          replace o5 := o5.row gS n5
          replace o6 := o6.row gS n6
          replace gc := gb_row gc gS lq
          refine hK.out _ _ ?_ (fun hHeld2 => ?_)
          · (try dsimp only)
            exact gc
          clear hK K hHeld
          have hHeld := hHeld2
          clear hHeld2
          (try simp only [Act.put]); (try simp only [List.setIfInBounds_toArray]); (try simp only [List.set_cons_succ]); (try simp only [List.set_cons_zero])
          refine wpAnyH_done (by kernel_rfl) ?_ _
          (try dsimp only)
          refine ⟨q, b2, m2, d2, b5, m5, d5, b6, ?_, gb_trans G gc, (by omega), bz.keep0 gc, bs, o2.mono (by omega), o5.rd, o6.mono (by omega), n2, n6⟩
          clear n2 n6
          exact rfl
        · refine step_alD rfl (some 16) rfl 32 _ rfl al_Frame ?_
          intro q wQ hq bq gQ
          have lq := Nat.le_trans gc.size hq
          have yq := bq.lt
          have zQ := gQ.size
          (try replace o2 := o2.keep0 gQ)
          (try replace o5 := o5.keep0 gQ)
          (try replace o6 := o6.keep0 gQ)
          replace gc := gb_trans gc gQ
          refine hK.out _ _ ?_ (fun hHeld2 => ?_)
          · (try dsimp only)
            exact gc
          clear hK K hHeld
          have hHeld := hHeld2
          clear hHeld2
          (try simp only [Act.put]); (try simp only [List.setIfInBounds_toArray]); (try simp only [List.set_cons_succ]); (try simp only [List.set_cons_zero])
          refine wpAnyH_ready (rs := [7]) (by kernel_rfl) (by simp) (AllReadyH.cons rfl (fun K hK => ?_) AllReadyH.nil)
          refine step_mkBD rfl (some 24) rfl _ _ rfl 16 rfl rfl (by decide) ?_
          intro b6 wM o6 gM
          have u6 := fun p hp => (o6.lt p hp).2
          have zM := gM.size
          have yM := gc.size
          (try replace o2 := o2.keep0 gM)
          (try replace o5 := o5.keep0 gM)
          (try replace bq := bq.keep0 gM)
          replace gc := gb_trans gc gM
          refine hK.out _ _ ?_ (fun hHeld2 => ?_)
          · (try dsimp only)
            exact gc
          clear hK K hHeld
          have hHeld := hHeld2
          clear hHeld2
          (try simp only [Act.put]); (try simp only [List.setIfInBounds_toArray]); (try simp only [List.set_cons_succ]); (try simp only [List.set_cons_zero])
          refine wpAnyH_takeD (i := 8) (some 25) (v := ?_) rfl rfl (by kernel_rfl) (by kernel_rfl) (by kernel_rfl) (fun _ _ _ h => h) (Or.inl ⟨by rfl, ?_⟩) (by assumption) ?_
          rotate_left
          (focus (intro w hSw; (try dsimp only at hSw); (first | (go_simp; done) | (go_simp; with_reducible rfl) | with_reducible rfl)))
          (try simp only [Act.put]); (try simp only [List.setIfInBounds_toArray]); (try simp only [List.set_cons_succ]); (try simp only [List.set_cons_zero])
          refine wpAnyH_ready (rs := [10]) (by kernel_rfl) (by simp) (AllReadyH.cons rfl (fun K hK => ?_) AllReadyH.nil)
          refine step_stRD rfl rfl 32 (.tmp 16) (.tmp 25) rfl q _ _ rfl rfl bq si_Frame rfl (by first | rfl | (simp [Value.oneCell']; done)) ?_
          intro wS bs gS
          have zS := gS.size
          have n2 : ∀ p, b2 = some p → p.block ≠ q := fun p hp => by have := o2.lt p hp; have := u2 p hp; omega
          have n5 : ∀ p, b5 = some p → p.block ≠ q := fun p hp => by have := o5.lt p hp; have := u5 p hp; omega
          have n6 := fun (p : Addr) hp => (show p.block ≠ q by have := o6.lt p hp; have := u6 p hp; omega)
          replace o2 := o2.row gS n2
          replace o5 := o5.row gS n5
          replace o6 := o6.row gS n6
          replace gc := gb_row gc gS lq
          refine hK.out _ _ ?_ (fun hHeld2 => ?_)
          · (try dsimp only)
            exact gc
          clear hK K hHeld
          have hHeld := hHeld2
          clear hHeld2
          (try simp only [Act.put]); (try simp only [List.setIfInBounds_toArray]); (try simp only [List.set_cons_succ]); (try simp only [List.set_cons_zero])
          refine wpAnyH_done (by kernel_rfl) ?_ _
          (try dsimp only)
          refine ⟨q, b2, m2, d2, b5, m5, d5, b6, ?_, gb_trans G gc, (by omega), bz.keep0 gc, bs, o2.mono (by omega), o5.rd, o6.mono (by omega), n2, n6⟩
          clear n2 n6
          exact rfl
      · refine step_mkBD rfl (some 24) rfl _ _ rfl 16 rfl rfl (by decide) ?_
        intro b6 wM o6 gM
        have u6 := fun p hp => (o6.lt p hp).2
        have zM := gM.size
        have yM := gc.size
        (try replace o2 := o2.keep0 gM)
        (try replace o5 := o5.keep0 gM)
        (try replace bq := bq.keep0 gM)
        replace gc := gb_trans gc gM
        refine hK.out _ _ ?_ (fun hHeld2 => ?_)
        · (try dsimp only)
          exact gc
        clear hK K hHeld
        have hHeld := hHeld2
        clear hHeld2
        (try simp only [Act.put]); (try simp only [List.setIfInBounds_toArray]); (try simp only [List.set_cons_succ]); (try simp only [List.set_cons_zero])
        refine wpAnyH_ready (rs := [6, 9]) (by kernel_rfl) (by simp) (AllReadyH.cons rfl (fun K hK => ?_) (AllReadyH.cons rfl (fun K hK => ?_) AllReadyH.nil))
        · go_simp
          go_at_call 35
          (with_reducible refine (impl_clone a6 n6 c6 l6 _ (r6.keep0 (gb_trans G gc)) (by omega)).mono ?_)
          rintro e wB ⟨b5, m5, d5, rfl, o5, gB⟩
          have u5 := fun p hp => (o5.lt p hp).2
          have zB := gB.size
          have yB := gc.size
          (try replace o6 := o6.keep0 gB)
          (try replace o2 := o2.keep0 gB)
          (try replace bq := bq.keep0 gB)
          replace gc := gb_trans gc gB
          go_wp2_with fail
          refine hK.out _ _ ?_ (fun hHeld2 => ?_)
          · (try dsimp only)
            exact gc
          clear hK K hHeld
          have hHeld := hHeld2
          clear hHeld2
          (try simp only [Act.put]); (try simp only [List.setIfInBounds_toArray]); (try simp only [List.set_cons_succ]); (try simp only [List.set_cons_zero])
          refine wpAnyH_takeD (i := 8) (some 25) (v := ?_) rfl rfl (by kernel_rfl) (by kernel_rfl) (by kernel_rfl) (fun _ _ _ h => h) (Or.inl ⟨by rfl, ?_⟩) (by assumption) ?_
          rotate_left
          (focus (intro w hSw; (try dsimp only at hSw); (first | (go_simp; done) | (go_simp; with_reducible rfl) | with_reducible rfl)))
          (try simp only [Act.put]); (try simp only [List.setIfInBounds_toArray]); (try simp only [List.set_cons_succ]); (try simp only [List.set_cons_zero])
          refine wpAnyH_ready (rs := [9]) (by kernel_rfl) (by simp) (AllReadyH.cons rfl (fun K hK => ?_) AllReadyH.nil)
          refine step_alD rfl (some 16) rfl 32 _ rfl al_Frame ?_
          intro q wQ hq bq gQ
          have lq := Nat.le_trans gc.size hq
          have yq := bq.lt
          have zQ := gQ.size
          (try replace o2 := o2.keep0 gQ)
          (try replace o5 := o5.keep0 gQ)
          (try replace o6 := o6.keep0 gQ)
          replace gc := gb_trans gc gQ
          refine hK.out _ _ ?_ (fun hHeld2 => ?_)
          · (try dsimp only)
            exact gc
          clear hK K hHeld
          have hHeld := hHeld2
          clear hHeld2
          (try simp only [Act.put]); (try simp only [List.setIfInBounds_toArray]); (try simp only [List.set_cons_succ]); (try simp only [List.set_cons_zero])
          refine wpAnyH_ready (rs := [10]) (by kernel_rfl) (by simp) (AllReadyH.cons rfl (fun K hK => ?_) AllReadyH.nil)
          refine step_stRD rfl rfl 32 (.tmp 16) (.tmp 25) rfl q _ _ rfl rfl bq si_Frame rfl (by first | rfl | (simp [Value.oneCell']; done)) ?_
          intro wS bs gS
          have zS := gS.size
          have n2 : ∀ p, b2 = some p → p.block ≠ q := fun p hp => by have := o2.lt p hp; have := u2 p hp; omega
          have n5 : ∀ p, b5 = some p → p.block ≠ q := fun p hp => by have := o5.lt p hp; have := u5 p hp; omega
          have n6 := fun (p : Addr) hp => (show p.block ≠ q by have := o6.lt p hp; have := u6 p hp; omega)
          replace o2 := o2.row gS n2
          replace o5 := o5.row gS n5
          replace o6 := o6.row gS n6
          replace gc := gb_row gc gS lq
          refine hK.out _ _ ?_ (fun hHeld2 => ?_)
          · (try dsimp only)
            exact gc
          clear hK K hHeld
          have hHeld := hHeld2
          clear hHeld2
          (try simp only [Act.put]); (try simp only [List.setIfInBounds_toArray]); (try simp only [List.set_cons_succ]); (try simp only [List.set_cons_zero])
          refine wpAnyH_done (by kernel_rfl) ?_ _
          (try dsimp only)
          refine ⟨q, b2, m2, d2, b5, m5, d5, b6, ?_, gb_trans G gc, (by omega), bz.keep0 gc, bs, o2.mono (by omega), o5.rd, o6.mono (by omega), n2, n6⟩
          clear n2 n6
          exact rfl
        · refine step_alD rfl (some 16) rfl 32 _ rfl al_Frame ?_
          intro q wQ hq bq gQ
          have lq := Nat.le_trans gc.size hq
          have yq := bq.lt
          have zQ := gQ.size
          (try replace o2 := o2.keep0 gQ)
          (try replace o5 := o5.keep0 gQ)
          (try replace o6 := o6.keep0 gQ)
          replace gc := gb_trans gc gQ
          refine hK.out _ _ ?_ (fun hHeld2 => ?_)
          · (try dsimp only)
            exact gc
          clear hK K hHeld
          have hHeld := hHeld2
          clear hHeld2
          (try simp only [Act.put]); (try simp only [List.setIfInBounds_toArray]); (try simp only [List.set_cons_succ]); (try simp only [List.set_cons_zero])
          refine wpAnyH_ready (rs := [6]) (by kernel_rfl) (by simp) (AllReadyH.cons rfl (fun K hK => ?_) AllReadyH.nil)
          go_simp
          go_at_call 35
          (with_reducible refine (impl_clone a6 n6 c6 l6 _ (r6.keep0 (gb_trans G gc)) (by omega)).mono ?_)
          rintro e wB ⟨b5, m5, d5, rfl, o5, gB⟩
          have u5 := fun p hp => (o5.lt p hp).2
          have zB := gB.size
          have yB := gc.size
          (try replace o6 := o6.keep0 gB)
          (try replace o2 := o2.keep0 gB)
          (try replace bq := bq.keep0 gB)
          replace gc := gb_trans gc gB
          go_wp2_with fail
          refine hK.out _ _ ?_ (fun hHeld2 => ?_)
          · (try dsimp only)
            exact gc
          clear hK K hHeld
          have hHeld := hHeld2
          clear hHeld2
          (try simp only [Act.put]); (try simp only [List.setIfInBounds_toArray]); (try simp only [List.set_cons_succ]); (try simp only [List.set_cons_zero])
          refine wpAnyH_takeD (i := 8) (some 25) (v := ?_) rfl rfl (by kernel_rfl) (by kernel_rfl) (by kernel_rfl) (fun _ _ _ h => h) (Or.inl ⟨by rfl, ?_⟩) (by assumption) ?_
          rotate_left
          (focus (intro w hSw; (try dsimp only at hSw); (first | (go_simp; done) | (go_simp; with_reducible rfl) | with_reducible rfl)))
          (try simp only [Act.put]); (try simp only [List.setIfInBounds_toArray]); (try simp only [List.set_cons_succ]); (try simp only [List.set_cons_zero])
          refine wpAnyH_ready (rs := [10]) (by kernel_rfl) (by simp) (AllReadyH.cons rfl (fun K hK => ?_) AllReadyH.nil)
          refine step_stRD rfl rfl 32 (.tmp 16) (.tmp 25) rfl q _ _ rfl rfl bq si_Frame rfl (by first | rfl | (simp [Value.oneCell']; done)) ?_
          intro wS bs gS
          have zS := gS.size
          have n2 : ∀ p, b2 = some p → p.block ≠ q := fun p hp => by have := o2.lt p hp; have := u2 p hp; omega
          have n5 : ∀ p, b5 = some p → p.block ≠ q := fun p hp => by have := o5.lt p hp; have := u5 p hp; omega
          have n6 := fun (p : Addr) hp => (show p.block ≠ q by have := o6.lt p hp; have := u6 p hp; omega)
          replace o2 := o2.row gS n2
          replace o5 := o5.row gS n5
          replace o6 := o6.row gS n6
          replace gc := gb_row gc gS lq
          refine hK.out _ _ ?_ (fun hHeld2 => ?_)
          · (try dsimp only)
            exact gc
          clear hK K hHeld
          have hHeld := hHeld2
          clear hHeld2
          (try simp only [Act.put]); (try simp only [List.setIfInBounds_toArray]); (try simp only [List.set_cons_succ]); (try simp only [List.set_cons_zero])
          refine wpAnyH_done (by kernel_rfl) ?_ _
          (try dsimp only)
          refine ⟨q, b2, m2, d2, b5, m5, d5, b6, ?_, gb_trans G gc, (by omega), bz.keep0 gc, bs, o2.mono (by omega), o5.rd, o6.mono (by omega), n2, n6⟩
          clear n2 n6
          exact rfl
      · refine step_alD rfl (some 16) rfl 32 _ rfl al_Frame ?_
        intro q wQ hq bq gQ
        have lq := Nat.le_trans gc.size hq
        have yq := bq.lt
        have zQ := gQ.size
        (try replace o2 := o2.keep0 gQ)
        (try replace o5 := o5.keep0 gQ)
        (try replace o6 := o6.keep0 gQ)
        replace gc := gb_trans gc gQ
        refine hK.out _ _ ?_ (fun hHeld2 => ?_)
        · (try dsimp only)
          exact gc
        clear hK K hHeld
        have hHeld := hHeld2
        clear hHeld2
        (try simp only [Act.put]); (try simp only [List.setIfInBounds_toArray]); (try simp only [List.set_cons_succ]); (try simp only [List.set_cons_zero])
        refine wpAnyH_ready (rs := [6, 7]) (by kernel_rfl) (by simp) (AllReadyH.cons rfl (fun K hK => ?_) (AllReadyH.cons rfl (fun K hK => ?_) AllReadyH.nil))
        · go_simp
          go_at_call 35
          (with_reducible refine (impl_clone a6 n6 c6 l6 _ (r6.keep0 (gb_trans G gc)) (by omega)).mono ?_)
          rintro e wB ⟨b5, m5, d5, rfl, o5, gB⟩
          have u5 := fun p hp => (o5.lt p hp).2
          have zB := gB.size
          have yB := gc.size
          (try replace o6 := o6.keep0 gB)
          (try replace o2 := o2.keep0 gB)
          (try replace bq := bq.keep0 gB)
          replace gc := gb_trans gc gB
          go_wp2_with fail
          refine hK.out _ _ ?_ (fun hHeld2 => ?_)
          · (try dsimp only)
            exact gc
          clear hK K hHeld
          have hHeld := hHeld2
          clear hHeld2
          (try simp only [Act.put]); (try simp only [List.setIfInBounds_toArray]); (try simp only [List.set_cons_succ]); (try simp only [List.set_cons_zero])
          refine wpAnyH_ready (rs := [7]) (by kernel_rfl) (by simp) (AllReadyH.cons rfl (fun K hK => ?_) AllReadyH.nil)
          refine step_mkBD rfl (some 24) rfl _ _ rfl 16 rfl rfl (by decide) ?_
          intro b6 wM o6 gM
          have u6 := fun p hp => (o6.lt p hp).2
          have zM := gM.size
          have yM := gc.size
          (try replace o2 := o2.keep0 gM)
          (try replace o5 := o5.keep0 gM)
          (try replace bq := bq.keep0 gM)
          replace gc := gb_trans gc gM
          refine hK.out _ _ ?_ (fun hHeld2 => ?_)
          · (try dsimp only)
            exact gc
          clear hK K hHeld
          have hHeld := hHeld2
          clear hHeld2
          (try simp only [Act.put]); (try simp only [List.setIfInBounds_toArray]); (try simp only [List.set_cons_succ]); (try simp only [List.set_cons_zero])
          refine wpAnyH_takeD (i := 8) (some 25) (v := ?_) rfl rfl (by kernel_rfl) (by kernel_rfl) (by kernel_rfl) (fun _ _ _ h => h) (Or.inl ⟨by rfl, ?_⟩) (by assumption) ?_
          rotate_left
          (focus (intro w hSw; (try dsimp only at hSw); (first | (go_simp; done) | (go_simp; with_reducible rfl) | with_reducible rfl)))
          (try simp only [Act.put]); (try simp only [List.setIfInBounds_toArray]); (try simp only [List.set_cons_succ]); (try simp only [List.set_cons_zero])
          refine wpAnyH_ready (rs := [10]) (by kernel_rfl) (by simp) (AllReadyH.cons rfl (fun K hK => ?_) AllReadyH.nil)
          refine step_stRD rfl rfl 32 (.tmp 16) (.tmp 25) rfl q _ _ rfl rfl bq si_Frame rfl (by first | rfl | (simp [Value.oneCell']; done)) ?_
          intro wS bs gS
          have zS := gS.size
          have n2 : ∀ p, b2 = some p → p.block ≠ q := fun p hp => by have := o2.lt p hp; have := u2 p hp; omega
          have n5 : ∀ p, b5 = some p → p.block ≠ q := fun p hp => by have := o5.lt p hp; have := u5 p hp; omega
          have n6 := fun (p : Addr) hp => (show p.block ≠ q by have := o6.lt p hp; have := u6 p hp; omega)
          replace o2 := o2.row gS n2
          replace o5 := o5.row gS n5
          replace o6 := o6.row gS n6
          replace gc := gb_row gc gS lq
          refine hK.out _ _ ?_ (fun hHeld2 => ?_)
          · (try dsimp only)
            exact gc
          clear hK K hHeld
          have hHeld := hHeld2
          clear hHeld2
          (try simp only [Act.put]); (try simp only [List.setIfInBounds_toArray]); (try simp only [List.set_cons_succ]); (try simp only [List.set_cons_zero])
          refine wpAnyH_done (by kernel_rfl) ?_ _
          (try dsimp only)
          refine ⟨q, b2, m2, d2, b5, m5, d5, b6, ?_, gb_trans G gc, (by omega), bz.keep0 gc, bs, o2.mono (by omega), o5.rd, o6.mono (by omega), n2, n6⟩
          clear n2 n6
          exact rfl
        · refine step_mkBD rfl (some 24) rfl _ _ rfl 16 rfl rfl (by decide) ?_
          intro b6 wM o6 gM
          have u6 := fun p hp => (o6.lt p hp).2
          have zM := gM.size
          have yM := gc.size
          (try replace o2 := o2.keep0 gM)
          (try replace o5 := o5.keep0 gM)
          (try replace bq := bq.keep0 gM)
          replace gc := gb_trans gc gM
          refine hK.out _ _ ?_ (fun hHeld2 => ?_)
          · (try dsimp only)
            exact gc
          clear hK K hHeld
          have hHeld := hHeld2
          clear hHeld2
          (try simp only [Act.put]); (try simp only [List.setIfInBounds_toArray]); (try simp only [List.set_cons_succ]); (try simp only [List.set_cons_zero])
          refine wpAnyH_ready (rs := [6]) (by kernel_rfl) (by simp) (AllReadyH.cons rfl (fun K hK => ?_) AllReadyH.nil)
          go_simp
          go_at_call 35
          (with_reducible refine (impl_clone a6 n6 c6 l6 _ (r6.keep0 (gb_trans G gc)) (by omega)).mono ?_)
          rintro e wB ⟨b5, m5, d5, rfl, o5, gB⟩
          have u5 := fun p hp => (o5.lt p hp).2
          have zB := gB.size
          have yB := gc.size
          (try replace o6 := o6.keep0 gB)
          (try replace o2 := o2.keep0 gB)
          (try replace bq := bq.keep0 gB)
          replace gc := gb_trans gc gB
          go_wp2_with fail
          refine hK.out _ _ ?_ (fun hHeld2 => ?_)
          · (try dsimp only)
            exact gc
          clear hK K hHeld
          have hHeld := hHeld2
          clear hHeld2
          (try simp only [Act.put]); (try simp only [List.setIfInBounds_toArray]); (try simp only [List.set_cons_succ]); (try simp only [List.set_cons_zero])
          refine wpAnyH_takeD (i := 8) (some 25) (v := ?_) rfl rfl (by kernel_rfl) (by kernel_rfl) (by kernel_rfl) (fun _ _ _ h => h) (Or.inl ⟨by rfl, ?_⟩) (by assumption) ?_
          rotate_left
          (focus (intro w hSw; (try dsimp only at hSw); (first | (go_simp; done) | (go_simp; with_reducible rfl) | with_reducible rfl)))
          (try simp only [Act.put]); (try simp only [List.setIfInBounds_toArray]); (try simp only [List.set_cons_succ]); (try simp only [List.set_cons_zero])
          refine wpAnyH_ready (rs := [10]) (by kernel_rfl) (by simp) (AllReadyH.cons rfl (fun K hK => ?_) AllReadyH.nil)
          refine step_stRD rfl rfl 32 (.tmp 16) (.tmp 25) rfl q _ _ rfl rfl bq si_Frame rfl (by first | rfl | (simp [Value.oneCell']; done)) ?_
          intro wS bs gS
          have zS := gS.size
          have n2 : ∀ p, b2 = some p → p.block ≠ q := fun p hp => by have := o2.lt p hp; have := u2 p hp; omega
          have n5 : ∀ p, b5 = some p → p.block ≠ q := fun p hp => by have := o5.lt p hp; have := u5 p hp; omega
          have n6 := fun (p : Addr) hp => (show p.block ≠ q by have := o6.lt p hp; have := u6 p hp; omega)
          replace o2 := o2.row gS n2
          replace o5 := o5.row gS n5
          replace o6 := o6.row gS n6
          replace gc := gb_row gc gS lq
          refine hK.out _ _ ?_ (fun hHeld2 => ?_)
          · (try dsimp only)
            exact gc
          clear hK K hHeld
          have hHeld := hHeld2
          clear hHeld2
          (try simp only [Act.put]); (try simp only [List.setIfInBounds_toArray]); (try simp only [List.set_cons_succ]); (try simp only [List.set_cons_zero])
          refine wpAnyH_done (by kernel_rfl) ?_ _
          (try dsimp only)
          refine ⟨q, b2, m2, d2, b5, m5, d5, b6, ?_, gb_trans G gc, (by omega), bz.keep0 gc, bs, o2.mono (by omega), o5.rd, o6.mono (by omega), n2, n6⟩
          clear n2 n6
          exact rfl
    · refine step_mkBD rfl (some 24) rfl _ _ rfl 16 rfl rfl (by decide) ?_
      intro b6 wM o6 gM
      have u6 := fun p hp => (o6.lt p hp).2
      have zM := gM.size
      have yM := gc.size
      (try replace o2 := o2.keep0 gM)
      (try replace o5 := o5.keep0 gM)
      (try replace bq := bq.keep0 gM)
      replace gc := gb_trans gc gM
      refine hK.out _ _ ?_ (fun hHeld2 => ?_)
      · (try dsimp only)
        exact gc
      clear hK K hHeld
      have hHeld := hHeld2
      clear hHeld2
      (try simp only [Act.put]); (try simp only [List.setIfInBounds_toArray]); (try simp only [List.set_cons_succ]); (try simp only [List.set_cons_zero])
      refine wpAnyH_ready (rs := [2, 9]) (by kernel_rfl) (by simp) (AllReadyH.cons rfl (fun K hK => ?_) (AllReadyH.cons rfl (fun K hK => ?_) AllReadyH.nil))
      · go_simp
        go_at_call 35
        (with_reducible refine (impl_clone a2 n2 c2 l2 _ (r2.keep0 (gb_trans G gc)) (by omega)).mono ?_)
        rintro e wA ⟨b2, m2, d2, rfl, o2, gA⟩
        have u2 := fun p hp => (o2.lt p hp).2
        have zA := gA.size
        have yA := gc.size
        (try replace o6 := o6.keep0 gA)
        (try replace bq := bq.keep0 gA)
        replace gc := gb_trans gc gA
        go_wp2_with fail
        refine hK.out _ _ ?_ (fun hHeld2 => ?_)
        · (try dsimp only)
          exact gc
        clear hK K hHeld
        have hHeld := hHeld2
        clear hHeld2
        (try simp only [Act.put]); (try simp only [List.setIfInBounds_toArray]); (try simp only [List.set_cons_succ]); (try simp only [List.set_cons_zero])
        refine wpAnyH_ready (rs := [6, 9]) (by kernel_rfl) (by simp) (AllReadyH.cons rfl (fun K hK => ?_) (AllReadyH.cons rfl (fun K hK => ?_) AllReadyH.nil))
        · go_simp
          go_at_call 35
          (with_reducible refine (impl_clone a6 n6 c6 l6 _ (r6.keep0 (gb_trans G gc)) (by omega)).mono ?_)
          rintro e wB ⟨b5, m5, d5, rfl, o5, gB⟩
          have u5 := fun p hp => (o5.lt p hp).2
          have zB := gB.size
          have yB := gc.size
          (try replace o6 := o6.keep0 gB)
          (try replace o2 := o2.keep0 gB)
          (try replace bq := bq.keep0 gB)
          replace gc := gb_trans gc gB
          go_wp2_with fail
          refine hK.out _ _ ?_ (fun hHeld2 => ?_)
          · (try dsimp only)
            exact gc
          clear hK K hHeld
          have hHeld := hHeld2
          clear hHeld2
          (try simp only [Act.put]); (try simp only [List.setIfInBounds_toArray]); (try simp only [List.set_cons_succ]); (try simp only [List.set_cons_zero])
          refine wpAnyH_takeD (i := 8) (some 25) (v := ?_) rfl rfl (by kernel_rfl) (by kernel_rfl) (by kernel_rfl) (fun _ _ _ h => h) (Or.inl ⟨by rfl, ?_⟩) (by assumption) ?_
          rotate_left
          (focus (intro w hSw; (try dsimp only at hSw); (first | (go_simp; done) | (go_simp; with_reducible rfl) | with_reducible rfl)))
          (try simp only [Act.put]); (try simp only [List.setIfInBounds_toArray]); (try simp only [List.set_cons_succ]); (try simp only [List.set_cons_zero])
          refine wpAnyH_ready (rs := [9]) (by kernel_rfl) (by simp) (AllReadyH.cons rfl (fun K hK => ?_) AllReadyH.nil)
          refine step_alD rfl (some 16) rfl 32 _ rfl al_Frame ?_
          intro q wQ hq bq gQ
          have lq := Nat.le_trans gc.size hq
          have yq := bq.lt
          have zQ := gQ.size
          (try replace o2 := o2.keep0 gQ)
          (try replace o5 := o5.keep0 gQ)
          (try replace o6 := o6.keep0 gQ)
          replace gc := gb_trans gc gQ
          refine hK.out _ _ ?_ (fun hHeld2 => ?_)
          · (try dsimp only)
            exact gc
          clear hK K hHeld
          have hHeld := hHeld2
          clear hHeld2
          (try simp only [Act.put]); (try simp only [List.setIfInBounds_toArray]); (try simp only [List.set_cons_succ]); (try simp only [List.set_cons_zero])
          refine wpAnyH_ready (rs := [10]) (by kernel_rfl) (by simp) (AllReadyH.cons rfl (fun K hK => ?_) AllReadyH.nil)
          refine step_stRD rfl rfl 32 (.tmp 16) (.tmp 25) rfl q _ _ rfl rfl bq si_Frame rfl (by first | rfl | (simp [Value.oneCell']; done)) ?_
          intro wS bs gS
          have zS := gS.size
          have n2 : ∀ p, b2 = some p → p.block ≠ q := fun p hp => by have := o2.lt p hp; have := u2 p hp; omega
          have n5 : ∀ p, b5 = some p → p.block ≠ q := fun p hp => by have := o5.lt p hp; have := u5 p hp; omega
          have n6 := fun (p : Addr) hp => (show p.block ≠ q by have := o6.lt p hp; have := u6 p hp; omega)
          replace o2 := o2.row gS n2
          replace o5 := o5.row gS n5
          replace o6 := o6.row gS n6
          replace gc := gb_row gc gS lq
          refine hK.out _ _ ?_ (fun hHeld2 => ?_)
          · (try dsimp only)
            exact gc
          clear hK K hHeld
          have hHeld := hHeld2
          clear hHeld2
          (try simp only [Act.put]); (try simp only [List.setIfInBounds_toArray]); (try simp only [List.set_cons_succ]); (try simp only [List.set_cons_zero])
          refine wpAnyH_done (by kernel_rfl) ?_ _
          (try dsimp only)
          refine ⟨q, b2, m2, d2, b5, m5, d5, b6, ?_, gb_trans G gc, (by omega), bz.keep0 gc, bs, o2.mono (by omega), o5.rd, o6.mono (by omega), n2, n6⟩
          clear n2 n6
          exact rfl
        · refine step_alD rfl (some 16) rfl 32 _ rfl al_Frame ?_
          intro q wQ hq bq gQ
          have lq := Nat.le_trans gc.size hq
          have yq := bq.lt
          have zQ := gQ.size
          (try replace o2 := o2.keep0 gQ)
          (try replace o5 := o5.keep0 gQ)
          (try replace o6 := o6.keep0 gQ)
          replace gc := gb_trans gc gQ
          refine hK.out _ _ ?_ (fun hHeld2 => ?_)
          · (try dsimp only)
            exact gc
          clear hK K hHeld
          have hHeld := hHeld2
          clear hHeld2
          (try simp only [Act.put]); (try simp only [List.setIfInBounds_toArray]); (try simp only [List.set_cons_succ]); (try simp only [List.set_cons_zero])
          refine wpAnyH_ready (rs := [6]) (by kernel_rfl) (by simp) (AllReadyH.cons rfl (fun K hK => ?_) AllReadyH.nil)
          go_simp
          go_at_call 35
          (with_reducible refine (impl_clone a6 n6 c6 l6 _ (r6.keep0 (gb_trans G gc)) (by omega)).mono ?_)
          rintro e wB ⟨b5, m5, d5, rfl, o5, gB⟩
          have u5 := fun p hp => (o5.lt p hp).2
          have zB := gB.size
          have yB := gc.size
          (try replace o6 := o6.keep0 gB)
          (try replace o2 := o2.keep0 gB)
          (try replace bq := bq.keep0 gB)
          replace gc := gb_trans gc gB
          go_wp2_with fail
          refine hK.out _ _ ?_ (fun hHeld2 => ?_)
          · (try dsimp only)
            exact gc
          clear hK K hHeld
          have hHeld := hHeld2
          clear hHeld2
          (try simp only [Act.put]); (try simp only [List.setIfInBounds_toArray]); (try simp only [List.set_cons_succ]); (try simp only [List.set_cons_zero])
          refine wpAnyH_takeD (i := 8) (some 25) (v := ?_) rfl rfl (by kernel_rfl) (by kernel_rfl) (by kernel_rfl) (fun _ _ _ h => h) (Or.inl ⟨by rfl, ?_⟩) (by assumption) ?_
          rotate_left
          (focus (intro w hSw; (try dsimp only at hSw); (first | (go_simp; done) | (go_simp; with_reducible rfl) | with_reducible rfl)))
          (try simp only [Act.put]); (try simp only [List.setIfInBounds_toArray]); (try simp only [List.set_cons_succ]); (try simp only [List.set_cons_zero])
          refine wpAnyH_ready (rs := [10]) (by kernel_rfl) (by simp) (AllReadyH.cons rfl (fun K hK => ?_) AllReadyH.nil)
          refine step_stRD rfl rfl 32 (.tmp 16) (.tmp 25) rfl q _ _ rfl rfl bq si_Frame rfl (by first | rfl | (simp [Value.oneCell']; done)) ?_
          intro wS bs gS
          have zS := gS.size
          have n2 : ∀ p, b2 = some p → p.block ≠ q := fun p hp => by have := o2.lt p hp; have := u2 p hp; omega
          have n5 : ∀ p, b5 = some p → p.block ≠ q := fun p hp => by have := o5.lt p hp; have := u5 p hp; omega
          have n6 := fun (p : Addr) hp => (show p.block ≠ q by have := o6.lt p hp; have := u6 p hp; omega)
          replace o2 := o2.row gS n2
          replace o5 := o5.row gS n5
          replace o6 := o6.row gS n6
          replace gc := gb_row gc gS lq
          refine hK.out _ _ ?_ (fun hHeld2 => ?_)
          · (try dsimp only)
            exact gc
          clear hK K hHeld
          have hHeld := hHeld2
          clear hHeld2
          (try simp only [Act.put]); (try simp only [List.setIfInBounds_toArray]); (try simp only [List.set_cons_succ]); (try simp only [List.set_cons_zero])
          refine wpAnyH_done (by kernel_rfl) ?_ _
          (try dsimp only)
          refine ⟨q, b2, m2, d2, b5, m5, d5, b6, ?_, gb_trans G gc, (by omega), bz.keep0 gc, bs, o2.mono (by omega), o5.rd, o6.mono (by omega), n2, n6⟩
          clear n2 n6
          exact rfl
      · refine step_alD rfl (some 16) rfl 32 _ rfl al_Frame ?_
        intro q wQ hq bq gQ
        have lq := Nat.le_trans gc.size hq
        have yq := bq.lt
        have zQ := gQ.size
        (try replace o2 := o2.keep0 gQ)
        (try replace o5 := o5.keep0 gQ)
        (try replace o6 := o6.keep0 gQ)
        replace gc := gb_trans gc gQ
        refine hK.out _ _ ?_ (fun hHeld2 => ?_)
        · (try dsimp only)
          exact gc
        clear hK K hHeld
        have hHeld := hHeld2
        clear hHeld2
        (try simp only [Act.put]); (try simp only [List.setIfInBounds_toArray]); (try simp only [List.set_cons_succ]); (try simp only [List.set_cons_zero])
        refine wpAnyH_ready (rs := [2]) (by kernel_rfl) (by simp) (AllReadyH.cons rfl (fun K hK => ?_) AllReadyH.nil)
        go_simp
        go_at_call 35
        (with_reducible refine (impl_clone a2 n2 c2 l2 _ (r2.keep0 (gb_trans G gc)) (by omega)).mono ?_)
        rintro e wA ⟨b2, m2, d2, rfl, o2, gA⟩
        have u2 := fun p hp => (o2.lt p hp).2
        have zA := gA.size
        have yA := gc.size
        (try replace o6 := o6.keep0 gA)
        (try replace bq := bq.keep0 gA)
        replace gc := gb_trans gc gA
        go_wp2_with fail
        refine hK.out _ _ ?_ (fun hHeld2 => ?_)
        · (try dsimp only)
          exact gc
        clear hK K hHeld
        have hHeld := hHeld2
        clear hHeld2
        (try simp only [Act.put]); (try simp only [List.setIfInBounds_toArray]); (try simp only [List.set_cons_succ]); (try simp only [List.set_cons_zero])
        refine wpAnyH_ready (rs := [6]) (by kernel_rfl) (by simp) (AllReadyH.cons rfl (fun K hK => ?_) AllReadyH.nil)
        go_simp
        go_at_call 35
        (with_reducible refine (impl_clone a6 n6 c6 l6 _ (r6.keep0 (gb_trans G gc)) (by omega)).mono ?_)
        rintro e wB ⟨b5, m5, d5, rfl, o5, gB⟩
        have u5 := fun p hp => (o5.lt p hp).2
        have zB := gB.size
        have yB := gc.size
        (try replace o6 := o6.keep0 gB)
        (try replace o2 := o2.keep0 gB)
        (try replace bq := bq.keep0 gB)
        replace gc := gb_trans gc gB
        go_wp2_with fail
        refine hK.out _ _ ?_ (fun hHeld2 => ?_)
        · (try dsimp only)
          exact gc
        clear hK K hHeld
        have hHeld := hHeld2
        clear hHeld2
        (try simp only [Act.put]); (try simp only [List.setIfInBounds_toArray]); (try simp only [List.set_cons_succ]); (try simp only [List.set_cons_zero])
        refine wpAnyH_takeD (i := 8) (some 25) (v := ?_) rfl rfl (by kernel_rfl) (by kernel_rfl) (by kernel_rfl) (fun _ _ _ h => h) (Or.inl ⟨by rfl, ?_⟩) (by assumption) ?_
        rotate_left
        (focus (intro w hSw; (try dsimp only at hSw); (first | (go_simp; done) | (go_simp; with_reducible rfl) | with_reducible rfl)))
        (try simp only [Act.put]); (try simp only [List.setIfInBounds_toArray]); (try simp only [List.set_cons_succ]); (try simp only [List.set_cons_zero])
        refine wpAnyH_ready (rs := [10]) (by kernel_rfl) (by simp) (AllReadyH.cons rfl (fun K hK => ?_) AllReadyH.nil)
        refine step_stRD rfl rfl 32 (.tmp 16) (.tmp 25) rfl q _ _ rfl rfl bq si_Frame rfl (by first | rfl | (simp [Value.oneCell']; done)) ?_
        intro wS bs gS
        have zS := gS.size
        have n2 : ∀ p, b2 = some p → p.block ≠ q := fun p hp => by have := o2.lt p hp; have := u2 p hp; omega
        have n5 : ∀ p, b5 = some p → p.block ≠ q := fun p hp => by have := o5.lt p hp; have := u5 p hp; omega
        have n6 := fun (p : Addr) hp => (show p.block ≠ q by have := o6.lt p hp; have := u6 p hp; omega)
        replace o2 := o2.row gS n2
        replace o5 := o5.row gS n5
        replace o6 := o6.row gS n6
        replace gc := gb_row gc gS lq
        refine hK.out _ _ ?_ (fun hHeld2 => ?_)
        · (try dsimp only)
          exact gc
        clear hK K hHeld
        have hHeld := hHeld2
        clear hHeld2
        (try simp only [Act.put]); (try simp only [List.setIfInBounds_toArray]); (try simp only [List.set_cons_succ]); (try simp only [List.set_cons_zero])
        refine wpAnyH_done (by kernel_rfl) ?_ _
        (try dsimp only)
        refine ⟨q, b2, m2, d2, b5, m5, d5, b6, ?_, gb_trans G gc, (by omega), bz.keep0 gc, bs, o2.mono (by omega), o5.rd, o6.mono (by omega), n2, n6⟩
        clear n2 n6
        exact rfl
    · refine step_alD rfl (some 16) rfl 32 _ rfl al_Frame ?_
      intro q wQ hq bq gQ
      have lq := Nat.le_trans gc.size hq
      have yq := bq.lt
      have zQ := gQ.size
      (try replace o2 := o2.keep0 gQ)
      (try replace o5 := o5.keep0 gQ)
      (try replace o6 := o6.keep0 gQ)
      replace gc := gb_trans gc gQ
      refine hK.out _ _ ?_ (fun hHeld2 => ?_)
      · (try dsimp only)
        exact gc
      clear hK K hHeld
      have hHeld := hHeld2
      clear hHeld2
      (try simp only [Act.put]); (try simp only [List.setIfInBounds_toArray]); (try simp only [List.set_cons_succ]); (try simp only [List.set_cons_zero])
      refine wpAnyH_ready (rs := [2, 7]) (by kernel_rfl) (by simp) (AllReadyH.cons rfl (fun K hK => ?_) (AllReadyH.cons rfl (fun K hK => ?_) AllReadyH.nil))
      · go_simp
        go_at_call 35
        (with_reducible refine (impl_clone a2 n2 c2 l2 _ (r2.keep0 (gb_trans G gc)) (by omega)).mono ?_)
        rintro e wA ⟨b2, m2, d2, rfl, o2, gA⟩
        have u2 := fun p hp => (o2.lt p hp).2
        have zA := gA.size
        have yA := gc.size
        (try replace o6 := o6.keep0 gA)
        (try replace bq := bq.keep0 gA)
        replace gc := gb_trans gc gA
        go_wp2_with fail
        refine hK.out _ _ ?_ (fun hHeld2 => ?_)
        · (try dsimp only)
          exact gc
        clear hK K hHeld
        have hHeld := hHeld2
        clear hHeld2
        (try simp only [Act.put]); (try simp only [List.setIfInBounds_toArray]); (try simp only [List.set_cons_succ]); (try simp only [List.set_cons_zero])
        refine wpAnyH_ready (rs := [6, 7]) (by kernel_rfl) (by simp) (AllReadyH.cons rfl (fun K hK => ?_) (AllReadyH.cons rfl (fun K hK => ?_) AllReadyH.nil))
        · go_simp
          go_at_call 35
          (with_reducible refine (impl_clone a6 n6 c6 l6 _ (r6.keep0 (gb_trans G gc)) (by omega)).mono ?_)
          rintro e wB ⟨b5, m5, d5, rfl, o5, gB⟩
          have u5 := fun p hp => (o5.lt p hp).2
          have zB := gB.size
          have yB := gc.size
          (try replace o6 := o6.keep0 gB)
          (try replace o2 := o2.keep0 gB)
          (try replace bq := bq.keep0 gB)
          replace gc := gb_trans gc gB
          go_wp2_with fail
          refine hK.out _ _ ?_ (fun hHeld2 => ?_)
          · (try dsimp only)
            exact gc
          clear hK K hHeld
          have hHeld := hHeld2
          clear hHeld2
          (try simp only [Act.put]); (try simp only [List.setIfInBounds_toArray]); (try simp only [List.set_cons_succ]); (try simp only [List.set_cons_zero])
          refine wpAnyH_ready (rs := [7]) (by kernel_rfl) (by simp) (AllReadyH.cons rfl (fun K hK => ?_) AllReadyH.nil)
          refine step_mkBD rfl (some 24) rfl _ _ rfl 16 rfl rfl (by decide) ?_
          intro b6 wM o6 gM
          have u6 := fun p hp => (o6.lt p hp).2
          have zM := gM.size
          have yM := gc.size
          (try replace o2 := o2.keep0 gM)
          (try replace o5 := o5.keep0 gM)
          (try replace bq := bq.keep0 gM)
          replace gc := gb_trans gc gM
          refine hK.out _ _ ?_ (fun hHeld2 => ?_)
          · (try dsimp only)
            exact gc
          clear hK K hHeld
          have hHeld := hHeld2
          clear hHeld2
          (try simp only [Act.put]); (try simp only [List.setIfInBounds_toArray]); (try simp only [List.set_cons_succ]); (try simp only [List.set_cons_zero])
          refine wpAnyH_takeD (i := 8) (some 25) (v := ?_) rfl rfl (by kernel_rfl) (by kernel_rfl) (by kernel_rfl) (fun _ _ _ h => h) (Or.inl ⟨by rfl, ?_⟩) (by assumption) ?_
          rotate_left
          (focus (intro w hSw; (try dsimp only at hSw); (first | (go_simp; done) | (go_simp; with_reducible rfl) | with_reducible rfl)))
          (try simp only [Act.put]); (try simp only [List.setIfInBounds_toArray]); (try simp only [List.set_cons_succ]); (try simp only [List.set_cons_zero])
          refine wpAnyH_ready (rs := [10]) (by kernel_rfl) (by simp) (AllReadyH.cons rfl (fun K hK => ?_) AllReadyH.nil)
          refine step_stRD rfl rfl 32 (.tmp 16) (.tmp 25) rfl q _ _ rfl rfl bq si_Frame rfl (by first | rfl | (simp [Value.oneCell']; done)) ?_
          intro wS bs gS
          have zS := gS.size
          have n2 : ∀ p, b2 = some p → p.block ≠ q := fun p hp => by have := o2.lt p hp; have := u2 p hp; omega
          have n5 : ∀ p, b5 = some p → p.block ≠ q := fun p hp => by have := o5.lt p hp; have := u5 p hp; omega
          have n6 := fun (p : Addr) hp => (show p.block ≠ q by have := o6.lt p hp; have := u6 p hp; omega)
          replace o2 := o2.row gS n2
          replace o5 := o5.row gS n5
          replace o6 := o6.row gS n6
          replace gc := gb_row gc gS lq
          refine hK.out _ _ ?_ (fun hHeld2 => ?_)
          · (try dsimp only)
            exact gc
          clear hK K hHeld
          have hHeld := hHeld2
          clear hHeld2
          (try simp only [Act.put]); (try simp only [List.setIfInBounds_toArray]); (try simp only [List.set_cons_succ]); (try simp only [List.set_cons_zero])
          refine wpAnyH_done (by kernel_rfl) ?_ _
          (try dsimp only)
          refine ⟨q, b2, m2, d2, b5, m5, d5, b6, ?_, gb_trans G gc, (by omega), bz.keep0 gc, bs, o2.mono (by omega), o5.rd, o6.mono (by omega), n2, n6⟩
          clear n2 n6
          exact rfl
        · refine step_mkBD rfl (some 24) rfl _ _ rfl 16 rfl rfl (by decide) ?_
          intro b6 wM o6 gM
          have u6 := fun p hp => (o6.lt p hp).2
          have zM := gM.size
          have yM := gc.size
          (try replace o2 := o2.keep0 gM)
          (try replace o5 := o5.keep0 gM)
          (try replace bq := bq.keep0 gM)
          replace gc := gb_trans gc gM
          refine hK.out _ _ ?_ (fun hHeld2 => ?_)
          · (try dsimp only)
            exact gc
          clear hK K hHeld
          have hHeld := hHeld2
          clear hHeld2
          (try simp only [Act.put]); (try simp only [List.setIfInBounds_toArray]); (try simp only [List.set_cons_succ]); (try simp only [List.set_cons_zero])
          refine wpAnyH_ready (rs := [6]) (by kernel_rfl) (by simp) (AllReadyH.cons rfl (fun K hK => ?_) AllReadyH.nil)
          go_simp
          go_at_call 35
          (with_reducible refine (impl_clone a6 n6 c6 l6 _ (r6.keep0 (gb_trans G gc)) (by omega)).mono ?_)
          rintro e wB ⟨b5, m5, d5, rfl, o5, gB⟩
          have u5 := fun p hp => (o5.lt p hp).2
          have zB := gB.size
          have yB := gc.size
          (try replace o6 := o6.keep0 gB)
          (try replace o2 := o2.keep0 gB)
          (try replace bq := bq.keep0 gB)
          replace gc := gb_trans gc gB
          go_wp2_with fail
          refine hK.out _ _ ?_ (fun hHeld2 => ?_)
          · (try dsimp only)
            exact gc
          clear hK K hHeld
          have hHeld := hHeld2
          clear hHeld2
          (try simp only [Act.put]); (try simp only [List.setIfInBounds_toArray]); (try simp only [List.set_cons_succ]); (try simp only [List.set_cons_zero])
          refine wpAnyH_takeD (i := 8) (some 25) (v := ?_) rfl rfl (by kernel_rfl) (by kernel_rfl) (by kernel_rfl) (fun _ _ _ h => h) (Or.inl ⟨by rfl, ?_⟩) (by assumption) ?_
          rotate_left
          (focus (intro w hSw; (try dsimp only at hSw); (first | (go_simp; done) | (go_simp; with_reducible rfl) | with_reducible rfl)))
          (try simp only [Act.put]); (try simp only [List.setIfInBounds_toArray]); (try simp only [List.set_cons_succ]); (try simp only [List.set_cons_zero])
          refine wpAnyH_ready (rs := [10]) (by kernel_rfl) (by simp) (AllReadyH.cons rfl (fun K hK => ?_) AllReadyH.nil)
          refine step_stRD rfl rfl 32 (.tmp 16) (.tmp 25) rfl q _ _ rfl rfl bq si_Frame rfl (by first | rfl | (simp [Value.oneCell']; done)) ?_
          intro wS bs gS
          have zS := gS.size
          have n2 : ∀ p, b2 = some p → p.block ≠ q := fun p hp => by have := o2.lt p hp; have := u2 p hp; omega
          have n5 : ∀ p, b5 = some p → p.block ≠ q := fun p hp => by have := o5.lt p hp; have := u5 p hp; omega
          have n6 := fun (p : Addr) hp => (show p.block ≠ q by have := o6.lt p hp; have := u6 p hp; omega)
          replace o2 := o2.row gS n2
          replace o5 := o5.row gS n5
          replace o6 := o6.row gS n6
          replace gc := gb_row gc gS lq
          refine hK.out _ _ ?_ (fun hHeld2 => ?_)
          · (try dsimp only)
            exact gc
          clear hK K hHeld
          have hHeld := hHeld2
          clear hHeld2
          (try simp only [Act.put]); (try simp only [List.setIfInBounds_toArray]); (try simp only [List.set_cons_succ]); (try simp only [List.set_cons_zero])
          refine wpAnyH_done (by kernel_rfl) ?_ _
          (try dsimp only)
          refine ⟨q, b2, m2, d2, b5, m5, d5, b6, ?_, gb_trans G gc, (by omega), bz.keep0 gc, bs, o2.mono (by omega), o5.rd, o6.mono (by omega), n2, n6⟩
          clear n2 n6
          exact rfl
      · refine step_mkBD rfl (some 24) rfl _ _ rfl 16 rfl rfl (by decide) ?_
        intro b6 wM o6 gM
        have u6 := fun p hp => (o6.lt p hp).2
        have zM := gM.size
        have yM := gc.size
        (try replace o2 := o2.keep0 gM)
        (try replace o5 := o5.keep0 gM)
        (try replace bq := bq.keep0 gM)
        replace gc := gb_trans gc gM
        refine hK.out _ _ ?_ (fun hHeld2 => ?_)
        · (try dsimp only)
          exact gc
        clear hK K hHeld
        have hHeld := hHeld2
        clear hHeld2
        (try simp only [Act.put]); (try simp only [List.setIfInBounds_toArray]); (try simp only [List.set_cons_succ]); (try simp only [List.set_cons_zero])
        refine wpAnyH_ready (rs := [2]) (by kernel_rfl) (by simp) (AllReadyH.cons rfl (fun K hK => ?_) AllReadyH.nil)
        go_simp
        go_at_call 35
        (with_reducible refine (impl_clone a2 n2 c2 l2 _ (r2.keep0 (gb_trans G gc)) (by omega)).mono ?_)
        rintro e wA ⟨b2, m2, d2, rfl, o2, gA⟩
        have u2 := fun p hp => (o2.lt p hp).2
        have zA := gA.size
        have yA := gc.size
        (try replace o6 := o6.keep0 gA)
        (try replace bq := bq.keep0 gA)
        replace gc := gb_trans gc gA
        go_wp2_with fail
        refine hK.out _ _ ?_ (fun hHeld2 => ?_)
        · (try dsimp only)
          exact gc
        clear hK K hHeld
        have hHeld := hHeld2
        clear hHeld2
        (try simp only [Act.put]); (try simp only [List.setIfInBounds_toArray]); (try simp only [List.set_cons_succ]); (try simp only [List.set_cons_zero])
        refine wpAnyH_ready (rs := [6]) (by kernel_rfl) (by simp) (AllReadyH.cons rfl (fun K hK => ?_) AllReadyH.nil)
        go_simp
        go_at_call 35
        (with_reducible refine (impl_clone a6 n6 c6 l6 _ (r6.keep0 (gb_trans G gc)) (by omega)).mono ?_)
        rintro e wB ⟨b5, m5, d5, rfl, o5, gB⟩
        have u5 := fun p hp => (o5.lt p hp).2
        have zB := gB.size
        have yB := gc.size
        (try replace o6 := o6.keep0 gB)
        (try replace o2 := o2.keep0 gB)
        (try replace bq := bq.keep0 gB)
        replace gc := gb_trans gc gB
        go_wp2_with fail
        refine hK.out _ _ ?_ (fun hHeld2 => ?_)
        · (try dsimp only)
          exact gc
        clear hK K hHeld
        have hHeld := hHeld2
        clear hHeld2
        (try simp only [Act.put]); (try simp only [List.setIfInBounds_toArray]); (try simp only [List.set_cons_succ]); (try simp only [List.set_cons_zero])
        refine wpAnyH_takeD (i := 8) (some 25) (v := ?_) rfl rfl (by kernel_rfl) (by kernel_rfl) (by kernel_rfl) (fun _ _ _ h => h) (Or.inl ⟨by rfl, ?_⟩) (by assumption) ?_
        rotate_left
        (focus (intro w hSw; (try dsimp only at hSw); (first | (go_simp; done) | (go_simp; with_reducible rfl) | with_reducible rfl)))
        (try simp only [Act.put]); (try simp only [List.setIfInBounds_toArray]); (try simp only [List.set_cons_succ]); (try simp only [List.set_cons_zero])
        refine wpAnyH_ready (rs := [10]) (by kernel_rfl) (by simp) (AllReadyH.cons rfl (fun K hK => ?_) AllReadyH.nil)
        refine step_stRD rfl rfl 32 (.tmp 16) (.tmp 25) rfl q _ _ rfl rfl bq si_Frame rfl (by first | rfl | (simp [Value.oneCell']; done)) ?_
        intro wS bs gS
        have zS := gS.size
        have n2 : ∀ p, b2 = some p → p.block ≠ q := fun p hp => by have := o2.lt p hp; have := u2 p hp; omega
        have n5 : ∀ p, b5 = some p → p.block ≠ q := fun p hp => by have := o5.lt p hp; have := u5 p hp; omega
        have n6 := fun (p : Addr) hp => (show p.block ≠ q by have := o6.lt p hp; have := u6 p hp; omega)
        replace o2 := o2.row gS n2
        replace o5 := o5.row gS n5
        replace o6 := o6.row gS n6
        replace gc := gb_row gc gS lq
        refine hK.out _ _ ?_ (fun hHeld2 => ?_)
        · (try dsimp only)
          exact gc
        clear hK K hHeld
        have hHeld := hHeld2
        clear hHeld2
        (try simp only [Act.put]); (try simp only [List.setIfInBounds_toArray]); (try simp only [List.set_cons_succ]); (try simp only [List.set_cons_zero])
        refine wpAnyH_done (by kernel_rfl) ?_ _
        (try dsimp only)
        refine ⟨q, b2, m2, d2, b5, m5, d5, b6, ?_, gb_trans G gc, (by omega), bz.keep0 gc, bs, o2.mono (by omega), o5.rd, o6.mono (by omega), n2, n6⟩
        clear n2 n6
        exact rfl
  case rest =>
    rintro q b2 m2 d2 b5 m5 d5 b6 w1 ⟨G1, lq, B0, Bq, o2, o5, o6, nq, nq6⟩
    have kz := fun o => B0.cell o
    have kq := fun o => Bq.cell o
    have f0 := fun o => B0.frozen o
    have fq := fun o => Bq.frozen o
    have lt0 := B0.lt
    have ltq := Bq.lt
    have hR := Lib.hid (sealF_R (kind := x5) (epoch := x3) (seq := x4) o2.rd o5 o6.rd)
    have E := Lib.hid (show sealB l0 x1 l2 x3 x4 x5 l6 = (((n0 : Int) == 32) && (roleB x1 && (sealedB x5 && frOk (sealF x5 l2 x3 x4 l6 z16)))) by rw [sealB, e0.out])
    cases h1 : ((n0 : Int) == 32)
    · have E2 : sealB l0 x1 l2 x3 x4 x5 l6 = false := by rw [E.out]; simp [*]
      obtain rfl : RB = false := hRB.out.trans E2
      obtain rfl : RF = zeroF := hRF.out.trans (sealM_f E2)
      clear E2
      have h1' : ((n0 : Int) != 32) = true := by rw [bne, h1]; rfl
      go_wp2_with (first | (go_at_call 52; refine (impl_isRole _ _).mono ?_; rintro e w' ⟨rfl, rfl⟩) | (go_at_call 53; refine (impl_Sealed _ _).mono ?_; rintro e w' ⟨rfl, rfl⟩))
      refine bodyPost_ret (v := .tuple #[.agg #[.int .i64 0, .int .i64 0, .slice none 0 0, .slice none 0 0, .int .i64 0, .slice none 0 0, .slice none 0 0, .int .i64 0, .int .i64 0, .slice none 0 0, .slice none 0 0], .bool false]) (by simp [results, Tryz.results27, go_sem, kz]) rfl ⟨_, rfl, frameO_zero _ _ _, ?_⟩
      repeat (first | with_reducible exact G1 | (refine gb_set ?_ (.inl ?_) _; rotate_left; focus (first | (simp; done) | (simp; omega))))
    have h1' : ((n0 : Int) != 32) = false := by rw [bne, h1]; rfl
    cases h2 : roleB x1
    · have E2 : sealB l0 x1 l2 x3 x4 x5 l6 = false := by rw [E.out]; simp [*]
      obtain rfl : RB = false := hRB.out.trans E2
      obtain rfl : RF = zeroF := hRF.out.trans (sealM_f E2)
      clear E2
      go_wp2_with (first | (go_at_call 52; refine (impl_isRole _ _).mono ?_; rintro e w' ⟨rfl, rfl⟩) | (go_at_call 53; refine (impl_Sealed _ _).mono ?_; rintro e w' ⟨rfl, rfl⟩))
      refine bodyPost_ret (v := .tuple #[.agg #[.int .i64 0, .int .i64 0, .slice none 0 0, .slice none 0 0, .int .i64 0, .slice none 0 0, .slice none 0 0, .int .i64 0, .int .i64 0, .slice none 0 0, .slice none 0 0], .bool false]) (by simp [results, Tryz.results27, go_sem, kz]) rfl ⟨_, rfl, frameO_zero _ _ _, ?_⟩
      repeat (first | with_reducible exact G1 | (refine gb_set ?_ (.inl ?_) _; rotate_left; focus (first | (simp; done) | (simp; omega))))
    cases h3 : sealedB x5
    · have E2 : sealB l0 x1 l2 x3 x4 x5 l6 = false := by rw [E.out]; simp [*]
      obtain rfl : RB = false := hRB.out.trans E2
      obtain rfl : RF = zeroF := hRF.out.trans (sealM_f E2)
      clear E2
      go_wp2_with (first | (go_at_call 52; refine (impl_isRole _ _).mono ?_; rintro e w' ⟨rfl, rfl⟩) | (go_at_call 53; refine (impl_Sealed _ _).mono ?_; rintro e w' ⟨rfl, rfl⟩))
      refine bodyPost_ret (v := .tuple #[.agg #[.int .i64 0, .int .i64 0, .slice none 0 0, .slice none 0 0, .int .i64 0, .slice none 0 0, .slice none 0 0, .int .i64 0, .int .i64 0, .slice none 0 0, .slice none 0 0], .bool false]) (by simp [results, Tryz.results27, go_sem, kz]) rfl ⟨_, rfl, frameO_zero _ _ _, ?_⟩
      repeat (first | with_reducible exact G1 | (refine gb_set ?_ (.inl ?_) _; rotate_left; focus (first | (simp; done) | (simp; omega))))
    cases h4 : frOk (sealF x5 l2 x3 x4 l6 z16)
    · have E2 : sealB l0 x1 l2 x3 x4 x5 l6 = false := by rw [E.out]; simp [*]
      obtain rfl : RB = false := hRB.out.trans E2
      obtain rfl : RF = zeroF := hRF.out.trans (sealM_f E2)
      clear E2
      have h4' := Lib.hid h4
      clear h4
      go_wp2_with (first | (go_at_call 52; refine (impl_isRole _ _).mono ?_; rintro e w' ⟨rfl, rfl⟩) | (go_at_call 53; refine (impl_Sealed _ _).mono ?_; rintro e w' ⟨rfl, rfl⟩) | (go_at_call 54; refine (impl_FrameOk _ _ _ hR.out).mono ?_; rw [h4'.out]; rintro e w2 ⟨rfl, g2⟩; have B0' := B0.keep0 g2; have Bq' := Bq.keep0 g2; clear kz kq f0 fq lt0 ltq; have kz := fun o => B0'.cell o; have kq := fun o => Bq'.cell o; have f0 := fun o => B0'.frozen o; have fq := fun o => Bq'.frozen o; have lt0 := B0'.lt; have ltq := Bq'.lt))
      have G2 := gb_trans G1 g2
      refine bodyPost_ret (v := .tuple #[.agg #[.int .i64 0, .int .i64 0, .slice none 0 0, .slice none 0 0, .int .i64 0, .slice none 0 0, .slice none 0 0, .int .i64 0, .int .i64 0, .slice none 0 0, .slice none 0 0], .bool false]) (by simp [results, Tryz.results27, go_sem, kz]) rfl ⟨_, rfl, frameO_zero _ _ _, ?_⟩
      repeat (first | with_reducible exact G2 | (refine gb_set ?_ (.inl ?_) _; rotate_left; focus (first | (simp; done) | (simp; omega))))
    have E2 : sealB l0 x1 l2 x3 x4 x5 l6 = true := by rw [E.out]; simp [*]
    obtain ⟨y0, y2, y6, -, -⟩ := sealB_S E2
    have hl := headM_len x1 l2 x3 x4
    obtain ⟨M, hM⟩ : ∃ M, M = mixM l0 (headM x1 l2 x3 x4) l6 := ⟨_, rfl⟩
    obtain ⟨T, hT⟩ : ∃ T, T = tagM l0 (tagInM x1 (sealF x5 l2 x3 x4 M z16)) := ⟨_, rfl⟩
    have ES : sealM l0 x1 l2 x3 x4 x5 l6 = sealF x5 l2 x3 x4 M T := by rw [sealM, if_pos E2, hT, hM]
    have HI := tagInM_len x1 (sealF x5 l2 x3 x4 M z16)
    obtain rfl : RB = true := hRB.out.trans E2
    obtain rfl : RF = sealF x5 l2 x3 x4 M T := hRF.out.trans ES
    clear ES E2 E
    replace hM := Lib.hid hM
    replace hT := Lib.hid hT
    have e0' := e0.out
    replace h4 := Lib.hid h4
    have lq' : w.heap.size ≤ q := by omega
    have nz : w.heap.size ≠ q := by omega
    have u2 := fun p hp => (o2.lt p hp).2
    go_wp2_with (first
      | (go_at_call 52; refine (impl_isRole _ _).mono ?_; rintro e w' ⟨rfl, rfl⟩) | (go_at_call 53; refine (impl_Sealed _ _).mono ?_; rintro e w' ⟨rfl, rfl⟩)
      | (go_at_call 54; refine (impl_FrameOk _ _ _ hR.out).mono ?_; rw [h4.out]; rintro e w2 ⟨rfl, g2⟩; have B0' := B0.keep0 g2; have Bq' := Bq.keep0 g2; clear kz kq f0 fq lt0 ltq; have kz := fun o => B0'.cell o; have kq := fun o => Bq'.cell o; have f0 := fun o => B0'.frozen o; have fq := fun o => Bq'.frozen o; have lt0 := B0'.lt; have ltq := Bq'.lt)
      | (go_at_call 56; refine (impl_HeadOf x1 a2 n2 c2 l2 x3 x4 _ (r2.keep0 (gb_trans G1 g2))).mono ?_; rintro e w3 ⟨b3, m3, d3, rfl, o3, g3⟩; have e3 := o3.blen; have B0' := B0.keep0 (gb_trans g2 g3); have Bq' := Bq.keep0 (gb_trans g2 g3); clear kz kq f0 fq lt0 ltq; have kz := fun o => B0'.cell o; have kq := fun o => Bq'.cell o; have f0 := fun o => B0'.frozen o; have fq := fun o => Bq'.frozen o; have lt0 := B0'.lt; have ltq := Bq'.lt)
      | (go_at_call 55; refine (impl_Mix a0 n0 c0 l0 b3 m3 d3 _ a6 n6 c6 l6 _ (r0.keep0 (gb_trans (gb_trans G1 g2) g3)) o3.rd (r6.keep0 (gb_trans (gb_trans G1 g2) g3)) (by omega) (by omega) (by omega)).mono ?_; rw [← hM.out]; rintro e w4 ⟨b7, m7, d7, rfl, o7, g4⟩; have k4 := gb_trans (gb_trans g2 g3) g4; have n7 : ∀ p, b7 = some p → p.block ≠ q := (fun p hp => by have := (o7.lt p hp).1; have := Bq.lt; have := g2.size; have := g3.size; omega); have u7 := fun p hp => (o7.lt p hp).2; have B0' := B0.keep0 k4; have Bq' := Bq.keep0 k4; clear kz kq f0 fq lt0 ltq; have kz := fun o => B0'.cell o; have kq := fun o => Bq'.cell o; have f0 := fun o => B0'.frozen o; have fq := fun o => Bq'.frozen o; have lt0 := B0'.lt; have ltq := Bq'.lt)
      | (go_at_call 37; refine (impl_TagInput x1 _ (sealF x5 l2 x3 x4 M z16) _ (sealF_R ((o2.keep0 k4).setO ⟨q, 9, none⟩ (.slice b7 m7 d7) nq).rd (o7.setO ⟨q, 9, none⟩ (.slice b7 m7 d7) n7).rd ((o6.keep0 k4).setO ⟨q, 9, none⟩ (.slice b7 m7 d7) nq6).rd)).mono ?_; rintro e w5 ⟨b8, m8, d8, rfl, o8, g5⟩; have e8 := o8.blen; have B0n := ((B0.keep0 k4).setO ⟨q, 9, none⟩ (.slice b7 m7 d7) nz).keep0 g5; have Bqn : Bx w5 q 32 #[.int .i64 x5, .int .i64 0, .slice none 0 0, .slice b2 m2 d2, .int .i64 0, .slice none 0 0, .slice none 0 0, .int .i64 x3, .int .i64 x4, .slice b7 m7 d7, .slice b6 16 16] := ((Bq.keep0 k4).set 9 (.slice b7 m7 d7)).keep0 g5; clear kz kq f0 fq lt0 ltq; have kz := fun o => B0n.cell o; have kq := fun o => Bqn.cell o; have f0 := fun o => B0n.frozen o; have fq := fun o => Bqn.frozen o; have lt0 := B0n.lt; have ltq := Bqn.lt)
      | (go_at_call 57; refine (impl_Tag a0 n0 c0 l0 b8 m8 d8 _ _ (r0.keep0 (gb_trans (gb_set (gb_trans G1 k4) (.inl lq') _) g5)) o8.rd (by omega) (by omega)).mono ?_; rw [← hT.out]; rintro e w6 ⟨b9, m9, d9, rfl, o9, g6⟩; replace B0n := B0n.keep0 g6; replace Bqn := Bqn.keep0 g6; clear kz kq f0 fq lt0 ltq; have kq := fun o => Bqn.cell o; have fq := fun o => Bqn.frozen o; have lt0 := B0n.lt; have ltq := Bqn.lt)
      | ((with_reducible refine wpList_stR ?hg1x1 32 (.tmp 14) (.tmp 60) ?ho1x1 w.heap.size ?cs1x1 ?old1x1 ?hx1x1 ?hy1x1 ?hb1x1 ?hi1x1 ?hs1x1 ?hc1x1 ?hh1x1); (case ho1x1 => rfl); (case hg1x1 => rfl); (case hx1x1 => rfl); (case hy1x1 => rfl); (case hb1x1 => exact (B0n.setO ⟨q, 10, none⟩ (.slice b9 m9 d9) nz)); (case hi1x1 => exact si_Frame); (case hs1x1 => rfl); (case hc1x1 => (first | rfl | (simp [Value.oneCell']; done))); intro w7 B7 g7; have kz := fun o => B7.cell o; (try simp only [Act.put]); (try simp only [List.setIfInBounds_toArray]); (try simp only [List.set_cons_succ]); (try simp only [List.set_cons_zero])))
    have z2 := g2.size
    have z3 := g3.size
    have z4 := g4.size
    have z5 := g5.size
    have z6 := g6.size
    simp at z5
    have n9 : ∀ p, b9 = some p → p.block ≠ q := fun p hp => by have := (o9.lt p hp).1; have := Bq.lt; omega
    have v2 : ∀ p, b2 = some p → p.block ≠ w.heap.size := fun p hp => by have := (o2.lt p hp).1; omega
    have v7 : ∀ p, b7 = some p → p.block ≠ w.heap.size := fun p hp => by have := (o7.lt p hp).1; have := B0.lt; omega
    have v9 : ∀ p, b9 = some p → p.block ≠ w.heap.size := fun p hp => by have := (o9.lt p hp).1; have := B0.lt; omega
    have G4 := gb_trans G1 k4
    have G7 := gb_row (gb_set (gb_trans (gb_set G4 (.inl lq') _) g5 |> fun h => gb_trans h g6) (.inl lq') _) g7 (Nat.le_refl _)
    have q3 := (gb_trans (gb_trans G1 g2) g3).size
    have q5 : w.heap.size ≤ w5.heap.size := by have := G4.size; omega
    refine bodyPost_ret (v := .tuple #[.agg #[.int .i64 x5, .int .i64 0, .slice none 0 0, .slice b2 m2 d2, .int .i64 0, .slice none 0 0, .slice none 0 0, .int .i64 x3, .int .i64 x4, .slice b7 m7 d7, .slice b9 m9 d9], .bool true]) (by simp [results, Tryz.results27, go_sem, kz]) rfl ⟨_, rfl, frameO_mk (Ow.nil _ _ _) ((((((o2.keep0 k4).setO ⟨q, 9, none⟩ (.slice b7 m7 d7) nq).keep0 g5).keep0 g6).setO ⟨q, 10, none⟩ (.slice b9 m9 d9) nq).row g7 v2 |>.mono (by omega)) (Ow.nil _ _ _) (Ow.nil _ _ _) (((((o7.setO ⟨q, 9, none⟩ (.slice b7 m7 d7) n7).keep0 g5).keep0 g6).setO ⟨q, 10, none⟩ (.slice b9 m9 d9) n7).row g7 v7 |>.mono (by omega)) ((o9.setO ⟨q, 10, none⟩ (.slice b9 m9 d9) n9).row g7 v9 |>.mono (by omega)) (Nat.le_refl _) (dj_nil' _) (dj_nil' _) (dj_nil' _) (dj_nil' _) (dj_nil' _) (dj_nil _) (dj_nil _) ?_ ?_ (dj_nil _) (dj_nil' _) (dj_nil' _) (dj_nil' _) (dj_nil' _) ?_, G7⟩
    · intro p r hp hr; have := u2 p hp; have := (o7.lt r hr).1; omega
    · intro p r hp hr; have := u2 p hp; have := (o9.lt r hr).1; omega
    · intro p r hp hr; have := u7 p hp; have := (o9.lt r hr).1; omega
set_option maxRecDepth 1000000 in
set_option maxHeartbeats 4000000 in
theorem spec_Seal (a0 : Option Addr) (n0 c0 : Nat) (l0 : List UInt8) (x1 : Int) (a2 : Option Addr) (n2 c2 : Nat) (l2 : List UInt8) (x3 x4 x5 : Int) (a6 : Option Addr) (n6 c6 : Nat) (l6 : List UInt8) (w : World) (r0 : Rd w a0 n0 c0 (bys l0)) (r2 : Rd w a2 n2 c2 (bys l2)) (r6 : Rd w a6 n6 c6 (bys l6)) (s2 : l2.length ≤ 1048576) (s6 : l6.length ≤ 1048576) :
    Calls Tryz.prog 33 #[.slice a0 n0 c0, .int .i64 x1, .slice a2 n2 c2, .int .i64 x3, .int .i64 x4, .int .i64 x5, .slice a6 n6 c6] w fun e w' => ∃ v', e = .returned (.tuple #[v', .bool (sealB l0 x1 l2 x3 x4 x5 l6)]) ∧ FrameO w.heap.size w'.heap.size w' v' (sealM l0 x1 l2 x3 x4 x5 l6) ∧ w.grownBy w' none := by
  have e0 := Lib.hid r0.blen
  have e2 := r2.blen
  have e6 := r6.blen
  have G := gb_alloc (gb_refl w) (.cells #[.int .i64 0, .int .i64 0, .slice none 0 0, .slice none 0 0, .int .i64 0, .slice none 0 0, .slice none 0 0, .int .i64 0, .int .i64 0, .slice none 0 0, .slice none 0 0] 32)
  have bz := bx1 w #[.int .i64 0, .int .i64 0, .slice none 0 0, .slice none 0 0, .int .i64 0, .slice none 0 0, .slice none 0 0, .int .i64 0, .int .i64 0, .slice none 0 0, .slice none 0 0] 32
  have kz := fun o => bz.cell o
  have f0 := fun o => bz.frozen o
  have lt0 := bz.lt
  have E := Lib.hid (show sealB l0 x1 l2 x3 x4 x5 l6 = (((n0 : Int) == 32) && (!(((headM x1 l2 x3 x4).length : Int) == 0) && (sealedB x5 && bodyB x5 n6))) by rw [sealB_spec, e0.out, e6])
  cases h1 : ((n0 : Int) == 32)
  · have E2 : sealB l0 x1 l2 x3 x4 x5 l6 = false := by rw [E.out]; simp [*]
    rw [sealM_f E2, E2]
    clear E2
    have h1' : ((n0 : Int) != 32) = true := by rw [bne, h1]; rfl
    go_enter Tryz.func33, Tryz.ntmps33
    go_wp2_with (first | (go_at_call 30; refine (spec_HeadOf x1 a2 n2 c2 l2 x3 x4 _ (r2.keep0 G)).mono ?_; rintro e w1 ⟨b1, m1, d1, rfl, o1, g1⟩; have e1 := o1.blen; have B0' := bz.keep0 g1; clear kz f0 lt0; have kz := fun o => B0'.cell o; have f0 := fun o => B0'.frozen o; have lt0 := B0'.lt) | (go_at_call 31; refine (spec_Sealed _ _).mono ?_; rintro e w' ⟨rfl, rfl⟩) | (go_at_call 32; refine (spec_l7Body _ _ _).mono ?_; rintro e w' ⟨rfl, rfl⟩))
    have G1 := gb_trans G g1
    refine bodyPost_ret (v := .tuple #[.agg #[.int .i64 0, .int .i64 0, .slice none 0 0, .slice none 0 0, .int .i64 0, .slice none 0 0, .slice none 0 0, .int .i64 0, .int .i64 0, .slice none 0 0, .slice none 0 0], .bool false]) (by simp [results, Tryz.results33, go_sem, kz]) rfl ⟨_, rfl, frameO_zero _ _ _, ?_⟩
    repeat (first | with_reducible exact G1 | (refine gb_set ?_ (.inl ?_) _; rotate_left; focus (first | (simp; done) | (simp; omega))))
  have h1' : ((n0 : Int) != 32) = false := by rw [bne, h1]; rfl
  cases hh : (((headM x1 l2 x3 x4).length : Int) == 0)
  rotate_left
  · have E2 : sealB l0 x1 l2 x3 x4 x5 l6 = false := by rw [E.out]; simp [*]
    rw [sealM_f E2, E2]
    clear E2
    have hh' := Lib.hid hh
    clear hh
    go_enter Tryz.func33, Tryz.ntmps33
    go_wp2_with (first | (go_at_call 30; refine (spec_HeadOf x1 a2 n2 c2 l2 x3 x4 _ (r2.keep0 G)).mono ?_; rintro e w1 ⟨b1, m1, d1, rfl, o1, g1⟩; have e1 := o1.blen; have hm : ((m1 : Int) == 0) = true := (by rw [← e1]; exact hh'.out); have B0' := bz.keep0 g1; clear kz f0 lt0; have kz := fun o => B0'.cell o; have f0 := fun o => B0'.frozen o; have lt0 := B0'.lt) | (go_at_call 31; refine (spec_Sealed _ _).mono ?_; rintro e w' ⟨rfl, rfl⟩) | (go_at_call 32; refine (spec_l7Body _ _ _).mono ?_; rintro e w' ⟨rfl, rfl⟩))
    have G1 := gb_trans G g1
    refine bodyPost_ret (v := .tuple #[.agg #[.int .i64 0, .int .i64 0, .slice none 0 0, .slice none 0 0, .int .i64 0, .slice none 0 0, .slice none 0 0, .int .i64 0, .int .i64 0, .slice none 0 0, .slice none 0 0], .bool false]) (by simp [results, Tryz.results33, go_sem, kz]) rfl ⟨_, rfl, frameO_zero _ _ _, ?_⟩
    repeat (first | with_reducible exact G1 | (refine gb_set ?_ (.inl ?_) _; rotate_left; focus (first | (simp; done) | (simp; omega))))
  have hh' := Lib.hid hh
  cases h3 : sealedB x5
  · have E2 : sealB l0 x1 l2 x3 x4 x5 l6 = false := by rw [E.out]; simp [*]
    rw [sealM_f E2, E2]
    clear E2
    clear hh
    go_enter Tryz.func33, Tryz.ntmps33
    go_wp2_with (first | (go_at_call 30; refine (spec_HeadOf x1 a2 n2 c2 l2 x3 x4 _ (r2.keep0 G)).mono ?_; rintro e w1 ⟨b1, m1, d1, rfl, o1, g1⟩; have e1 := o1.blen; have hm : ((m1 : Int) == 0) = false := (by rw [← e1]; exact hh'.out); have B0' := bz.keep0 g1; clear kz f0 lt0; have kz := fun o => B0'.cell o; have f0 := fun o => B0'.frozen o; have lt0 := B0'.lt) | (go_at_call 31; refine (spec_Sealed _ _).mono ?_; rintro e w' ⟨rfl, rfl⟩) | (go_at_call 32; refine (spec_l7Body _ _ _).mono ?_; rintro e w' ⟨rfl, rfl⟩))
    have G1 := gb_trans G g1
    refine bodyPost_ret (v := .tuple #[.agg #[.int .i64 0, .int .i64 0, .slice none 0 0, .slice none 0 0, .int .i64 0, .slice none 0 0, .slice none 0 0, .int .i64 0, .int .i64 0, .slice none 0 0, .slice none 0 0], .bool false]) (by simp [results, Tryz.results33, go_sem, kz]) rfl ⟨_, rfl, frameO_zero _ _ _, ?_⟩
    repeat (first | with_reducible exact G1 | (refine gb_set ?_ (.inl ?_) _; rotate_left; focus (first | (simp; done) | (simp; omega))))
  cases h4 : bodyB x5 n6
  · have E2 : sealB l0 x1 l2 x3 x4 x5 l6 = false := by rw [E.out]; simp [*]
    rw [sealM_f E2, E2]
    clear E2
    clear hh
    go_enter Tryz.func33, Tryz.ntmps33
    go_wp2_with (first | (go_at_call 30; refine (spec_HeadOf x1 a2 n2 c2 l2 x3 x4 _ (r2.keep0 G)).mono ?_; rintro e w1 ⟨b1, m1, d1, rfl, o1, g1⟩; have e1 := o1.blen; have hm : ((m1 : Int) == 0) = false := (by rw [← e1]; exact hh'.out); have B0' := bz.keep0 g1; clear kz f0 lt0; have kz := fun o => B0'.cell o; have f0 := fun o => B0'.frozen o; have lt0 := B0'.lt) | (go_at_call 31; refine (spec_Sealed _ _).mono ?_; rintro e w' ⟨rfl, rfl⟩) | (go_at_call 32; refine (spec_l7Body _ _ _).mono ?_; rintro e w' ⟨rfl, rfl⟩))
    have G1 := gb_trans G g1
    refine bodyPost_ret (v := .tuple #[.agg #[.int .i64 0, .int .i64 0, .slice none 0 0, .slice none 0 0, .int .i64 0, .slice none 0 0, .slice none 0 0, .int .i64 0, .int .i64 0, .slice none 0 0, .slice none 0 0], .bool false]) (by simp [results, Tryz.results33, go_sem, kz]) rfl ⟨_, rfl, frameO_zero _ _ _, ?_⟩
    repeat (first | with_reducible exact G1 | (refine gb_set ?_ (.inl ?_) _; rotate_left; focus (first | (simp; done) | (simp; omega))))
  have E2 : sealB l0 x1 l2 x3 x4 x5 l6 = true := by rw [E.out]; simp [*]
  obtain ⟨y0, y2, y6, -, -⟩ := sealB_S E2
  have hl := headM_len x1 l2 x3 x4
  obtain ⟨M, hM⟩ : ∃ M, M = mixM l0 (headM x1 l2 x3 x4) l6 := ⟨_, rfl⟩
  obtain ⟨T, hT⟩ : ∃ T, T = tagM l0 (tagInM x1 (sealF x5 l2 x3 x4 M z16)) := ⟨_, rfl⟩
  have ES : sealM l0 x1 l2 x3 x4 x5 l6 = sealF x5 l2 x3 x4 M T := by rw [sealM, if_pos E2, hT, hM]
  have HI := tagInM_len x1 (sealF x5 l2 x3 x4 M z16)
  rw [ES, E2]
  clear ES E2 E hh
  replace hM := Lib.hid hM
  replace hT := Lib.hid hT
  have e0' := e0.out
  go_enter Tryz.func33, Tryz.ntmps33
  go_wp2_with (first
    | (go_at_call 31; refine (spec_Sealed _ _).mono ?_; rintro e w' ⟨rfl, rfl⟩) | (go_at_call 32; refine (spec_l7Body _ _ _).mono ?_; rintro e w' ⟨rfl, rfl⟩)
    | (go_at_call 30; refine (spec_HeadOf x1 a2 n2 c2 l2 x3 x4 _ (r2.keep0 G)).mono ?_; rintro e w1 ⟨b1, m1, d1, rfl, o1, g1⟩; have e1 := o1.blen; have hm : ((m1 : Int) == 0) = false := (by rw [← e1]; exact hh'.out); have B0' := bz.keep0 g1; clear kz f0 lt0; have kz := fun o => B0'.cell o; have f0 := fun o => B0'.frozen o; have lt0 := B0'.lt)
    | (at_builtin; refine wpList_appB rfl (.tmp 46) (.tmp 47) rfl w1.heap.size _ _ _ [] rfl (new_own' _ _ w1.heap.size rfl) _ _ _ l2 rfl (r2.keep0 (gb_trans G (gb_alloc g1 _))) (by rw [List.length_nil]; omega) (by first | (simp; done) | (simp; omega)) ?_; intro b2 m2 d2 w2 o2 g2; rw [List.nil_append] at o2; have k2 := gb_app (gb_alloc g1 _) (new_own' _ _ w1.heap.size rfl) g1.size g2; have u2 := fun p hp => (o2.lt p hp).2; have B0' := bz.keep0 k2; clear kz f0 lt0; have kz := fun o => B0'.cell o; have f0 := fun o => B0'.frozen o; have lt0 := B0'.lt)
    | (go_at_call 62; refine (spec_Mix a0 n0 c0 l0 b1 m1 d1 _ a6 n6 c6 l6 _ (r0.keep0 (gb_trans G k2)) ((o1.keep0 (gb_alloc (gb_refl _) _)).keep (row := some w1.heap.size) g2 (fun p hp e => by have := (o1.lt p hp).2; simp at e; omega)).rd (r6.keep0 (gb_trans G k2)) (by omega) (by omega) (by omega)).mono ?_; rw [← hM.out]; rintro e w3 ⟨b7, m7, d7, rfl, o7, g3⟩; have k3 := gb_trans k2 g3; have u7 := fun p hp => (o7.lt p hp).2; have B0' := bz.keep0 k3; clear kz f0 lt0; have kz := fun o => B0'.cell o; have f0 := fun o => B0'.frozen o; have lt0 := B0'.lt)
    | ((with_reducible refine wpList_al ?hg1x2 32 _ ?ho1x2 al_Frame ?hh1x2); (case ho1x2 => rfl); (case hg1x2 => rfl); intro q w4 hq Bq g4; have k4 := gb_trans k3 g4; have lq := Nat.le_trans k3.size hq; have B0' := bz.keep0 k4; clear kz f0 lt0; have kz := fun o => B0'.cell o; have f0 := fun o => B0'.frozen o; have lt0 := B0'.lt; (try simp only [Act.put]); (try simp only [List.setIfInBounds_toArray]); (try simp only [List.set_cons_succ]); (try simp only [List.set_cons_zero]))
    | ((with_reducible refine wpList_stR ?hg2x3 32 (.tmp 17) (.tmp 55) ?ho2x3 q ?cs2x3 ?old2x3 ?hx2x3 ?hy2x3 ?hb2x3 ?hi2x3 ?hs2x3 ?hc2x3 ?hh2x3); (case ho2x3 => rfl); (case hg2x3 => rfl); (case hx2x3 => rfl); (case hy2x3 => rfl); (case hb2x3 => exact Bq); (case hi2x3 => exact si_Frame); (case hs2x3 => rfl); (case hc2x3 => (first | rfl | (simp [Value.oneCell']; done))); intro w5 B5 g5; (try simp only [Act.put]); (try simp only [List.setIfInBounds_toArray]); (try simp only [List.set_cons_succ]); (try simp only [List.set_cons_zero])))
  have v2 : ∀ p, b2 = some p → p.block ≠ q := fun p hp => by have := u2 p hp; have := g3.size; omega
  have v7 : ∀ p, b7 = some p → p.block ≠ q := fun p hp => by have := u7 p hp; omega
  have Z0 : (w.alloc (.cells #[.int .i64 0, .int .i64 0, .slice none 0 0, .slice none 0 0, .int .i64 0, .slice none 0 0, .slice none 0 0, .int .i64 0, .int .i64 0, .slice none 0 0, .slice none 0 0] 32)).heap.size = w.heap.size + 1 := by first | rfl | (simp; done)
  have q1 : w.heap.size + 1 ≤ q := by omega
  have nz : w.heap.size ≠ q := by omega
  have B0 := (bz.keep0 k4).keepRow g5 (by intro e; cases e; omega)
  have O2 := ((((o2.keep0 g3).keep0 g4).row g5 v2)).mono (B' := w.heap.size + 1) (by have := g1.size; omega)
  have O7 := ((o7.keep0 g4).row g5 v7).mono (B' := w.heap.size + 1) (by have := k2.size; omega)
  have G5 : w.grownBy w5 none := gb_row (gb_trans G k4) g5 (by omega)
  have L2 := fun p hp => (O2.lt p hp).2
  have L7 := fun p hp => (O7.lt p hp).2
  have z5 := B5.lt
  have hd27 : dj b2 b7 := by intro p r hp hr; have := u2 p hp; have := (o7.lt r hr).1; omega
  have hq2 := v2
  have hq7 := v7
  clear u2 u7 kz f0 lt0 o1 o2 o7
  clear g1 g2 g3 g4 g5 k2 k3 k4 v2 v7 bz G
  go_loopw [18] (fun i wr => ∃ (k : Nat) (a : Option Addr) (c : Nat), i = .int .i64 (k : Int) ∧ k ≤ 16 ∧ w.grownBy wr none ∧ w5.heap.size ≤ wr.heap.size ∧ Bx wr w.heap.size 32 #[.int .i64 0, .int .i64 0, .slice none 0 0, .slice none 0 0, .int .i64 0, .slice none 0 0, .slice none 0 0, .int .i64 0, .int .i64 0, .slice none 0 0, .slice none 0 0] ∧ Bx wr q 32 #[.int .i64 x5, .int .i64 0, .slice none 0 0, .slice b2 m2 d2, .int .i64 0, .slice none 0 0, .slice none 0 0, .int .i64 x3, .int .i64 x4, .slice b7 m7 d7, .slice a k c] ∧
    Ow w5.heap.size wr 5 a k c (bys (List.replicate k 0)) ∧ Ow (w.heap.size + 1) wr 5 b2 m2 d2 (bys l2) ∧ Ow (w.heap.size + 1) wr 5 b7 m7 d7 (bys M)) (fun i _ => 16 - (intOf i).toNat)
  case atStart => exact ⟨0, none, 0, rfl, by omega, G5, Nat.le_refl _, B0, B5, Ow.nil _ _ _, O2, O7⟩
  case round =>
    clear B0 B5 O2 O7 G5
    obtain ⟨k, a, c, rfl, hk, G5, zr, B0, Bq, oa, O2, O7⟩ := hrel
    have kz := fun o => B0.cell o
    have kq := fun o => Bq.cell o
    have f0 := fun o => B0.frozen o
    have fq := fun o => Bq.frozen o
    have lt0 := B0.lt
    have ltq := Bq.lt
    by_cases hlt : k < 16
    · have rA : ∀ b : Nat, b < w5.heap.size → a.map (·.block) ≠ some b := by
        intro b hb e
        obtain ⟨p, hp, h9⟩ := rowOf e
        have := (oa.lt p hp).1
        omega
      go_wp2_with (at_builtin; refine wpList_appB rfl (.tmp 61) (.tmp 62) rfl w5.heap.size a k c (List.replicate k 0) rfl (oa.keep0 (gb_alloc (gb_refl _) _)) _ 1 1 [0] rfl (new_bys wr _ #[.int .u8 0] [0] rfl) (by simp; omega) (by simp; omega) ?_; intro a9 n9 c9 w9 o9 g9; have B0n := (B0.old (.cells #[.int .u8 0] 5)).keepRow g9 (rA _ (by omega)); have Bqn := (Bq.old (.cells #[.int .u8 0] 5)).keepRow g9 (rA _ z5); have e9 := o9.blen; clear kz kq f0 fq lt0 ltq; have kz := fun o => B0n.cell o; have kq := fun o => Bqn.cell o; have f0 := fun o => B0n.frozen o; have fq := fun o => Bqn.frozen o; have lt0 := B0n.lt; have ltq := Bqn.lt)
      have z9 := g9.size
      simp only [World.size_alloc] at z9
      simp only [List.length_append, List.length_replicate, List.length_singleton] at e9
      subst e9
      have nq : ∀ p, a9 = some p → p.block ≠ q := fun p hp => by have := (o9.lt p hp).1; omega
      have GG : w.grownBy w9 none := gb_transr (gb_alloc G5 _) g9 (fun g hg => .inl (by obtain ⟨p, hp, h9⟩ := rowOf hg; have := (oa.lt p hp).1; omega))
      refine ⟨⟨k + 1, a9, c9, by go_num, by omega, gb_set GG (p := ⟨q, 10, none⟩) (.inl (by simp only; omega)) _, by simp [World.setCell]; omega, B0n.setO ⟨q, 10, none⟩ _ nz, Bqn.set 10 _, ?_, ?_, ?_⟩, by simp [intOf]; omega⟩
      · rw [List.replicate_succ']
        exact o9.setO ⟨q, 10, none⟩ _ nq
      · exact ((O2.keep0 (gb_alloc (gb_refl _) _)).keep g9 (fun p hp e => rA _ (L2 p hp) e.symm)).setO ⟨q, 10, none⟩ _ (hq2)
      · exact ((O7.keep0 (gb_alloc (gb_refl _) _)).keep g9 (fun p hp e => rA _ (L7 p hp) e.symm)).setO ⟨q, 10, none⟩ _ (hq7)
    · obtain rfl : k = 16 := by omega
      have hR := Lib.hid (sealF_R (kind := x5) (epoch := x3) (seq := x4) O2.rd O7.rd oa.rd)
      go_wp2_with (first
        | (go_at_call 44; refine (spec_TagInput x1 _ (sealF x5 l2 x3 x4 M z16) _ hR.out).mono ?_; rintro e wa ⟨b8, m8, d8, rfl, o8, ga⟩; have e8 := o8.blen; have B0n := B0.keep0 ga; have Bqn := Bq.keep0 ga; clear kz kq f0 fq lt0 ltq; have kz := fun o => B0n.cell o; have kq := fun o => Bqn.cell o; have f0 := fun o => B0n.frozen o; have fq := fun o => Bqn.frozen o; have lt0 := B0n.lt; have ltq := Bqn.lt)
        | (go_at_call 63; refine (spec_Tag a0 n0 c0 l0 b8 m8 d8 _ _ (r0.keep0 (gb_trans G5 ga)) o8.rd (by omega) (by omega)).mono ?_; rw [← hT.out]; rintro e wb ⟨b9, m9, d9, rfl, o9, gb⟩; replace B0n := B0n.keep0 gb; replace Bqn := Bqn.keep0 gb; clear kz kq f0 fq lt0 ltq; have kq := fun o => Bqn.cell o; have fq := fun o => Bqn.frozen o; have lt0 := B0n.lt; have ltq := Bqn.lt)
        | ((with_reducible refine wpList_stR ?hg9x4 32 (.tmp 14) (.tmp 71) ?ho9x4 w.heap.size ?cs9x4 ?old9x4 ?hx9x4 ?hy9x4 ?hb9x4 ?hi9x4 ?hs9x4 ?hc9x4 ?hh9x4); (case ho9x4 => rfl); (case hg9x4 => rfl); (case hx9x4 => rfl); (case hy9x4 => rfl); (case hb9x4 => exact (B0n.setO ⟨q, 10, none⟩ (.slice b9 m9 d9) nz)); (case hi9x4 => exact si_Frame); (case hs9x4 => rfl); (case hc9x4 => (first | rfl | (simp [Value.oneCell']; done))); intro wc B7 gc; have kz := fun o => B7.cell o; (try simp only [Act.put]); (try simp only [List.setIfInBounds_toArray]); (try simp only [List.set_cons_succ]); (try simp only [List.set_cons_zero])))
      have za := ga.size
      have zb := gb.size
      have n9 : ∀ p, b9 = some p → p.block ≠ q := fun p hp => by have := (o9.lt p hp).1; omega
      have v2 : ∀ p, b2 = some p → p.block ≠ w.heap.size := fun p hp => by have := (O2.lt p hp).1; omega
      have v7 : ∀ p, b7 = some p → p.block ≠ w.heap.size := fun p hp => by have := (O7.lt p hp).1; omega
      have v9 : ∀ p, b9 = some p → p.block ≠ w.heap.size := fun p hp => by have := (o9.lt p hp).1; omega
      have G7 := gb_row (gb_set (gb_trans (gb_trans G5 ga) gb) (.inl (show w.heap.size ≤ (⟨q, 10, none⟩ : Addr).block by simp only; omega)) (.slice b9 m9 d9)) gc (Nat.le_refl _)
      refine bodyPost_ret (v := .tuple #[.agg #[.int .i64 x5, .int .i64 0, .slice none 0 0, .slice b2 m2 d2, .int .i64 0, .slice none 0 0, .slice none 0 0, .int .i64 x3, .int .i64 x4, .slice b7 m7 d7, .slice b9 m9 d9], .bool true]) (by simp [results, Tryz.results33, go_sem, kz]) rfl ⟨_, rfl, frameO_mk (Ow.nil _ _ _) (((((O2.keep0 ga).keep0 gb).setO ⟨q, 10, none⟩ (.slice b9 m9 d9) hq2).row gc v2) |>.mono (by omega)) (Ow.nil _ _ _) (Ow.nil _ _ _) (((((O7.keep0 ga).keep0 gb).setO ⟨q, 10, none⟩ (.slice b9 m9 d9) hq7).row gc v7) |>.mono (by omega)) (((o9.setO ⟨q, 10, none⟩ (.slice b9 m9 d9) n9).row gc v9) |>.mono (by omega)) (Nat.le_refl _) (dj_nil' _) (dj_nil' _) (dj_nil' _) (dj_nil' _) (dj_nil' _) (dj_nil _) (dj_nil _) hd27 ?_ (dj_nil _) (dj_nil' _) (dj_nil' _) (dj_nil' _) (dj_nil' _) ?_, G7⟩
      · intro p r hp hr; have := L2 p hp; have := (o9.lt r hr).1; omega
      · intro p r hp hr; have := L7 p hp; have := (o9.lt r hr).1; omega
end Go.Proofs.YtpfchphgbhgmmaaGreat
