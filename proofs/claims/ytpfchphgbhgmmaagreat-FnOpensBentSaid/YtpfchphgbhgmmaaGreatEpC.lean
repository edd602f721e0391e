/-
  Contracts of the two copiers of an epoch. Conditions: none beside those that each theorem names.
-/
import Derived.Test.YtpfchphgbhgmmaaGreatWinC
import Derived.Test.YtpfchphgbhgmmaaGreatBytes
import Derived.Test.YtpfchphgbhgmmaaGreatCell
import Derived.Deep.RegionHeld3
namespace Go.Proofs.YtpfchphgbhgmmaaGreat
open Go.RowKit
section
variable {w : World}
theorem run_b0 (w : World) : (Instr.buildSlice 22 0 #[]).run Tryz.prog w = .ok (.slice (some ⟨w.heap.size, 0, none⟩) 0 0) (w.alloc (.cells #[] 5)) := by kernel_rfl
/-- an empty slice of bytes made inside a region that draws its order -/
theorem step_b0 {ops : Array Oper} {o : Oper} {ac : Act} {K : Act → World → Prop} {Q : Exit → Act → World → Prop} {E : Prop} (hgd : o.guard = none) (ho : o.op = .buildSlice 22 0 #[])
    (h : ∀ a' w', Ow w.heap.size w' 5 a' 0 0 (bys []) → w.grownBy w' none → K (ac.put o.dst (.slice a' 0 0)) w') :
    if Region.wanted o (yielded ops ac.tmps) = true then Oper.wp Tryz.prog o ac w K Q else E := by
  have hw : Region.wanted o (yielded ops ac.tmps) = true := by simp [Region.wanted, hgd]
  rw [if_pos hw]
  unfold Oper.wp execOp
  simp only [ho, Sem.run_bind, Sem.run_pure, Result.andThen_ok, List.map_toArray, List.map_nil, run_b0]
  exact h _ _ (new_ownB w #[] [] rfl (by simp)) (gb_alloc (gb_refl w) _)
end
theorem EpR.mk {w : World} {n seq top : Int} {a1 : Option Addr} {n1 c1 : Nat} {key : List UInt8} {a2 : Option Addr} {n2 c2 : Nat} {bits : List Int} (h1 : Rd w a1 n1 c1 (bys key)) (h2 : Rd w a2 n2 c2 (ins bits)) :
    EpR w (.agg #[.int .i64 n, .slice a1 n1 c1, .int .i64 seq, .int .i64 top, .slice a2 n2 c2]) ⟨n, key, seq, ⟨top, bits⟩⟩ := ⟨_, _, _, _, _, _, rfl, h1, h2⟩
set_option maxRecDepth 1000000 in
set_option maxHeartbeats 4000000 in
theorem impl_copyEp (v : Value) (f : EpM) (w : World) (h : EpR w v f) (hk : f.key.length ≤ 1048576) (hn : f.win.bits.length ≤ 1048576) :
    Calls Tryz.prog 26 #[v] w fun e w' => ∃ v', e = .returned v' ∧ EpO w.heap.size w'.heap.size w' v' f ∧ w.grownBy w' none := by
  obtain ⟨a1, n1, c1, a2, n2, c2, rfl, r1, r2⟩ := h
  obtain ⟨en, l1, es, ⟨et, l2⟩⟩ := f
  simp only at r1 r2 hk hn
  have hk1 : n1 ≤ 1048576 := by have := r1.blen; omega
  have G := gb_alloc (gb_alloc (gb_refl w) (.cells #[.int .i64 en, .slice a1 n1 c1, .int .i64 es, .int .i64 et, .slice a2 n2 c2] 28)) (.cells #[.int .i64 0, .slice none 0 0, .int .i64 0, .int .i64 0, .slice none 0 0] 28)
  have bb := bx2 w #[.int .i64 en, .slice a1 n1 c1, .int .i64 es, .int .i64 et, .slice a2 n2 c2] #[.int .i64 0, .slice none 0 0, .int .i64 0, .int .i64 0, .slice none 0 0] 28 28
  have b1x := bx1 w #[.int .i64 en, .slice a1 n1 c1, .int .i64 es, .int .i64 et, .slice a2 n2 c2] 28
  have KX : Hid (∀ w', (w.alloc (.cells #[.int .i64 en, .slice a1 n1 c1, .int .i64 es, .int .i64 et, .slice a2 n2 c2] 28)).grownBy w' none → (w'.cell? ⟨w.heap.size, 0, none⟩ = some (.int .i64 en) ∧ w'.cell? ⟨w.heap.size, 1, none⟩ = some (.slice a1 n1 c1) ∧ w'.cell? ⟨w.heap.size, 2, none⟩ = some (.int .i64 es) ∧ w'.cell? ⟨w.heap.size, 3, none⟩ = some (.int .i64 et) ∧ w'.cell? ⟨w.heap.size, 4, none⟩ = some (.slice a2 n2 c2) ∧ (w.alloc (.cells #[.int .i64 en, .slice a1 n1 c1, .int .i64 es, .int .i64 et, .slice a2 n2 c2] 28)).grownBy w' none)) := fun w' hg => ⟨(b1x.keep0 hg).cell 0, (b1x.keep0 hg).cell 1, (b1x.keep0 hg).cell 2, (b1x.keep0 hg).cell 3, (b1x.keep0 hg).cell 4, hg⟩
  have GA := gb_alloc (gb_refl (w.alloc (.cells #[.int .i64 en, .slice a1 n1 c1, .int .i64 es, .int .i64 et, .slice a2 n2 c2] 28))) (.cells #[.int .i64 0, .slice none 0 0, .int .i64 0, .int .i64 0, .slice none 0 0] 28)
  go_enter Tryz.func26, Tryz.ntmps26
  go_wp2_with fail
  have gc := gb_drew (gb_refl ((w.alloc (.cells #[.int .i64 en, .slice a1 n1 c1, .int .i64 es, .int .i64 et, .slice a2 n2 c2] 28)).alloc (.cells #[.int .i64 0, .slice none 0 0, .int .i64 0, .int .i64 0, .slice none 0 0] 28)))
  have zD : (World.drew ((w.alloc (.cells #[.int .i64 en, .slice a1 n1 c1, .int .i64 es, .int .i64 et, .slice a2 n2 c2] 28)).alloc (.cells #[.int .i64 0, .slice none 0 0, .int .i64 0, .int .i64 0, .slice none 0 0] 28))).heap.size = w.heap.size + 2 := by first | rfl | (simp; done)
  have zW : (w.alloc (.cells #[.int .i64 en, .slice a1 n1 c1, .int .i64 es, .int .i64 et, .slice a2 n2 c2] 28)).heap.size = w.heap.size + 1 := by first | rfl | (simp; done)
  have zE : ((w.alloc (.cells #[.int .i64 en, .slice a1 n1 c1, .int .i64 es, .int .i64 et, .slice a2 n2 c2] 28)).alloc (.cells #[.int .i64 0, .slice none 0 0, .int .i64 0, .int .i64 0, .slice none 0 0] 28)).heap.size = w.heap.size + 2 := by first | rfl | (simp; done)
  have bq := bb.2.drew
  refine wp_region_held_drew (S := (fun w' => w'.cell? ⟨w.heap.size, 0, none⟩ = some (.int .i64 en) ∧ w'.cell? ⟨w.heap.size, 1, none⟩ = some (.slice a1 n1 c1) ∧ w'.cell? ⟨w.heap.size, 2, none⟩ = some (.int .i64 es) ∧ w'.cell? ⟨w.heap.size, 3, none⟩ = some (.int .i64 et) ∧ w'.cell? ⟨w.heap.size, 4, none⟩ = some (.slice a2 n2 c2) ∧ (w.alloc (.cells #[.int .i64 en, .slice a1 n1 c1, .int .i64 es, .int .i64 et, .slice a2 n2 c2] 28)).grownBy w' none)) (by kernel_rfl) ?_ (fun hHeld => ?_)
  · (try dsimp only)
    refine KX.out _ ?_; first | exact gb_trans GA gc | exact gs
  refine wpAnyH_takeD (i := 0) (some 3) (v := ?_) rfl rfl (by kernel_rfl) (by kernel_rfl) (by kernel_rfl) (fun _ _ _ h => h) (Or.inl ⟨by rfl, ?_⟩) (by assumption) ?_
  rotate_left
  (focus (intro w hSw; (try dsimp only at hSw); (first | (go_simp; done) | (go_simp; with_reducible rfl) | with_reducible rfl)))
  (try simp only [Act.put]); (try simp only [List.setIfInBounds_toArray]); (try simp only [List.set_cons_succ]); (try simp only [List.set_cons_zero])
  refine wpAnyH_takeD (i := 1) (some 4) (v := ?_) rfl rfl (by kernel_rfl) (by kernel_rfl) (by kernel_rfl) (fun _ _ _ h => h) (Or.inl ⟨by rfl, ?_⟩) (by assumption) ?_
  rotate_left
  (focus (intro w hSw; (try dsimp only at hSw); (first | (go_simp; done) | (go_simp; with_reducible rfl) | with_reducible rfl)))
  (try simp only [Act.put]); (try simp only [List.setIfInBounds_toArray]); (try simp only [List.set_cons_succ]); (try simp only [List.set_cons_zero])
  refine wpAnyH_takeD (i := 2) (some 5) (v := ?_) rfl rfl (by kernel_rfl) (by kernel_rfl) (by kernel_rfl) (fun _ _ _ h => h) (Or.inl ⟨by rfl, ?_⟩) (by assumption) ?_
  rotate_left
  (focus (intro w hSw; (try dsimp only at hSw); (first | (go_simp; done) | (go_simp; with_reducible rfl) | with_reducible rfl)))
  (try simp only [Act.put]); (try simp only [List.setIfInBounds_toArray]); (try simp only [List.set_cons_succ]); (try simp only [List.set_cons_zero])
  refine wpAnyH_takeD (i := 3) (some 6) (v := ?_) rfl rfl (by kernel_rfl) (by kernel_rfl) (by kernel_rfl) (fun _ _ _ h => h) (Or.inl ⟨by rfl, ?_⟩) (by assumption) ?_
  rotate_left
  (focus (intro w hSw; (try dsimp only at hSw); (first | (go_simp; done) | (go_simp; with_reducible rfl) | with_reducible rfl)))
  (try simp only [Act.put]); (try simp only [List.setIfInBounds_toArray]); (try simp only [List.set_cons_succ]); (try simp only [List.set_cons_zero])
  refine wpAnyH_takeD (i := 5) (some 8) (v := ?_) rfl rfl (by kernel_rfl) (by kernel_rfl) (by kernel_rfl) (fun _ _ _ h => h) (Or.inl ⟨by rfl, ?_⟩) (by assumption) ?_
  rotate_left
  (focus (intro w hSw; (try dsimp only at hSw); (first | (go_simp; done) | (go_simp; with_reducible rfl) | with_reducible rfl)))
  (try simp only [Act.put]); (try simp only [List.setIfInBounds_toArray]); (try simp only [List.set_cons_succ]); (try simp only [List.set_cons_zero])
  refine wpAnyH_takeD (i := 6) (some 9) (v := ?_) rfl rfl (by kernel_rfl) (by kernel_rfl) (by kernel_rfl) (fun _ _ _ h => h) (Or.inl ⟨by rfl, ?_⟩) (by assumption) ?_
  rotate_left
  (focus (intro w hSw; (try dsimp only at hSw); (first | (go_simp; done) | (go_simp; with_reducible rfl) | with_reducible rfl)))
  (try simp only [Act.put]); (try simp only [List.setIfInBounds_toArray]); (try simp only [List.set_cons_succ]); (try simp only [List.set_cons_zero])
  refine wpAnyH_takeD (i := 7) (some 10) (v := ?_) rfl rfl (by kernel_rfl) (by kernel_rfl) (by kernel_rfl) (fun _ _ _ h => h) (Or.inl ⟨by rfl, ?_⟩) (by assumption) ?_
  rotate_left
  (focus (intro w hSw; (try dsimp only at hSw); (first | (go_simp; done) | (go_simp; with_reducible rfl) | with_reducible rfl)))
  (try simp only [Act.put]); (try simp only [List.setIfInBounds_toArray]); (try simp only [List.set_cons_succ]); (try simp only [List.set_cons_zero])
  refine wpAnyH_takeD (i := 8) (some 11) (v := ?_) rfl rfl (by kernel_rfl) (by kernel_rfl) (by kernel_rfl) (fun _ _ _ h => h) (Or.inl ⟨by rfl, ?_⟩) (by assumption) ?_
  rotate_left
  (focus (intro w hSw; (try dsimp only at hSw); (first | (go_simp; done) | (go_simp; with_reducible rfl) | with_reducible rfl)))
  (try simp only [Act.put]); (try simp only [List.setIfInBounds_toArray]); (try simp only [List.set_cons_succ]); (try simp only [List.set_cons_zero])
  refine wpAnyH_ready (rs := [4]) (by kernel_rfl) (by simp) (AllReadyH.cons rfl (fun K hK => ?_) AllReadyH.nil)
  go_simp
  go_at_call 35
  refine (impl_clone a1 n1 c1 l1 _ (r1.keep0 (gb_trans G gc)) (by omega)).mono ?_
  rintro e wA ⟨b1, m1, d1, rfl, o1, gA⟩
  have u1 := fun p hp => (o1.lt p hp).2
  have zA := gA.size
  replace bq := bq.keep0 gA
  replace gc := gb_trans gc gA
  go_wp2_with fail
  refine hK.out _ _ ?_ (fun hHeld2 => ?_)
  · (try dsimp only)
    refine KX.out _ ?_; first | exact gb_trans GA gc | exact gs
  clear hK K hHeld
  have hHeld := hHeld2
  clear hHeld2
  (try simp only [Act.put]); (try simp only [List.setIfInBounds_toArray]); (try simp only [List.set_cons_succ]); (try simp only [List.set_cons_zero])
  refine wpAnyH_ready (rs := [9]) (by kernel_rfl) (by simp) (AllReadyH.cons rfl (fun K hK => ?_) AllReadyH.nil)
  go_simp
  go_at_call 51
  refine (impl_copyWin _ ⟨et, l2⟩ _ ⟨_, _, _, rfl, r2.keep0 (gb_trans G gc)⟩ (Nat.le_trans hn (by decide))).mono ?_
  rintro e wB ⟨v9, rfl, o9, gB⟩
  obtain ⟨b2, m2, d2, rfl, o2, u2⟩ := o9
  have nd : dj b1 b2 := (by intro p q hp hq; have := u1 p hp; have := (o2.lt q hq).1; omega)
  have zB := gB.size
  replace bq := bq.keep0 gB
  replace o1 := o1.keep0 gB
  replace gc := gb_trans gc gB
  go_wp2_with fail
  refine hK.out _ _ ?_ (fun hHeld2 => ?_)
  · (try dsimp only)
    refine KX.out _ ?_; first | exact gb_trans GA gc | exact gs
  clear hK K hHeld
  have hHeld := hHeld2
  clear hHeld2
  (try simp only [Act.put]); (try simp only [List.setIfInBounds_toArray]); (try simp only [List.set_cons_succ]); (try simp only [List.set_cons_zero])
  refine wpAnyH_takeD (i := 10) (some 13) (v := ?_) rfl rfl (by kernel_rfl) (by kernel_rfl) (by kernel_rfl) (fun _ _ _ h => h) (Or.inl ⟨by rfl, ?_⟩) (by assumption) ?_
  rotate_left
  (focus (intro w hSw; (try dsimp only at hSw); (first | (go_simp; done) | (go_simp; with_reducible rfl) | with_reducible rfl)))
  (try simp only [Act.put]); (try simp only [List.setIfInBounds_toArray]); (try simp only [List.set_cons_succ]); (try simp only [List.set_cons_zero])
  refine wpAnyH_ready (rs := [11]) (by kernel_rfl) (by simp) (AllReadyH.cons rfl (fun K hK => ?_) AllReadyH.nil)
  refine step_stRD rfl rfl 28 (.tmp 2) (.tmp 13) rfl (w.heap.size + 1) _ _ rfl rfl bq si_Ep rfl (by first | rfl | (simp [Value.oneCell']; done)) ?_
  intro wS bs gS
  have zS := gS.size
  have gs := gb_row (gb_trans GA gc) gS (by omega)
  have G9 := gb_trans G gc
  have n1' : ∀ p, b1 = some p → p.block ≠ w.heap.size + 1 := fun p hp => by have := o1.lt p hp; omega
  have n2' : ∀ p, b2 = some p → p.block ≠ w.heap.size + 1 := fun p hp => by have := o2.lt p hp; omega
  replace o1 := o1.row gS n1'
  replace o2 := o2.row gS n2'
  refine hK.out _ _ ?_ (fun hHeld2 => ?_)
  · (try dsimp only)
    refine KX.out _ ?_; first | exact gb_trans GA gc | exact gs
  clear hK K hHeld
  have hHeld := hHeld2
  clear hHeld2
  (try simp only [Act.put]); (try simp only [List.setIfInBounds_toArray]); (try simp only [List.set_cons_succ]); (try simp only [List.set_cons_zero])
  refine wpAnyH_done (by kernel_rfl) ?_ _
  (try dsimp only)
  skip
  have kk := fun o => bs.cell o
  go_wp2
  refine bodyPost_ret (v := .agg #[.int .i64 en, .slice b1 m1 d1, .int .i64 es, .int .i64 et, .slice b2 m2 d2]) (by simp [results, Tryz.results26, go_sem, kk]) rfl ⟨_, rfl, ⟨_, _, _, _, _, _, rfl, ⟨o1.mono (by omega), fun p hp => (o1.lt p hp).2⟩, ⟨o2.mono (by omega), fun p hp => (o2.lt p hp).2⟩, ?_⟩, gb_row G9 gS (Nat.le_succ _)⟩
  intro p q hp hq
  exact nd p q hp hq
set_option maxRecDepth 1000000 in
set_option maxHeartbeats 4000000 in
theorem spec_l9Copy (v : Value) (f : EpM) (w : World) (h : EpR w v f) (hk : f.key.length ≤ 1048576) (hn : f.win.bits.length ≤ 1048576) :
    Calls Tryz.prog 28 #[v] w fun e w' => ∃ v', e = .returned v' ∧ EpO w.heap.size w'.heap.size w' v' f ∧ w.grownBy w' none := by
  obtain ⟨a1, n1, c1, a2, n2, c2, rfl, r1, r2⟩ := h
  obtain ⟨en, l1, es, ⟨et, l2⟩⟩ := f
  simp only at r1 r2 hk hn
  have hk1 : n1 ≤ 1048576 := by have := r1.blen; omega
  have G := gb_alloc (gb_alloc (gb_refl w) (.cells #[.int .i64 en, .slice a1 n1 c1, .int .i64 es, .int .i64 et, .slice a2 n2 c2] 28)) (.cells #[.int .i64 0, .slice none 0 0, .int .i64 0, .int .i64 0, .slice none 0 0] 28)
  have bb := bx2 w #[.int .i64 en, .slice a1 n1 c1, .int .i64 es, .int .i64 et, .slice a2 n2 c2] #[.int .i64 0, .slice none 0 0, .int .i64 0, .int .i64 0, .slice none 0 0] 28 28
  have b1x := bx1 w #[.int .i64 en, .slice a1 n1 c1, .int .i64 es, .int .i64 et, .slice a2 n2 c2] 28
  have KX : Hid (∀ w', (w.alloc (.cells #[.int .i64 en, .slice a1 n1 c1, .int .i64 es, .int .i64 et, .slice a2 n2 c2] 28)).grownBy w' none → (w'.cell? ⟨w.heap.size, 0, none⟩ = some (.int .i64 en) ∧ w'.cell? ⟨w.heap.size, 1, none⟩ = some (.slice a1 n1 c1) ∧ w'.cell? ⟨w.heap.size, 2, none⟩ = some (.int .i64 es) ∧ w'.cell? ⟨w.heap.size, 3, none⟩ = some (.int .i64 et) ∧ w'.cell? ⟨w.heap.size, 4, none⟩ = some (.slice a2 n2 c2) ∧ (w.alloc (.cells #[.int .i64 en, .slice a1 n1 c1, .int .i64 es, .int .i64 et, .slice a2 n2 c2] 28)).grownBy w' none)) := fun w' hg => ⟨(b1x.keep0 hg).cell 0, (b1x.keep0 hg).cell 1, (b1x.keep0 hg).cell 2, (b1x.keep0 hg).cell 3, (b1x.keep0 hg).cell 4, hg⟩
  have GA := gb_alloc (gb_refl (w.alloc (.cells #[.int .i64 en, .slice a1 n1 c1, .int .i64 es, .int .i64 et, .slice a2 n2 c2] 28))) (.cells #[.int .i64 0, .slice none 0 0, .int .i64 0, .int .i64 0, .slice none 0 0] 28)
  go_enter Tryz.func28, Tryz.ntmps28
  go_wp2_with fail
  have gc := gb_drew (gb_refl ((w.alloc (.cells #[.int .i64 en, .slice a1 n1 c1, .int .i64 es, .int .i64 et, .slice a2 n2 c2] 28)).alloc (.cells #[.int .i64 0, .slice none 0 0, .int .i64 0, .int .i64 0, .slice none 0 0] 28)))
  have zD : (World.drew ((w.alloc (.cells #[.int .i64 en, .slice a1 n1 c1, .int .i64 es, .int .i64 et, .slice a2 n2 c2] 28)).alloc (.cells #[.int .i64 0, .slice none 0 0, .int .i64 0, .int .i64 0, .slice none 0 0] 28))).heap.size = w.heap.size + 2 := by first | rfl | (simp; done)
  have zW : (w.alloc (.cells #[.int .i64 en, .slice a1 n1 c1, .int .i64 es, .int .i64 et, .slice a2 n2 c2] 28)).heap.size = w.heap.size + 1 := by first | rfl | (simp; done)
  have zE : ((w.alloc (.cells #[.int .i64 en, .slice a1 n1 c1, .int .i64 es, .int .i64 et, .slice a2 n2 c2] 28)).alloc (.cells #[.int .i64 0, .slice none 0 0, .int .i64 0, .int .i64 0, .slice none 0 0] 28)).heap.size = w.heap.size + 2 := by first | rfl | (simp; done)
  have bq := bb.2.drew
  refine wp_region_held_drew (S := (fun w' => w'.cell? ⟨w.heap.size, 0, none⟩ = some (.int .i64 en) ∧ w'.cell? ⟨w.heap.size, 1, none⟩ = some (.slice a1 n1 c1) ∧ w'.cell? ⟨w.heap.size, 2, none⟩ = some (.int .i64 es) ∧ w'.cell? ⟨w.heap.size, 3, none⟩ = some (.int .i64 et) ∧ w'.cell? ⟨w.heap.size, 4, none⟩ = some (.slice a2 n2 c2) ∧ (w.alloc (.cells #[.int .i64 en, .slice a1 n1 c1, .int .i64 es, .int .i64 et, .slice a2 n2 c2] 28)).grownBy w' none)) (by kernel_rfl) ?_ (fun hHeld => ?_)
  · (try dsimp only)
    refine KX.out _ ?_; first | exact gb_trans GA gc | exact gs
  refine wpAnyH_takeD (i := 0) (some 3) (v := ?_) rfl rfl (by kernel_rfl) (by kernel_rfl) (by kernel_rfl) (fun _ _ _ h => h) (Or.inl ⟨by rfl, ?_⟩) (by assumption) ?_
  rotate_left
  (focus (intro w hSw; (try dsimp only at hSw); (first | (go_simp; done) | (go_simp; with_reducible rfl) | with_reducible rfl)))
  (try simp only [Act.put]); (try simp only [List.setIfInBounds_toArray]); (try simp only [List.set_cons_succ]); (try simp only [List.set_cons_zero])
  refine wpAnyH_takeD (i := 1) (some 4) (v := ?_) rfl rfl (by kernel_rfl) (by kernel_rfl) (by kernel_rfl) (fun _ _ _ h => h) (Or.inl ⟨by rfl, ?_⟩) (by assumption) ?_
  rotate_left
  (focus (intro w hSw; (try dsimp only at hSw); (first | (go_simp; done) | (go_simp; with_reducible rfl) | with_reducible rfl)))
  (try simp only [Act.put]); (try simp only [List.setIfInBounds_toArray]); (try simp only [List.set_cons_succ]); (try simp only [List.set_cons_zero])
  refine wpAnyH_takeD (i := 3) (some 6) (v := ?_) rfl rfl (by kernel_rfl) (by kernel_rfl) (by kernel_rfl) (fun _ _ _ h => h) (Or.inl ⟨by rfl, ?_⟩) (by assumption) ?_
  rotate_left
  (focus (intro w hSw; (try dsimp only at hSw); (first | (go_simp; done) | (go_simp; with_reducible rfl) | with_reducible rfl)))
  (try simp only [Act.put]); (try simp only [List.setIfInBounds_toArray]); (try simp only [List.set_cons_succ]); (try simp only [List.set_cons_zero])
  refine wpAnyH_takeD (i := 4) (some 7) (v := ?_) rfl rfl (by kernel_rfl) (by kernel_rfl) (by kernel_rfl) (fun _ _ _ h => h) (Or.inl ⟨by rfl, ?_⟩) (by assumption) ?_
  rotate_left
  (focus (intro w hSw; (try dsimp only at hSw); (first | (go_simp; done) | (go_simp; with_reducible rfl) | with_reducible rfl)))
  (try simp only [Act.put]); (try simp only [List.setIfInBounds_toArray]); (try simp only [List.set_cons_succ]); (try simp only [List.set_cons_zero])
  refine wpAnyH_takeD (i := 6) (some 9) (v := ?_) rfl rfl (by kernel_rfl) (by kernel_rfl) (by kernel_rfl) (fun _ _ _ h => h) (Or.inl ⟨by rfl, ?_⟩) (by assumption) ?_
  rotate_left
  (focus (intro w hSw; (try dsimp only at hSw); (first | (go_simp; done) | (go_simp; with_reducible rfl) | with_reducible rfl)))
  (try simp only [Act.put]); (try simp only [List.setIfInBounds_toArray]); (try simp only [List.set_cons_succ]); (try simp only [List.set_cons_zero])
  refine wpAnyH_takeD (i := 7) (some 10) (v := ?_) rfl rfl (by kernel_rfl) (by kernel_rfl) (by kernel_rfl) (fun _ _ _ h => h) (Or.inl ⟨by rfl, ?_⟩) (by assumption) ?_
  rotate_left
  (focus (intro w hSw; (try dsimp only at hSw); (first | (go_simp; done) | (go_simp; with_reducible rfl) | with_reducible rfl)))
  (try simp only [Act.put]); (try simp only [List.setIfInBounds_toArray]); (try simp only [List.set_cons_succ]); (try simp only [List.set_cons_zero])
  refine wpAnyH_takeD (i := 8) (some 11) (v := ?_) rfl rfl (by kernel_rfl) (by kernel_rfl) (by kernel_rfl) (fun _ _ _ h => h) (Or.inl ⟨by rfl, ?_⟩) (by assumption) ?_
  rotate_left
  (focus (intro w hSw; (try dsimp only at hSw); (first | (go_simp; done) | (go_simp; with_reducible rfl) | with_reducible rfl)))
  (try simp only [Act.put]); (try simp only [List.setIfInBounds_toArray]); (try simp only [List.set_cons_succ]); (try simp only [List.set_cons_zero])
  refine wpAnyH_takeD (i := 9) (some 12) (v := ?_) rfl rfl (by kernel_rfl) (by kernel_rfl) (by kernel_rfl) (fun _ _ _ h => h) (Or.inl ⟨by rfl, ?_⟩) (by assumption) ?_
  rotate_left
  (focus (intro w hSw; (try dsimp only at hSw); (first | (go_simp; done) | (go_simp; with_reducible rfl) | with_reducible rfl)))
  (try simp only [Act.put]); (try simp only [List.setIfInBounds_toArray]); (try simp only [List.set_cons_succ]); (try simp only [List.set_cons_zero])
  refine wpAnyH_ready (rs := [2]) (by kernel_rfl) (by simp) (AllReadyH.cons rfl (fun K hK => ?_) AllReadyH.nil)
  refine step_b0 rfl rfl ?_
  intro a3 w3 o3 g3
  have z3 := g3.size
  replace bq := bq.keep0 g3
  have y3 := gc.size
  replace gc := gb_trans gc g3
  refine hK.out _ _ ?_ (fun hHeld2 => ?_)
  · (try dsimp only)
    refine KX.out _ ?_; first | exact gb_trans GA gc | exact gs
  clear hK K hHeld
  have hHeld := hHeld2
  clear hHeld2
  (try simp only [Act.put]); (try simp only [List.setIfInBounds_toArray]); (try simp only [List.set_cons_succ]); (try simp only [List.set_cons_zero])
  refine wpAnyH_ready (rs := [5]) (by kernel_rfl) (by simp) (AllReadyH.cons rfl (fun K hK => ?_) AllReadyH.nil)
  refine step_appB rfl (.tmp 5) (.tmp 7) rfl ((w.alloc (.cells #[.int .i64 en, .slice a1 n1 c1, .int .i64 es, .int .i64 et, .slice a2 n2 c2] 28)).alloc (.cells #[.int .i64 0, .slice none 0 0, .int .i64 0, .int .i64 0, .slice none 0 0] 28)) _ _ _ _ [] rfl o3 _ _ _ l1 rfl (r1.keep0 (gb_trans G gc)) (by rw [List.length_nil]; omega) gc (by omega) (by omega) ?_
  intro b1 m1 d1 wA o1 gA
  rw [List.nil_append] at o1
  have u1 := fun p hp => (o1.lt p hp).2
  have zA := gA.size
  replace bq := bb.2.keep0 gA
  replace gc := gA
  refine hK.out _ _ ?_ (fun hHeld2 => ?_)
  · (try dsimp only)
    refine KX.out _ ?_; first | exact gb_trans GA gc | exact gs
  clear hK K hHeld
  have hHeld := hHeld2
  clear hHeld2
  (try simp only [Act.put]); (try simp only [List.setIfInBounds_toArray]); (try simp only [List.set_cons_succ]); (try simp only [List.set_cons_zero])
  refine wpAnyH_ready (rs := [10]) (by kernel_rfl) (by simp) (AllReadyH.cons rfl (fun K hK => ?_) AllReadyH.nil)
  go_simp
  go_at_call 58
  refine (spec_l8Copy _ ⟨et, l2⟩ _ ⟨_, _, _, rfl, r2.keep0 (gb_trans G gc)⟩ (Nat.le_trans hn (by decide))).mono ?_
  rintro e wB ⟨v9, rfl, o9, gB⟩
  obtain ⟨b2, m2, d2, rfl, o2, u2⟩ := o9
  have nd : dj b1 b2 := (by intro p q hp hq; have := u1 p hp; have := (o2.lt q hq).1; omega)
  have zB := gB.size
  replace bq := bq.keep0 gB
  replace o1 := o1.keep0 gB
  replace gc := gb_trans gc gB
  go_wp2_with fail
  refine hK.out _ _ ?_ (fun hHeld2 => ?_)
  · (try dsimp only)
    refine KX.out _ ?_; first | exact gb_trans GA gc | exact gs
  clear hK K hHeld
  have hHeld := hHeld2
  clear hHeld2
  (try simp only [Act.put]); (try simp only [List.setIfInBounds_toArray]); (try simp only [List.set_cons_succ]); (try simp only [List.set_cons_zero])
  refine wpAnyH_takeD (i := 11) (some 14) (v := ?_) rfl rfl (by kernel_rfl) (by kernel_rfl) (by kernel_rfl) (fun _ _ _ h => h) (Or.inl ⟨by rfl, ?_⟩) (by assumption) ?_
  rotate_left
  (focus (intro w hSw; (try dsimp only at hSw); (first | (go_simp; done) | (go_simp; with_reducible rfl) | with_reducible rfl)))
  (try simp only [Act.put]); (try simp only [List.setIfInBounds_toArray]); (try simp only [List.set_cons_succ]); (try simp only [List.set_cons_zero])
  refine wpAnyH_ready (rs := [12]) (by kernel_rfl) (by simp) (AllReadyH.cons rfl (fun K hK => ?_) AllReadyH.nil)
  refine step_stRD rfl rfl 28 (.tmp 2) (.tmp 14) rfl (w.heap.size + 1) _ _ rfl rfl bq si_Ep rfl (by first | rfl | (simp [Value.oneCell']; done)) ?_
  intro wS bs gS
  have zS := gS.size
  have gs := gb_row (gb_trans GA gc) gS (by omega)
  have G9 := gb_trans G gc
  have n1' : ∀ p, b1 = some p → p.block ≠ w.heap.size + 1 := fun p hp => by have := o1.lt p hp; omega
  have n2' : ∀ p, b2 = some p → p.block ≠ w.heap.size + 1 := fun p hp => by have := o2.lt p hp; omega
  replace o1 := o1.row gS n1'
  replace o2 := o2.row gS n2'
  refine hK.out _ _ ?_ (fun hHeld2 => ?_)
  · (try dsimp only)
    refine KX.out _ ?_; first | exact gb_trans GA gc | exact gs
  clear hK K hHeld
  have hHeld := hHeld2
  clear hHeld2
  (try simp only [Act.put]); (try simp only [List.setIfInBounds_toArray]); (try simp only [List.set_cons_succ]); (try simp only [List.set_cons_zero])
  refine wpAnyH_done (by kernel_rfl) ?_ _
  (try dsimp only)
  skip
  have kk := fun o => bs.cell o
  go_wp2
  refine bodyPost_ret (v := .agg #[.int .i64 en, .slice b1 m1 d1, .int .i64 es, .int .i64 et, .slice b2 m2 d2]) (by simp [results, Tryz.results28, go_sem, kk]) rfl ⟨_, rfl, ⟨_, _, _, _, _, _, rfl, ⟨o1.mono (by omega), fun p hp => (o1.lt p hp).2⟩, ⟨o2.mono (by omega), fun p hp => (o2.lt p hp).2⟩, ?_⟩, gb_row G9 gS (Nat.le_succ _)⟩
  intro p q hp hq
  exact nd p q hp hq
end Go.Proofs.YtpfchphgbhgmmaaGreat
