/-
  Draws of windows, right or bent. Conditions: none beside those that each theorem names.
-/
import Derived.Test.YtdfdhijbafalaaaDrN
import Derived.Test.YtdfdhijbafalaaaWinF
import Derived.Test.YtdfdhijbafalaaaDrJ
import Derived.Test.YtdfdhijbafalaaaSet1
import Derived.Test.YtdfdhijbafalaaaGet
import Derived.Deep.RegionHeld3
import Derived.Deep.RegionWith
namespace Go.Proofs.Ytdfdhijbafalaaa
open Go.RowKit
theorem run_bZ5 (w : World) : (Instr.buildSlice 24 5 #[(0, .int .i64 (-1)), (1, .int .i64 0), (2, .int .i64 1), (3, .int .i64 4294967295), (4, .int .i64 4294967296)]).run Try.prog w = .ok (.slice (some ⟨w.heap.size, 0, none⟩) 5 5) (w.alloc (.cells #[.int .i64 (-1), .int .i64 0, .int .i64 1, .int .i64 4294967295, .int .i64 4294967296] 3)) := by kernel_rfl
section
variable {w : World} {ops : Array Oper} {o : Oper} {ac : Act} {K : Act → World → Prop} {Q : Exit → Act → World → Prop} {E : Prop}
/-- five numbers laid inside a region that draws its order -/
theorem step_bZ5 (hgd : o.guard = none) (d : Option Tmp) (hd : o.dst = d) (ho : o.op = .buildSlice 24 5 #[(0, .const (.int .i64 (-1))), (1, .const (.int .i64 0)), (2, .const (.int .i64 1)), (3, .const (.int .i64 4294967295)), (4, .const (.int .i64 4294967296))])
    (h : ∀ q w', w.heap.size ≤ q → Rd w' (some ⟨q, 0, none⟩) 5 5 (ins [-1, 0, 1, 4294967295, 4294967296]) → w.grownBy w' none → K (ac.put d (.slice (some ⟨q, 0, none⟩) 5 5)) w') :
    if Region.wanted o (yielded ops ac.tmps) = true then Oper.wp Try.prog o ac w K Q else E := by
  have hw : Region.wanted o (yielded ops ac.tmps) = true := by simp [Region.wanted, hgd]
  rw [if_pos hw]
  subst hd
  have ev : ∀ v, ac.eval (.const v) = v := fun v => rfl
  unfold Oper.wp execOp
  simp only [ho, Sem.run_bind, Sem.run_pure, Result.andThen_ok, List.map_toArray, List.map_cons, List.map_nil, ev, run_bZ5]
  exact h _ _ (Nat.le_refl _) (new_rd w #[.int .i64 (-1), .int .i64 0, .int .i64 1, .int .i64 4294967295, .int .i64 4294967296] _ 5 rfl) (gb_alloc (gb_refl w) _)
/-- one cell of a slice that the call owns -/
theorem step_setS (hgd : o.guard = none) (hd : o.dst = none) (x y : Operand) (ho : o.op = .store 3 x y)
    {B g n c j : Nat} {e : TypeId} {xs : List Value} (u : Value) (hx : ac.eval x = .pointer (some ⟨g, j, none⟩)) (hy : ac.eval y = u) (hb : Ow B w e (some ⟨g, 0, none⟩) n c xs) (hj : j < n) (hu : u.cells = #[u]) (h1 : u.oneCell' = true)
    (h : K ac (w.setCell ⟨g, j, none⟩ u)) : if Region.wanted o (yielded ops ac.tmps) = true then Oper.wp Try.prog o ac w K Q else E := by
  have hw : Region.wanted o (yielded ops ac.tmps) = true := by simp [Region.wanted, hgd]
  rw [if_pos hw]
  obtain ⟨hf, v, hc, -⟩ := hb.at j hj
  have hs := run_storeCells_cells (P := Try.prog) g j [u] 0 w (fun i hi => by
    obtain rfl : i = 0 := by simpa using hi
    simp [hc]) (fun i hi => by
    obtain rfl : i = 0 := by simpa using hi
    simpa using hf) (fun v hv => by simp at hv; subst hv; exact h1)
  have hr : (storeVar 3 ⟨g, j, none⟩ u).run Try.prog w = .ok () (w.setCell ⟨g, j, none⟩ u) := by
    have hi := si_int
    cases hq : Try.prog.info? 3 with
    | none => simp [hq] at hi
    | some i =>
      have hz : i.size = 1 := by simpa [hq] using hi
      simp only [Nat.add_zero] at hs
      simp [storeVar, sizeOf, typeInfo, hq, hu, hz, hs, World.setCells]
  unfold Oper.wp execOp
  simp only [ho, hx, hy, Instr.storeAt, Instr.sureAddr, Sem.run_bind, Sem.run_pure, Result.andThen_ok, hr]
  have hp : ac.put o.dst undef = ac := by rw [hd]; rfl
  rw [← hp] at h
  exact h
/-- the first numbers of a slice, cut inside a region that draws its order -/
theorem step_slZ (hgd : o.guard = none) (d : Option Tmp) (hd : o.dst = d) (x : Operand) (hi : Operand) (ho : o.op = .slice 24 x none (some hi) none)
    (a : Option Addr) (n c k : Nat) (xs : List Value) (hx : ac.eval x = .slice a n c) (hh : ac.eval hi = .int .i64 (k : Int)) (hrd : Rd w a n c xs) (hk : k ≤ n)
    (h : ∀ a' c', Rd w a' k c' (xs.take k) → (∀ p, a' = some p → ∃ q, a = some q ∧ q.block = p.block) → K (ac.put d (.slice a' k c')) w) : if Region.wanted o (yielded ops ac.tmps) = true then Oper.wp Try.prog o ac w K Q else E := by
  have hw : Region.wanted o (yielded ops ac.tmps) = true := by simp [Region.wanted, hgd]
  rw [if_pos hw]
  subst hd
  obtain ⟨i0, hi0, hz0, hz1, hz2⟩ := info_parts inf_int
  have hr := run_sl (P := Try.prog) (w := w) 24 3 i0 Try.underlying24 hi0 hz1 a n c 0 k none (some (.int .i64 (k : Int))) (.inr ⟨rfl, rfl⟩) (.inl ⟨_, rfl⟩) (Nat.zero_le _) (by have := hrd.le; omega)
  unfold Oper.wp execOp
  simp only [ho, Sem.run_bind, Sem.run_pure, Option.map_none, Option.map_some, hx, hh, hr, Result.andThen_ok]
  refine h _ _ ?_ ?_
  · have := hrd.sub 0 k (Nat.zero_le _) hk
    simpa using this
  · intro p hp
    split at hp
    · exact ⟨p, hp, rfl⟩
    · cases a with
      | none => cases hp
      | some q =>
        simp only [Option.map_some, Option.some.injEq] at hp
        subst hp
        refine ⟨q, rfl, ?_⟩
        unfold Addr.add
        split <;> rfl
end
def PWi (B cb : Nat) (w : World) (e : Ending) (w' : World) : Prop := ∃ t a c l, e = .returned (.agg #[.int .i64 t, .slice a 32 c]) ∧ Ow w.heap.size w' 3 a 32 c (ins l) ∧ DE B cb w w'
set_option maxRecDepth 1000000 in
theorem spec_l8Draw (B cb : Nat) (w : World) (h : Cur B w cb) : Calls Try.prog 59 #[.pointer (some ⟨cb, 0, none⟩)] w (PWi B cb w) := by
  have hcb := h.lt
  have D := (DS.start h).box #[.int .i64 0, .slice none 0 0] 27
  go_enter Try.func59, Try.ntmps59
  go_wp2_with (first
    | (go_at_call 33; (with_reducible refine (spec_l8Nums B cb 12 _ D.cur (by decide) (by decide)).mono ?_); rintro e w1 ⟨a2, n2, c2, l2, rfl, N, hm⟩; replace D := D.by ⟨N.cur, N.dr⟩)
    | (go_at_call 68; (refine (spec_WinOf a2 n2 c2 l2 _ N.ow.rd (by omega)).mono ?_); rintro e w2 ⟨v, rfl, o, g⟩; have hz := winOf_tot l2; obtain ⟨⟨t, lb⟩, hf⟩ : ∃ f, f = winOf l2 := ⟨_, rfl⟩; rw [← hf] at o hz; obtain ⟨a3, n3, c3, rfl, o3, u3⟩ := o; simp only [WinM.tot] at hz; obtain rfl : n3 = 32 := o3.rd.ilen.symm.trans hz; have hl2 := (D.bx _ (List.mem_cons_self ..)).1.lt; replace D := D.grow g; clear u3 hf hz; have kc := fun o => DS.cell0 D o; have kf := fun o => DS.frz0 D o; simp only at o3))
  refine bodyPost_ret (v := .agg #[.int .i64 t, .slice a3 32 c3]) (by simp [results, Try.results59, go_sem, kc]) rfl ⟨t, a3, c3, lb, rfl, ?_, ((D.set0 0 _).set0 1 _).de⟩
  exact ((o3.keepSet (by simpa using hl2) _).keepSet (by simpa using hl2) _).mono (Nat.le_of_lt hl2)
theorem Rd.takeY {a : Option Addr} {n c : Nat} {l : List Int} {w : World} (r : Rd w a n c (ins l)) (M : Nat) (h : M ≤ n) : Rd w a M c (ins (l.take M)) := by
  have hl := r.ilen
  refine ⟨by rw [ins_len, List.length_take]; omega, by have := r.le; omega, fun j hj => ?_⟩
  obtain ⟨b, off, e, hc⟩ := r.cells j (by omega)
  exact ⟨b, off, e, by rw [hc, ins, ins, List.getElem?_map, List.getElem?_map, List.getElem?_take, if_pos hj]⟩
def PWd (B cb : Nat) (w : World) (e : Ending) (w' : World) : Prop := ∃ t a n c l, e = .returned (.agg #[.int .i64 t, .slice a n c]) ∧ Rd w' a n c (ins l) ∧ (∀ p, a = some p → w.heap.size ≤ p.block) ∧ n ≤ 32 ∧ DE B cb w w'
/-- the window's variable ahead of the result's: both are laid, the result is read -/
theorem PWd.mk {B cb q q2 : Nat} {w w1 : World} {t : Int} {a : Option Addr} {n c : Nat} {l : List Int} {old : Array Value} (D : DS B cb w w1 [⟨q, 27, #[.int .i64 t, .slice a n c]⟩, ⟨q2, 27, old⟩] []) (r : Rd w1 a n c (ins l)) (ha : ∀ p, a = some p → w.heap.size ≤ p.block ∧ p.block ≠ q2) (hn : n ≤ 32) :
    PWd B cb w (.returned (.agg #[.int .i64 t, .slice a n c])) ((w1.setCell ⟨q2, 0, none⟩ (.int .i64 t)).setCell ⟨q2, 1, none⟩ (.slice a n c)) :=
  ⟨t, a, n, c, l, rfl, (r.keepSet (q := ⟨q2, 0, none⟩) (fun p hp => (ha p hp).2) _).keepSet (q := ⟨q2, 1, none⟩) (fun p hp => (ha p hp).2) _, fun p hp => (ha p hp).1, hn, ((D.set1 0 _).set1 1 _).de⟩
theorem DS.setS {B cb g j : Nat} {w0 w : World} {bs : List Vb} (D : DS B cb w0 w bs []) (hg : w0.heap.size ≤ g) (hb : ∀ b ∈ bs, b.q ≠ g) (u : Value) (hc : cb < w0.heap.size) : DS B cb w0 (w.setCell ⟨g, j, none⟩ u) bs [] :=
  ⟨D.cur.keepI (gbI_set (p := ⟨g, j, none⟩) (gbI.refl g (g + 1) w) (.inr ⟨Nat.le_refl _, Nat.lt_succ_self _⟩) _) (by have := D.lb; omega) (.inl (by omega)), D.lb, D.dr.set (p := ⟨g, j, none⟩) hg _, by simp, fun b h => ⟨(D.bx b h).1.setO _ _ (hb b h), (D.bx b h).2⟩, D.dj⟩
set_option maxRecDepth 1000000 in
set_option maxHeartbeats 4000000 in
theorem spec_l8Any (B cb : Nat) (w : World) (h : Cur B w cb) : Calls Try.prog 38 #[.pointer (some ⟨cb, 0, none⟩)] w (PWd B cb w) := by
  have hcb := h.lt
  have D := (DS.start h).box #[.int .i64 0, .slice none 0 0] 27
  go_enter Try.func38, Try.ntmps38
  go_wp2_with (go_at_call 59; (with_reducible refine (spec_l8Draw B cb _ D.cur).mono ?_); rintro e w1 ⟨t, a, c, l, rfl, o, E⟩; have hl2 := (D.bx _ (List.mem_cons_self ..)).1.lt; have na : ∀ p, a = some p → p.block ≠ w.heap.size := fun p hp => Nat.ne_of_gt (Nat.lt_of_lt_of_le hl2 (o.lt p hp).1); have na2 : ∀ p, a = some p → p.block ≠ w1.heap.size := fun p hp => Nat.ne_of_lt (o.lt p hp).2; replace D := (D.by E).box #[.int .i64 t, .slice a 32 c] 27; replace o := (o.mono (Nat.le_of_lt hl2)).keep0 (gb_alloc (gb_refl _) (.cells #[.int .i64 t, .slice a 32 c] 27)); have hl3 : w.heap.size < w1.heap.size := Nat.lt_of_lt_of_le hl2 E.dr.size; clear E hl2)
  refine d_l1Below (DS.start D.cur) ?_
  intro w2 z hz D2
  replace o := o.keepI D2.de.dr (fun p hp => .inr (by have := (o.lt p hp).1; omega))
  replace D := D.by D2.de
  clear D2 hz
  have ha : ∀ p, a = some p → w.heap.size ≤ p.block ∧ p.block ≠ w.heap.size := fun p hp => ⟨(o.lt p hp).1, na p hp⟩
  cases z0 : ((z : Int) == 0)
  rotate_left
  · have kc := fun o => DS.cell0 D o; have kd := fun o => DS.cell1 D o; have kf := fun o => (D.bx _ (List.mem_cons_self ..)).1.frozen o; have kg := fun o => (D.bx _ (List.mem_cons_of_mem _ (List.mem_cons_self ..))).1.frozen o
    go_wp2_with ((go_at_call 44; (with_reducible refine d_l1Int (DS.start D.cur) ?_ ?_ ?_ ?_ ?_ ?_); (focus (first | rfl | (simp; done))); (focus (exact rfl)); (focus rfl); (focus decide); (focus decide); intro w3 u hi D2; replace o := o.keepI D2.de.dr (fun p hp => .inr (by have := (o.lt p hp).1; omega)); replace D := D.by D2.de; clear D2 hi kc kd kf kg; have kc := fun o => DS.cell0 D o; have kd := fun o => DS.cell1 D o; have kf := fun o => (D.bx _ (List.mem_cons_self ..)).1.frozen o; have kg := fun o => (D.bx _ (List.mem_cons_of_mem _ (List.mem_cons_self ..))).1.frozen o))
    refine bodyPost_ret (v := .agg #[.int .i64 u, .slice a 32 c]) (by simp [results, Try.results38, go_sem, kd]) rfl (PWd.mk (D.set0 0 (.int .i64 u)) (o.rd.keepSet (q := ⟨w1.heap.size, 0, none⟩) na2 _) ha (by decide))
  cases z1 : ((z : Int) == 1)
  rotate_left
  · go_wp2
    obtain ⟨g, rfl⟩ := o.head (by decide)
    have hg := (o.lt _ rfl).1
    have nb : ∀ b ∈ [(⟨w1.heap.size, 27, #[.int .i64 t, .slice (some ⟨g, 0, none⟩) 32 c]⟩ : Vb), ⟨w.heap.size, 27, #[.int .i64 0, .slice none 0 0]⟩], b.q ≠ g := by
      intro b hb
      have h1 := na2 _ rfl
      have h2 := na _ rfl
      simp only [List.mem_cons, List.not_mem_nil, or_false] at hb
      rcases hb with rfl | rfl
      · exact fun e => h1 e.symm
      · exact fun e => h2 e.symm
    replace o := o.drew
    replace D := D.drew
    have kS := DS.cell0 D 1
    refine wp_region_held_drew (S := (fun w' => w'.cell? ⟨w1.heap.size, 1, none⟩ = some (.slice (some ⟨g, 0, none⟩) 32 c))) (by kernel_rfl) ?_ (fun hHeld => ?_)
    · (try dsimp only)
      exact kS
    refine wpAnyH_takeD (i := 0) (some 16) (v := ?_) rfl rfl (by kernel_rfl) (by kernel_rfl) (by kernel_rfl) (fun _ _ _ h => h) (Or.inl ⟨by rfl, ?_⟩) (by assumption) ?_
    rotate_left
    (focus (intro w hSw; (try dsimp only at hSw); (first | (go_simp; done) | (go_simp; with_reducible rfl) | with_reducible rfl)))
    (try simp only [Act.put]); (try simp only [List.setIfInBounds_toArray]); (try simp only [List.set_cons_succ]); (try simp only [List.set_cons_zero])
    refine wpAnyH_takeD (i := 1) (some 17) (v := ?_) rfl rfl (by kernel_rfl) (by kernel_rfl) (by kernel_rfl) (fun _ _ _ h => h) (Or.inl ⟨by rfl, ?_⟩) (by assumption) ?_
    rotate_left
    (focus (intro w hSw; (try dsimp only at hSw); (first | (go_simp; done) | (go_simp; with_reducible rfl) | with_reducible rfl)))
    (try simp only [Act.put]); (try simp only [List.setIfInBounds_toArray]); (try simp only [List.set_cons_succ]); (try simp only [List.set_cons_zero])
    refine wpAnyH_takeD (i := 2) (some 18) (v := ?_) rfl rfl (by kernel_rfl) (by kernel_rfl) (by kernel_rfl) (fun _ _ _ h => h) (Or.inl ⟨by rfl, ?_⟩) (by assumption) ?_
    rotate_left
    (focus (intro w hSw; (try dsimp only at hSw); (first | (go_simp; done) | (go_simp; with_reducible rfl) | with_reducible rfl)))
    (try simp only [Act.put]); (try simp only [List.setIfInBounds_toArray]); (try simp only [List.set_cons_succ]); (try simp only [List.set_cons_zero])
    refine wpAnyH_takeD (i := 4) (some 20) (v := ?_) rfl rfl (by kernel_rfl) (by kernel_rfl) (by kernel_rfl) (fun _ _ _ h => h) (Or.inl ⟨by rfl, ?_⟩) (by assumption) ?_
    rotate_left
    (focus (intro w hSw; (try dsimp only at hSw); (first | (go_simp; done) | (go_simp; with_reducible rfl) | with_reducible rfl)))
    (try simp only [Act.put]); (try simp only [List.setIfInBounds_toArray]); (try simp only [List.set_cons_succ]); (try simp only [List.set_cons_zero])
    refine wpAnyH_ready (rs := [3, 5]) (by kernel_rfl) (by simp) (AllReadyH.cons rfl (fun K hK => ?_) (AllReadyH.cons rfl (fun K hK => ?_) AllReadyH.nil))
    · go_simp
      go_at_call 57
      refine d_l1Below (DS.start D.cur) ?_
      intro w4 i hi D2
      replace o := o.keepI D2.de.dr (fun p hp => .inr (by have := (o.lt p hp).1; omega))
      (try replace rL := rL.keepI D2.de.dr (fun p hp => .inr (by cases hp; exact hcq)))
      replace D := D.by D2.de
      replace kS := DS.cell0 D 1
      clear D2
      have hi9 : i < 32 := by omega
      have hi8 : (i : Int) < 32 := by omega
      have hi7 : (0 : Int) ≤ (i : Int) := by omega
      go_wp2_with fail
      refine hK.out _ _ ?_ (fun hHeld2 => ?_)
      · (try dsimp only)
        exact kS
      clear hK K hHeld
      have hHeld := hHeld2
      clear hHeld2
      (try simp only [Act.put]); (try simp only [List.setIfInBounds_toArray]); (try simp only [List.set_cons_succ]); (try simp only [List.set_cons_zero])
      refine wpAnyH_ready (rs := [5]) (by kernel_rfl) (by simp) (AllReadyH.cons rfl (fun K hK => ?_) AllReadyH.nil)
      refine step_bZ5 rfl (some 21) rfl rfl ?_
      intro q9 w5 hq9 rL g5
      have hcq : cb < q9 := Nat.lt_of_lt_of_le D.cur.lt hq9
      replace o := o.keep0 g5
      replace D := D.grow g5
      replace kS := DS.cell0 D 1
      refine hK.out _ _ ?_ (fun hHeld2 => ?_)
      · (try dsimp only)
        exact kS
      clear hK K hHeld
      have hHeld := hHeld2
      clear hHeld2
      (try simp only [Act.put]); (try simp only [List.setIfInBounds_toArray]); (try simp only [List.set_cons_succ]); (try simp only [List.set_cons_zero])
      refine wpAnyH_ready (rs := [6]) (by kernel_rfl) (by simp) (AllReadyH.cons rfl (fun K hK => ?_) AllReadyH.nil)
      go_simp
      go_at_call 44
      refine (spec_l1Int B cb _ 5 5 _ _ D.cur ⟨rL, fun p hp => by cases hp; exact hcq⟩ (by decide) (by decide)).mono ?_
      rintro e w6 ⟨u, hu, rfl, cu, d⟩
      replace o := o.keepI d (fun p hp => .inr (by have := (o.lt p hp).1; omega))
      replace D := D.by ⟨cu, d⟩
      replace kS := DS.cell0 D 1
      go_wp2_with fail
      refine hK.out _ _ ?_ (fun hHeld2 => ?_)
      · (try dsimp only)
        exact kS
      clear hK K hHeld
      have hHeld := hHeld2
      clear hHeld2
      (try simp only [Act.put]); (try simp only [List.setIfInBounds_toArray]); (try simp only [List.set_cons_succ]); (try simp only [List.set_cons_zero])
      refine wpAnyH_takeD (i := 7) (some 23) (v := ?_) rfl rfl (by kernel_rfl) (by kernel_rfl) (by kernel_rfl) (fun _ _ _ h => h) (Or.inl ⟨by rfl, ?_⟩) (by assumption) ?_
      rotate_left
      (focus (intro w hSw; (try dsimp only at hSw); (first | (go_simp; done) | (go_simp; with_reducible rfl) | with_reducible rfl)))
      (try simp only [Act.put]); (try simp only [List.setIfInBounds_toArray]); (try simp only [List.set_cons_succ]); (try simp only [List.set_cons_zero])
      refine wpAnyH_ready (rs := [8]) (by kernel_rfl) (by simp) (AllReadyH.cons rfl (fun K hK => ?_) AllReadyH.nil)
      refine step_setS rfl rfl (.tmp 23) (.tmp 22) rfl (.int .i64 u) rfl rfl o hi9 rfl rfl ?_
      replace o := o.set i (.int .i64 u)
      rw [ins_set] at o
      replace D := D.setS hg nb (.int .i64 u) hcb (j := i)
      replace kS := DS.cell0 D 1
      refine hK.out _ _ ?_ (fun hHeld2 => ?_)
      · (try dsimp only)
        exact kS
      clear hK K hHeld
      have hHeld := hHeld2
      clear hHeld2
      (try simp only [Act.put]); (try simp only [List.setIfInBounds_toArray]); (try simp only [List.set_cons_succ]); (try simp only [List.set_cons_zero])
      refine wpAnyH_done (by kernel_rfl) ?_ _
      (try dsimp only)
      have kc := fun o => DS.cell0 D o; have kd := fun o => DS.cell1 D o; have kf := fun o => (D.bx _ (List.mem_cons_self ..)).1.frozen o; have kg := fun o => (D.bx _ (List.mem_cons_of_mem _ (List.mem_cons_self ..))).1.frozen o
      go_wp2
      refine bodyPost_ret (v := .agg #[.int .i64 t, .slice (some ⟨g, 0, none⟩) 32 c]) (by simp [results, Try.results38, go_sem, kd]) rfl (PWd.mk D o.rd ha (by decide))
    · refine step_bZ5 rfl (some 21) rfl rfl ?_
      intro q9 w5 hq9 rL g5
      have hcq : cb < q9 := Nat.lt_of_lt_of_le D.cur.lt hq9
      replace o := o.keep0 g5
      replace D := D.grow g5
      replace kS := DS.cell0 D 1
      refine hK.out _ _ ?_ (fun hHeld2 => ?_)
      · (try dsimp only)
        exact kS
      clear hK K hHeld
      have hHeld := hHeld2
      clear hHeld2
      (try simp only [Act.put]); (try simp only [List.setIfInBounds_toArray]); (try simp only [List.set_cons_succ]); (try simp only [List.set_cons_zero])
      refine wpAnyH_ready (rs := [3]) (by kernel_rfl) (by simp) (AllReadyH.cons rfl (fun K hK => ?_) AllReadyH.nil)
      go_simp
      go_at_call 57
      refine d_l1Below (DS.start D.cur) ?_
      intro w4 i hi D2
      replace o := o.keepI D2.de.dr (fun p hp => .inr (by have := (o.lt p hp).1; omega))
      (try replace rL := rL.keepI D2.de.dr (fun p hp => .inr (by cases hp; exact hcq)))
      replace D := D.by D2.de
      replace kS := DS.cell0 D 1
      clear D2
      have hi9 : i < 32 := by omega
      have hi8 : (i : Int) < 32 := by omega
      have hi7 : (0 : Int) ≤ (i : Int) := by omega
      go_wp2_with fail
      refine hK.out _ _ ?_ (fun hHeld2 => ?_)
      · (try dsimp only)
        exact kS
      clear hK K hHeld
      have hHeld := hHeld2
      clear hHeld2
      (try simp only [Act.put]); (try simp only [List.setIfInBounds_toArray]); (try simp only [List.set_cons_succ]); (try simp only [List.set_cons_zero])
      refine wpAnyH_ready (rs := [6]) (by kernel_rfl) (by simp) (AllReadyH.cons rfl (fun K hK => ?_) AllReadyH.nil)
      go_simp
      go_at_call 44
      refine (spec_l1Int B cb _ 5 5 _ _ D.cur ⟨rL, fun p hp => by cases hp; exact hcq⟩ (by decide) (by decide)).mono ?_
      rintro e w6 ⟨u, hu, rfl, cu, d⟩
      replace o := o.keepI d (fun p hp => .inr (by have := (o.lt p hp).1; omega))
      replace D := D.by ⟨cu, d⟩
      replace kS := DS.cell0 D 1
      go_wp2_with fail
      refine hK.out _ _ ?_ (fun hHeld2 => ?_)
      · (try dsimp only)
        exact kS
      clear hK K hHeld
      have hHeld := hHeld2
      clear hHeld2
      (try simp only [Act.put]); (try simp only [List.setIfInBounds_toArray]); (try simp only [List.set_cons_succ]); (try simp only [List.set_cons_zero])
      refine wpAnyH_takeD (i := 7) (some 23) (v := ?_) rfl rfl (by kernel_rfl) (by kernel_rfl) (by kernel_rfl) (fun _ _ _ h => h) (Or.inl ⟨by rfl, ?_⟩) (by assumption) ?_
      rotate_left
      (focus (intro w hSw; (try dsimp only at hSw); (first | (go_simp; done) | (go_simp; with_reducible rfl) | with_reducible rfl)))
      (try simp only [Act.put]); (try simp only [List.setIfInBounds_toArray]); (try simp only [List.set_cons_succ]); (try simp only [List.set_cons_zero])
      refine wpAnyH_ready (rs := [8]) (by kernel_rfl) (by simp) (AllReadyH.cons rfl (fun K hK => ?_) AllReadyH.nil)
      refine step_setS rfl rfl (.tmp 23) (.tmp 22) rfl (.int .i64 u) rfl rfl o hi9 rfl rfl ?_
      replace o := o.set i (.int .i64 u)
      rw [ins_set] at o
      replace D := D.setS hg nb (.int .i64 u) hcb (j := i)
      replace kS := DS.cell0 D 1
      refine hK.out _ _ ?_ (fun hHeld2 => ?_)
      · (try dsimp only)
        exact kS
      clear hK K hHeld
      have hHeld := hHeld2
      clear hHeld2
      (try simp only [Act.put]); (try simp only [List.setIfInBounds_toArray]); (try simp only [List.set_cons_succ]); (try simp only [List.set_cons_zero])
      refine wpAnyH_done (by kernel_rfl) ?_ _
      (try dsimp only)
      have kc := fun o => DS.cell0 D o; have kd := fun o => DS.cell1 D o; have kf := fun o => (D.bx _ (List.mem_cons_self ..)).1.frozen o; have kg := fun o => (D.bx _ (List.mem_cons_of_mem _ (List.mem_cons_self ..))).1.frozen o
      go_wp2
      refine bodyPost_ret (v := .agg #[.int .i64 t, .slice (some ⟨g, 0, none⟩) 32 c]) (by simp [results, Try.results38, go_sem, kd]) rfl (PWd.mk D o.rd ha (by decide))
  cases z2 : ((z : Int) == 2)
  rotate_left
  · have kc := fun o => DS.cell0 D o; have kd := fun o => DS.cell1 D o; have kf := fun o => (D.bx _ (List.mem_cons_self ..)).1.frozen o; have kg := fun o => (D.bx _ (List.mem_cons_of_mem _ (List.mem_cons_self ..))).1.frozen o
    go_wp2
    obtain ⟨g, rfl⟩ := o.head (by decide)
    have h32 : 32 ≤ c := o.le
    go_region_with (go_at_call 57; refine d_l1Below (DS.start D.drew.cur) ?_; intro w4 i hi D2; replace o := o.drew.keepI D2.de.dr (fun p hp => .inr (by have := (o.lt p hp).1; omega)); replace D := D.drew.by D2.de; clear D2 kc kd kf kg; have kc := fun o => DS.cell0 D o; have kd := fun o => DS.cell1 D o; have kf := fun o => (D.bx _ (List.mem_cons_self ..)).1.frozen o; have kg := fun o => (D.bx _ (List.mem_cons_of_mem _ (List.mem_cons_self ..))).1.frozen o; have hi9 : i < 32 := (by omega); have hi8 : (i : Int) < 32 := (by omega))
    all_goals go_wp2
    all_goals refine bodyPost_ret (v := .agg #[.int .i64 t, .slice (some ⟨g, 0, none⟩) i c]) (by simp [results, Try.results38, go_sem, kd]) rfl (PWd.mk (D.set0 1 (.slice (some ⟨g, 0, none⟩) i c)) ((o.rd.takeY i (by omega)).keepSet (q := ⟨w1.heap.size, 1, none⟩) na2 _) ha (by omega))
  · have kc := fun o => DS.cell0 D o; have kd := fun o => DS.cell1 D o; have kf := fun o => (D.bx _ (List.mem_cons_self ..)).1.frozen o; have kg := fun o => (D.bx _ (List.mem_cons_of_mem _ (List.mem_cons_self ..))).1.frozen o
    go_wp2
    refine bodyPost_ret (v := .agg #[.int .i64 t, .slice a 32 c]) (by simp [results, Try.results38, go_sem, kd]) rfl (PWd.mk D o.rd ha (by decide))
set_option maxRecDepth 1000000 in
set_option maxHeartbeats 1000000 in
theorem spec_l8Ask (B cb : Nat) (t : Int) (a : Option Addr) (n c : Nat) (w : World) (h : Cur B w cb) : Calls Try.prog 39 #[.pointer (some ⟨cb, 0, none⟩), .agg #[.int .i64 t, .slice a n c]] w (POd B cb w) := by
  have D := (DS.start h).box #[.int .i64 t, .slice a n c] 27
  have kc := fun o => DS.cell0 D o
  go_enter Try.func39, Try.ntmps39
  go_wp2_with (first
    | (go_at_call 58; (with_reducible refine d_l1Once (DS.start D.cur) ?_); intro w1 o D2; replace D := D.by D2.de; clear D2 kc; have kc := fun o => DS.cell0 D o; cases o)
    | (go_at_call 60; (with_reducible refine d_POd (DS.start D.cur) (spec_l1Odd _ cb _ D.cur) ?_); intro w2 x D2; replace D := D.by D2.de; clear D2))
  all_goals first
    | (go_ret; exact ⟨_, rfl, D.de⟩)
    | skip
  have KX : Hid (∀ w', Dr cb w1 w' → w'.cell? ⟨w.heap.size, 0, none⟩ = some (.int .i64 t)) := fun w' d => (D.bx _ (List.mem_cons_self ..)).1.keepI d (by have := h.lt; simp only; omega) |>.cell 0
  go_region_held3 (fun w' => w'.cell? ⟨w.heap.size, 0, none⟩ = some (.int .i64 t)) ((refine KX.out _ ?_; (repeat (first | with_reducible exact d3 | with_reducible exact Dr.refl _ _ | with_reducible refine Dr.alloc ?_ _ | with_reducible refine Dr.drewN ?_ _ | with_reducible refine Dr.drew ?_))))
    (first | (go_at_call 44; refine (spec_l1Int B cb (some ⟨w1.heap.size, 0, none⟩) 17 17 [0, 1, 2, 32, 1023, 1024, 1025, 3000, -1, -2, -3, -10, -20, -1022, -1023, -1024, -1025] _ ((D.alloc _).drew).cur ⟨(new_rd w1 _ _ 17 rfl).keep0 (gb_drew (gb_refl _)), fun p hp => by cases hp; exact D.cur.lt⟩ (by decide) (by decide)).mono ?_; rintro e w3 ⟨u, hu, rfl, cu, d⟩; have d3 := Dr.trans (((Dr.refl cb w1).alloc _).drew) d; replace D := D.step cu d3; skip) | fail)
  go_wp2
  go_ret
  exact ⟨_, rfl, D.de⟩
def PWa (w : World) (e : Ending) (w' : World) : Prop := ∃ t a n c l x, e = .returned (.tuple #[.agg #[.int .i64 t, .slice a n c], .int .i64 x]) ∧ Rd w' a n c (ins l) ∧ n ≤ 32 ∧ w.grownBy w' none
end Go.Proofs.Ytdfdhijbafalaaa
