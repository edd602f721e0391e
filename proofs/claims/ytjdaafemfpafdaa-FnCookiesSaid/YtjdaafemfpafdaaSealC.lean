/-
  Contracts of the functions that seal a frame. Conditions: none beside those that each theorem names.
-/
import Derived.Test.YtjdaafemfpafdaaKeys3
import Derived.Test.YtjdaafemfpafdaaTagS
import Derived.Test.YtjdaafemfpafdaaTagI
import Derived.Test.YtjdaafemfpafdaaStrm
import Derived.Test.YtjdaafemfpafdaaCell
import Derived.Deep.RegionHeld3
namespace Go.Proofs.Ytjdaafemfpafdaa
open Go.RowKit
def sealF (kind : Int) (sn : List UInt8) (epoch seq : Int) (body tag : List UInt8) : FrameM := ⟨kind, 0, [], sn, 0, [], [], epoch, seq, body, tag⟩
def z16 : List UInt8 := List.replicate 16 0
def sealB (l : List UInt8) (x : Int) (sn : List UInt8) (epoch seq kind : Int) (plain : List UInt8) : Bool :=
  ((l.length : Int) == 32) && (roleB x && (sealedB kind && frOk (sealF kind sn epoch seq plain z16)))
def sealM (l : List UInt8) (x : Int) (sn : List UInt8) (epoch seq kind : Int) (plain : List UInt8) : FrameM :=
  if sealB l x sn epoch seq kind plain = true then
    sealF kind sn epoch seq (mixM l (headM x sn epoch seq) plain) (tagM l (tagInM x (sealF kind sn epoch seq (mixM l (headM x sn epoch seq) plain) z16)))
  else zeroF
theorem sealB_S {l : List UInt8} {x : Int} {sn : List UInt8} {epoch seq kind : Int} {plain : List UInt8} (h : sealB l x sn epoch seq kind plain = true) : l.length = 32 ∧ sn.length ≤ 12 ∧ plain.length ≤ 40 ∧ 4 ≤ kind ∧ kind ≤ 8 := by
  simp only [sealB, Bool.and_eq_true, beq_iff_eq] at h
  obtain ⟨h1, -, h2, h3⟩ := h
  have h4 := frOk_S h3 h2
  exact ⟨by omega, h4.1, h4.2.2.1, h4.2.2.2.2.2.2.2.1, h4.2.2.2.2.2.2.2.2⟩
theorem sealB_spec (l : List UInt8) (x : Int) (sn : List UInt8) (epoch seq kind : Int) (plain : List UInt8) :
    sealB l x sn epoch seq kind plain = (((l.length : Int) == 32) && (!(((headM x sn epoch seq).length : Int) == 0) && (sealedB kind && bodyB kind plain.length))) := by
  have hh : (((headM x sn epoch seq).length : Int) == 0) = !headOk x sn.length epoch seq := by
    unfold headM
    split
    · rename_i h
      rw [h]
      simp
      omega
    · rename_i h
      simp at h
      simp [h]
  rw [hh, Bool.not_not, sealB]
  cases hk : sealedB kind
  · simp
  · have : frOk (sealF kind sn epoch seq plain z16) = (eqN sn.length 12 && inB epoch 0 4294967295 && inB seq 0 281474976710655 && bodyB kind plain.length) := by
      simp [frOk, frOkN, sealF, hk, eqI, eqN, z16]
    rw [this]
    simp [headOk, eqN]
    ac_rfl
theorem sealF_tot (kind : Int) (sn : List UInt8) (epoch seq : Int) (body tag : List UInt8) : (sealF kind sn epoch seq body tag).tot = sn.length + body.length + tag.length := by
  simp [FrameM.tot, sealF]
theorem sealM_tot (l : List UInt8) (x : Int) (sn : List UInt8) (epoch seq kind : Int) (plain : List UInt8) : (sealM l x sn epoch seq kind plain).tot ≤ 68 := by
  unfold sealM
  split
  · rename_i h
    obtain ⟨h1, h2, h3, -⟩ := sealB_S h
    have h4 := tagM_le l (tagInM x (sealF kind sn epoch seq (mixM l (headM x sn epoch seq) plain) z16))
    have h5 : (mixM l (headM x sn epoch seq) plain).length = plain.length := mixM_len (by omega) (Nat.le_trans (headM_len _ _ _ _) (by decide)) (by omega)
    rw [sealF_tot]
    omega
  · simp [FrameM.tot, zeroF]
theorem sealF_R {w : World} {kind epoch seq : Int} {b2 : Option Addr} {m2 d2 : Nat} {sn : List UInt8} {b5 : Option Addr} {m5 d5 : Nat} {body : List UInt8} {b6 : Option Addr} {m6 d6 : Nat} {tag : List UInt8}
    (o2 : Rd w b2 m2 d2 (bys sn)) (o5 : Rd w b5 m5 d5 (bys body)) (o6 : Rd w b6 m6 d6 (bys tag)) :
    FrameR w (.agg #[.int .i64 kind, .int .i64 0, .slice none 0 0, .slice b2 m2 d2, .int .i64 0, .slice none 0 0, .slice none 0 0, .int .i64 epoch, .int .i64 seq, .slice b5 m5 d5, .slice b6 m6 d6]) (sealF kind sn epoch seq body tag) :=
  ⟨_, _, _, _, _, _, _, _, _, _, _, _, _, _, _, _, _, _, rfl, Rd.nil _ _ _, o2, Rd.nil _ _ _, Rd.nil _ _ _, o5, o6⟩
theorem sealM_f {l : List UInt8} {x : Int} {sn : List UInt8} {epoch seq kind : Int} {plain : List UInt8} (h : sealB l x sn epoch seq kind plain = false) : sealM l x sn epoch seq kind plain = zeroF := by rw [sealM, h]; rfl
section
variable {w : World}
theorem step_mkBD {ops : Array Oper} {o : Oper} {ac : Act} {K : Act → World → Prop} {Q : Exit → Act → World → Prop} {E : Prop} (hgd : o.guard = none) (d : Option Tmp) (hd : o.dst = d) (x y : Operand)
    (ho : o.op = .makeSlice 22 x y) (n : Nat) (hx : ac.eval x = .int .i64 (n : Int)) (hy : ac.eval y = .int .i64 (n : Int)) (hn : n ≤ 1073741824)
    (h : ∀ a' w', Ow w.heap.size w' 5 a' n n (bys (List.replicate n 0)) → w.grownBy w' none → K (ac.put d (.slice a' n n)) w') :
    if Region.wanted o (yielded ops ac.tmps) = true then Oper.wp Try.prog o ac w K Q else E := by
  subst hd
  exact step_mkB hgd x y ho n hx hy hn (fun w' h1 h2 => h _ w' h1 h2)
end
set_option maxRecDepth 1000000 in
set_option maxHeartbeats 4000000 in
theorem spec_Seal (a0 : Option Addr) (n0 c0 : Nat) (l0 : List UInt8) (x1 : Int) (a2 : Option Addr) (n2 c2 : Nat) (l2 : List UInt8) (x3 x4 x5 : Int) (a6 : Option Addr) (n6 c6 : Nat) (l6 : List UInt8) (w : World) (r0 : Rd w a0 n0 c0 (bys l0)) (r2 : Rd w a2 n2 c2 (bys l2)) (r6 : Rd w a6 n6 c6 (bys l6)) (s2 : l2.length ≤ 1048576) (s6 : l6.length ≤ 1048576) :
    Calls Try.prog 60 #[.slice a0 n0 c0, .int .i64 x1, .slice a2 n2 c2, .int .i64 x3, .int .i64 x4, .int .i64 x5, .slice a6 n6 c6] w fun e w' => ∃ v', e = .returned (.tuple #[v', .bool (sealB l0 x1 l2 x3 x4 x5 l6)]) ∧ FrameO w.heap.size w'.heap.size w' v' (sealM l0 x1 l2 x3 x4 x5 l6) ∧ w.grownBy w' none := by
  have e0 := Lib.hid r0.blen
  have e2 := r2.blen
  have e6 := r6.blen
  have G := gb_alloc (gb_refl w) (.cells #[.int .i64 0, .int .i64 0, .slice none 0 0, .slice none 0 0, .int .i64 0, .slice none 0 0, .slice none 0 0, .int .i64 0, .int .i64 0, .slice none 0 0, .slice none 0 0] 35)
  have bz := bx1 w #[.int .i64 0, .int .i64 0, .slice none 0 0, .slice none 0 0, .int .i64 0, .slice none 0 0, .slice none 0 0, .int .i64 0, .int .i64 0, .slice none 0 0, .slice none 0 0] 35
  have kz := fun o => bz.cell o
  have f0 := fun o => bz.frozen o
  have lt0 := bz.lt
  have E := Lib.hid (show sealB l0 x1 l2 x3 x4 x5 l6 = (((n0 : Int) == 32) && (!(((headM x1 l2 x3 x4).length : Int) == 0) && (sealedB x5 && bodyB x5 n6))) by rw [sealB_spec, e0.out, e6])
  cases h1 : ((n0 : Int) == 32)
  · have E2 : sealB l0 x1 l2 x3 x4 x5 l6 = false := by rw [E.out]; simp [*]
    rw [sealM_f E2, E2]
    clear E2
    have h1' : ((n0 : Int) != 32) = true := by rw [bne, h1]; rfl
    go_enter Try.func60, Try.ntmps60
    go_wp2_with (first | (go_at_call 27; refine (spec_HeadOf x1 a2 n2 c2 l2 x3 x4 _ (r2.keep0 G)).mono ?_; rintro e w1 ⟨b1, m1, d1, rfl, o1, g1⟩; have e1 := o1.blen; have B0' := bz.keep0 g1; clear kz f0 lt0; have kz := fun o => B0'.cell o; have f0 := fun o => B0'.frozen o; have lt0 := B0'.lt) | (go_at_call 59; refine (spec_Sealed _ _).mono ?_; rintro e w' ⟨rfl, rfl⟩) | (go_at_call 74; refine (spec_l7Body _ _ _).mono ?_; rintro e w' ⟨rfl, rfl⟩))
    have G1 := gb_trans G g1
    refine bodyPost_ret (v := .tuple #[.agg #[.int .i64 0, .int .i64 0, .slice none 0 0, .slice none 0 0, .int .i64 0, .slice none 0 0, .slice none 0 0, .int .i64 0, .int .i64 0, .slice none 0 0, .slice none 0 0], .bool false]) (by simp [results, Try.results60, go_sem, kz]) rfl ⟨_, rfl, frameO_zero _ _ _, ?_⟩
    repeat (first | with_reducible exact G1 | (refine gb_set ?_ (.inl ?_) _; rotate_left; focus (first | (simp; done) | (simp; omega))))
  have h1' : ((n0 : Int) != 32) = false := by rw [bne, h1]; rfl
  cases hh : (((headM x1 l2 x3 x4).length : Int) == 0)
  rotate_left
  · have E2 : sealB l0 x1 l2 x3 x4 x5 l6 = false := by rw [E.out]; simp [*]
    rw [sealM_f E2, E2]
    clear E2
    have hh' := Lib.hid hh
    clear hh
    go_enter Try.func60, Try.ntmps60
    go_wp2_with (first | (go_at_call 27; refine (spec_HeadOf x1 a2 n2 c2 l2 x3 x4 _ (r2.keep0 G)).mono ?_; rintro e w1 ⟨b1, m1, d1, rfl, o1, g1⟩; have e1 := o1.blen; have hm : ((m1 : Int) == 0) = true := (by rw [← e1]; exact hh'.out); have B0' := bz.keep0 g1; clear kz f0 lt0; have kz := fun o => B0'.cell o; have f0 := fun o => B0'.frozen o; have lt0 := B0'.lt) | (go_at_call 59; refine (spec_Sealed _ _).mono ?_; rintro e w' ⟨rfl, rfl⟩) | (go_at_call 74; refine (spec_l7Body _ _ _).mono ?_; rintro e w' ⟨rfl, rfl⟩))
    have G1 := gb_trans G g1
    refine bodyPost_ret (v := .tuple #[.agg #[.int .i64 0, .int .i64 0, .slice none 0 0, .slice none 0 0, .int .i64 0, .slice none 0 0, .slice none 0 0, .int .i64 0, .int .i64 0, .slice none 0 0, .slice none 0 0], .bool false]) (by simp [results, Try.results60, go_sem, kz]) rfl ⟨_, rfl, frameO_zero _ _ _, ?_⟩
    repeat (first | with_reducible exact G1 | (refine gb_set ?_ (.inl ?_) _; rotate_left; focus (first | (simp; done) | (simp; omega))))
  have hh' := Lib.hid hh
  cases h3 : sealedB x5
  · have E2 : sealB l0 x1 l2 x3 x4 x5 l6 = false := by rw [E.out]; simp [*]
    rw [sealM_f E2, E2]
    clear E2
    clear hh
    go_enter Try.func60, Try.ntmps60
    go_wp2_with (first | (go_at_call 27; refine (spec_HeadOf x1 a2 n2 c2 l2 x3 x4 _ (r2.keep0 G)).mono ?_; rintro e w1 ⟨b1, m1, d1, rfl, o1, g1⟩; have e1 := o1.blen; have hm : ((m1 : Int) == 0) = false := (by rw [← e1]; exact hh'.out); have B0' := bz.keep0 g1; clear kz f0 lt0; have kz := fun o => B0'.cell o; have f0 := fun o => B0'.frozen o; have lt0 := B0'.lt) | (go_at_call 59; refine (spec_Sealed _ _).mono ?_; rintro e w' ⟨rfl, rfl⟩) | (go_at_call 74; refine (spec_l7Body _ _ _).mono ?_; rintro e w' ⟨rfl, rfl⟩))
    have G1 := gb_trans G g1
    refine bodyPost_ret (v := .tuple #[.agg #[.int .i64 0, .int .i64 0, .slice none 0 0, .slice none 0 0, .int .i64 0, .slice none 0 0, .slice none 0 0, .int .i64 0, .int .i64 0, .slice none 0 0, .slice none 0 0], .bool false]) (by simp [results, Try.results60, go_sem, kz]) rfl ⟨_, rfl, frameO_zero _ _ _, ?_⟩
    repeat (first | with_reducible exact G1 | (refine gb_set ?_ (.inl ?_) _; rotate_left; focus (first | (simp; done) | (simp; omega))))
  cases h4 : bodyB x5 n6
  · have E2 : sealB l0 x1 l2 x3 x4 x5 l6 = false := by rw [E.out]; simp [*]
    rw [sealM_f E2, E2]
    clear E2
    clear hh
    go_enter Try.func60, Try.ntmps60
    go_wp2_with (first | (go_at_call 27; refine (spec_HeadOf x1 a2 n2 c2 l2 x3 x4 _ (r2.keep0 G)).mono ?_; rintro e w1 ⟨b1, m1, d1, rfl, o1, g1⟩; have e1 := o1.blen; have hm : ((m1 : Int) == 0) = false := (by rw [← e1]; exact hh'.out); have B0' := bz.keep0 g1; clear kz f0 lt0; have kz := fun o => B0'.cell o; have f0 := fun o => B0'.frozen o; have lt0 := B0'.lt) | (go_at_call 59; refine (spec_Sealed _ _).mono ?_; rintro e w' ⟨rfl, rfl⟩) | (go_at_call 74; refine (spec_l7Body _ _ _).mono ?_; rintro e w' ⟨rfl, rfl⟩))
    have G1 := gb_trans G g1
    refine bodyPost_ret (v := .tuple #[.agg #[.int .i64 0, .int .i64 0, .slice none 0 0, .slice none 0 0, .int .i64 0, .slice none 0 0, .slice none 0 0, .int .i64 0, .int .i64 0, .slice none 0 0, .slice none 0 0], .bool false]) (by simp [results, Try.results60, go_sem, kz]) rfl ⟨_, rfl, frameO_zero _ _ _, ?_⟩
    repeat (first | with_reducible exact G1 | (refine gb_set ?_ (.inl ?_) _; rotate_left; focus (first | (simp; done) | (simp; omega))))
  have E2 : sealB l0 x1 l2 x3 x4 x5 l6 = true := by rw [E.out]; simp [*]
  obtain ⟨y0, y2, y6, -, -⟩ := sealB_S E2
  have hl := headM_len x1 l2 x3 x4
  obtain ⟨M, hM⟩ : ∃ M, M = mixM l0 (headM x1 l2 x3 x4) l6 := ⟨_, rfl⟩
  obtain ⟨T, hT⟩ : ∃ T, T = tagM l0 (tagInM x1 (sealF x5 l2 x3 x4 M z16)) := ⟨_, rfl⟩
  have ES : sealM l0 x1 l2 x3 x4 x5 l6 = sealF x5 l2 x3 x4 M T := by rw [sealM, if_pos E2, hT, hM]
  have HI := tagInM_len x1 (sealF x5 l2 x3 x4 M z16)
  rw [ES, E2]
  clear ES E2 E hh
  replace hM := Lib.hid hM
  replace hT := Lib.hid hT
  have e0' := e0.out
  go_enter Try.func60, Try.ntmps60
  go_wp2_with (first
    | (go_at_call 59; refine (spec_Sealed _ _).mono ?_; rintro e w' ⟨rfl, rfl⟩) | (go_at_call 74; refine (spec_l7Body _ _ _).mono ?_; rintro e w' ⟨rfl, rfl⟩)
    | (go_at_call 27; refine (spec_HeadOf x1 a2 n2 c2 l2 x3 x4 _ (r2.keep0 G)).mono ?_; rintro e w1 ⟨b1, m1, d1, rfl, o1, g1⟩; have e1 := o1.blen; have hm : ((m1 : Int) == 0) = false := (by rw [← e1]; exact hh'.out); have B0' := bz.keep0 g1; clear kz f0 lt0; have kz := fun o => B0'.cell o; have f0 := fun o => B0'.frozen o; have lt0 := B0'.lt)
    | (at_builtin; refine wpList_appB rfl (.tmp 46) (.tmp 47) rfl w1.heap.size _ _ _ [] rfl (new_own' _ _ w1.heap.size rfl) _ _ _ l2 rfl (r2.keep0 (gb_trans G (gb_alloc g1 _))) (by rw [List.length_nil]; omega) (by first | (simp; done) | (simp; omega)) ?_; intro b2 m2 d2 w2 o2 g2; rw [List.nil_append] at o2; have k2 := gb_app (gb_alloc g1 _) (new_own' _ _ w1.heap.size rfl) g1.size g2; have u2 := fun p hp => (o2.lt p hp).2; have B0' := bz.keep0 k2; clear kz f0 lt0; have kz := fun o => B0'.cell o; have f0 := fun o => B0'.frozen o; have lt0 := B0'.lt)
    | (go_at_call 77; refine (spec_Mix a0 n0 c0 l0 b1 m1 d1 _ a6 n6 c6 l6 _ (r0.keep0 (gb_trans G k2)) ((o1.keep0 (gb_alloc (gb_refl _) _)).keep (row := some w1.heap.size) g2 (fun p hp e => by have := (o1.lt p hp).2; simp at e; omega)).rd (r6.keep0 (gb_trans G k2)) (by omega) (by omega) (by omega)).mono ?_; rw [← hM.out]; rintro e w3 ⟨b7, m7, d7, rfl, o7, g3⟩; have k3 := gb_trans k2 g3; have u7 := fun p hp => (o7.lt p hp).2; have B0' := bz.keep0 k3; clear kz f0 lt0; have kz := fun o => B0'.cell o; have f0 := fun o => B0'.frozen o; have lt0 := B0'.lt)
    | ((with_reducible refine wpList_al ?hg1x2 35 _ ?ho1x2 al_Frame ?hh1x2); (case ho1x2 => rfl); (case hg1x2 => rfl); intro q w4 hq Bq g4; have k4 := gb_trans k3 g4; have lq := Nat.le_trans k3.size hq; have B0' := bz.keep0 k4; clear kz f0 lt0; have kz := fun o => B0'.cell o; have f0 := fun o => B0'.frozen o; have lt0 := B0'.lt; (try simp only [Act.put]); (try simp only [List.setIfInBounds_toArray]); (try simp only [List.set_cons_succ]); (try simp only [List.set_cons_zero]))
    | ((with_reducible refine wpList_stR ?hg2x3 35 (.tmp 17) (.tmp 55) ?ho2x3 q ?cs2x3 ?old2x3 ?hx2x3 ?hy2x3 ?hb2x3 ?hi2x3 ?hs2x3 ?hc2x3 ?hh2x3); (case ho2x3 => rfl); (case hg2x3 => rfl); (case hx2x3 => rfl); (case hy2x3 => rfl); (case hb2x3 => exact Bq); (case hi2x3 => exact si_Frame); (case hs2x3 => rfl); (case hc2x3 => (first | rfl | (simp [Value.oneCell']; done))); intro w5 B5 g5; (try simp only [Act.put]); (try simp only [List.setIfInBounds_toArray]); (try simp only [List.set_cons_succ]); (try simp only [List.set_cons_zero])))
  have v2 : ∀ p, b2 = some p → p.block ≠ q := fun p hp => by have := u2 p hp; have := g3.size; omega
  have v7 : ∀ p, b7 = some p → p.block ≠ q := fun p hp => by have := u7 p hp; omega
  have Z0 : (w.alloc (.cells #[.int .i64 0, .int .i64 0, .slice none 0 0, .slice none 0 0, .int .i64 0, .slice none 0 0, .slice none 0 0, .int .i64 0, .int .i64 0, .slice none 0 0, .slice none 0 0] 35)).heap.size = w.heap.size + 1 := by first | rfl | (simp; done)
  have q1 : w.heap.size + 1 ≤ q := by omega
  have nz : w.heap.size ≠ q := by omega
  have B0 := (bz.keep0 k4).keepRow g5 (by intro e; cases e; omega)
  have O2 := ((((o2.keep0 g3).keep0 g4).row g5 v2)).mono (B' := w.heap.size + 1) (by have := g1.size; omega)
  have O7 := ((o7.keep0 g4).row g5 v7).mono (B' := w.heap.size + 1) (by have := k2.size; omega)
  have G5 : w.grownBy w5 none := gb_row (gb_trans G k4) g5 (by omega)
  have L2 := fun p hp => (O2.lt p hp).2
  have L7 := fun p hp => (O7.lt p hp).2
  have z5 := B5.lt
  have hd27 : dj b2 b7 := by intro p r hp hr; have := u2 p hp; have := (o7.lt r hr).1; omega
  have hq2 := v2
  have hq7 := v7
  clear u2 u7 kz f0 lt0 o1 o2 o7
  clear g1 g2 g3 g4 g5 k2 k3 k4 v2 v7 bz G
  go_loopw [18] (fun i wr => ∃ (k : Nat) (a : Option Addr) (c : Nat), i = .int .i64 (k : Int) ∧ k ≤ 16 ∧ w.grownBy wr none ∧ w5.heap.size ≤ wr.heap.size ∧ Bx wr w.heap.size 35 #[.int .i64 0, .int .i64 0, .slice none 0 0, .slice none 0 0, .int .i64 0, .slice none 0 0, .slice none 0 0, .int .i64 0, .int .i64 0, .slice none 0 0, .slice none 0 0] ∧ Bx wr q 35 #[.int .i64 x5, .int .i64 0, .slice none 0 0, .slice b2 m2 d2, .int .i64 0, .slice none 0 0, .slice none 0 0, .int .i64 x3, .int .i64 x4, .slice b7 m7 d7, .slice a k c] ∧
    Ow w5.heap.size wr 5 a k c (bys (List.replicate k 0)) ∧ Ow (w.heap.size + 1) wr 5 b2 m2 d2 (bys l2) ∧ Ow (w.heap.size + 1) wr 5 b7 m7 d7 (bys M)) (fun i _ => 16 - (intOf i).toNat)
  case atStart => exact ⟨0, none, 0, rfl, by omega, G5, Nat.le_refl _, B0, B5, Ow.nil _ _ _, O2, O7⟩
  case round =>
    clear B0 B5 O2 O7 G5
    obtain ⟨k, a, c, rfl, hk, G5, zr, B0, Bq, oa, O2, O7⟩ := hrel
    have kz := fun o => B0.cell o
    have kq := fun o => Bq.cell o
    have f0 := fun o => B0.frozen o
    have fq := fun o => Bq.frozen o
    have lt0 := B0.lt
    have ltq := Bq.lt
    by_cases hlt : k < 16
    · have rA : ∀ b : Nat, b < w5.heap.size → a.map (·.block) ≠ some b := by
        intro b hb e
        obtain ⟨p, hp, h9⟩ := rowOf e
        have := (oa.lt p hp).1
        omega
      go_wp2_with (at_builtin; refine wpList_appB rfl (.tmp 61) (.tmp 62) rfl w5.heap.size a k c (List.replicate k 0) rfl (oa.keep0 (gb_alloc (gb_refl _) _)) _ 1 1 [0] rfl (new_bys wr _ #[.int .u8 0] [0] rfl) (by simp; omega) (by simp; omega) ?_; intro a9 n9 c9 w9 o9 g9; have B0n := (B0.old (.cells #[.int .u8 0] 5)).keepRow g9 (rA _ (by omega)); have Bqn := (Bq.old (.cells #[.int .u8 0] 5)).keepRow g9 (rA _ z5); have e9 := o9.blen; clear kz kq f0 fq lt0 ltq; have kz := fun o => B0n.cell o; have kq := fun o => Bqn.cell o; have f0 := fun o => B0n.frozen o; have fq := fun o => Bqn.frozen o; have lt0 := B0n.lt; have ltq := Bqn.lt)
      have z9 := g9.size
      simp only [World.size_alloc] at z9
      simp only [List.length_append, List.length_replicate, List.length_singleton] at e9
      subst e9
      have nq : ∀ p, a9 = some p → p.block ≠ q := fun p hp => by have := (o9.lt p hp).1; omega
      have GG : w.grownBy w9 none := gb_transr (gb_alloc G5 _) g9 (fun g hg => .inl (by obtain ⟨p, hp, h9⟩ := rowOf hg; have := (oa.lt p hp).1; omega))
      refine ⟨⟨k + 1, a9, c9, by go_num, by omega, gb_set GG (p := ⟨q, 10, none⟩) (.inl (by simp only; omega)) _, by simp [World.setCell]; omega, B0n.setO ⟨q, 10, none⟩ _ nz, Bqn.set 10 _, ?_, ?_, ?_⟩, by simp [intOf]; omega⟩
      · rw [List.replicate_succ']
        exact o9.setO ⟨q, 10, none⟩ _ nq
      · exact ((O2.keep0 (gb_alloc (gb_refl _) _)).keep g9 (fun p hp e => rA _ (L2 p hp) e.symm)).setO ⟨q, 10, none⟩ _ (hq2)
      · exact ((O7.keep0 (gb_alloc (gb_refl _) _)).keep g9 (fun p hp e => rA _ (L7 p hp) e.symm)).setO ⟨q, 10, none⟩ _ (hq7)
    · obtain rfl : k = 16 := by omega
      have hR := Lib.hid (sealF_R (kind := x5) (epoch := x3) (seq := x4) O2.rd O7.rd oa.rd)
      go_wp2_with (first
        | (go_at_call 28; refine (spec_TagInput x1 _ (sealF x5 l2 x3 x4 M z16) _ hR.out).mono ?_; rintro e wa ⟨b8, m8, d8, rfl, o8, ga⟩; have e8 := o8.blen; have B0n := B0.keep0 ga; have Bqn := Bq.keep0 ga; clear kz kq f0 fq lt0 ltq; have kz := fun o => B0n.cell o; have kq := fun o => Bqn.cell o; have f0 := fun o => B0n.frozen o; have fq := fun o => Bqn.frozen o; have lt0 := B0n.lt; have ltq := Bqn.lt)
        | (go_at_call 38; refine (spec_Tag a0 n0 c0 l0 b8 m8 d8 _ _ (r0.keep0 (gb_trans G5 ga)) o8.rd (by omega) (by omega)).mono ?_; rw [← hT.out]; rintro e wb ⟨b9, m9, d9, rfl, o9, gb⟩; replace B0n := B0n.keep0 gb; replace Bqn := Bqn.keep0 gb; clear kz kq f0 fq lt0 ltq; have kq := fun o => Bqn.cell o; have fq := fun o => Bqn.frozen o; have lt0 := B0n.lt; have ltq := Bqn.lt)
        | ((with_reducible refine wpList_stR ?hg9x4 35 (.tmp 14) (.tmp 71) ?ho9x4 w.heap.size ?cs9x4 ?old9x4 ?hx9x4 ?hy9x4 ?hb9x4 ?hi9x4 ?hs9x4 ?hc9x4 ?hh9x4); (case ho9x4 => rfl); (case hg9x4 => rfl); (case hx9x4 => rfl); (case hy9x4 => rfl); (case hb9x4 => exact (B0n.setO ⟨q, 10, none⟩ (.slice b9 m9 d9) nz)); (case hi9x4 => exact si_Frame); (case hs9x4 => rfl); (case hc9x4 => (first | rfl | (simp [Value.oneCell']; done))); intro wc B7 gc; have kz := fun o => B7.cell o; (try simp only [Act.put]); (try simp only [List.setIfInBounds_toArray]); (try simp only [List.set_cons_succ]); (try simp only [List.set_cons_zero])))
      have za := ga.size
      have zb := gb.size
      have n9 : ∀ p, b9 = some p → p.block ≠ q := fun p hp => by have := (o9.lt p hp).1; omega
      have v2 : ∀ p, b2 = some p → p.block ≠ w.heap.size := fun p hp => by have := (O2.lt p hp).1; omega
      have v7 : ∀ p, b7 = some p → p.block ≠ w.heap.size := fun p hp => by have := (O7.lt p hp).1; omega
      have v9 : ∀ p, b9 = some p → p.block ≠ w.heap.size := fun p hp => by have := (o9.lt p hp).1; omega
      have G7 := gb_row (gb_set (gb_trans (gb_trans G5 ga) gb) (.inl (show w.heap.size ≤ (⟨q, 10, none⟩ : Addr).block by simp only; omega)) (.slice b9 m9 d9)) gc (Nat.le_refl _)
      refine bodyPost_ret (v := .tuple #[.agg #[.int .i64 x5, .int .i64 0, .slice none 0 0, .slice b2 m2 d2, .int .i64 0, .slice none 0 0, .slice none 0 0, .int .i64 x3, .int .i64 x4, .slice b7 m7 d7, .slice b9 m9 d9], .bool true]) (by simp [results, Try.results60, go_sem, kz]) rfl ⟨_, rfl, frameO_mk (Ow.nil _ _ _) (((((O2.keep0 ga).keep0 gb).setO ⟨q, 10, none⟩ (.slice b9 m9 d9) hq2).row gc v2) |>.mono (by omega)) (Ow.nil _ _ _) (Ow.nil _ _ _) (((((O7.keep0 ga).keep0 gb).setO ⟨q, 10, none⟩ (.slice b9 m9 d9) hq7).row gc v7) |>.mono (by omega)) (((o9.setO ⟨q, 10, none⟩ (.slice b9 m9 d9) n9).row gc v9) |>.mono (by omega)) (Nat.le_refl _) (dj_nil' _) (dj_nil' _) (dj_nil' _) (dj_nil' _) (dj_nil' _) (dj_nil _) (dj_nil _) hd27 ?_ (dj_nil _) (dj_nil' _) (dj_nil' _) (dj_nil' _) (dj_nil' _) ?_, G7⟩
      · intro p r hp hr; have := L2 p hp; have := (o9.lt r hr).1; omega
      · intro p r hp hr; have := L7 p hp; have := (o9.lt r hr).1; omega
end Go.Proofs.Ytjdaafemfpafdaa
