/-
  Contracts of the functions that check proofs and cookies. Conditions: none beside those that each theorem names.
-/
import Derived.Test.YtjdaafemfpafdaaKeys4
import Derived.Test.YtjdaafemfpafdaaTagS
import Derived.Test.YtjdaafemfpafdaaFrOk
import Derived.Test.YtjdaafemfpafdaaCell
import Derived.Deep.RegionHeld3
namespace Go.Proofs.Ytjdaafemfpafdaa
open Go.RowKit
def proofOkM (l : List UInt8) (f : FrameM) : Bool := eqI f.kind 3 && (frOk f && sameT f.proof (proofM l f.id f.cn f.sn f.tick f.cookie))
def judgeM (l : List UInt8) (now h p : Int) (f : FrameM) : Int :=
  if ((l.length : Int) == 32) && inB now 0 1000000 && addrOkB h p && eqI f.kind 3 && frOk f then (if freshM now f.tick then (if sameT f.cookie (cookM l h p f.id f.cn f.sn f.tick) then 0 else 2) else 9) else 1
set_option maxRecDepth 1000000 in
set_option maxHeartbeats 4000000 in
theorem impl_Judge (a : Option Addr) (n c : Nat) (l : List UInt8) (now h p : Int) (v : Value) (f : FrameM) (w : World) (r : Rd w a n c (bys l)) (hf : FrameR w v f) :
    Calls Try.prog 15 #[.agg #[.slice a n c], .int .i64 now, .agg #[.int .i64 h, .int .i64 p], v] w fun e w' => e = .returned (.int .i64 (judgeM l now h p f)) ∧ w.grownBy w' none := by
  have hR := hf
  obtain ⟨a1, n1, c1, a2, n2, c2, a3, n3, c3, a4, n4, c4, a5, n5, c5, a6, n6, c6, rfl, r1, r2, r3, r4, r5, r6⟩ := hf
  obtain ⟨kind, id, l1, l2, tick, l3, l4, epoch, seq, l5, l6⟩ := f
  simp only at r1 r2 r3 r4 r5 r6 hR
  have L := Lib.hid r.blen
  have g0 := gb_alloc (gb_alloc (gb_alloc (gb_refl w) (.cells #[.slice a n c] 25)) (.cells #[.int .i64 h, .int .i64 p] 27)) (.cells #[.int .i64 kind, .int .i64 id, .slice a1 n1 c1, .slice a2 n2 c2, .int .i64 tick, .slice a3 n3 c3, .slice a4 n4 c4, .int .i64 epoch, .int .i64 seq, .slice a5 n5 c5, .slice a6 n6 c6] 35)
  have bb := bx3 w #[.slice a n c] #[.int .i64 h, .int .i64 p] #[.int .i64 kind, .int .i64 id, .slice a1 n1 c1, .slice a2 n2 c2, .int .i64 tick, .slice a3 n3 c3, .slice a4 n4 c4, .int .i64 epoch, .int .i64 seq, .slice a5 n5 c5, .slice a6 n6 c6] 25 27 35
  have R := Lib.hid (hR.keep0 g0)
  clear hR
  cases e1 : ((n : Int) == 32)
  · have e2 : True := trivial
    have e3 : True := trivial
    have hk : True := trivial
    have hok : True := trivial
    have E := Lib.hid (show judgeM l now h p ⟨kind, id, l1, l2, tick, l3, l4, epoch, seq, l5, l6⟩ = 1 by simp [judgeM, eqI, L.out, e1])
    have G := g0
    clear g0
    go_enter Try.func15, Try.ntmps15
    go_wp2_with (first
      | (go_at_call 11; refine (impl_JarOk a n c _).mono ?_; rw [e1]; rintro e w1 ⟨rfl, g1⟩; have q0 := bb.1.keep0 g1; have q1 := bb.2.1.keep0 g1; have q2 := bb.2.2.keep0 g1; have cc0 := fun o => q0.cell o; have cc1 := fun o => q1.cell o; have cc2 := fun o => q2.cell o; have ll := q2.lt; replace G := gb_trans G g1)
      | (go_at_call 40; refine (impl_within _ _ _ _).mono ?_; rintro e w' ⟨rfl, rfl⟩)
      | (go_at_call 39; refine (impl_AddrOk h p _).mono ?_; rintro e w2 ⟨rfl, g2⟩; replace q0 := q0.keep0 g2; replace q1 := q1.keep0 g2; replace q2 := q2.keep0 g2; clear cc0 cc1 cc2 ll; have cc0 := fun o => q0.cell o; have cc1 := fun o => q1.cell o; have cc2 := fun o => q2.cell o; have ll := q2.lt; replace G := gb_trans G g2)
      | (go_at_call 45; refine (impl_FrameOk _ _ _ (FrameR.keep0 R.out (gb_trans g1 g2))).mono ?_; rw [hok]; rintro e w3 ⟨rfl, g3⟩; replace q0 := q0.keep0 g3; replace q1 := q1.keep0 g3; replace q2 := q2.keep0 g3; clear cc0 cc1 cc2 ll; have cc0 := fun o => q0.cell o; have cc1 := fun o => q1.cell o; have cc2 := fun o => q2.cell o; have ll := q2.lt; replace G := gb_trans G g3))
    go_ret
    exact ⟨ret_i E.out.symm, G⟩
  cases e2 : inB now 0 1000000
  · have e3 : True := trivial
    have hk : True := trivial
    have hok : True := trivial
    have E := Lib.hid (show judgeM l now h p ⟨kind, id, l1, l2, tick, l3, l4, epoch, seq, l5, l6⟩ = 1 by simp [judgeM, eqI, L.out, e1, e2])
    have G := g0
    clear g0
    go_enter Try.func15, Try.ntmps15
    go_wp2_with (first
      | (go_at_call 11; refine (impl_JarOk a n c _).mono ?_; rw [e1]; rintro e w1 ⟨rfl, g1⟩; have q0 := bb.1.keep0 g1; have q1 := bb.2.1.keep0 g1; have q2 := bb.2.2.keep0 g1; have cc0 := fun o => q0.cell o; have cc1 := fun o => q1.cell o; have cc2 := fun o => q2.cell o; have ll := q2.lt; replace G := gb_trans G g1)
      | (go_at_call 40; refine (impl_within _ _ _ _).mono ?_; rintro e w' ⟨rfl, rfl⟩)
      | (go_at_call 39; refine (impl_AddrOk h p _).mono ?_; rintro e w2 ⟨rfl, g2⟩; replace q0 := q0.keep0 g2; replace q1 := q1.keep0 g2; replace q2 := q2.keep0 g2; clear cc0 cc1 cc2 ll; have cc0 := fun o => q0.cell o; have cc1 := fun o => q1.cell o; have cc2 := fun o => q2.cell o; have ll := q2.lt; replace G := gb_trans G g2)
      | (go_at_call 45; refine (impl_FrameOk _ _ _ (FrameR.keep0 R.out (gb_trans g1 g2))).mono ?_; rw [hok]; rintro e w3 ⟨rfl, g3⟩; replace q0 := q0.keep0 g3; replace q1 := q1.keep0 g3; replace q2 := q2.keep0 g3; clear cc0 cc1 cc2 ll; have cc0 := fun o => q0.cell o; have cc1 := fun o => q1.cell o; have cc2 := fun o => q2.cell o; have ll := q2.lt; replace G := gb_trans G g3))
    go_ret
    exact ⟨ret_i E.out.symm, G⟩
  cases e3 : addrOkB h p
  · have hk : True := trivial
    have hok : True := trivial
    have E := Lib.hid (show judgeM l now h p ⟨kind, id, l1, l2, tick, l3, l4, epoch, seq, l5, l6⟩ = 1 by simp [judgeM, eqI, L.out, e1, e2, e3])
    have G := g0
    clear g0
    go_enter Try.func15, Try.ntmps15
    go_wp2_with (first
      | (go_at_call 11; refine (impl_JarOk a n c _).mono ?_; rw [e1]; rintro e w1 ⟨rfl, g1⟩; have q0 := bb.1.keep0 g1; have q1 := bb.2.1.keep0 g1; have q2 := bb.2.2.keep0 g1; have cc0 := fun o => q0.cell o; have cc1 := fun o => q1.cell o; have cc2 := fun o => q2.cell o; have ll := q2.lt; replace G := gb_trans G g1)
      | (go_at_call 40; refine (impl_within _ _ _ _).mono ?_; rintro e w' ⟨rfl, rfl⟩)
      | (go_at_call 39; refine (impl_AddrOk h p _).mono ?_; rintro e w2 ⟨rfl, g2⟩; replace q0 := q0.keep0 g2; replace q1 := q1.keep0 g2; replace q2 := q2.keep0 g2; clear cc0 cc1 cc2 ll; have cc0 := fun o => q0.cell o; have cc1 := fun o => q1.cell o; have cc2 := fun o => q2.cell o; have ll := q2.lt; replace G := gb_trans G g2)
      | (go_at_call 45; refine (impl_FrameOk _ _ _ (FrameR.keep0 R.out (gb_trans g1 g2))).mono ?_; rw [hok]; rintro e w3 ⟨rfl, g3⟩; replace q0 := q0.keep0 g3; replace q1 := q1.keep0 g3; replace q2 := q2.keep0 g3; clear cc0 cc1 cc2 ll; have cc0 := fun o => q0.cell o; have cc1 := fun o => q1.cell o; have cc2 := fun o => q2.cell o; have ll := q2.lt; replace G := gb_trans G g3))
    go_ret
    exact ⟨ret_i E.out.symm, G⟩
  cases hk : (kind == 3)
  · have hk2 : (kind != 3) = true := by simpa using hk
    cases hok : frOk ⟨kind, id, l1, l2, tick, l3, l4, epoch, seq, l5, l6⟩
    · have E := Lib.hid (show judgeM l now h p ⟨kind, id, l1, l2, tick, l3, l4, epoch, seq, l5, l6⟩ = 1 by simp [judgeM, eqI, L.out, e1, e2, e3, hk])
      have G := g0
      clear g0
      go_enter Try.func15, Try.ntmps15
      go_wp2_with (first
        | (go_at_call 11; refine (impl_JarOk a n c _).mono ?_; rw [e1]; rintro e w1 ⟨rfl, g1⟩; have q0 := bb.1.keep0 g1; have q1 := bb.2.1.keep0 g1; have q2 := bb.2.2.keep0 g1; have cc0 := fun o => q0.cell o; have cc1 := fun o => q1.cell o; have cc2 := fun o => q2.cell o; have ll := q2.lt; replace G := gb_trans G g1)
        | (go_at_call 40; refine (impl_within _ _ _ _).mono ?_; rintro e w' ⟨rfl, rfl⟩)
        | (go_at_call 39; refine (impl_AddrOk h p _).mono ?_; rintro e w2 ⟨rfl, g2⟩; replace q0 := q0.keep0 g2; replace q1 := q1.keep0 g2; replace q2 := q2.keep0 g2; clear cc0 cc1 cc2 ll; have cc0 := fun o => q0.cell o; have cc1 := fun o => q1.cell o; have cc2 := fun o => q2.cell o; have ll := q2.lt; replace G := gb_trans G g2)
        | (go_at_call 45; refine (impl_FrameOk _ _ _ (FrameR.keep0 R.out (gb_trans g1 g2))).mono ?_; rw [hok]; rintro e w3 ⟨rfl, g3⟩; replace q0 := q0.keep0 g3; replace q1 := q1.keep0 g3; replace q2 := q2.keep0 g3; clear cc0 cc1 cc2 ll; have cc0 := fun o => q0.cell o; have cc1 := fun o => q1.cell o; have cc2 := fun o => q2.cell o; have ll := q2.lt; replace G := gb_trans G g3))
      go_ret
      exact ⟨ret_i E.out.symm, G⟩
    · have E := Lib.hid (show judgeM l now h p ⟨kind, id, l1, l2, tick, l3, l4, epoch, seq, l5, l6⟩ = 1 by simp [judgeM, eqI, L.out, e1, e2, e3, hk])
      have G := g0
      clear g0
      go_enter Try.func15, Try.ntmps15
      go_wp2_with (first
        | (go_at_call 11; refine (impl_JarOk a n c _).mono ?_; rw [e1]; rintro e w1 ⟨rfl, g1⟩; have q0 := bb.1.keep0 g1; have q1 := bb.2.1.keep0 g1; have q2 := bb.2.2.keep0 g1; have cc0 := fun o => q0.cell o; have cc1 := fun o => q1.cell o; have cc2 := fun o => q2.cell o; have ll := q2.lt; replace G := gb_trans G g1)
        | (go_at_call 40; refine (impl_within _ _ _ _).mono ?_; rintro e w' ⟨rfl, rfl⟩)
        | (go_at_call 39; refine (impl_AddrOk h p _).mono ?_; rintro e w2 ⟨rfl, g2⟩; replace q0 := q0.keep0 g2; replace q1 := q1.keep0 g2; replace q2 := q2.keep0 g2; clear cc0 cc1 cc2 ll; have cc0 := fun o => q0.cell o; have cc1 := fun o => q1.cell o; have cc2 := fun o => q2.cell o; have ll := q2.lt; replace G := gb_trans G g2)
        | (go_at_call 45; refine (impl_FrameOk _ _ _ (FrameR.keep0 R.out (gb_trans g1 g2))).mono ?_; rw [hok]; rintro e w3 ⟨rfl, g3⟩; replace q0 := q0.keep0 g3; replace q1 := q1.keep0 g3; replace q2 := q2.keep0 g3; clear cc0 cc1 cc2 ll; have cc0 := fun o => q0.cell o; have cc1 := fun o => q1.cell o; have cc2 := fun o => q2.cell o; have ll := q2.lt; replace G := gb_trans G g3))
      go_ret
      exact ⟨ret_i E.out.symm, G⟩
  cases hok : frOk ⟨kind, id, l1, l2, tick, l3, l4, epoch, seq, l5, l6⟩
  · have hk2 : (kind != 3) = false := by simpa using hk
    have E := Lib.hid (show judgeM l now h p ⟨kind, id, l1, l2, tick, l3, l4, epoch, seq, l5, l6⟩ = 1 by simp [judgeM, eqI, L.out, e1, e2, e3, hok])
    have G := g0
    clear g0
    go_enter Try.func15, Try.ntmps15
    go_wp2_with (first
      | (go_at_call 11; refine (impl_JarOk a n c _).mono ?_; rw [e1]; rintro e w1 ⟨rfl, g1⟩; have q0 := bb.1.keep0 g1; have q1 := bb.2.1.keep0 g1; have q2 := bb.2.2.keep0 g1; have cc0 := fun o => q0.cell o; have cc1 := fun o => q1.cell o; have cc2 := fun o => q2.cell o; have ll := q2.lt; replace G := gb_trans G g1)
      | (go_at_call 40; refine (impl_within _ _ _ _).mono ?_; rintro e w' ⟨rfl, rfl⟩)
      | (go_at_call 39; refine (impl_AddrOk h p _).mono ?_; rintro e w2 ⟨rfl, g2⟩; replace q0 := q0.keep0 g2; replace q1 := q1.keep0 g2; replace q2 := q2.keep0 g2; clear cc0 cc1 cc2 ll; have cc0 := fun o => q0.cell o; have cc1 := fun o => q1.cell o; have cc2 := fun o => q2.cell o; have ll := q2.lt; replace G := gb_trans G g2)
      | (go_at_call 45; refine (impl_FrameOk _ _ _ (FrameR.keep0 R.out (gb_trans g1 g2))).mono ?_; rw [hok]; rintro e w3 ⟨rfl, g3⟩; replace q0 := q0.keep0 g3; replace q1 := q1.keep0 g3; replace q2 := q2.keep0 g3; clear cc0 cc1 cc2 ll; have cc0 := fun o => q0.cell o; have cc1 := fun o => q1.cell o; have cc2 := fun o => q2.cell o; have ll := q2.lt; replace G := gb_trans G g3))
    go_ret
    exact ⟨ret_i E.out.symm, G⟩
  obtain rfl : kind = 3 := by simpa using hk
  clear hk
  cases hf : freshM now tick
  · have E := Lib.hid (show judgeM l now h p ⟨3, id, l1, l2, tick, l3, l4, epoch, seq, l5, l6⟩ = 9 by simp [judgeM, eqI, L.out, e1, e2, e3, hok, hf])
    have G := g0
    clear g0
    go_enter Try.func15, Try.ntmps15
    go_wp2_with (first
      | (go_at_call 11; refine (impl_JarOk a n c _).mono ?_; rw [e1]; rintro e w1 ⟨rfl, g1⟩; have q0 := bb.1.keep0 g1; have q1 := bb.2.1.keep0 g1; have q2 := bb.2.2.keep0 g1; have cc0 := fun o => q0.cell o; have cc1 := fun o => q1.cell o; have cc2 := fun o => q2.cell o; have ll := q2.lt; replace G := gb_trans G g1)
      | (go_at_call 40; refine (impl_within _ _ _ _).mono ?_; rintro e w' ⟨rfl, rfl⟩)
      | (go_at_call 39; refine (impl_AddrOk h p _).mono ?_; rintro e w2 ⟨rfl, g2⟩; replace q0 := q0.keep0 g2; replace q1 := q1.keep0 g2; replace q2 := q2.keep0 g2; clear cc0 cc1 cc2 ll; have cc0 := fun o => q0.cell o; have cc1 := fun o => q1.cell o; have cc2 := fun o => q2.cell o; have ll := q2.lt; replace G := gb_trans G g2)
      | (go_at_call 45; refine (impl_FrameOk _ _ _ (FrameR.keep0 R.out (gb_trans g1 g2))).mono ?_; rw [hok]; rintro e w3 ⟨rfl, g3⟩; replace q0 := q0.keep0 g3; replace q1 := q1.keep0 g3; replace q2 := q2.keep0 g3; clear cc0 cc1 cc2 ll; have cc0 := fun o => q0.cell o; have cc1 := fun o => q1.cell o; have cc2 := fun o => q2.cell o; have ll := q2.lt; replace G := gb_trans G g3)
      | (go_at_call 16; refine (impl_Fresh _ _ _).mono ?_; rintro e w' ⟨rfl, rfl⟩))
    go_ret
    exact ⟨ret_i E.out.symm, G⟩
  have E := Lib.hid (show judgeM l now h p ⟨3, id, l1, l2, tick, l3, l4, epoch, seq, l5, l6⟩ = if sameT l3 (cookM l h p id l1 l2 tick) then 0 else 2 by simp [judgeM, eqI, L.out, e1, e2, e3, hok, hf])
  have G := g0
  clear g0
  go_enter Try.func15, Try.ntmps15
  go_wp2_with (first
    | (go_at_call 11; refine (impl_JarOk a n c _).mono ?_; rw [e1]; rintro e w1 ⟨rfl, g1⟩; have q0 := bb.1.keep0 g1; have q1 := bb.2.1.keep0 g1; have q2 := bb.2.2.keep0 g1; have cc0 := fun o => q0.cell o; have cc1 := fun o => q1.cell o; have cc2 := fun o => q2.cell o; have ll := q2.lt; replace G := gb_trans G g1)
    | (go_at_call 40; refine (impl_within _ _ _ _).mono ?_; rintro e w' ⟨rfl, rfl⟩)
    | (go_at_call 39; refine (impl_AddrOk h p _).mono ?_; rintro e w2 ⟨rfl, g2⟩; replace q0 := q0.keep0 g2; replace q1 := q1.keep0 g2; replace q2 := q2.keep0 g2; clear cc0 cc1 cc2 ll; have cc0 := fun o => q0.cell o; have cc1 := fun o => q1.cell o; have cc2 := fun o => q2.cell o; have ll := q2.lt; replace G := gb_trans G g2)
    | (go_at_call 45; refine (impl_FrameOk _ _ _ (FrameR.keep0 R.out (gb_trans g1 g2))).mono ?_; rw [hok]; rintro e w3 ⟨rfl, g3⟩; replace q0 := q0.keep0 g3; replace q1 := q1.keep0 g3; replace q2 := q2.keep0 g3; clear cc0 cc1 cc2 ll; have cc0 := fun o => q0.cell o; have cc1 := fun o => q1.cell o; have cc2 := fun o => q2.cell o; have ll := q2.lt; replace G := gb_trans G g3)
    | (go_at_call 16; refine (impl_Fresh _ _ _).mono ?_; rintro e w' ⟨rfl, rfl⟩))
  have KX : Hid (∀ w', w3.grownBy w' none → (w'.cell? ⟨w.heap.size, 0, none⟩ = some (.slice a n c) ∧ w'.cell? ⟨w.heap.size + 1, 0, none⟩ = some (.int .i64 h) ∧ w'.cell? ⟨w.heap.size + 1, 1, none⟩ = some (.int .i64 p) ∧ w'.cell? ⟨w.heap.size + 1 + 1, 0, none⟩ = some (.int .i64 3) ∧ w'.cell? ⟨w.heap.size + 1 + 1, 1, none⟩ = some (.int .i64 id) ∧ w'.cell? ⟨w.heap.size + 1 + 1, 2, none⟩ = some (.slice a1 n1 c1) ∧ w'.cell? ⟨w.heap.size + 1 + 1, 3, none⟩ = some (.slice a2 n2 c2) ∧ w'.cell? ⟨w.heap.size + 1 + 1, 4, none⟩ = some (.int .i64 tick) ∧ w'.cell? ⟨w.heap.size + 1 + 1, 5, none⟩ = some (.slice a3 n3 c3) ∧ w'.cell? ⟨w.heap.size + 1 + 1, 6, none⟩ = some (.slice a4 n4 c4) ∧ w'.cell? ⟨w.heap.size + 1 + 1, 7, none⟩ = some (.int .i64 epoch) ∧ w'.cell? ⟨w.heap.size + 1 + 1, 8, none⟩ = some (.int .i64 seq) ∧ w'.cell? ⟨w.heap.size + 1 + 1, 9, none⟩ = some (.slice a5 n5 c5) ∧ w'.cell? ⟨w.heap.size + 1 + 1, 10, none⟩ = some (.slice a6 n6 c6) ∧ w3.grownBy w' none)) := fun w' hg => ⟨(q0.keep0 hg).cell 0, (q1.keep0 hg).cell 0, (q1.keep0 hg).cell 1, (q2.keep0 hg).cell 0, (q2.keep0 hg).cell 1, (q2.keep0 hg).cell 2, (q2.keep0 hg).cell 3, (q2.keep0 hg).cell 4, (q2.keep0 hg).cell 5, (q2.keep0 hg).cell 6, (q2.keep0 hg).cell 7, (q2.keep0 hg).cell 8, (q2.keep0 hg).cell 9, (q2.keep0 hg).cell 10, hg⟩
  clear cc0 cc1 cc2 q0 q1 q2 bb
  have GH := Lib.hid G
  clear g1 g2 g3
  go_region_held3 (fun w' => w'.cell? ⟨w.heap.size, 0, none⟩ = some (.slice a n c) ∧ w'.cell? ⟨w.heap.size + 1, 0, none⟩ = some (.int .i64 h) ∧ w'.cell? ⟨w.heap.size + 1, 1, none⟩ = some (.int .i64 p) ∧ w'.cell? ⟨w.heap.size + 1 + 1, 0, none⟩ = some (.int .i64 3) ∧ w'.cell? ⟨w.heap.size + 1 + 1, 1, none⟩ = some (.int .i64 id) ∧ w'.cell? ⟨w.heap.size + 1 + 1, 2, none⟩ = some (.slice a1 n1 c1) ∧ w'.cell? ⟨w.heap.size + 1 + 1, 3, none⟩ = some (.slice a2 n2 c2) ∧ w'.cell? ⟨w.heap.size + 1 + 1, 4, none⟩ = some (.int .i64 tick) ∧ w'.cell? ⟨w.heap.size + 1 + 1, 5, none⟩ = some (.slice a3 n3 c3) ∧ w'.cell? ⟨w.heap.size + 1 + 1, 6, none⟩ = some (.slice a4 n4 c4) ∧ w'.cell? ⟨w.heap.size + 1 + 1, 7, none⟩ = some (.int .i64 epoch) ∧ w'.cell? ⟨w.heap.size + 1 + 1, 8, none⟩ = some (.int .i64 seq) ∧ w'.cell? ⟨w.heap.size + 1 + 1, 9, none⟩ = some (.slice a5 n5 c5) ∧ w'.cell? ⟨w.heap.size + 1 + 1, 10, none⟩ = some (.slice a6 n6 c6) ∧ w3.grownBy w' none)
    ((refine KX.out _ ?_; (repeat (first | with_reducible exact gb_refl _ | with_reducible refine gb_alloc ?_ _ | with_reducible refine gb_drewN ?_ _ | with_reducible refine gb_drew ?_ | with_reducible refine gb_trans ?_ g4 | with_reducible refine gb_trans ?_ g5))))
    (first
      | (go_at_call 8; refine (impl_Mint a n c l h p id a1 n1 c1 l1 a2 n2 c2 l2 tick _ (r.keep0 (by (repeat (first | with_reducible exact gb_refl _ | with_reducible exact G | with_reducible refine gb_alloc ?_ _ | with_reducible refine gb_drewN ?_ _ | with_reducible refine gb_drew ?_)))) (r1.keep0 (by (repeat (first | with_reducible exact gb_refl _ | with_reducible exact G | with_reducible refine gb_alloc ?_ _ | with_reducible refine gb_drewN ?_ _ | with_reducible refine gb_drew ?_)))) (r2.keep0 (by (repeat (first | with_reducible exact gb_refl _ | with_reducible exact G | with_reducible refine gb_alloc ?_ _ | with_reducible refine gb_drewN ?_ _ | with_reducible refine gb_drew ?_))))).mono ?_; rintro e w4 ⟨b4, m4, d4, rfl, o4, g4⟩; skip)
      | (go_at_call 46; refine (impl_SameTag a3 n3 c3 l3 b4 m4 d4 _ _ (r3.keep0 (by (repeat (first | with_reducible exact gb_refl _ | with_reducible exact G | with_reducible refine gb_alloc ?_ _ | with_reducible refine gb_drewN ?_ _ | with_reducible refine gb_drew ?_ | with_reducible refine gb_trans ?_ g4)))) (o4.rd.keep0 (by (repeat (first | with_reducible exact gb_refl _ | with_reducible refine gb_alloc ?_ _ | with_reducible refine gb_drewN ?_ _ | with_reducible refine gb_drew ?_))))).mono ?_; rintro e w5 ⟨rfl, g5⟩; skip)
      | fail)
  cases hs : sameT l3 (cookM l h p id l1 l2 tick)
  · go_wp2
    go_ret
    exact ⟨ret_i (by rw [E.out, hs]; rfl), by (repeat (first | with_reducible exact gb_refl _ | with_reducible exact G | with_reducible refine gb_alloc ?_ _ | with_reducible refine gb_drewN ?_ _ | with_reducible refine gb_drew ?_ | with_reducible refine gb_trans ?_ g4 | with_reducible refine gb_trans ?_ g5))⟩
  · go_wp2
    go_ret
    exact ⟨ret_i (by rw [E.out, hs]; rfl), by (repeat (first | with_reducible exact gb_refl _ | with_reducible exact G | with_reducible refine gb_alloc ?_ _ | with_reducible refine gb_drewN ?_ _ | with_reducible refine gb_drew ?_ | with_reducible refine gb_trans ?_ g4 | with_reducible refine gb_trans ?_ g5))⟩
set_option maxRecDepth 1000000 in
set_option maxHeartbeats 4000000 in
theorem spec_Judge (a : Option Addr) (n c : Nat) (l : List UInt8) (now h p : Int) (v : Value) (f : FrameM) (w : World) (r : Rd w a n c (bys l)) (hf : FrameR w v f) :
    Calls Try.prog 20 #[.agg #[.slice a n c], .int .i64 now, .agg #[.int .i64 h, .int .i64 p], v] w fun e w' => e = .returned (.int .i64 (judgeM l now h p f)) ∧ w.grownBy w' none := by
  have hR := hf
  obtain ⟨a1, n1, c1, a2, n2, c2, a3, n3, c3, a4, n4, c4, a5, n5, c5, a6, n6, c6, rfl, r1, r2, r3, r4, r5, r6⟩ := hf
  obtain ⟨kind, id, l1, l2, tick, l3, l4, epoch, seq, l5, l6⟩ := f
  simp only at r1 r2 r3 r4 r5 r6 hR
  have L := Lib.hid r.blen
  have g0 := gb_alloc (gb_alloc (gb_alloc (gb_refl w) (.cells #[.slice a n c] 25)) (.cells #[.int .i64 h, .int .i64 p] 27)) (.cells #[.int .i64 kind, .int .i64 id, .slice a1 n1 c1, .slice a2 n2 c2, .int .i64 tick, .slice a3 n3 c3, .slice a4 n4 c4, .int .i64 epoch, .int .i64 seq, .slice a5 n5 c5, .slice a6 n6 c6] 35)
  have bb := bx3 w #[.slice a n c] #[.int .i64 h, .int .i64 p] #[.int .i64 kind, .int .i64 id, .slice a1 n1 c1, .slice a2 n2 c2, .int .i64 tick, .slice a3 n3 c3, .slice a4 n4 c4, .int .i64 epoch, .int .i64 seq, .slice a5 n5 c5, .slice a6 n6 c6] 25 27 35
  have R := Lib.hid (hR.keep0 g0)
  clear hR
  cases e1 : ((n : Int) == 32)
  · have e2 : True := trivial
    have e3 : True := trivial
    have hk : True := trivial
    have hok : True := trivial
    have E := Lib.hid (show judgeM l now h p ⟨kind, id, l1, l2, tick, l3, l4, epoch, seq, l5, l6⟩ = 1 by simp [judgeM, eqI, L.out, e1])
    have G := g0
    clear g0
    go_enter Try.func20, Try.ntmps20
    go_wp2_with (first
      | (go_at_call 37; refine (spec_JarOk a n c _).mono ?_; rw [e1]; rintro e w1 ⟨rfl, g1⟩; have q0 := bb.1.keep0 g1; have q1 := bb.2.1.keep0 g1; have q2 := bb.2.2.keep0 g1; have cc0 := fun o => q0.cell o; have cc1 := fun o => q1.cell o; have cc2 := fun o => q2.cell o; have ll := q2.lt; replace G := gb_trans G g1)
      | (go_at_call 53; refine (spec_l1In _ _ _ _).mono ?_; rintro e w' ⟨rfl, rfl⟩)
      | (go_at_call 54; refine (spec_AddrOk h p _).mono ?_; rintro e w2 ⟨rfl, g2⟩; replace q0 := q0.keep0 g2; replace q1 := q1.keep0 g2; replace q2 := q2.keep0 g2; clear cc0 cc1 cc2 ll; have cc0 := fun o => q0.cell o; have cc1 := fun o => q1.cell o; have cc2 := fun o => q2.cell o; have ll := q2.lt; replace G := gb_trans G g2)
      | (go_at_call 55; refine (spec_FrameOk _ _ _ (FrameR.keep0 R.out (gb_trans g1 g2))).mono ?_; rw [hok]; rintro e w3 ⟨rfl, g3⟩; replace q0 := q0.keep0 g3; replace q1 := q1.keep0 g3; replace q2 := q2.keep0 g3; clear cc0 cc1 cc2 ll; have cc0 := fun o => q0.cell o; have cc1 := fun o => q1.cell o; have cc2 := fun o => q2.cell o; have ll := q2.lt; replace G := gb_trans G g3))
    go_ret
    exact ⟨ret_i E.out.symm, G⟩
  cases e2 : inB now 0 1000000
  · have e3 : True := trivial
    have hk : True := trivial
    have hok : True := trivial
    have E := Lib.hid (show judgeM l now h p ⟨kind, id, l1, l2, tick, l3, l4, epoch, seq, l5, l6⟩ = 1 by simp [judgeM, eqI, L.out, e1, e2])
    have G := g0
    clear g0
    go_enter Try.func20, Try.ntmps20
    go_wp2_with (first
      | (go_at_call 37; refine (spec_JarOk a n c _).mono ?_; rw [e1]; rintro e w1 ⟨rfl, g1⟩; have q0 := bb.1.keep0 g1; have q1 := bb.2.1.keep0 g1; have q2 := bb.2.2.keep0 g1; have cc0 := fun o => q0.cell o; have cc1 := fun o => q1.cell o; have cc2 := fun o => q2.cell o; have ll := q2.lt; replace G := gb_trans G g1)
      | (go_at_call 53; refine (spec_l1In _ _ _ _).mono ?_; rintro e w' ⟨rfl, rfl⟩)
      | (go_at_call 54; refine (spec_AddrOk h p _).mono ?_; rintro e w2 ⟨rfl, g2⟩; replace q0 := q0.keep0 g2; replace q1 := q1.keep0 g2; replace q2 := q2.keep0 g2; clear cc0 cc1 cc2 ll; have cc0 := fun o => q0.cell o; have cc1 := fun o => q1.cell o; have cc2 := fun o => q2.cell o; have ll := q2.lt; replace G := gb_trans G g2)
      | (go_at_call 55; refine (spec_FrameOk _ _ _ (FrameR.keep0 R.out (gb_trans g1 g2))).mono ?_; rw [hok]; rintro e w3 ⟨rfl, g3⟩; replace q0 := q0.keep0 g3; replace q1 := q1.keep0 g3; replace q2 := q2.keep0 g3; clear cc0 cc1 cc2 ll; have cc0 := fun o => q0.cell o; have cc1 := fun o => q1.cell o; have cc2 := fun o => q2.cell o; have ll := q2.lt; replace G := gb_trans G g3))
    go_ret
    exact ⟨ret_i E.out.symm, G⟩
  cases e3 : addrOkB h p
  · have hk : True := trivial
    have hok : True := trivial
    have E := Lib.hid (show judgeM l now h p ⟨kind, id, l1, l2, tick, l3, l4, epoch, seq, l5, l6⟩ = 1 by simp [judgeM, eqI, L.out, e1, e2, e3])
    have G := g0
    clear g0
    go_enter Try.func20, Try.ntmps20
    go_wp2_with (first
      | (go_at_call 37; refine (spec_JarOk a n c _).mono ?_; rw [e1]; rintro e w1 ⟨rfl, g1⟩; have q0 := bb.1.keep0 g1; have q1 := bb.2.1.keep0 g1; have q2 := bb.2.2.keep0 g1; have cc0 := fun o => q0.cell o; have cc1 := fun o => q1.cell o; have cc2 := fun o => q2.cell o; have ll := q2.lt; replace G := gb_trans G g1)
      | (go_at_call 53; refine (spec_l1In _ _ _ _).mono ?_; rintro e w' ⟨rfl, rfl⟩)
      | (go_at_call 54; refine (spec_AddrOk h p _).mono ?_; rintro e w2 ⟨rfl, g2⟩; replace q0 := q0.keep0 g2; replace q1 := q1.keep0 g2; replace q2 := q2.keep0 g2; clear cc0 cc1 cc2 ll; have cc0 := fun o => q0.cell o; have cc1 := fun o => q1.cell o; have cc2 := fun o => q2.cell o; have ll := q2.lt; replace G := gb_trans G g2)
      | (go_at_call 55; refine (spec_FrameOk _ _ _ (FrameR.keep0 R.out (gb_trans g1 g2))).mono ?_; rw [hok]; rintro e w3 ⟨rfl, g3⟩; replace q0 := q0.keep0 g3; replace q1 := q1.keep0 g3; replace q2 := q2.keep0 g3; clear cc0 cc1 cc2 ll; have cc0 := fun o => q0.cell o; have cc1 := fun o => q1.cell o; have cc2 := fun o => q2.cell o; have ll := q2.lt; replace G := gb_trans G g3))
    go_ret
    exact ⟨ret_i E.out.symm, G⟩
  cases hk : (kind == 3)
  · have hk2 : (kind != 3) = true := by simpa using hk
    cases hok : frOk ⟨kind, id, l1, l2, tick, l3, l4, epoch, seq, l5, l6⟩
    · have E := Lib.hid (show judgeM l now h p ⟨kind, id, l1, l2, tick, l3, l4, epoch, seq, l5, l6⟩ = 1 by simp [judgeM, eqI, L.out, e1, e2, e3, hk])
      have G := g0
      clear g0
      go_enter Try.func20, Try.ntmps20
      go_wp2_with (first
        | (go_at_call 37; refine (spec_JarOk a n c _).mono ?_; rw [e1]; rintro e w1 ⟨rfl, g1⟩; have q0 := bb.1.keep0 g1; have q1 := bb.2.1.keep0 g1; have q2 := bb.2.2.keep0 g1; have cc0 := fun o => q0.cell o; have cc1 := fun o => q1.cell o; have cc2 := fun o => q2.cell o; have ll := q2.lt; replace G := gb_trans G g1)
        | (go_at_call 53; refine (spec_l1In _ _ _ _).mono ?_; rintro e w' ⟨rfl, rfl⟩)
        | (go_at_call 54; refine (spec_AddrOk h p _).mono ?_; rintro e w2 ⟨rfl, g2⟩; replace q0 := q0.keep0 g2; replace q1 := q1.keep0 g2; replace q2 := q2.keep0 g2; clear cc0 cc1 cc2 ll; have cc0 := fun o => q0.cell o; have cc1 := fun o => q1.cell o; have cc2 := fun o => q2.cell o; have ll := q2.lt; replace G := gb_trans G g2)
        | (go_at_call 55; refine (spec_FrameOk _ _ _ (FrameR.keep0 R.out (gb_trans g1 g2))).mono ?_; rw [hok]; rintro e w3 ⟨rfl, g3⟩; replace q0 := q0.keep0 g3; replace q1 := q1.keep0 g3; replace q2 := q2.keep0 g3; clear cc0 cc1 cc2 ll; have cc0 := fun o => q0.cell o; have cc1 := fun o => q1.cell o; have cc2 := fun o => q2.cell o; have ll := q2.lt; replace G := gb_trans G g3))
      go_ret
      exact ⟨ret_i E.out.symm, G⟩
    · have E := Lib.hid (show judgeM l now h p ⟨kind, id, l1, l2, tick, l3, l4, epoch, seq, l5, l6⟩ = 1 by simp [judgeM, eqI, L.out, e1, e2, e3, hk])
      have G := g0
      clear g0
      go_enter Try.func20, Try.ntmps20
      go_wp2_with (first
        | (go_at_call 37; refine (spec_JarOk a n c _).mono ?_; rw [e1]; rintro e w1 ⟨rfl, g1⟩; have q0 := bb.1.keep0 g1; have q1 := bb.2.1.keep0 g1; have q2 := bb.2.2.keep0 g1; have cc0 := fun o => q0.cell o; have cc1 := fun o => q1.cell o; have cc2 := fun o => q2.cell o; have ll := q2.lt; replace G := gb_trans G g1)
        | (go_at_call 53; refine (spec_l1In _ _ _ _).mono ?_; rintro e w' ⟨rfl, rfl⟩)
        | (go_at_call 54; refine (spec_AddrOk h p _).mono ?_; rintro e w2 ⟨rfl, g2⟩; replace q0 := q0.keep0 g2; replace q1 := q1.keep0 g2; replace q2 := q2.keep0 g2; clear cc0 cc1 cc2 ll; have cc0 := fun o => q0.cell o; have cc1 := fun o => q1.cell o; have cc2 := fun o => q2.cell o; have ll := q2.lt; replace G := gb_trans G g2)
        | (go_at_call 55; refine (spec_FrameOk _ _ _ (FrameR.keep0 R.out (gb_trans g1 g2))).mono ?_; rw [hok]; rintro e w3 ⟨rfl, g3⟩; replace q0 := q0.keep0 g3; replace q1 := q1.keep0 g3; replace q2 := q2.keep0 g3; clear cc0 cc1 cc2 ll; have cc0 := fun o => q0.cell o; have cc1 := fun o => q1.cell o; have cc2 := fun o => q2.cell o; have ll := q2.lt; replace G := gb_trans G g3))
      go_ret
      exact ⟨ret_i E.out.symm, G⟩
  cases hok : frOk ⟨kind, id, l1, l2, tick, l3, l4, epoch, seq, l5, l6⟩
  · have hk2 : (kind != 3) = false := by simpa using hk
    have E := Lib.hid (show judgeM l now h p ⟨kind, id, l1, l2, tick, l3, l4, epoch, seq, l5, l6⟩ = 1 by simp [judgeM, eqI, L.out, e1, e2, e3, hok])
    have G := g0
    clear g0
    go_enter Try.func20, Try.ntmps20
    go_wp2_with (first
      | (go_at_call 37; refine (spec_JarOk a n c _).mono ?_; rw [e1]; rintro e w1 ⟨rfl, g1⟩; have q0 := bb.1.keep0 g1; have q1 := bb.2.1.keep0 g1; have q2 := bb.2.2.keep0 g1; have cc0 := fun o => q0.cell o; have cc1 := fun o => q1.cell o; have cc2 := fun o => q2.cell o; have ll := q2.lt; replace G := gb_trans G g1)
      | (go_at_call 53; refine (spec_l1In _ _ _ _).mono ?_; rintro e w' ⟨rfl, rfl⟩)
      | (go_at_call 54; refine (spec_AddrOk h p _).mono ?_; rintro e w2 ⟨rfl, g2⟩; replace q0 := q0.keep0 g2; replace q1 := q1.keep0 g2; replace q2 := q2.keep0 g2; clear cc0 cc1 cc2 ll; have cc0 := fun o => q0.cell o; have cc1 := fun o => q1.cell o; have cc2 := fun o => q2.cell o; have ll := q2.lt; replace G := gb_trans G g2)
      | (go_at_call 55; refine (spec_FrameOk _ _ _ (FrameR.keep0 R.out (gb_trans g1 g2))).mono ?_; rw [hok]; rintro e w3 ⟨rfl, g3⟩; replace q0 := q0.keep0 g3; replace q1 := q1.keep0 g3; replace q2 := q2.keep0 g3; clear cc0 cc1 cc2 ll; have cc0 := fun o => q0.cell o; have cc1 := fun o => q1.cell o; have cc2 := fun o => q2.cell o; have ll := q2.lt; replace G := gb_trans G g3))
    go_ret
    exact ⟨ret_i E.out.symm, G⟩
  obtain rfl : kind = 3 := by simpa using hk
  clear hk
  cases hf : freshM now tick
  · have E := Lib.hid (show judgeM l now h p ⟨3, id, l1, l2, tick, l3, l4, epoch, seq, l5, l6⟩ = 9 by simp [judgeM, eqI, L.out, e1, e2, e3, hok, hf])
    have G := g0
    clear g0
    go_enter Try.func20, Try.ntmps20
    go_wp2_with (first
      | (go_at_call 37; refine (spec_JarOk a n c _).mono ?_; rw [e1]; rintro e w1 ⟨rfl, g1⟩; have q0 := bb.1.keep0 g1; have q1 := bb.2.1.keep0 g1; have q2 := bb.2.2.keep0 g1; have cc0 := fun o => q0.cell o; have cc1 := fun o => q1.cell o; have cc2 := fun o => q2.cell o; have ll := q2.lt; replace G := gb_trans G g1)
      | (go_at_call 53; refine (spec_l1In _ _ _ _).mono ?_; rintro e w' ⟨rfl, rfl⟩)
      | (go_at_call 54; refine (spec_AddrOk h p _).mono ?_; rintro e w2 ⟨rfl, g2⟩; replace q0 := q0.keep0 g2; replace q1 := q1.keep0 g2; replace q2 := q2.keep0 g2; clear cc0 cc1 cc2 ll; have cc0 := fun o => q0.cell o; have cc1 := fun o => q1.cell o; have cc2 := fun o => q2.cell o; have ll := q2.lt; replace G := gb_trans G g2)
      | (go_at_call 55; refine (spec_FrameOk _ _ _ (FrameR.keep0 R.out (gb_trans g1 g2))).mono ?_; rw [hok]; rintro e w3 ⟨rfl, g3⟩; replace q0 := q0.keep0 g3; replace q1 := q1.keep0 g3; replace q2 := q2.keep0 g3; clear cc0 cc1 cc2 ll; have cc0 := fun o => q0.cell o; have cc1 := fun o => q1.cell o; have cc2 := fun o => q2.cell o; have ll := q2.lt; replace G := gb_trans G g3)
      | (go_at_call 21; refine (spec_Fresh _ _ _).mono ?_; rintro e w' ⟨rfl, rfl⟩))
    go_ret
    exact ⟨ret_i E.out.symm, G⟩
  have E := Lib.hid (show judgeM l now h p ⟨3, id, l1, l2, tick, l3, l4, epoch, seq, l5, l6⟩ = if sameT l3 (cookM l h p id l1 l2 tick) then 0 else 2 by simp [judgeM, eqI, L.out, e1, e2, e3, hok, hf])
  have G := g0
  clear g0
  go_enter Try.func20, Try.ntmps20
  go_wp2_with (first
    | (go_at_call 37; refine (spec_JarOk a n c _).mono ?_; rw [e1]; rintro e w1 ⟨rfl, g1⟩; have q0 := bb.1.keep0 g1; have q1 := bb.2.1.keep0 g1; have q2 := bb.2.2.keep0 g1; have cc0 := fun o => q0.cell o; have cc1 := fun o => q1.cell o; have cc2 := fun o => q2.cell o; have ll := q2.lt; replace G := gb_trans G g1)
    | (go_at_call 53; refine (spec_l1In _ _ _ _).mono ?_; rintro e w' ⟨rfl, rfl⟩)
    | (go_at_call 54; refine (spec_AddrOk h p _).mono ?_; rintro e w2 ⟨rfl, g2⟩; replace q0 := q0.keep0 g2; replace q1 := q1.keep0 g2; replace q2 := q2.keep0 g2; clear cc0 cc1 cc2 ll; have cc0 := fun o => q0.cell o; have cc1 := fun o => q1.cell o; have cc2 := fun o => q2.cell o; have ll := q2.lt; replace G := gb_trans G g2)
    | (go_at_call 55; refine (spec_FrameOk _ _ _ (FrameR.keep0 R.out (gb_trans g1 g2))).mono ?_; rw [hok]; rintro e w3 ⟨rfl, g3⟩; replace q0 := q0.keep0 g3; replace q1 := q1.keep0 g3; replace q2 := q2.keep0 g3; clear cc0 cc1 cc2 ll; have cc0 := fun o => q0.cell o; have cc1 := fun o => q1.cell o; have cc2 := fun o => q2.cell o; have ll := q2.lt; replace G := gb_trans G g3)
    | (go_at_call 21; refine (spec_Fresh _ _ _).mono ?_; rintro e w' ⟨rfl, rfl⟩))
  have KX : Hid (∀ w', w3.grownBy w' none → (w'.cell? ⟨w.heap.size, 0, none⟩ = some (.slice a n c) ∧ w'.cell? ⟨w.heap.size + 1, 0, none⟩ = some (.int .i64 h) ∧ w'.cell? ⟨w.heap.size + 1, 1, none⟩ = some (.int .i64 p) ∧ w'.cell? ⟨w.heap.size + 1 + 1, 0, none⟩ = some (.int .i64 3) ∧ w'.cell? ⟨w.heap.size + 1 + 1, 1, none⟩ = some (.int .i64 id) ∧ w'.cell? ⟨w.heap.size + 1 + 1, 2, none⟩ = some (.slice a1 n1 c1) ∧ w'.cell? ⟨w.heap.size + 1 + 1, 3, none⟩ = some (.slice a2 n2 c2) ∧ w'.cell? ⟨w.heap.size + 1 + 1, 4, none⟩ = some (.int .i64 tick) ∧ w'.cell? ⟨w.heap.size + 1 + 1, 5, none⟩ = some (.slice a3 n3 c3) ∧ w'.cell? ⟨w.heap.size + 1 + 1, 6, none⟩ = some (.slice a4 n4 c4) ∧ w'.cell? ⟨w.heap.size + 1 + 1, 7, none⟩ = some (.int .i64 epoch) ∧ w'.cell? ⟨w.heap.size + 1 + 1, 8, none⟩ = some (.int .i64 seq) ∧ w'.cell? ⟨w.heap.size + 1 + 1, 9, none⟩ = some (.slice a5 n5 c5) ∧ w'.cell? ⟨w.heap.size + 1 + 1, 10, none⟩ = some (.slice a6 n6 c6) ∧ w3.grownBy w' none)) := fun w' hg => ⟨(q0.keep0 hg).cell 0, (q1.keep0 hg).cell 0, (q1.keep0 hg).cell 1, (q2.keep0 hg).cell 0, (q2.keep0 hg).cell 1, (q2.keep0 hg).cell 2, (q2.keep0 hg).cell 3, (q2.keep0 hg).cell 4, (q2.keep0 hg).cell 5, (q2.keep0 hg).cell 6, (q2.keep0 hg).cell 7, (q2.keep0 hg).cell 8, (q2.keep0 hg).cell 9, (q2.keep0 hg).cell 10, hg⟩
  clear cc0 cc1 cc2 q0 q1 q2 bb
  have GH := Lib.hid G
  clear g1 g2 g3
  go_region_held3 (fun w' => w'.cell? ⟨w.heap.size, 0, none⟩ = some (.slice a n c) ∧ w'.cell? ⟨w.heap.size + 1, 0, none⟩ = some (.int .i64 h) ∧ w'.cell? ⟨w.heap.size + 1, 1, none⟩ = some (.int .i64 p) ∧ w'.cell? ⟨w.heap.size + 1 + 1, 0, none⟩ = some (.int .i64 3) ∧ w'.cell? ⟨w.heap.size + 1 + 1, 1, none⟩ = some (.int .i64 id) ∧ w'.cell? ⟨w.heap.size + 1 + 1, 2, none⟩ = some (.slice a1 n1 c1) ∧ w'.cell? ⟨w.heap.size + 1 + 1, 3, none⟩ = some (.slice a2 n2 c2) ∧ w'.cell? ⟨w.heap.size + 1 + 1, 4, none⟩ = some (.int .i64 tick) ∧ w'.cell? ⟨w.heap.size + 1 + 1, 5, none⟩ = some (.slice a3 n3 c3) ∧ w'.cell? ⟨w.heap.size + 1 + 1, 6, none⟩ = some (.slice a4 n4 c4) ∧ w'.cell? ⟨w.heap.size + 1 + 1, 7, none⟩ = some (.int .i64 epoch) ∧ w'.cell? ⟨w.heap.size + 1 + 1, 8, none⟩ = some (.int .i64 seq) ∧ w'.cell? ⟨w.heap.size + 1 + 1, 9, none⟩ = some (.slice a5 n5 c5) ∧ w'.cell? ⟨w.heap.size + 1 + 1, 10, none⟩ = some (.slice a6 n6 c6) ∧ w3.grownBy w' none)
    ((refine KX.out _ ?_; (repeat (first | with_reducible exact gb_refl _ | with_reducible refine gb_alloc ?_ _ | with_reducible refine gb_drewN ?_ _ | with_reducible refine gb_drew ?_ | with_reducible refine gb_trans ?_ g4 | with_reducible refine gb_trans ?_ g5))))
    (first
      | (go_at_call 10; refine (spec_Mint a n c l h p id a1 n1 c1 l1 a2 n2 c2 l2 tick _ (r.keep0 (by (repeat (first | with_reducible exact gb_refl _ | with_reducible exact G | with_reducible refine gb_alloc ?_ _ | with_reducible refine gb_drewN ?_ _ | with_reducible refine gb_drew ?_)))) (r1.keep0 (by (repeat (first | with_reducible exact gb_refl _ | with_reducible exact G | with_reducible refine gb_alloc ?_ _ | with_reducible refine gb_drewN ?_ _ | with_reducible refine gb_drew ?_)))) (r2.keep0 (by (repeat (first | with_reducible exact gb_refl _ | with_reducible exact G | with_reducible refine gb_alloc ?_ _ | with_reducible refine gb_drewN ?_ _ | with_reducible refine gb_drew ?_))))).mono ?_; rintro e w4 ⟨b4, m4, d4, rfl, o4, g4⟩; skip)
      | (go_at_call 56; refine (spec_SameTag a3 n3 c3 l3 b4 m4 d4 _ _ (r3.keep0 (by (repeat (first | with_reducible exact gb_refl _ | with_reducible exact G | with_reducible refine gb_alloc ?_ _ | with_reducible refine gb_drewN ?_ _ | with_reducible refine gb_drew ?_ | with_reducible refine gb_trans ?_ g4)))) (o4.rd.keep0 (by (repeat (first | with_reducible exact gb_refl _ | with_reducible refine gb_alloc ?_ _ | with_reducible refine gb_drewN ?_ _ | with_reducible refine gb_drew ?_))))).mono ?_; rintro e w5 ⟨rfl, g5⟩; skip)
      | fail)
  cases hs : sameT l3 (cookM l h p id l1 l2 tick)
  · go_wp2
    go_ret
    exact ⟨ret_i (by rw [E.out, hs]; rfl), by (repeat (first | with_reducible exact gb_refl _ | with_reducible exact G | with_reducible refine gb_alloc ?_ _ | with_reducible refine gb_drewN ?_ _ | with_reducible refine gb_drew ?_ | with_reducible refine gb_trans ?_ g4 | with_reducible refine gb_trans ?_ g5))⟩
  · go_wp2
    go_ret
    exact ⟨ret_i (by rw [E.out, hs]; rfl), by (repeat (first | with_reducible exact gb_refl _ | with_reducible exact G | with_reducible refine gb_alloc ?_ _ | with_reducible refine gb_drewN ?_ _ | with_reducible refine gb_drew ?_ | with_reducible refine gb_trans ?_ g4 | with_reducible refine gb_trans ?_ g5))⟩
end Go.Proofs.Ytjdaafemfpafdaa
