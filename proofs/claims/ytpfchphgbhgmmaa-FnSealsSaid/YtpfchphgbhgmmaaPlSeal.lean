/-
  Plain laws on sealing: what is sealed is opened as it was; with another tag it is not. Conditions: none beside those that each theorem names.
-/
import Derived.Test.YtpfchphgbhgmmaaSealC
import Derived.Test.YtpfchphgbhgmmaaRec
namespace Go.Proofs.Ytpfchphgbhgmmaa
open Go.RowKit
theorem xor_xor8 (x y : UInt8) : x ^^^ (x ^^^ y) = y := by
  apply UInt8.toNat_inj.1
  simp only [UInt8.toNat_xor, ← Nat.xor_assoc, Nat.xor_self, Nat.zero_xor]
theorem mixL_mixL : ∀ (s b : List UInt8), b.length ≤ s.length → mixL s (mixL s b) = b
  | _, [], _ => by simp [mixL]
  | [], _ :: _, h => by simp at h
  | x :: s, y :: b, h => by
    have := mixL_mixL s b (by simpa using h)
    simp only [mixL, List.zipWith_cons_cons, xor_xor8] at this ⊢
    rw [this]
theorem mixM_mixM {key head b : List UInt8} (h : key.length ≤ 1048576) (h2 : head.length ≤ 100) (hb : b.length ≤ 200) : mixM key head (mixM key head b) = b := by
  have hl := mixM_len h h2 hb
  conv => lhs; rw [mixM]
  rw [hl, mixM]
  exact mixL_mixL _ _ (by rw [strM_len h h2 hb]; exact Nat.le_refl _)
theorem tagM_len {key b : List UInt8} (h : key.length = 32) (hb : b.length ≤ 65) : (tagM key b).length = 16 := by
  have := hmacM_len (key := key) (b := b) (by omega) (by omega)
  rw [tagM, List.length_take, this]
  rfl
theorem frOk_sealF {kind : Int} {sn : List UInt8} {epoch seq : Int} {b1 b2 t1 t2 : List UInt8} (hb : b1.length = b2.length) (ht : t1.length = t2.length) : frOk (sealF kind sn epoch seq b1 t1) = frOk (sealF kind sn epoch seq b2 t2) := by
  simp only [frOk, sealF, hb, ht]
theorem tagIn_sealF {x kind : Int} {sn : List UInt8} {epoch seq : Int} {b t1 t2 : List UInt8} (ht : t1.length = t2.length) : tagInM x (sealF kind sn epoch seq b t1) = tagInM x (sealF kind sn epoch seq b t2) := by
  unfold tagInM
  rw [frOk_sealF rfl ht]
  rfl
structure SealOk (l : List UInt8) (x : Int) (sn : List UInt8) (epoch seq kind : Int) (plain : List UInt8) (M T : List UInt8) : Prop where
  eq : sealM l x sn epoch seq kind plain = sealF kind sn epoch seq M T
  hM : M = mixM l (headM x sn epoch seq) plain
  hT : T = tagM l (tagInM x (sealF kind sn epoch seq M T))
  tl : T.length = 16
  ml : M.length = plain.length
  kl : l.length = 32
  pl : plain.length ≤ 40
  ok : frOk (sealF kind sn epoch seq M T) = true
  role : roleB x = true
  sealed : sealedB kind = true
theorem sealOk {l : List UInt8} {x : Int} {sn : List UInt8} {epoch seq kind : Int} {plain : List UInt8} (h : sealB l x sn epoch seq kind plain = true) : ∃ M T, SealOk l x sn epoch seq kind plain M T := by
  obtain ⟨h1, h2, h3, -⟩ := sealB_S h
  have h4 := h
  simp only [sealB, Bool.and_eq_true, beq_iff_eq] at h4
  obtain ⟨-, h5, h6, h7⟩ := h4
  have ml : (mixM l (headM x sn epoch seq) plain).length = plain.length := mixM_len (by omega) (Nat.le_trans (headM_len _ _ _ _) (by decide)) (by omega)
  have tl := tagM_len (b := tagInM x (sealF kind sn epoch seq (mixM l (headM x sn epoch seq) plain) z16)) h1 (tagInM_len _ _)
  refine ⟨_, _, ⟨by rw [sealM, if_pos h], rfl, ?_, tl, ml, h1, h3, ?_, h5, h6⟩⟩
  · rw [tagIn_sealF (t1 := tagM l _) (t2 := z16) (by rw [tl]; rfl)]
  · rw [frOk_sealF (b2 := plain) (t2 := z16) ml (by rw [tl]; rfl)]
    exact h7
theorem tagIn_pos {x : Int} {f : FrameM} (h1 : roleB x = true) (h2 : sealedB f.kind = true) (h3 : frOk f = true) : tagInM x f = [116] ++ headM x f.sn f.epoch f.seq ++ [b8 f.kind] ++ f.body := by
  unfold tagInM
  rw [h1, h2, h3]
  rfl
theorem SealOk.unseal {l : List UInt8} {x : Int} {sn : List UInt8} {epoch seq kind : Int} {plain M T : List UInt8} (h : SealOk l x sn epoch seq kind plain M T) : unsealB l x (sealF kind sn epoch seq M T) = true ∧ unsealM l x (sealF kind sn epoch seq M T) = plain := by
  have h1 : unsealB l x (sealF kind sn epoch seq M T) = true := by
    unfold unsealB
    rw [show (sealF kind sn epoch seq M T).tag = T from rfl, ← h.hT, tagIn_pos h.role h.sealed h.ok]
    simp [h.kl, sameT, h.tl]
    omega
  refine ⟨h1, ?_⟩
  rw [unsealM, if_pos h1]
  show mixM l (headM x sn epoch seq) M = plain
  rw [h.hM]
  exact mixM_mixM (by rw [h.kl]; decide) (Nat.le_trans (headM_len _ _ _ _) (by decide)) (by have := h.pl; omega)
theorem SealOk.bent {l : List UInt8} {x : Int} {sn : List UInt8} {epoch seq kind : Int} {plain M T T' : List UInt8} (h : SealOk l x sn epoch seq kind plain M T) (hl : T'.length = T.length) (hne : T' ≠ T) : unsealB l x (sealF kind sn epoch seq M T') = false := by
  unfold unsealB
  rw [show (sealF kind sn epoch seq M T').tag = T' from rfl, tagIn_sealF (t1 := T') (t2 := T) hl, ← h.hT]
  simp [sameT, hne]
end Go.Proofs.Ytpfchphgbhgmmaa
