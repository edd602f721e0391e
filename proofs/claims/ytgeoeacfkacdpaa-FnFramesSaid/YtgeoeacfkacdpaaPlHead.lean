/-
  Plain laws on heads: a number's bytes tell the number; heads of unlike epochs, numbers or roles are unlike; what a tag is of begins with its head. Conditions: none beside those that each theorem names.
-/
import Derived.Test.YtgeoeacfkacdpaaTagI
import Derived.Test.YtgeoeacfkacdpaaShaP
namespace Go.Proofs.Ytgeoeacfkacdpaa
open Go.RowKit
theorem foldl_num (l : List UInt8) : ∀ a : Nat, l.foldl (fun n x => 256 * n + x.toNat) a = a * 256 ^ l.length + num l := by
  induction l with
  | nil => intro a; simp [num]
  | cons x l ih =>
    intro a
    have h1 := ih (256 * a + x.toNat)
    have h2 := ih (256 * 0 + x.toNat)
    simp only [num, List.foldl_cons, List.length_cons] at h1 h2 ⊢
    rw [h1, h2, Nat.pow_succ, Nat.add_mul, Nat.mul_zero, Nat.zero_add, Nat.mul_comm 256 a, Nat.mul_assoc, Nat.mul_comm 256 (256 ^ l.length)]
    omega
theorem num_cons (x : UInt8) (l : List UInt8) : num (x :: l) = x.toNat * 256 ^ l.length + num l := by
  have := foldl_num l x.toNat
  rw [← this]
  simp [num]
theorem num_be (n : Nat) : ∀ k, num (be n k) = n % 256 ^ k
  | 0 => by simp [be, num, Nat.mod_one]
  | k + 1 => by
    have h1 : n % 256 ^ (k + 1) = n % 256 ^ k + 256 ^ k * (n / 256 ^ k % 256) := by rw [Nat.pow_succ, Nat.mod_mul]
    have h2 : (2 : Nat) ^ (8 * k) = 256 ^ k := by rw [Nat.pow_mul]
    rw [be, num_cons, be_len, num_be n k, UInt8.toNat_ofNat', h1, h2, Nat.mul_comm, Nat.add_comm]
theorem be_inj {n m k : Nat} (hn : n < 256 ^ k) (hm : m < 256 ^ k) (h : be n k = be m k) : n = m := by
  have := congrArg num h
  rwa [num_be, num_be, Nat.mod_eq_of_lt hn, Nat.mod_eq_of_lt hm] at this
theorem headM_ok {role : Int} {sn : List UInt8} {epoch seq : Int} (h : headOk role sn.length epoch seq = true) : headM role sn epoch seq = [b8 role] ++ sn ++ be epoch.toNat 4 ++ be seq.toNat 6 := by rw [headM, if_pos h]
theorem headOk_iff {role : Int} {n : Nat} {epoch seq : Int} : headOk role n epoch seq = true ↔ (0 ≤ role ∧ role ≤ 1) ∧ n = 12 ∧ (0 ≤ epoch ∧ epoch ≤ 4294967295) ∧ (0 ≤ seq ∧ seq ≤ 281474976710655) := by
  simp only [headOk, roleB, Bool.and_eq_true, inB_iff, beq_iff_eq]
  omega
theorem headM_len23 {role : Int} {sn : List UInt8} {epoch seq : Int} (h : headOk role sn.length epoch seq = true) : (headM role sn epoch seq).length = 23 := by
  have := (headOk_iff.1 h).2.1
  rw [headM_ok h]
  simp [be_len]
  omega
theorem headM_nil {role : Int} {sn : List UInt8} {epoch seq : Int} (h : headOk role sn.length epoch seq = false) : headM role sn epoch seq = [] := by rw [headM, h]; rfl
theorem head_role {role : Int} {sn : List UInt8} {epoch seq : Int} (h : headOk role sn.length epoch seq = true) : headM role sn epoch seq ≠ headM (1 - role) sn epoch seq := by
  have h1 := headOk_iff.1 h
  have h2 : headOk (1 - role) sn.length epoch seq = true := headOk_iff.2 (by omega)
  rw [headM_ok h, headM_ok h2]
  intro e
  have e1 := congrArg (fun l : List UInt8 => (l.headD 0).toNat) e
  simp only [List.append_assoc, List.cons_append, List.headD_cons] at e1
  have v1 := b8_val (x := role) (by omega) (by omega)
  have v2 := b8_val (x := 1 - role) (by omega) (by omega)
  omega
theorem head_eq {role : Int} {sn : List UInt8} {epoch seq e s : Int} (h : headOk role sn.length epoch seq = true) (he : 0 ≤ e ∧ e < 256) (hs : 0 ≤ s ∧ s < 256) : headM role sn epoch seq = headM role sn e s ↔ e = epoch ∧ s = seq := by
  have h1 := headOk_iff.1 h
  have h2 : headOk role sn.length e s = true := headOk_iff.2 (by omega)
  constructor
  · intro q
    rw [headM_ok h, headM_ok h2] at q
    obtain ⟨q1, q2⟩ := List.append_inj' q (by simp [be_len])
    obtain ⟨q3, q4⟩ := List.append_inj' q1 (by simp [be_len])
    have a1 := be_inj (k := 4) (by omega) (by omega) q4
    have a2 := be_inj (k := 6) (by omega) (by omega) q2
    omega
  · rintro ⟨rfl, rfl⟩
    rfl
theorem tagIn_parts {r : Int} {f : FrameM} (h : tagInM r f ≠ []) : headOk r f.sn.length f.epoch f.seq = true ∧ tagInM r f = [116] ++ headM r f.sn f.epoch f.seq ++ [b8 f.kind] ++ f.body := by
  unfold tagInM at h ⊢
  split at h
  · rename_i h1
    rw [if_pos h1]
    simp only [Bool.and_eq_true] at h1
    obtain ⟨⟨h2, h3⟩, h4⟩ := h1
    refine ⟨?_, rfl⟩
    simp only [frOk, frOkN, h3, if_true, Bool.and_eq_true, inB_iff] at h4
    obtain ⟨⟨⟨⟨⟨⟨⟨⟨⟨a1, a2⟩, a3⟩, a4⟩, a5⟩, a6⟩, a7⟩, a8⟩, a9⟩, a10⟩ := h4
    have := eqN_iff (m := 12).1 a3
    simp only [roleB, inB_iff] at h2
    exact headOk_iff.2 ⟨h2, this, a7, a8⟩
  · exact absurd rfl h
theorem tagIn_len25 {r : Int} {f : FrameM} (h : tagInM r f ≠ []) : (tagInM r f).length = 25 + f.body.length := by
  obtain ⟨h1, h2⟩ := tagIn_parts h
  rw [h2]
  simp [headM_len23 h1]
  omega
end Go.Proofs.Ytgeoeacfkacdpaa
