/-
  SHA-256 in plain words: words of 32 bits, the schedule, the rounds, the padding. Conditions: none beside those that each theorem names.
-/
import Derived.Test.YtpfchphgbhgmmaaGreatGb
namespace Go.Proofs.YtpfchphgbhgmmaaGreat
open Go.RowKit
def wds (l : List Nat) : List Value := ins (l.map fun x : Nat => (x : Int))
theorem wds_len (l : List Nat) : (wds l).length = l.length := by simp [wds, ins]
theorem wds_app (l m : List Nat) : wds (l ++ m) = wds l ++ wds m := by simp [wds, ins]
theorem wds_at (l : List Nat) (j x : Nat) (h : l[j]? = some x) : (wds l)[j]? = some (.int .i64 (x : Int)) := by simp [wds, ins, h]
theorem wds_set (l : List Nat) (j x : Nat) : (wds l).set j (.int .i64 (x : Int)) = wds (l.set j x) := by simp [wds, ins, List.map_set]
theorem wds_one (l : List Nat) : ∀ u ∈ wds l, u.oneCell' = true := ins_one _
theorem Rd.wlen {w : World} {a : Option Addr} {n c : Nat} {l : List Nat} (h : Rd w a n c (wds l)) : l.length = n := by have := h.len; rwa [wds_len] at this
theorem Ow.wlen {B : Nat} {w : World} {e : TypeId} {a : Option Addr} {n c : Nat} {l : List Nat} (h : Ow B w e a n c (wds l)) : l.length = n := by have := h.len; rwa [wds_len] at this
theorem Rd.word {w : World} {a : Option Addr} {n c : Nat} {l : List Nat} (h : Rd w a n c (wds l)) (j : Nat) (hj : j < n) :
    ∃ b off, a = some ⟨b, off, none⟩ ∧ w.cell? ⟨b, off + j, none⟩ = some (.int .i64 ((l.getD j 0 : Nat) : Int)) := by
  have hl := h.wlen
  obtain ⟨b, off, e, hc⟩ := h.cells j hj
  exact ⟨b, off, e, by rw [hc, wds_at l j (l.getD j 0) (by simp [List.getD, show j < l.length by omega])]⟩
/-- words below 2^32 -/
def W32 (l : List Nat) : Prop := ∀ x ∈ l, x < 4294967296
theorem W32.at {l : List Nat} (h : W32 l) (j : Nat) : l.getD j 0 < 4294967296 := by
  rw [List.getD_eq_getElem?_getD]
  cases hx : l[j]? with
  | none => simp
  | some x => exact h x (List.mem_of_getElem? hx)
theorem W32.app {l m : List Nat} (h : W32 l) (k : W32 m) : W32 (l ++ m) := fun x hx => by
  rcases List.mem_append.1 hx with h1 | h1
  · exact h x h1
  · exact k x h1
theorem xor_lt32 {a b : Nat} (ha : a < 4294967296) (hb : b < 4294967296) : a ^^^ b < 4294967296 := Nat.xor_lt_two_pow (n := 32) ha hb
theorem and_lt32 {a b : Nat} (ha : a < 4294967296) : a &&& b < 4294967296 := Nat.lt_of_le_of_lt Nat.and_le_left ha
def rotN (x n : Nat) : Nat := (x / 2 ^ n ||| x * 2 ^ (32 - n)) % 4294967296
theorem rotN_lt (x n : Nat) : rotN x n < 4294967296 := Nat.mod_lt _ (by decide)
def s0N (a : Nat) : Nat := (rotN a 7 ^^^ rotN a 18) ^^^ a / 2 ^ 3
def s1N (b : Nat) : Nat := (rotN b 17 ^^^ rotN b 19) ^^^ b / 2 ^ 10
def S0N (a : Nat) : Nat := (rotN a 2 ^^^ rotN a 13) ^^^ rotN a 22
def S1N (e : Nat) : Nat := (rotN e 6 ^^^ rotN e 11) ^^^ rotN e 25
def chN (e f g : Nat) : Nat := (e &&& f) ^^^ ((4294967295 ^^^ e) &&& g)
def majN (a b c : Nat) : Nat := ((a &&& b) ^^^ (a &&& c)) ^^^ (b &&& c)
theorem s0N_lt {a : Nat} (h : a < 4294967296) : s0N a < 4294967296 := xor_lt32 (xor_lt32 (rotN_lt _ _) (rotN_lt _ _)) (Nat.lt_of_le_of_lt (Nat.div_le_self _ _) h)
theorem s1N_lt {a : Nat} (h : a < 4294967296) : s1N a < 4294967296 := xor_lt32 (xor_lt32 (rotN_lt _ _) (rotN_lt _ _)) (Nat.lt_of_le_of_lt (Nat.div_le_self _ _) h)
theorem S0N_lt (a : Nat) : S0N a < 4294967296 := xor_lt32 (xor_lt32 (rotN_lt _ _) (rotN_lt _ _)) (rotN_lt _ _)
theorem S1N_lt (a : Nat) : S1N a < 4294967296 := xor_lt32 (xor_lt32 (rotN_lt _ _) (rotN_lt _ _)) (rotN_lt _ _)
theorem chN_lt {e f g : Nat} (he : e < 4294967296) (_hg : g < 4294967296) : chN e f g < 4294967296 := xor_lt32 (and_lt32 he) (and_lt32 (xor_lt32 (by decide) he))
theorem majN_lt {a b c : Nat} (ha : a < 4294967296) (hb : b < 4294967296) : majN a b c < 4294967296 := xor_lt32 (xor_lt32 (and_lt32 ha) (and_lt32 ha)) (and_lt32 hb)
def num (l : List UInt8) : Nat := l.foldl (fun n x => 256 * n + x.toNat) 0
theorem num_snoc (l : List UInt8) (x : UInt8) : num (l ++ [x]) = 256 * num l + x.toNat := by simp [num]
theorem num_lt (l : List UInt8) : num l < 256 ^ l.length := by
  suffices h : ∀ (k : Nat) (l : List UInt8), l.length = k → num l < 256 ^ k from h _ l rfl
  intro k
  induction k with
  | zero => intro l hl; obtain rfl := List.eq_nil_of_length_eq_zero hl; decide
  | succ k ih =>
    intro l hl
    obtain ⟨r, x, rfl⟩ : ∃ r x, l = r ++ [x] := ⟨l.dropLast, l.getLast (by intro e; subst e; simp at hl), (List.dropLast_concat_getLast _).symm⟩
    have := ih r (by simpa using hl)
    have hx := x.toNat_lt
    rw [num_snoc, Nat.pow_succ]
    omega
def w4 (b : List UInt8) (k : Nat) : Nat := num ((b.drop (4 * k)).take 4)
theorem w4_lt (b : List UInt8) (k : Nat) : w4 b k < 4294967296 := by
  have h := num_lt ((b.drop (4 * k)).take 4)
  have hl : ((b.drop (4 * k)).take 4).length ≤ 4 := List.length_take_le _ _
  exact Nat.lt_of_lt_of_le h (Nat.pow_le_pow_right (by decide) hl)
def nxt (l : List Nat) (k : Nat) : Nat := (l.getD (k - 7) 0 + l.getD (k - 16) 0 + s0N (l.getD (k - 15) 0) + s1N (l.getD (k - 2) 0)) % 4294967296
def schedL (b : List UInt8) : Nat → List Nat
  | 0 => []
  | k + 1 => schedL b k ++ [if k < 16 then w4 b k else nxt (schedL b k) k]
theorem schedL_len (b : List UInt8) : ∀ k, (schedL b k).length = k
  | 0 => rfl
  | k + 1 => by rw [schedL, List.length_append, schedL_len b k]; rfl
theorem schedL_W (b : List UInt8) : ∀ k, W32 (schedL b k)
  | 0 => fun _ h => by cases h
  | k + 1 => by
    rw [schedL]
    refine (schedL_W b k).app (fun x hx => ?_)
    rw [List.mem_singleton.1 hx]
    split
    · exact w4_lt _ _
    · exact Nat.mod_lt _ (by decide)
structure St where
  a : Nat
  b : Nat
  c : Nat
  d : Nat
  e : Nat
  f : Nat
  g : Nat
  h : Nat
structure St.ok (s : St) : Prop where
  a : s.a < 4294967296
  b : s.b < 4294967296
  c : s.c < 4294967296
  d : s.d < 4294967296
  e : s.e < 4294967296
  f : s.f < 4294967296
  g : s.g < 4294967296
  h : s.h < 4294967296
def rnd (k w : Nat) (s : St) : St :=
  ⟨(s.h + S1N s.e + chN s.e s.f s.g + k + w + (S0N s.a + majN s.a s.b s.c)) % 4294967296, s.a, s.b, s.c, (s.d + (s.h + S1N s.e + chN s.e s.f s.g + k + w)) % 4294967296, s.e, s.f, s.g⟩
theorem rnd_ok (k w : Nat) {s : St} (h : s.ok) : (rnd k w s).ok := ⟨Nat.mod_lt _ (by decide), h.a, h.b, h.c, Nat.mod_lt _ (by decide), h.e, h.f, h.g⟩
def kL : List Nat := [
  0x428a2f98, 0x71374491, 0xb5c0fbcf, 0xe9b5dba5, 0x3956c25b, 0x59f111f1, 0x923f82a4, 0xab1c5ed5,
  0xd807aa98, 0x12835b01, 0x243185be, 0x550c7dc3, 0x72be5d74, 0x80deb1fe, 0x9bdc06a7, 0xc19bf174,
  0xe49b69c1, 0xefbe4786, 0x0fc19dc6, 0x240ca1cc, 0x2de92c6f, 0x4a7484aa, 0x5cb0a9dc, 0x76f988da,
  0x983e5152, 0xa831c66d, 0xb00327c8, 0xbf597fc7, 0xc6e00bf3, 0xd5a79147, 0x06ca6351, 0x14292967,
  0x27b70a85, 0x2e1b2138, 0x4d2c6dfc, 0x53380d13, 0x650a7354, 0x766a0abb, 0x81c2c92e, 0x92722c85,
  0xa2bfe8a1, 0xa81a664b, 0xc24b8b70, 0xc76c51a3, 0xd192e819, 0xd6990624, 0xf40e3585, 0x106aa070,
  0x19a4c116, 0x1e376c08, 0x2748774c, 0x34b0bcb5, 0x391c0cb3, 0x4ed8aa4a, 0x5b9cca4f, 0x682e6ff3,
  0x748f82ee, 0x78a5636f, 0x84c87814, 0x8cc70208, 0x90befffa, 0xa4506ceb, 0xbef9a3f7, 0xc67178f2]
theorem kL_W : W32 kL := by unfold W32; decide
theorem kL_len : kL.length = 64 := rfl
def startL : List Nat := [0x6a09e667, 0xbb67ae85, 0x3c6ef372, 0xa54ff53a, 0x510e527f, 0x9b05688c, 0x1f83d9ab, 0x5be0cd19]
theorem startL_W : W32 startL := by unfold W32; decide
def rounds (ws : List Nat) : Nat → St → St
  | 0, s => s
  | i + 1, s => rnd (kL.getD i 0) (ws.getD i 0) (rounds ws i s)
theorem rounds_ok (ws : List Nat) : ∀ (i : Nat) {s : St}, s.ok → (rounds ws i s).ok
  | 0, _, h => h
  | i + 1, _, h => rnd_ok _ _ (rounds_ok ws i h)
def st0 (h : List Nat) : St := ⟨h.getD 0 0, h.getD 1 0, h.getD 2 0, h.getD 3 0, h.getD 4 0, h.getD 5 0, h.getD 6 0, h.getD 7 0⟩
theorem st0_ok {h : List Nat} (hw : W32 h) : (st0 h).ok := ⟨hw.at 0, hw.at 1, hw.at 2, hw.at 3, hw.at 4, hw.at 5, hw.at 6, hw.at 7⟩
def St.list (s : St) : List Nat := [s.a, s.b, s.c, s.d, s.e, s.f, s.g, s.h]
def addL (h : List Nat) (s : St) : List Nat := List.zipWith (fun x y => (x + y) % 4294967296) h s.list
def compM (h : List Nat) (b : List UInt8) : List Nat := addL h (rounds (schedL b 64) 64 (st0 h))
theorem compM_len {h : List Nat} (b : List UInt8) (hl : h.length = 8) : (compM h b).length = 8 := by simp [compM, addL, St.list, hl]
theorem compM_W (h : List Nat) (b : List UInt8) : W32 (compM h b) := by
  intro x hx
  unfold compM addL at hx
  rw [List.mem_iff_getElem?] at hx
  obtain ⟨i, hi⟩ := hx
  rw [List.getElem?_zipWith] at hi
  split at hi
  · cases hi; exact Nat.mod_lt _ (by decide)
  · cases hi
/-- j blocks of bytes worked in -/
def cTo (h : List Nat) (b : List UInt8) : Nat → List Nat
  | 0 => h
  | j + 1 => compM (cTo h b j) ((b.drop (64 * j)).take 64)
theorem cTo_len {h : List Nat} (b : List UInt8) (hl : h.length = 8) : ∀ j, (cTo h b j).length = 8
  | 0 => hl
  | j + 1 => compM_len _ (cTo_len b hl j)
theorem cTo_W {h : List Nat} (b : List UInt8) (hw : W32 h) : ∀ j, W32 (cTo h b j)
  | 0 => hw
  | _ + 1 => compM_W _ _
theorem cTo_app (h : List Nat) (b p : List UInt8) : ∀ j, 64 * j ≤ b.length → cTo h (b ++ p) j = cTo h b j
  | 0, _ => rfl
  | j + 1, hj => by
    rw [cTo, cTo, cTo_app h b p j (by omega), List.drop_append_of_le_length (by omega), List.take_append_of_le_length (by rw [List.length_drop]; omega)]
theorem cTo_add (h : List Nat) (b : List UInt8) (i : Nat) : ∀ j, cTo h b (i + j) = cTo (cTo h b i) (b.drop (64 * i)) j
  | 0 => rfl
  | j + 1 => by
    rw [← Nat.add_assoc, cTo, cTo, cTo_add h b i j, List.drop_drop, show 64 * i + 64 * j = 64 * (i + j) by omega]
/-- the padding behind n bytes -/
def padZ (n : Nat) : Nat := (119 - n % 64) % 64
def padM (n : Nat) : List UInt8 := [128] ++ List.replicate (padZ n) 0 ++ be 0 4 ++ be (8 * n) 4
theorem padM_len (n : Nat) : (padM n).length = padZ n + 9 := by simp [padM, be_len]
theorem padM_mod (n : Nat) : (n + (padM n).length) % 64 = 0 := by rw [padM_len]; unfold padZ; omega
theorem padM_le (n : Nat) : (padM n).length ≤ 72 := by rw [padM_len]; unfold padZ; omega
theorem padM_six {n : Nat} (h : n ≤ 1048576) : [128] ++ List.replicate (padZ n) 0 ++ [0, 0] ++ be (8 * n) 6 = padM n := by
  have h1 : 8 * n / 2 ^ (8 * 5) = 0 := Nat.div_eq_of_lt (by omega)
  have h2 : 8 * n / 2 ^ (8 * 4) = 0 := Nat.div_eq_of_lt (by omega)
  have e : be (8 * n) 6 = [0, 0] ++ be (8 * n) 4 := by rw [be, be, h1, h2]; rfl
  rw [e, padM, show be 0 4 = [0, 0, 0, 0] by decide]
  simp
def outB (h : List Nat) : List UInt8 := (h.map fun x => be x 4).flatten
theorem outB_len (h : List Nat) : (outB h).length = 4 * h.length := by
  induction h with
  | nil => rfl
  | cons x r ih =>
    rw [outB, List.map_cons, List.flatten_cons, List.length_append, be_len, ← outB, ih, List.length_cons]
    omega
def shaL (l : List UInt8) : List UInt8 := outB (cTo startL (l ++ padM l.length) ((l ++ padM l.length).length / 64))
def shaM (l : List UInt8) : List UInt8 := if l.length ≤ 1048576 then shaL l else []
theorem shaL_len (l : List UInt8) : (shaL l).length = 32 := by rw [shaL, outB_len, cTo_len _ rfl]
theorem shaM_le (l : List UInt8) : (shaM l).length ≤ 32 := by
  unfold shaM
  split
  · rw [shaL_len]
    exact Nat.le_refl _
  · simp
/-- the hash of what is held and what is added -/
theorem sha_split (l : List UInt8) (k : Nat) (hk : k = l.length / 64) :
    cTo (cTo startL l k) (l.drop (64 * k) ++ padM l.length) ((l.drop (64 * k) ++ padM l.length).length / 64) = cTo startL (l ++ padM l.length) ((l ++ padM l.length).length / 64) := by
  have h1 := padM_mod l.length
  have e : (l ++ padM l.length).length / 64 = k + (l.drop (64 * k) ++ padM l.length).length / 64 := by
    simp only [List.length_append, List.length_drop]
    omega
  rw [e, cTo_add, cTo_app startL l (padM l.length) k (by omega), List.drop_append_of_le_length (by omega)]
theorem mask32 (n : Nat) (h : n < 2 ^ 63) : bits .and .i64 (n : Int) 4294967295 = ((n % 4294967296 : Nat) : Int) := by
  rw [show (4294967295 : Int) = ((4294967295 : Nat) : Int) from rfl, i64_and _ _ h (by decide), show (4294967295 : Nat) = 2 ^ 32 - 1 from rfl, Nat.and_two_pow_sub_one_eq_mod]
end Go.Proofs.YtpfchphgbhgmmaaGreat
