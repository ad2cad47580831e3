/- A check of bytes, in words: the whole byte at once and bit by bit come to the same; a byte that differs tells. -/
import Derived.WalkKit
set_option linter.unusedVariables false
set_option linter.unusedSimpArgs false
namespace Go.Proofs.Ytmbbkliekgiolaa
def cs (c : Nat) : Nat := ((c * 2) % 65536) ^^^ (c / 32768 * 4129)
def cb (c bit : Nat) : Nat := if c / 32768 % 2 ≠ bit then (c * 2 % 65536) ^^^ 4129 else c * 2 % 65536
theorem two_mul_xor (a b : Nat) : (a ^^^ b) * 2 = (a * 2) ^^^ (b * 2) := by
  have h := Nat.shiftLeft_xor_distrib (a := a) (b := b) (i := 1)
  simpa [Nat.shiftLeft_eq] using h
theorem mod_xor (a b : Nat) : (a ^^^ b) % 65536 = (a % 65536) ^^^ (b % 65536) := Nat.xor_mod_two_pow (n := 16)
theorem div_xor (a b : Nat) : (a ^^^ b) / 32768 = (a / 32768) ^^^ (b / 32768) := Nat.xor_div_two_pow (n := 15)
theorem xor_lt {a b : Nat} (ha : a < 65536) (hb : b < 65536) : a ^^^ b < 65536 := Nat.xor_lt_two_pow (n := 16) ha hb
theorem top_le {a : Nat} (ha : a < 65536) : a / 32768 = 0 ∨ a / 32768 = 1 := by omega
theorem cs_lt {a : Nat} (ha : a < 65536) : cs a < 65536 := by
  unfold cs
  refine xor_lt (Nat.mod_lt _ (by omega)) ?_
  rcases top_le ha with h | h <;> rw [h] <;> decide
theorem cs_xor {a b : Nat} (ha : a < 65536) (hb : b < 65536) : cs (a ^^^ b) = cs a ^^^ cs b := by
  unfold cs
  rw [two_mul_xor, mod_xor, div_xor]
  have h : ((a / 32768) ^^^ (b / 32768)) * 4129 = (a / 32768 * 4129) ^^^ (b / 32768 * 4129) := by
    rcases top_le ha with h | h <;> rcases top_le hb with h' | h' <;> rw [h, h'] <;> decide
  rw [h]
  ac_rfl
theorem cs_zero {a : Nat} (ha : a < 65536) (h : cs a = 0) : a = 0 := by
  unfold cs at h
  rcases top_le ha with h1 | h1
  · rw [h1] at h
    simp at h
    omega
  · rw [h1] at h
    have h2 : (a * 2 % 65536) = 4129 := by
      have := congrArg (· ^^^ 4129) h
      simpa [Nat.xor_assoc] using this
    omega
theorem cs_inj {a b : Nat} (ha : a < 65536) (hb : b < 65536) (h : cs a = cs b) : a = b := by
  have h1 : cs (a ^^^ b) = 0 := by rw [cs_xor ha hb, h, Nat.xor_self]
  have h2 := cs_zero (xor_lt ha hb) h1
  have h3 := congrArg (· ^^^ b) h2
  simpa [Nat.xor_assoc] using h3
def csN : Nat → Nat → Nat
  | 0, c => c
  | k + 1, c => cs (csN k c)
theorem csN_lt {a : Nat} (ha : a < 65536) : ∀ k, csN k a < 65536
  | 0 => ha
  | k + 1 => cs_lt (csN_lt ha k)
theorem csN_inj {a b : Nat} (ha : a < 65536) (hb : b < 65536) : ∀ k, csN k a = csN k b → a = b
  | 0, h => h
  | k + 1, h => csN_inj ha hb k (cs_inj (csN_lt ha k) (csN_lt hb k) h)
/-- One byte. -/
def by1 (c x : Nat) : Nat := csN 8 (c ^^^ (x * 256))
def crc (c : Nat) (l : List Nat) : Nat := l.foldl by1 c
theorem by1_lt {c x : Nat} (hc : c < 65536) (hx : x < 256) : by1 c x < 65536 := csN_lt (xor_lt hc (by omega)) 8
theorem crc_lt {l : List Nat} (hl : ∀ x ∈ l, x < 256) : ∀ {c : Nat}, c < 65536 → crc c l < 65536 := by
  induction l with
  | nil => exact fun h => h
  | cons x l ih => exact fun h => ih (fun y hy => hl y (.tail _ hy)) (by1_lt h (hl x (.head _)))
theorem by1_inj {c d x : Nat} (hc : c < 65536) (hd : d < 65536) (hx : x < 256) (h : by1 c x = by1 d x) : c = d := by
  have h1 := csN_inj (xor_lt hc (b := x * 256) (by omega)) (xor_lt hd (by omega)) 8 h
  have := congrArg (· ^^^ (x * 256)) h1
  simpa [Nat.xor_assoc] using this
theorem by1_ne {c x y : Nat} (hc : c < 65536) (hx : x < 256) (hy : y < 256) (h : by1 c x = by1 c y) : x = y := by
  have h1 := csN_inj (xor_lt hc (b := x * 256) (by omega)) (xor_lt hc (by omega)) 8 h
  have h2 := congrArg (c ^^^ ·) h1
  simp only [← Nat.xor_assoc, Nat.xor_self, Nat.zero_xor] at h2
  omega
theorem crc_inj {l : List Nat} (hl : ∀ x ∈ l, x < 256) : ∀ {c d : Nat}, c < 65536 → d < 65536 → crc c l = crc d l → c = d := by
  induction l with
  | nil => exact fun _ _ h => h
  | cons x l ih => exact fun hc hd h => by1_inj hc hd (hl x (.head _)) (ih (fun y hy => hl y (.tail _ hy)) (by1_lt hc (hl x (.head _))) (by1_lt hd (hl x (.head _))) h)
theorem crc_set {l : List Nat} (hl : ∀ x ∈ l, x < 256) : ∀ {c k y : Nat}, c < 65536 → (hk : k < l.length) → y < 256 → y ≠ l[k] → crc c (l.set k y) ≠ crc c l := by
  induction l with
  | nil => intro c k y _ hk; exact absurd hk (by simp)
  | cons x l ih =>
    intro c k y hc hk hy hne h
    have hx := hl x (.head _)
    have hl' : ∀ z ∈ l, z < 256 := fun z hz => hl z (.tail _ hz)
    cases k with
    | zero => exact hne (by1_ne hc hy hx (crc_inj hl' (by1_lt hc hy) (by1_lt hc hx) h))
    | succ k => exact ih hl' (by1_lt hc hx) (by simpa using hk) hy (by simpa using hne) h
/-- Bit by bit: the state behind j bits. -/
def cbN (x : Nat) : Nat → Nat → Nat
  | 0, c => c
  | j + 1, c => cb (cbN x j c) (x / 2 ^ (7 - j) % 2)
theorem cb_lt {c bit : Nat} : cb c bit < 65536 := by
  unfold cb
  split
  · exact xor_lt (Nat.mod_lt _ (by omega)) (by omega)
  · exact Nat.mod_lt _ (by omega)
theorem cb_cs {c r t : Nat} (hr : r < 65536) (ht : t < 65536) : cs (r ^^^ t) = cb r (t / 32768) ^^^ (t * 2 % 65536) := by
  rw [cs_xor hr ht]
  unfold cs cb
  rcases top_le hr with h | h <;> rcases top_le ht with h' | h' <;> rw [h, h'] <;> simp
  · ac_rfl
  · rw [show r * 2 % 65536 ^^^ 4129 ^^^ (t * 2 % 65536 ^^^ 4129) = (r * 2 % 65536 ^^^ t * 2 % 65536) ^^^ (4129 ^^^ 4129) by ac_rfl, Nat.xor_self, Nat.xor_zero]
theorem shift_top {x j : Nat} (hx : x < 256) (hj : j < 8) : x * 256 * 2 ^ j % 65536 / 32768 = x / 2 ^ (7 - j) % 2 := by
  match j, hj with
  | 0, _ | 1, _ | 2, _ | 3, _ | 4, _ | 5, _ | 6, _ | 7, _ => simp; omega
theorem cbN_eq {c x : Nat} (hc : c < 65536) (hx : x < 256) : ∀ j, j ≤ 8 → cbN x j c < 65536 ∧ csN j (c ^^^ (x * 256)) = cbN x j c ^^^ (x * 256 * 2 ^ j % 65536)
  | 0, _ => ⟨hc, by
    show c ^^^ (x * 256) = c ^^^ (x * 256 * 2 ^ 0 % 65536)
    rw [Nat.pow_zero, Nat.mul_one, Nat.mod_eq_of_lt (by omega)]⟩
  | j + 1, hj => by
    obtain ⟨h1, h2⟩ := cbN_eq hc hx j (by omega)
    refine ⟨cb_lt, ?_⟩
    show cs (csN j (c ^^^ (x * 256))) = _
    rw [h2, cb_cs (c := c) h1 (Nat.mod_lt _ (by omega)), shift_top hx (by omega)]
    show cb (cbN x j c) (x / 2 ^ (7 - j) % 2) ^^^ _ = cb (cbN x j c) (x / 2 ^ (7 - j) % 2) ^^^ _
    congr 1
    rw [Nat.pow_succ, ← Nat.mul_assoc]
    omega
theorem by1_bits {c x : Nat} (hc : c < 65536) (hx : x < 256) : cbN x 8 c = by1 c x := by
  obtain ⟨h1, h2⟩ := cbN_eq hc hx 8 (by omega)
  unfold by1
  rw [h2, show x * 256 * 2 ^ 8 % 65536 = 0 by omega, Nat.xor_zero]
end Go.Proofs.Ytmbbkliekgiolaa
