/- Short numbers, the plain law: their bytes, what begins with them, and no other one. -/
import Derived.Test.YtlplhlncdfhhoaaSk
set_option linter.unusedVariables false
set_option linter.unusedSimpArgs false
namespace Go.Proofs.Ytlplhlncdfhhoaa
/-- A number in groups of seven bits, the lowest first. -/
def leb (u : Nat) : List Nat := if h : u < 128 then [u] else (u % 128 + 128) :: leb (u / 128)
termination_by u
decreasing_by omega
theorem leb_lo {u : Nat} (h : u < 128) : leb u = [u] := by rw [leb]; rw [dif_pos h]
theorem leb_hi {u : Nat} (h : 128 ≤ u) : leb u = (u % 128 + 128) :: leb (u / 128) := by rw [leb]; rw [dif_neg (by omega)]
theorem leb_bytes (u : Nat) : Bytes (leb u) := by
  induction u using Nat.strongRecOn with
  | _ u ih =>
    by_cases h : u < 128
    · rw [leb_lo h]; intro x hx; simp at hx; omega
    · rw [leb_hi (by omega)]
      intro x hx
      rcases List.mem_cons.1 hx with rfl | hx
      · omega
      · exact ih (u / 128) (by omega) x hx
theorem leb_pos (u : Nat) : 0 < (leb u).length := by
  by_cases h : u < 128
  · rw [leb_lo h]; simp
  · rw [leb_hi (by omega)]; simp
theorem leb_len : ∀ (k u : Nat), u < 128 ^ k → 0 < k → (leb u).length ≤ k
  | 0, u, _, h => by omega
  | k + 1, u, h, _ => by
    by_cases hu : u < 128
    · rw [leb_lo hu]; simp
    · rw [leb_hi (by omega), List.length_cons]
      rw [Nat.pow_succ] at h
      have h2 : u / 128 < 128 ^ k := Nat.div_lt_of_lt_mul (by omega)
      have hk : 0 < k := by
        rcases k with _ | k
        · simp at h2; omega
        · omega
      have := leb_len k (u / 128) h2 hk
      omega
theorem leb_len10 {u : Nat} (h : u < 18446744073709551616) : (leb u).length ≤ 10 := leb_len 10 u (by have : (128 : Nat) ^ 10 = 1180591620717411303424 := by decide
                                                                                                     omega) (by omega)
/-- What groups come to. -/
def lval : List Nat → Nat
  | [] => 0
  | x :: l => x % 128 + 128 * lval l
theorem lval_app : ∀ (p q : List Nat), lval (p ++ q) = lval p + 128 ^ p.length * lval q
  | [], q => by simp [lval]
  | x :: p, q => by
    show x % 128 + 128 * lval (p ++ q) = (x % 128 + 128 * lval p) + 128 ^ (p.length + 1) * lval q
    rw [lval_app p q, Nat.pow_succ, Nat.mul_add, ← Nat.mul_assoc, Nat.mul_comm (128 ^ p.length) 128]
    omega
theorem lval_lt : ∀ (p : List Nat), lval p < 128 ^ p.length
  | [] => by simp [lval]
  | x :: p => by
    have := lval_lt p
    show x % 128 + 128 * lval p < 128 ^ (p.length + 1)
    rw [Nat.pow_succ]; omega
theorem lval_leb (u : Nat) : lval (leb u) = u := by
  induction u using Nat.strongRecOn with
  | _ u ih =>
    by_cases h : u < 128
    · rw [leb_lo h]; simp [lval]; omega
    · rw [leb_hi (by omega)]
      show (u % 128 + 128) % 128 + 128 * lval (leb (u / 128)) = u
      rw [ih (u / 128) (by omega)]; omega
/-- All groups but the last bear the mark. -/
theorem leb_of : ∀ (p : List Nat) (c : Nat), (∀ x ∈ p, 128 ≤ x ∧ x < 256) → c < 128 → (p = [] ∨ 0 < c) → leb (lval (p ++ [c])) = p ++ [c]
  | [], c, _, hc, _ => by
    show leb (c % 128 + 128 * 0) = [c]
    rw [leb_lo (by omega)]; congr 1; omega
  | x :: p, c, hp, hc, h0 => by
    have hx := hp x (.head _)
    have hc0 : 0 < c := by rcases h0 with h | h; cases h; exact h
    have ih := leb_of p c (fun y hy => hp y (.tail _ hy)) hc (.inr hc0)
    have h1 : 0 < lval (p ++ [c]) := by
      have : lval [c] = c := by show c % 128 + 128 * 0 = c; omega
      rw [lval_app, this]
      have h2 : 0 < 128 ^ p.length * c := Nat.mul_pos (Nat.pow_pos (by decide)) hc0
      omega
    show leb (x % 128 + 128 * lval (p ++ [c])) = x :: (p ++ [c])
    rw [leb_hi (by omega), show (x % 128 + 128 * lval (p ++ [c])) / 128 = lval (p ++ [c]) from by omega, ih]
    congr 1; omega
/-- The groups of a number: what stands ahead of each place. -/
theorem leb_split (u : Nat) : ∀ (p q : List Nat), leb u = p ++ q → q ≠ [] → q = leb (u / 128 ^ p.length) ∧ (∀ x ∈ p, 128 ≤ x ∧ x < 256) ∧ (p ≠ [] → 0 < u / 128 ^ p.length)
  | [], q, h, _ => ⟨by simpa using h.symm, by simp, fun h => absurd rfl h⟩
  | x :: p, q, h, hq => by
    by_cases hu : u < 128
    · rw [leb_lo hu] at h
      have := congrArg List.length h
      simp only [List.length_cons, List.length_nil, List.length_append, List.cons_append] at this
      exact absurd (List.eq_nil_of_length_eq_zero (by omega)) hq
    · rw [leb_hi (by omega)] at h
      obtain ⟨h1, h2⟩ := List.cons.inj h
      obtain ⟨i1, i2, i3⟩ := leb_split (u / 128) p q h2 hq
      have hd : u / 128 / 128 ^ p.length = u / 128 ^ (x :: p).length := by rw [Nat.div_div_eq_div_mul, List.length_cons, Nat.pow_succ, Nat.mul_comm]
      rw [hd] at i1 i3
      refine ⟨i1, ?_, fun _ => ?_⟩
      · intro y hy
        rcases List.mem_cons.1 hy with rfl | hy
        · omega
        · exact i2 y hy
      · by_cases hp : p = []
        · subst hp
          show 0 < u / 128 ^ 1
          rw [Nat.pow_one]; omega
        · exact i3 hp
/-- A prefix of marked groups is a prefix of the number's. -/
theorem leb_pre {u : Nat} : ∀ {p r rest : List Nat}, (∀ x ∈ p, 128 ≤ x) → leb u ++ r = p ++ rest → ∃ q, leb u = p ++ q ∧ q ≠ [] ∧ rest = q ++ r := by
  induction u using Nat.strongRecOn with
  | _ u ih =>
    intro p r rest hp h
    cases p with
    | nil => exact ⟨leb u, rfl, (fun e => by have := leb_pos u; rw [e] at this; cases this), h.symm⟩
    | cons x p =>
      by_cases hu : u < 128
      · rw [leb_lo hu] at h
        obtain ⟨h1, _⟩ := List.cons.inj h
        have := hp x (.head _)
        omega
      · rw [leb_hi (by omega)] at h ⊢
        obtain ⟨h1, h2⟩ := List.cons.inj h
        obtain ⟨q, e1, e2, e3⟩ := ih (u / 128) (by omega) (fun y hy => hp y (.tail _ hy)) h2
        exact ⟨q, by rw [h1, e1]; rfl, e2, e3⟩
theorem leb_inj {u v : Nat} {r s : List Nat} (h : leb u ++ r = leb v ++ s) : u = v ∧ r = s := by
  induction u using Nat.strongRecOn generalizing v with
  | _ u ih =>
    by_cases hu : u < 128 <;> by_cases hv : v < 128
    · rw [leb_lo hu, leb_lo hv] at h; exact List.cons.inj h
    · rw [leb_lo hu, leb_hi (u := v) (by omega)] at h; have := (List.cons.inj h).1; omega
    · rw [leb_hi (u := u) (by omega), leb_lo hv] at h; have := (List.cons.inj h).1; omega
    · rw [leb_hi (u := u) (by omega), leb_hi (u := v) (by omega)] at h
      obtain ⟨h1, h2⟩ := List.cons.inj h
      obtain ⟨i1, i2⟩ := ih (u / 128) (by omega) h2
      exact ⟨by omega, i2⟩
/-- A whole number, its sign the lowest bit. -/
def zig (n : Int) : Nat := if 0 ≤ n then (2 * n).toNat else (-2 * n - 1).toNat
def unzig (u : Nat) : Int := if u % 2 = 0 then ((u / 2 : Nat) : Int) else -((u / 2 : Nat) : Int) - 1
theorem unzig_zig (n : Int) : unzig (zig n) = n := by unfold unzig zig; split <;> split <;> omega
theorem zig_unzig (u : Nat) : zig (unzig u) = u := by unfold unzig zig; split <;> split <;> omega
theorem zig_inj {a b : Int} (h : zig a = zig b) : a = b := by rw [← unzig_zig a, h, unzig_zig]
theorem zig_lt {n : Int} (h1 : -9223372036854775808 ≤ n) (h2 : n ≤ 9223372036854775807) : zig n < 18446744073709551616 := by unfold zig; split <;> omega
theorem unzig_rng {u : Nat} (h : u < 18446744073709551616) : -9223372036854775808 ≤ unzig u ∧ unzig u ≤ 9223372036854775807 := by unfold unzig; split <;> omega
/-- A number's short bytes. -/
def short (n : Int) : List Nat := leb (zig n)
theorem short_bytes (n : Int) : Bytes (short n) := leb_bytes _
theorem short_pos (n : Int) : 0 < (short n).length := leb_pos _
theorem short_len {n : Int} (h1 : -9223372036854775808 ≤ n) (h2 : n ≤ 9223372036854775807) : (short n).length ≤ 10 := leb_len10 (zig_lt h1 h2)
theorem short_inj {a b : Int} {r s : List Nat} (h : short a ++ r = short b ++ s) : a = b ∧ r = s := by
  obtain ⟨h1, h2⟩ := leb_inj h
  exact ⟨zig_inj h1, h2⟩
/-- No number's short bytes begin these. -/
def NoShort (b : List Nat) : Prop := ∀ n r, -9223372036854775808 ≤ n → n ≤ 9223372036854775807 → b ≠ short n ++ r
/-- What a reader of short numbers says of bytes. -/
def LongR (b : List Nat) (n : Int) (k : Nat) (ok : Bool) : Prop := (ok = true → (∃ r, b = short n ++ r) ∧ k = (short n).length ∧ -9223372036854775808 ≤ n ∧ n ≤ 9223372036854775807) ∧ (ok = false → n = 0 ∧ k = 0 ∧ NoShort b)
theorem noshort {b : List Nat} (h : ∀ u r, u < 18446744073709551616 → b = leb u ++ r → False) : NoShort b := fun n r h1 h2 e => h (zig n) r (zig_lt h1 h2) e
/-- A reader at place i: what stood ahead all bore the mark. -/
structure LongI (b : List Nat) (i : Nat) : Prop where
  le : i ≤ b.length
  mark : ∀ x ∈ b.take i, 128 ≤ x
theorem LongI.zero (b : List Nat) : LongI b 0 := ⟨Nat.zero_le _, by simp⟩
theorem LongI.next {b : List Nat} {i x : Nat} (h : LongI b i) (hx : b[i]? = some x) (h2 : 128 ≤ x) : LongI b (i + 1) := by
  have hlt : i < b.length := (List.getElem?_eq_some_iff.1 hx).1
  refine ⟨hlt, ?_⟩
  rw [List.take_add_one, hx]
  intro y hy
  rcases List.mem_append.1 hy with hy | hy
  · exact h.mark y hy
  · simp at hy; omega
theorem lval_next {b : List Nat} {i x : Nat} (hx : b[i]? = some x) : lval (b.take (i + 1)) = lval (b.take i) + 128 ^ i * (x % 128) := by
  have hlt : i < b.length := (List.getElem?_eq_some_iff.1 hx).1
  rw [List.take_add_one, hx, Option.toList, lval_app, List.length_take, Nat.min_eq_left (by omega)]
  show _ + 128 ^ i * (x % 128 + 128 * 0) = _
  rw [Nat.mul_zero, Nat.add_zero]
theorem lval_take {b : List Nat} {i : Nat} (h : i ≤ b.length) : lval (b.take i) < 128 ^ i := by
  have := lval_lt (b.take i)
  rwa [List.length_take, Nat.min_eq_left h] at this
/-- The number that begins them, seen at place i. -/
theorem LongI.see {b r : List Nat} {i u : Nat} (h : LongI b i) (e : b = leb u ++ r) : ∃ q, leb u = b.take i ++ q ∧ q = leb (u / 128 ^ i) ∧ q ≠ [] ∧ b.drop i = q ++ r ∧ (0 < i → 0 < u / 128 ^ i) ∧ i < b.length := by
  have hl : (b.take i).length = i := by rw [List.length_take]; have := h.le; omega
  obtain ⟨q, h1, h2, h3⟩ := leb_pre (p := b.take i) (rest := b.drop i) h.mark (by rw [List.take_append_drop]; exact e.symm)
  obtain ⟨s1, _, s3⟩ := leb_split u _ _ h1 h2
  rw [hl] at s1 s3
  refine ⟨q, h1, s1, h2, h3, fun hi => s3 fun e => by rw [e] at hl; simp at hl; omega, ?_⟩
  have := congrArg List.length h3
  rw [List.length_drop, List.length_append] at this
  have : 0 < q.length := by
    cases q with
    | nil => exact absurd rfl h2
    | cons a q => simp
  omega
theorem LongI.head {b r : List Nat} {i u x : Nat} (h : LongI b i) (hx : b[i]? = some x) (e : b = leb u ++ r) : (x < 128 ↔ u / 128 ^ i < 128) ∧ x % 128 = u / 128 ^ i % 128 ∧ (0 < i → 0 < u / 128 ^ i) := by
  obtain ⟨q, h1, h2, h3, h4, h5, h6⟩ := h.see e
  have hx2 : (b.drop i)[0]? = some x := by rw [List.getElem?_drop, Nat.add_zero]; exact hx
  rw [h4, h2] at hx2
  by_cases hu : u / 128 ^ i < 128
  · rw [leb_lo hu] at hx2; simp at hx2; refine ⟨by omega, by omega, h5⟩
  · rw [leb_hi (by omega)] at hx2; simp at hx2; refine ⟨by omega, by omega, h5⟩
theorem LongI.none {b : List Nat} (h : LongI b b.length) : NoShort b := noshort fun u r _ e => by
  obtain ⟨q, _, _, _, _, _, h6⟩ := h.see e
  omega
theorem LongI.zeroB {b : List Nat} {i x : Nat} (h : LongI b i) (hx : b[i]? = some x) (h0 : x = 0) (hi : 0 < i) : NoShort b := noshort fun u r _ e => by
  obtain ⟨h1, h2, h3⟩ := h.head hx e
  have := h3 hi
  have := h1.1 (by omega)
  omega
theorem pow9 : (128 : Nat) ^ 9 = 9223372036854775808 := by decide
theorem LongI.late {b : List Nat} {i x : Nat} (h : LongI b i) (hx : b[i]? = some x) (hi : i = 9) (h2 : 2 ≤ x % 128 ∨ 128 ≤ x) : NoShort b := noshort fun u r hu e => by
  obtain ⟨h1, h3, h4⟩ := h.head hx e
  subst hi
  rw [pow9] at h1 h3
  have : u / 9223372036854775808 < 2 := by omega
  omega
theorem LongI.out {b : List Nat} {i : Nat} (h : LongI b i) (hi : 10 ≤ i) : NoShort b := noshort fun u r hu e => by
  obtain ⟨q, h1, _, h3, _⟩ := h.see e
  have h5 := leb_len10 hu
  rw [h1, List.length_append, List.length_take] at h5
  have : 0 < q.length := by
    cases q with
    | nil => exact absurd rfl h3
    | cons a q => simp
  have := h.le
  omega
theorem LongI.yes {b : List Nat} {i x : Nat} (hB : Bytes b) (h : LongI b i) (hx : b[i]? = some x) (hl : x < 128) (h0 : x ≠ 0 ∨ i = 0) (hu : lval (b.take (i + 1)) < 18446744073709551616) : LongR b (unzig (lval (b.take (i + 1)))) (i + 1) true := by
  have hlt : i < b.length := (List.getElem?_eq_some_iff.1 hx).1
  have ht : b.take (i + 1) = b.take i ++ [x] := by rw [List.take_add_one, hx]; rfl
  have hs : short (unzig (lval (b.take (i + 1)))) = b.take (i + 1) := by
    unfold short
    rw [zig_unzig, ht, leb_of _ _ (fun y hy => ⟨h.mark y hy, hB y (List.mem_of_mem_take hy)⟩) hl]
    rcases h0 with h0 | h0
    · exact .inr (by omega)
    · subst h0; exact .inl rfl
  refine ⟨fun _ => ⟨⟨b.drop (i + 1), by rw [hs, List.take_append_drop]⟩, (by rw [hs, List.length_take]; omega), (unzig_rng hu).1, (unzig_rng hu).2⟩, fun h => (by cases h)⟩
theorem LongR.no {b : List Nat} (h : NoShort b) : LongR b 0 0 false := ⟨fun h => (by cases h), fun _ => ⟨rfl, rfl, h⟩⟩
theorem or_step {a c k : Nat} (h : a < 2 ^ k) : a ||| (c * 2 ^ k) = a + c * 2 ^ k := by
  have := Nat.two_pow_add_eq_or_of_lt h c
  rw [Nat.or_comm, Nat.mul_comm c, ← this, Nat.add_comm]
theorem or128 {c : Nat} (h : c < 256) : c ||| 128 = c % 128 + 128 := by
  have h1 : c ||| 128 = (c % 128) ||| 128 := by
    by_cases h2 : c < 128
    · rw [Nat.mod_eq_of_lt h2]
    · have e : c = 128 * 1 + c % 128 := by omega
      have h3 := Nat.two_pow_add_eq_or_of_lt (i := 7) (b := c % 128) (by omega) 1
      conv => lhs; rw [e]
      rw [show 128 * 1 + c % 128 = 2 ^ 7 * 1 + c % 128 from rfl, h3]
      rw [show (2 : Nat) ^ 7 * 1 = 128 from rfl, Nat.or_comm 128 (c % 128), Nat.or_assoc, Nat.or_self]
  rw [h1, show (128 : Nat) = 1 * 2 ^ 7 from rfl, or_step (by omega)]
theorem and127 (c : Nat) : c &&& 127 = c % 128 := Nat.and_two_pow_sub_one_eq_mod c 7
theorem and1 (c : Nat) : c &&& 1 = c % 2 := Nat.and_two_pow_sub_one_eq_mod c 1
end Go.Proofs.Ytlplhlncdfhhoaa
