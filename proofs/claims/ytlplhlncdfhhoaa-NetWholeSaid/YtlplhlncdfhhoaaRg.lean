/- Letters, the plain law: which are right, their nodes as bits, their bytes. -/
import Derived.Test.YtlplhlncdfhhoaaRf
set_option linter.unusedVariables false
set_option linter.unusedSimpArgs false
namespace Go.Proofs.Ytlplhlncdfhhoaa
/-- A letter: its kind, from, to, its transaction, its nodes. -/
structure Lr where
  k : Int
  f : Int
  t : Int
  x : Int
  nd : List Int
def LV (l : Lr) (an : Option Addr) (cn : Nat) : List Value := [.int .i64 l.k, .int .i64 l.f, .int .i64 l.t, .int .i64 l.x, .slice an l.nd.length cn]
/-- Do nodes rise behind a? -/
def risB : Int → List Int → Bool
  | _, [] => true
  | a, x :: l => decide (a < x) && decide (0 ≤ x) && decide (x < 16) && risB x l
theorem risB_cons {a x : Int} {l : List Int} : risB a (x :: l) = true ↔ a < x ∧ 0 ≤ x ∧ x < 16 ∧ risB x l = true := by
  show (decide (a < x) && decide (0 ≤ x) && decide (x < 16) && risB x l) = true ↔ _
  simp only [Bool.and_eq_true, decide_eq_true_eq]
  constructor
  · rintro ⟨⟨⟨h1, h2⟩, h3⟩, h4⟩; exact ⟨h1, h2, h3, h4⟩
  · rintro ⟨h1, h2, h3, h4⟩; exact ⟨⟨⟨h1, h2⟩, h3⟩, h4⟩
/-- Is a letter right? -/
def rightL (l : Lr) : Bool := decide (1 ≤ l.k ∧ l.k ≤ 8 ∧ 0 ≤ l.f ∧ l.f < 16 ∧ 0 ≤ l.t ∧ l.t < 16 ∧ 0 ≤ l.x ∧ l.x ≤ 1099511627776) && (if l.k = 1 then risB (-1) l.nd else decide (l.nd = []))
theorem rightL_iff {l : Lr} : rightL l = true ↔ (1 ≤ l.k ∧ l.k ≤ 8 ∧ 0 ≤ l.f ∧ l.f < 16 ∧ 0 ≤ l.t ∧ l.t < 16 ∧ 0 ≤ l.x ∧ l.x ≤ 1099511627776) ∧ ((l.k = 1 → risB (-1) l.nd = true) ∧ (l.k ≠ 1 → l.nd = [])) := by
  unfold rightL
  rw [Bool.and_eq_true, decide_eq_true_eq]
  split
  · rename_i h; constructor
    · rintro ⟨h1, h2⟩; exact ⟨h1, fun _ => h2, fun h3 => absurd h h3⟩
    · rintro ⟨h1, h2, _⟩; exact ⟨h1, h2 h⟩
  · rename_i h; rw [decide_eq_true_eq]; constructor
    · rintro ⟨h1, h2⟩; exact ⟨h1, fun h3 => absurd h3 h, fun _ => h2⟩
    · rintro ⟨h1, _, h2⟩; exact ⟨h1, h2 h⟩
theorem rightL_ris {l : Lr} (h : rightL l = true) : risB (-1) l.nd = true := by
  obtain ⟨_, h1, h2⟩ := rightL_iff.1 h
  by_cases hk : l.k = 1
  · exact h1 hk
  · rw [h2 hk]; rfl
/-- The last of the nodes that were seen, and whether all rise till then. -/
def lastN (nd : List Int) (i : Nat) : Int := if i = 0 then -1 else (nd[i - 1]?).getD 0
theorem lastN_zero (nd : List Int) : lastN nd 0 = -1 := rfl
theorem lastN_succ {nd : List Int} {i : Nat} {x : Int} (h : nd[i]? = some x) : lastN nd (i + 1) = x := by
  unfold lastN
  rw [if_neg (by omega), Nat.add_sub_cancel, h]; rfl
def okTo (nd : List Int) (i : Nat) : Prop := ∀ j, j < i → ∀ x, nd[j]? = some x → lastN nd j < x ∧ 0 ≤ x ∧ x < 16
theorem okTo.zero (nd : List Int) : okTo nd 0 := fun j h => by omega
theorem okTo.next {nd : List Int} {i : Nat} {x : Int} (h : okTo nd i) (hx : nd[i]? = some x) (h2 : lastN nd i < x ∧ 0 ≤ x ∧ x < 16) : okTo nd (i + 1) := fun j hj y hy => by
  by_cases e : j = i
  · subst e; rw [hx] at hy; injection hy with hy; subst hy; exact h2
  · exact h j (by omega) y hy
theorem risB_ok : ∀ (nd pre : List Int) (a : Int), (∀ j x, nd[j]? = some x → (if j = 0 then a else (nd[j - 1]?).getD 0) < x ∧ 0 ≤ x ∧ x < 16) ↔ risB a nd = true
  | [], _, a => by simp [risB]
  | y :: nd, pre, a => by
    rw [risB_cons]
    constructor
    · intro h
      have h0 := h 0 y rfl
      simp only [if_true] at h0
      refine ⟨h0.1, h0.2.1, h0.2.2, (risB_ok nd pre y).1 fun j x hx => ?_⟩
      have h1 := h (j + 1) x (by simpa using hx)
      rw [if_neg (by omega), Nat.add_sub_cancel] at h1
      refine ⟨?_, h1.2⟩
      by_cases hj : j = 0
      · subst hj; simpa using h1.1
      · rw [if_neg hj]
        obtain ⟨j', rfl⟩ : ∃ j', j = j' + 1 := ⟨j - 1, by omega⟩
        simpa using h1.1
    · rintro ⟨h1, h2, h3, h4⟩ j x hx
      have ih := (risB_ok nd pre y).2 h4
      by_cases hj : j = 0
      · subst hj; simp at hx; subst hx; simpa using ⟨h1, h2, h3⟩
      · obtain ⟨j', rfl⟩ : ∃ j', j = j' + 1 := ⟨j - 1, by omega⟩
        have h5 := ih j' x (by simpa using hx)
        rw [if_neg hj, Nat.add_sub_cancel]
        refine ⟨?_, h5.2⟩
        by_cases hj' : j' = 0
        · subst hj'; simpa using h5.1
        · rw [if_neg hj'] at h5
          obtain ⟨j'', rfl⟩ : ∃ j'', j' = j'' + 1 := ⟨j' - 1, by omega⟩
          simpa using h5.1
theorem okTo_ris {nd : List Int} : okTo nd nd.length ↔ risB (-1) nd = true := by
  rw [← risB_ok nd [] (-1)]
  constructor
  · intro h j x hx; exact h j (List.getElem?_eq_some_iff.1 hx).1 x hx
  · intro h j _ x hx; exact h j x hx
theorem okTo_bad {nd : List Int} {i : Nat} {x : Int} (hx : nd[i]? = some x) (h : ¬(lastN nd i < x ∧ 0 ≤ x ∧ x < 16)) : risB (-1) nd = false := by
  rw [Bool.eq_false_iff]
  intro h'
  exact h (okTo_ris.2 h' i (List.getElem?_eq_some_iff.1 hx).1 x hx)
theorem ris_bd {nd : List Int} (h : risB (-1) nd = true) {i : Nat} {x : Int} (hx : nd[i]? = some x) : lastN nd i < x ∧ 0 ≤ x ∧ x < 16 := okTo_ris.2 h i (List.getElem?_eq_some_iff.1 hx).1 x hx
theorem ris_len {nd : List Int} {a : Int} (h : risB a nd = true) (ha : -1 ≤ a) : (nd.length : Int) ≤ 15 - a ∨ nd = [] := by
  induction nd generalizing a with
  | nil => exact .inr rfl
  | cons x nd ih =>
    obtain ⟨h1, h2, h3, h4⟩ := risB_cons.1 h
    rcases ih h4 (by omega) with h5 | h5
    · left; rw [List.length_cons]; omega
    · left; rw [h5]; simp; omega
theorem ris_len16 {nd : List Int} (h : risB (-1) nd = true) : nd.length ≤ 16 := by
  rcases ris_len h (by omega) with h | h
  · omega
  · rw [h]; simp
/-- Nodes as bits. -/
def bitsOf : List Int → Nat
  | [] => 0
  | x :: l => 2 ^ x.toNat + bitsOf l
theorem bitsOf_app : ∀ (l m : List Int), bitsOf (l ++ m) = bitsOf l + bitsOf m
  | [], m => (Nat.zero_add _).symm
  | x :: l, m => by show 2 ^ x.toNat + bitsOf (l ++ m) = _; rw [bitsOf_app l m]; show _ = 2 ^ x.toNat + bitsOf l + bitsOf m; omega
theorem bits_lt {nd : List Int} (h : risB (-1) nd = true) : ∀ i, i ≤ nd.length → ∀ m : Nat, lastN nd i < (m : Int) → bitsOf (nd.take i) < 2 ^ m
  | 0, _, m, _ => by show 0 < 2 ^ m; exact Nat.pow_pos (by decide)
  | i + 1, hi, m, hm => by
    obtain ⟨x, hx⟩ : ∃ x, nd[i]? = some x := ⟨_, List.getElem?_eq_getElem (by omega)⟩
    obtain ⟨h1, h2, h3⟩ := ris_bd h hx
    rw [lastN_succ hx] at hm
    rw [List.take_add_one, hx, bitsOf_app]
    have ih := bits_lt h i (by omega) x.toNat (by omega)
    have h4 : 2 ^ (x.toNat + 1) ≤ 2 ^ m := Nat.pow_le_pow_right (by decide) (by omega)
    rw [Nat.pow_succ] at h4
    show _ + (2 ^ x.toNat + 0) < 2 ^ m
    omega
theorem bits_step {nd : List Int} (h : risB (-1) nd = true) {i m : Nat} (hx : nd[i]? = some ((m : Nat) : Int)) : bitsOf (nd.take i) ||| (1 * 2 ^ m) = bitsOf (nd.take (i + 1)) ∧ bitsOf (nd.take i) < 65536 ∧ 2 ^ m ≤ 32768 ∧ m < 16 := by
  obtain ⟨h1, h2, h3⟩ := ris_bd h hx
  have hi : i < nd.length := (List.getElem?_eq_some_iff.1 hx).1
  have h4 := bits_lt h i (by omega) m h1
  have h5 : 2 ^ m ≤ 2 ^ 15 := Nat.pow_le_pow_right (by decide) (by omega)
  refine ⟨?_, by omega, by omega, by omega⟩
  rw [or_step h4, List.take_add_one, hx, bitsOf_app]
  show _ = _ + (2 ^ ((m : Nat) : Int).toNat + 0)
  rw [Int.toNat_natCast]; omega
theorem bits_16 {nd : List Int} (h : risB (-1) nd = true) : bitsOf nd < 65536 := by
  have := bits_lt h nd.length (Nat.le_refl _) 16 (by
    by_cases h0 : nd.length = 0
    · rw [h0, lastN_zero]; omega
    · obtain ⟨x, hx⟩ : ∃ x, nd[nd.length - 1]? = some x := ⟨_, List.getElem?_eq_getElem (by omega)⟩
      have h1 := lastN_succ hx
      rw [show nd.length - 1 + 1 = nd.length from by omega] at h1
      rw [h1]
      exact (ris_bd h hx).2.2)
  rwa [List.take_length] at this
/-- Bits as nodes. -/
def nodesTo (u : Nat) : Nat → List Int
  | 0 => []
  | i + 1 => if u / 2 ^ i % 2 = 1 then nodesTo u i ++ [((i : Nat) : Int)] else nodesTo u i
theorem nodesTo_zero (u : Nat) : nodesTo u 0 = [] := rfl
theorem nodesTo_len (u : Nat) : ∀ i, (nodesTo u i).length ≤ i
  | 0 => Nat.le_refl _
  | i + 1 => by
    unfold nodesTo
    have := nodesTo_len u i
    split
    · rw [List.length_append]; simp; omega
    · omega
theorem nodesTo_at {u i : Nat} (h : u / 2 ^ i % 2 = 1) : nodesTo u (i + 1) = nodesTo u i ++ [((i : Nat) : Int)] := by show (if _ then _ else _) = _; rw [if_pos h]
theorem nodesTo_off {u i : Nat} (h : ¬u / 2 ^ i % 2 = 1) : nodesTo u (i + 1) = nodesTo u i := by show (if _ then _ else _) = _; rw [if_neg h]
/-- All nodes are below m, and rise: their bits give them again. -/
theorem nodes_bits : ∀ (m : Nat) (nd : List Int), (∀ x ∈ nd, 0 ≤ x ∧ x < (m : Int)) → nd.Pairwise (· < ·) → nodesTo (bitsOf nd) m = nd ∧ bitsOf nd < 2 ^ m
  | 0, nd, h, _ => by
    have : nd = [] := by
      cases nd with
      | nil => rfl
      | cons x l => have := h x (.head _); omega
    subst this; exact ⟨rfl, by decide⟩
  | m + 1, nd, h, hp => by
    have up : ∀ (u v : Nat), (∀ i, i < m → u / 2 ^ i % 2 = v / 2 ^ i % 2) → nodesTo u m = nodesTo v m := by
      intro u v huv
      have : ∀ j, j ≤ m → nodesTo u j = nodesTo v j := by
        intro j
        induction j with
        | zero => intro _; rfl
        | succ j ih =>
          intro hj
          unfold nodesTo
          rw [huv j (by omega), ih (by omega)]
      exact this m (Nat.le_refl _)
    rcases List.eq_nil_or_concat nd with rfl | ⟨l, x, rfl⟩
    · obtain ⟨h1, h2⟩ := nodes_bits m [] (by simp) List.Pairwise.nil
      refine ⟨?_, Nat.pow_pos (by decide)⟩
      have : ¬ bitsOf [] / 2 ^ m % 2 = 1 := by show ¬ 0 / 2 ^ m % 2 = 1; rw [Nat.zero_div]; decide
      rw [nodesTo_off this]; exact h1
    · rw [List.concat_eq_append] at *
      rw [List.pairwise_append] at hp
      obtain ⟨p1, _, p3⟩ := hp
      have hx := h x (List.mem_append_right _ (.head _))
      have hlt : ∀ y ∈ l, 0 ≤ y ∧ y < x := fun y hy => ⟨(h y (List.mem_append_left _ hy)).1, p3 y hy x (.head _)⟩
      by_cases hxm : x = (m : Int)
      · obtain ⟨h1, h2⟩ := nodes_bits m l (fun y hy => by rw [← hxm]; exact hlt y hy) p1
        have hb : bitsOf (l ++ [x]) = 2 ^ m + bitsOf l := by
          rw [bitsOf_app, hxm]; show _ + (2 ^ ((m : Nat) : Int).toNat + 0) = _; rw [Int.toNat_natCast]; omega
        have hpos : 0 < 2 ^ m := Nat.pow_pos (by decide)
        have hq : bitsOf (l ++ [x]) / 2 ^ m = 1 := by
          rw [hb, Nat.add_div_left _ hpos, Nat.div_eq_of_lt h2]
        refine ⟨?_, by rw [hb, Nat.pow_succ]; omega⟩
        rw [nodesTo_at (by rw [hq]), up _ (bitsOf l), h1, hxm]
        intro i hi
        rw [hb]
        have e : 2 ^ m = 2 ^ i * (2 * 2 ^ (m - i - 1)) := by
          rw [← Nat.pow_succ', ← Nat.pow_add]; congr 1; omega
        rw [e, Nat.mul_add_div (Nat.pow_pos (by decide))]
        omega
      · obtain ⟨h1, h2⟩ := nodes_bits m (l ++ [x]) (fun y hy => by
          rcases List.mem_append.1 hy with hy | hy
          · have := hlt y hy; omega
          · rw [List.mem_singleton] at hy; subst hy; omega) (by rw [List.pairwise_append]; exact ⟨p1, by simp, p3⟩)
        refine ⟨?_, by rw [Nat.pow_succ]; omega⟩
        rw [nodesTo_off (by rw [Nat.div_eq_of_lt h2]; decide), h1]
theorem ris_pair : ∀ {nd : List Int} {a : Int}, risB a nd = true → nd.Pairwise (· < ·) ∧ ∀ x ∈ nd, a < x ∧ 0 ≤ x ∧ x < 16
  | [], a, _ => ⟨.nil, by simp⟩
  | x :: nd, a, h => by
    obtain ⟨h1, h2, h3, h4⟩ := risB_cons.1 h
    obtain ⟨i1, i2⟩ := ris_pair h4
    refine ⟨List.pairwise_cons.2 ⟨fun y hy => (i2 y hy).1, i1⟩, fun y hy => ?_⟩
    rcases List.mem_cons.1 hy with rfl | hy
    · exact ⟨h1, h2, h3⟩
    · obtain ⟨j1, j2, j3⟩ := i2 y hy; exact ⟨by omega, j2, j3⟩
theorem nodes_16 {nd : List Int} (h : risB (-1) nd = true) : nodesTo (bitsOf nd) 16 = nd :=
  (nodes_bits 16 nd (fun x hx => ((ris_pair h).2 x hx).2) (ris_pair h).1).1
/-- A letter's row, its bytes. -/
def vI (n : Int) : Vl := (2, n, [])
def rowL (l : Lr) : List Vl := [vI l.k, vI l.f, vI l.t, vI l.x, vI ((bitsOf l.nd : Nat) : Int)]
def encL (l : Lr) : List Nat := encRow (rowL l)
theorem vI_right (n : Int) : rightB (vI n) = true := by simp [vI, rightB]
theorem vI_ok {n : Int} (h1 : -9223372036854775808 ≤ n) (h2 : n ≤ 9223372036854775807) : VOk (vI n) := ⟨Bytes.nil, by show -9223372036854775808 ≤ (2 : Int) ∧ (2 : Int) ≤ 9223372036854775807; omega, h1, h2⟩
theorem rowL_ok {l : Lr} (h : rightL l = true) : RrOk (rowL l) := by
  obtain ⟨⟨h1, h2, h3, h4, h5, h6, h7, h8⟩, _⟩ := rightL_iff.1 h
  have hb := bits_16 (rightL_ris h)
  refine ⟨?_, ?_⟩
  · intro v hv
    simp only [rowL, List.mem_cons, List.not_mem_nil, or_false] at hv
    rcases hv with rfl | rfl | rfl | rfl | rfl <;> exact vI_ok (by omega) (by omega)
  · intro v hv
    simp only [rowL, List.mem_cons, List.not_mem_nil, or_false] at hv
    rcases hv with rfl | rfl | rfl | rfl | rfl <;> exact vI_right _
theorem encL_dec {l : Lr} (h : rightL l = true) : decRw (encL l) = (rowL l, 0) := decRw_yes (rowL_ok h) (by show 5 ≤ 16; omega) rfl
theorem encL_bytes {l : Lr} (h : rightL l = true) : Bytes (encL l) := encRow_bytes (rowL_ok h).1
theorem rowL_kind {l : Lr} {i : Nat} {v : Vl} (h : (rowL l)[i]? = some v) : v.1 = 2 := by
  have hm := List.mem_of_getElem? h
  simp only [rowL, List.mem_cons, List.not_mem_nil, or_false] at hm
  rcases hm with rfl | rfl | rfl | rfl | rfl <;> rfl
def encLE (l : Lr) : List Nat × Int := if rightL l = true then (encL l, 0) else ([], 111)
theorem encLE_bytes (l : Lr) : Bytes (encLE l).1 := by
  unfold encLE
  split
  · exact encL_bytes (by assumption)
  · exact Bytes.nil
theorem vIs_step {ns : List Int} {vs : List Vl} {i : Nat} {x : Int} (h : vs = (ns.take i).map vI) (hx : ns[i]? = some x) : vs ++ [((2 : Int), x, [])] = (ns.take (i + 1)).map vI := by
  rw [h, List.take_add_one, hx, List.map_append]; rfl
end Go.Proofs.Ytlplhlncdfhhoaa
