/- Package key: Next; law04: few, right. -/
import Derived.Test.YtmemgpcgjephmaaGreatDoorK4
set_option linter.unusedVariables false
set_option linter.unusedSimpArgs false
namespace Go.Proofs.YtmemgpcgjephmaaGreatDoor
open Go.RowKit
/-- How many bytes are left when those of 255 at the end are gone. -/
def nxN (b : List Nat) : Nat := (b.reverse.dropWhile fun x => decide (x = 255)).length
/-- The bytes behind all that begin so. -/
def nxB (b : List Nat) : List Nat := if nxN b = 0 then [] else (b.take (nxN b)).set (nxN b - 1) (b.getD (nxN b - 1) 0 + 1)
theorem dropWhile_all {p : Nat → Bool} : ∀ {l m : List Nat}, (∀ x ∈ l, p x = true) → (l ++ m).dropWhile p = m.dropWhile p
  | [], m, _ => rfl
  | a :: l, m, h => by
    rw [List.cons_append, List.dropWhile_cons, h a (.head _)]
    exact dropWhile_all fun x hx => h x (.tail _ hx)
theorem nxN_of {b : List Nat} {n : Nat} (hn : n ≤ b.length) (hd : ∀ x ∈ b.drop n, x = 255) (hl : 0 < n → ∃ y, b[n - 1]? = some y ∧ y ≠ 255) : nxN b = n := by
  unfold nxN
  have h1 : b.reverse = (b.drop n).reverse ++ (b.take n).reverse := by rw [← List.reverse_append, List.take_append_drop]
  rw [h1, dropWhile_all fun x hx => by simpa using hd x (List.mem_reverse.1 hx)]
  rcases Nat.eq_zero_or_pos n with h0 | h0
  · subst h0; simp
  · obtain ⟨y, hy, hy2⟩ := hl h0
    have h2 : b.take n = b.take (n - 1) ++ [y] := by
      have := List.take_add_one (l := b) (i := n - 1)
      rw [show n - 1 + 1 = n from by omega, hy] at this
      exact this
    rw [h2, List.reverse_append]
    simp [hy2]
    omega
theorem nxB_nil {b : List Nat} (h : nxN b = 0) : nxB b = [] := by unfold nxB; rw [if_pos h]
theorem nxB_pos {b : List Nat} {n y : Nat} (h : nxN b = n) (hn : 0 < n) (hy : b[n - 1]? = some y) : nxB b = (b.take n).set (n - 1) (y + 1) := by
  unfold nxB
  rw [if_neg (by omega), h, List.getD_eq_getElem?_getD, hy]; rfl
theorem nx_split (b : List Nat) : (∃ X y Z, b = X ++ y :: Z ∧ y ≠ 255 ∧ (∀ z ∈ Z, z = 255) ∧ nxB b = X ++ [y + 1]) ∨ ((∀ z ∈ b, z = 255) ∧ nxB b = []) := by
  have key : ∀ b : List Nat, (∃ X y Z, b = X ++ y :: Z ∧ y ≠ 255 ∧ ∀ z ∈ Z, z = 255) ∨ ∀ z ∈ b, z = 255 := by
    intro b
    induction b with
    | nil => exact .inr fun z hz => by cases hz
    | cons a b ih =>
      rcases ih with ⟨X, y, Z, rfl, h1, h2⟩ | h
      · exact .inl ⟨a :: X, y, Z, rfl, h1, h2⟩
      · by_cases ha : a = 255
        · exact .inr fun z hz => by cases hz with | head => exact ha | tail _ hz => exact h z hz
        · exact .inl ⟨[], a, b, rfl, ha, h⟩
  rcases key b with ⟨X, y, Z, rfl, h1, h2⟩ | h
  · left
    have hN : nxN (X ++ y :: Z) = X.length + 1 := nxN_of (by simp) (fun x hx => by
      rw [show X ++ y :: Z = (X ++ [y]) ++ Z from by simp, List.drop_left' (by simp)] at hx; exact h2 x hx) (fun _ => ⟨y, by simp, h1⟩)
    refine ⟨X, y, Z, rfl, h1, h2, ?_⟩
    rw [nxB_pos hN (by omega) (show (X ++ y :: Z)[X.length + 1 - 1]? = some y by simp), show X ++ y :: Z = (X ++ [y]) ++ Z from by simp, List.take_left' (by simp)]
    simp
  · right
    refine ⟨h, nxB_nil (nxN_of (Nat.zero_le _) (fun x hx => h x (List.mem_of_mem_drop hx)) (fun h0 => by omega))⟩
theorem nxB_bytes {b : List Nat} (h : Bytes b) : Bytes (nxB b) := by
  rcases nx_split b with ⟨X, y, Z, rfl, h1, h2, h3⟩ | ⟨_, h3⟩
  · rw [h3]
    intro x hx
    rcases List.mem_append.1 hx with hx | hx
    · exact h x (List.mem_append_left _ hx)
    · have := h y (List.mem_append_right _ (.head _))
      simp at hx; omega
  · rw [h3]; exact Bytes.nil
theorem all255 : ∀ {Z c : List Nat}, (∀ z ∈ Z, z = 255) → Bytes c → bl c Z = false → ∃ r, c = Z ++ r
  | [], c, _, _, _ => ⟨c, rfl⟩
  | z :: Z, [], _, _, h => by simp [bl] at h
  | z :: Z, a :: c, hz, hc, h => by
    have h1 := hz z (.head _)
    have h2 := hc a (.head _)
    simp only [bl, Bool.or_eq_false_iff, decide_eq_false_iff_not, Bool.and_eq_false_iff] at h
    have h3 : a = z := by omega
    subst h3
    obtain ⟨r, rfl⟩ := all255 (Z := Z) (c := c) (fun x hx => hz x (.tail _ hx)) (fun x hx => hc x (.tail _ hx)) (by simpa using h.2)
    exact ⟨r, rfl⟩
theorem bl_pre (X : List Nat) : ∀ (l m : List Nat), bl (X ++ l) (X ++ m) = bl l m := by
  induction X with
  | nil => intro l m; rfl
  | cons x X ih => intro l m; simp [bl, ih]
theorem next_core {y : Nat} {Z : List Nat} (hZ : ∀ z ∈ Z, z = 255) : ∀ (X c : List Nat), Bytes c → bl c (X ++ y :: Z) = false → bl c (X ++ [y + 1]) = true → ∃ r, c = (X ++ y :: Z) ++ r
  | [], [], _, h, _ => by simp [bl] at h
  | [], a :: c, hc, h, h' => by
    simp [bl] at h h'
    have ha : a = y := by omega
    subst ha
    obtain ⟨r, rfl⟩ := all255 hZ (fun x hx => hc x (.tail _ hx)) (by simpa using h.2)
    exact ⟨r, rfl⟩
  | x :: X, [], _, h, _ => by simp [bl] at h
  | x :: X, a :: c, hc, h, h' => by
    simp only [List.cons_append, bl, Bool.or_eq_false_iff, decide_eq_false_iff_not, Bool.and_eq_false_iff, Bool.or_eq_true, decide_eq_true_eq, Bool.and_eq_true] at h h'
    have ha : a = x := by omega
    subst ha
    obtain ⟨r, rfl⟩ := next_core hZ X c (fun q hq => hc q (.tail _ hq)) (by simpa using h.2) (by
      rcases h' with h' | h'
      · omega
      · exact h'.2)
    exact ⟨r, rfl⟩
theorem bl_ext (b r : List Nat) : bl (b ++ r) b = false := by
  have := bl_pre b r []
  rw [List.append_nil] at this
  rw [this]; cases r <;> rfl
theorem next_in {b c : List Nat} (hc : Bytes c) : (bl c b = false ∧ (nxB b = [] ∨ bl c (nxB b) = true)) ↔ ∃ r, c = b ++ r := by
  rcases nx_split b with ⟨X, y, Z, rfl, h1, h2, h3⟩ | ⟨h2, h3⟩
  · rw [h3]
    constructor
    · rintro ⟨h4, h5 | h5⟩
      · simp at h5
      · exact next_core h2 X c hc h4 h5
    · rintro ⟨r, rfl⟩
      refine ⟨bl_ext _ _, .inr ?_⟩
      rw [List.append_assoc, bl_pre]; simp [bl]
  · rw [h3]
    constructor
    · rintro ⟨h4, _⟩
      exact all255 h2 hc h4
    · rintro ⟨r, rfl⟩
      exact ⟨bl_ext _ _, .inl rfl⟩
def fewB (L : List Vl) : Bool := decide (L.length ≤ 20) && L.all fun v => decide (v.2.2.length ≤ 500)
def rightL (L : List Vl) : Bool := decide (L.length ≤ 16) && L.all rightB
theorem fewB_le {L : List Vl} (h : fewB L = true) : L.length ≤ 20 ∧ ∀ v ∈ L, v.2.2.length ≤ 500 := by
  unfold fewB at h
  simpa using h
theorem rightL_le {L : List Vl} (h : rightL L = true) : L.length ≤ 16 ∧ ∀ v ∈ L, rightB v = true := by
  unfold rightL at h
  simpa using h
theorem few_no {L : List Vl} {i : Nat} {x : Vl} (hx : L[i]? = some x) (h : 20 ≤ i ∨ 500 < x.2.2.length) : fewB L = false := by
  unfold fewB
  rcases h with h | h
  · have := (List.getElem?_eq_some_iff.1 hx).1
    rw [decide_eq_false (by omega)]; rfl
  · have h2 : (L.all fun v => decide (v.2.2.length ≤ 500)) = false := by
      rw [List.all_eq_false]
      exact ⟨x, List.mem_of_getElem? hx, by simpa using h⟩
    rw [h2, Bool.and_false]
theorem few_yes {L : List Vl} (h1 : L.length ≤ 20) (h : ∀ j, j < L.length → ∀ v, L[j]? = some v → v.2.2.length ≤ 500) : fewB L = true := by
  unfold fewB
  rw [decide_eq_true h1, Bool.true_and, List.all_eq_true]
  intro v hv
  obtain ⟨j, hj, rfl⟩ := List.getElem_of_mem hv
  simpa using h j hj _ (List.getElem?_eq_getElem hj)
theorem right_no {L : List Vl} {i : Nat} {x : Vl} (hx : L[i]? = some x) (h : rightB x = false) : rightL L = false := by
  unfold rightL
  have h2 : L.all rightB = false := by
    rw [List.all_eq_false]
    exact ⟨x, List.mem_of_getElem? hx, by rw [h]; simp⟩
  rw [h2, Bool.and_false]
theorem right_all {L : List Vl} (h : ∀ j, j < L.length → ∀ v, L[j]? = some v → rightB v = true) : rightL L = decide (L.length ≤ 16) := by
  unfold rightL
  have h2 : L.all rightB = true := by
    rw [List.all_eq_true]
    intro v hv
    obtain ⟨j, hj, rfl⟩ := List.getElem_of_mem hv
    exact h j hj _ (List.getElem?_eq_getElem hj)
  rw [h2, Bool.and_true]
attribute [local irreducible] Oper.wp Sem.run Code.wp wpList wpAnyO callFunc execOp Calls
attribute [local irreducible] enc encR rightB toU encV nxB nxN fewB rightL

theorem drop_255 {b : List Nat} {n y : Nat} (hd : ∀ x ∈ b.drop n, x = 255) (hn : 0 < n) (hy : b[n - 1]? = some y) (h : y = 255) : ∀ x ∈ b.drop (n - 1), x = 255 := by
  obtain ⟨hi, rfl⟩ := List.getElem?_eq_some_iff.1 hy
  rw [List.drop_eq_getElem_cons hi, show n - 1 + 1 = n from by omega]
  intro x hx
  cases hx with
  | head => exact h
  | tail _ hx => exact hd x hx



theorem all_next {L : List Vl} {Q : Vl → Prop} {i : Nat} {x : Vl} (hj : ∀ j, j < i → ∀ v, L[j]? = some v → Q v) (hx : L[i]? = some x) (h : Q x) : ∀ j, j < i + 1 → ∀ v, L[j]? = some v → Q v := by
  intro j hj' v hv
  by_cases hji : j = i
  · subst hji; rw [hx] at hv; injection hv with hv; subst hv; exact h
  · exact hj j (by omega) v hv



end Go.Proofs.YtmemgpcgjephmaaGreatDoor
