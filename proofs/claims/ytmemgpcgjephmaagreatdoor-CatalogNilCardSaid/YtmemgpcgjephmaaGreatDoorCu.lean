/- The catalog's plain law: parts of keys, of ranges. -/
import Derived.Test.YtmemgpcgjephmaaGreatDoorCt
set_option linter.unusedVariables false
set_option linter.unusedSimpArgs false
namespace Go.Proofs.YtmemgpcgjephmaaGreatDoor
open Go.RowKit
theorem bl_trans : ∀ {a b c : List Nat}, bl a b = true → bl b c = true → bl a c = true
  | [], [], _, h, _ => by simp [bl] at h
  | [], _ :: _, [], _, h => by simp [bl] at h
  | [], _ :: _, _ :: _, _, _ => rfl
  | _ :: _, [], _, h, _ => by simp [bl] at h
  | _ :: _, _ :: _, [], _, h => by simp [bl] at h
  | x :: a, y :: b, z :: c, h, h' => by
    rw [bl_cons] at h h' ⊢
    simp only [Bool.or_eq_true, decide_eq_true_eq, Bool.and_eq_true] at h h' ⊢
    rcases h with h | ⟨h1, h2⟩ <;> rcases h' with h' | ⟨g1, g2⟩
    · exact .inl (by omega)
    · exact .inl (by omega)
    · exact .inl (by omega)
    · exact .inr ⟨by omega, bl_trans h2 g2⟩
theorem vlt_trans {a b c : Vl} (h : vlt a b = true) (h' : vlt b c = true) : vlt a c = true := by
  unfold vlt at h h' ⊢
  simp only [Bool.or_eq_true, decide_eq_true_eq, Bool.and_eq_true] at h h' ⊢
  rcases h with h | ⟨h1, h | ⟨h2, h3⟩⟩ <;> rcases h' with g | ⟨g1, g | ⟨g2, g3⟩⟩
  · exact .inl (by omega)
  · exact .inl (by omega)
  · exact .inl (by omega)
  · exact .inl (by omega)
  · exact .inr ⟨by omega, .inl (by omega)⟩
  · exact .inr ⟨by omega, .inl (by omega)⟩
  · exact .inl (by omega)
  · exact .inr ⟨by omega, .inl (by omega)⟩
  · exact .inr ⟨by omega, .inr ⟨by omega, bl_trans h3 g3⟩⟩
theorem vcmp_pos {v w : Vl} : 0 < vcmp v w ↔ vlt w v = true := by
  constructor
  · intro h
    cases h1 : vlt w v with
    | true => rfl
    | false =>
      cases h2 : vlt v w with
      | true => have := vcmp_neg.2 h2; omega
      | false => have := vcmp_zero.2 (vlt_tot h2 h1); omega
  · intro h
    have h1 : ¬vcmp v w < 0 := fun h1 => by
      have := vlt_trans h (vcmp_neg.1 h1)
      rw [vlt_irr] at this; cases this
    have h2 : vcmp v w ≠ 0 := fun h2 => by
      rw [vcmp_zero.1 h2, vlt_irr] at h; cases h
    omega
/-- Above the greater one is above the less one. -/
theorem over_up {x v w : Vl} (h : vcmp v w ≤ 0) (hx : 0 < vcmp x w) : 0 < vcmp x v := by
  rw [vcmp_pos] at hx ⊢
  rcases Int.lt_or_eq_of_le h with h | h
  · exact vlt_trans (vcmp_neg.1 h) hx
  · rw [vcmp_zero.1 h]; exact hx
theorem overN_mono {l : List Vl} {v w : Vl} (h : vcmp v w ≤ 0) : overN l v ≤ overN l w := by
  unfold overN
  induction l with
  | nil => exact Nat.le_refl _
  | cons x l ih =>
    rw [List.findIdx_cons, List.findIdx_cons]
    by_cases h1 : 0 < vcmp x w
    · rw [decide_eq_true h1, decide_eq_true (over_up h h1)]; exact Nat.le_refl _
    · rw [decide_eq_false h1]
      cases decide (0 < vcmp x v) with
      | true => exact Nat.zero_le _
      | false => exact Nat.succ_le_succ ih
/-- Rising bounds: how many are not above is the first place above. -/
theorem over_count {l : List Vl} {v : Vl} : ∀ {i : Nat}, i ≤ l.length → (∀ i, i < l.length → ∀ x, l[i]? = some x → ∀ u, 0 < i → l[i - 1]? = some u → vcmp u x < 0) →
    (((l.take i).countP fun b => decide (vcmp b v ≤ 0) : Nat)) = min i (overN l v)
  | 0, _, _ => by simp
  | i + 1, hi, hs => by
    have ih := over_count (l := l) (v := v) (i := i) (by omega) hs
    obtain ⟨x, hx⟩ : ∃ x, l[i]? = some x := ⟨_, List.getElem?_eq_getElem (by omega)⟩
    rw [List.take_add_one, hx, List.countP_append, ih]
    show _ + List.countP _ [x] = _
    rw [List.countP_singleton]
    by_cases h : vcmp x v ≤ 0
    · rw [decide_eq_true h, if_pos rfl]
      have : i < overN l v := by
        rcases Nat.lt_or_ge i (overN l v) with h1 | h1
        · exact h1
        · exfalso
          have hol : overN l v < l.length := by omega
          have hov : 0 < vcmp (l[overN l v]'hol) v := of_decide_eq_true (List.findIdx_getElem (w := hol) (p := fun b => decide (0 < vcmp b v)))
          have key : ∀ j, overN l v ≤ j → j ≤ i → ∀ y, l[j]? = some y → 0 < vcmp y v := by
            intro j
            induction j with
            | zero => intro h2 _ y hy; have h0 : overN l v = 0 := by omega
                      simp only [h0] at hov; rw [List.getElem?_eq_getElem (by omega)] at hy; injection hy with hy; subst hy; exact hov
            | succ j ihj =>
              intro h2 h3 y hy
              by_cases h4 : overN l v = j + 1
              · simp only [h4] at hov; rw [List.getElem?_eq_getElem (by omega)] at hy; injection hy with hy; subst hy; exact hov
              · obtain ⟨u, hu⟩ : ∃ u, l[j]? = some u := ⟨_, List.getElem?_eq_getElem (by omega)⟩
                have h5 := ihj (by omega) (by omega) u hu
                have h6 := hs (j + 1) (by omega) y hy u (by omega) hu
                rw [vcmp_pos] at h5 ⊢
                exact vlt_trans h5 (vcmp_neg.1 h6)
          have := key i h1 (Nat.le_refl _) x hx
          omega
      omega
    · rw [decide_eq_false h, if_neg (by decide)]
      have : overN l v ≤ i := by
        rcases Nat.lt_or_ge i (overN l v) with h1 | h1
        · exfalso
          have := List.not_of_lt_findIdx (p := fun b => decide (0 < vcmp b v)) (xs := l) (i := i) h1
          rw [List.getElem?_eq_getElem (by omega)] at hx; injection hx with hx
          rw [hx] at this
          have h2 := of_decide_eq_false this
          omega
        · exact h1
      omega
theorem over_all {l : List Vl} {v : Vl} {k : Int} (h : BdP k l) : (l.countP fun b => decide (vcmp b v ≤ 0)) = overN l v := by
  have := over_count (l := l) (v := v) (i := l.length) (Nat.le_refl _) (fun i hi x hx u h0 hu => (h i hi x hx).2.2 u h0 hu)
  rw [List.take_length] at this
  have := overN_le l v
  omega
theorem partN_lt {t : Tb} {l : List Vl} (h : 0 ≤ t.pt) : 0 ≤ ((partN t l : Nat) : Int) ∧ ((partN t l : Nat) : Int) < partsN t := by
  unfold partN partsN
  have := overN_le t.bd (l.getD 0 (0, 0, []))
  split
  · have := Nat.mod_lt (hashB (enc l)) (y := t.pt.toNat) (by omega)
    omega
  · omega
theorem partN_mono {t : Tb} {k l : List Vl} {a b : Vl} (hk : k[0]? = some a) (hl : l[0]? = some b) (hp : ¬0 < t.pt) (h : vcmp a b ≤ 0) : partN t k ≤ partN t l := by
  unfold partN
  rw [if_neg hp, if_neg hp]
  have e1 : k.getD 0 (0, 0, []) = a := by rw [List.getD_eq_getElem?_getD, hk]; rfl
  have e2 : l.getD 0 (0, 0, []) = b := by rw [List.getD_eq_getElem?_getD, hl]; rfl
  rw [e1, e2]; exact overN_mono h
/-- The key of a row that may be has a part. -/
theorem row_key {t : Tb} {r : List Vl} (ht : RtP t) (hr : RwP t r) : PtP t (r.take t.key.toNat) ∧ KdTo t (r.take t.key.toNat) (r.take t.key.toNat).length ∧ ((r.take t.key.toNat).length : Int) = t.key ∧ 1 ≤ t.key := by
  obtain ⟨⟨_, h1, h2, h3, h4, _⟩, hc⟩ := ht
  obtain ⟨g1, g2, g3⟩ := hr
  have hl : (r.take t.key.toNat).length = t.key.toNat := by rw [List.length_take]; omega
  refine ⟨⟨by rw [hl]; omega, by rw [hl]; omega, fun v hv => ?_⟩, fun i hi v hv c hcv => ?_, by rw [hl]; omega, h3⟩
  · obtain ⟨i, hi, rfl⟩ := List.getElem_of_mem (List.mem_of_mem_take hv)
    exact (g2 i hi _ (List.getElem?_eq_getElem hi) _ (List.getElem?_eq_getElem (by omega))).1
  · rw [hl] at hi
    rw [List.getElem?_take, if_pos hi] at hv
    have hil : i < r.length := (List.getElem?_eq_some_iff.1 hv).1
    have h5 := g2 i hil v hv c hcv
    have h6 := g3 i hil v hv c hcv
    have h7 := (hc i (by omega) c hcv).2.2.2.2 (by omega)
    rcases h5.2 with h8 | h8
    · exact absurd ⟨h8, h7⟩ h6
    · exact h8
theorem PtA.yes {t : Tb} {l : List Vl} {n c a : Int} (h : PtA t l n c a) (hp : PtP t l) (hk : KdTo t l l.length) : n = (partN t l : Int) ∧ c = 0 ∧ a = -1 := h.fun' (.inr (.inr ⟨hp, hk, rfl, rfl, rfl⟩))
end Go.Proofs.YtmemgpcgjephmaaGreatDoor
