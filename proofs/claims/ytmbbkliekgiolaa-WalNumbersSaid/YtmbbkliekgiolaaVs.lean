/- What a log's bytes hold: scans of bytes put together, cut, and dropped. -/
import Derived.Test.YtmbbkliekgiolaaV6
set_option linter.unusedVariables false
set_option linter.unusedSimpArgs false
namespace Go.Proofs.Ytmbbkliekgiolaa
attribute [local irreducible] crc
theorem tk_pre {l l' : List Nat} {k : Nat} (h : l'.take k = l.take k) : ∀ i, i < k → l'.getD i 0 = l.getD i 0 := fun i hi => by
  rw [List.getD_eq_getElem?_getD, List.getD_eq_getElem?_getD]
  have h1 := congrArg (fun l : List Nat => l[i]?) h
  simp only [List.getElem?_take, if_pos hi] at h1
  rw [h1]
theorem tkN_loc {l l' : List Nat} {n : Nat} (h : tkN l = some n) (he : l'.take (5 + n) = l.take (5 + n)) : tkN l' = some n := by
  have hl := tkN_le h
  have hlen : 5 + n ≤ l'.length := by have := congrArg List.length he; rw [List.length_take, List.length_take] at this; omega
  have hg := tk_pre he
  have hd : (l'.drop 5).take n = (l.drop 5).take n := by
    have := congrArg (List.drop 5) he
    rw [List.drop_take, List.drop_take] at this
    rwa [show 5 + n - 5 = n by omega] at this
  unfold tkN at h ⊢
  rw [hg 0 (by omega), hg 1 (by omega), hg 2 (by omega), hg 3 (by omega), hg 4 (by omega)]
  split at h
  · cases h
  · rename_i h1
    split at h
    · cases h
    · rename_i h2
      split at h
      · rename_i h3
        have hn : l.getD 1 0 * 2 ^ 8 + l.getD 2 0 + 1 = n := by injection h
        rw [hn] at h2 h3 ⊢
        rw [if_neg (fun h => h.elim (fun h => by omega) (fun h => h1 (.inr h))), if_neg (by omega), hd, if_pos h3]
      · cases h
theorem tkN_fr {m : List Nat} (h : waOk m) : tkN (fr m) = some m.length := by
  obtain ⟨h1, h2⟩ := h
  have e : (m.length - 1) / 2 ^ 8 % 256 * 2 ^ 8 + (m.length - 1) % 256 + 1 = m.length := by omega
  have g1 : (fr m).getD 1 0 = (m.length - 1) / 2 ^ 8 % 256 := rfl
  have g2 : (fr m).getD 2 0 = (m.length - 1) % 256 := rfl
  have g3 : (fr m).getD 3 0 = crc 65535 (fb m) / 2 ^ 8 % 256 := rfl
  have g4 : (fr m).getD 4 0 = crc 65535 (fb m) % 256 := rfl
  have g0 : (fr m).getD 0 0 = 76 := rfl
  have gd : (fr m).drop 5 = m := rfl
  unfold tkN
  rw [g0, g1, g2, g3, g4, gd, e, fr_len, if_neg (by omega), if_neg (by omega), List.take_length]
  rw [if_pos ⟨rfl, rfl⟩]
theorem tkN_short {l : List Nat} {n x : Nat} (h : tkN l = some n) (hx : x < 5 + n) : tkN (l.take x) = none := by
  have hl := tkN_le h
  have hlen : (l.take x).length = x := by rw [List.length_take]; omega
  have hg : ∀ i, i < x → (l.take x).getD i 0 = l.getD i 0 := tk_pre (by rw [List.take_take, Nat.min_self])
  unfold tkN at h ⊢
  rw [hlen]
  by_cases h5 : x ≤ 5
  · rw [if_pos (.inl h5)]
  · rw [hg 0 (by omega), hg 1 (by omega), hg 2 (by omega), hg 3 (by omega), hg 4 (by omega)]
    split
    · rfl
    · split at h
      · cases h
      · split at h
        · cases h
        · split at h
          · have hn : l.getD 1 0 * 2 ^ 8 + l.getD 2 0 + 1 = n := by injection h
            rw [hn, if_pos (.inr hx)]
          · cases h
attribute [local irreducible] tkN fr
theorem tkN_nil : tkN [] = none := by
  cases h : tkN [] with
  | none => rfl
  | some n => have := tkN_le h; simp at this
theorem scan_nil (a : Nat) : scan [] a = ([], 0) := scan_none tkN_nil
theorem fr_drop (m : List Nat) : (fr m).drop 5 = m := by unfold fr; rfl
theorem scan_fr {m : List Nat} (h : waOk m) (a : Nat) : scan (fr m) a = ([(a, m)], 5 + m.length) := by
  rw [scan_some (tkN_fr h), fr_drop, List.take_length, List.drop_of_length_le (by rw [fr_len]; omega), scan_nil]
  rfl
theorem scan_app : ∀ (f : Nat) (l m : List Nat) (a : Nat), l.length ≤ f → (scan l a).2 = l.length → scan (l ++ m) a = ((scan l a).1 ++ (scan m (a + l.length)).1, l.length + (scan m (a + l.length)).2)
  | f, l, m, a, hf, hw => by
    cases h : tkN l with
    | none =>
      rw [scan_none h] at hw ⊢
      have hl : l = [] := List.eq_nil_of_length_eq_zero hw.symm
      subst hl
      simp
    | some n =>
      have hle := tkN_le h
      rw [scan_some h] at hw
      cases f with
      | zero => omega
      | succ f =>
        have h2 : tkN (l ++ m) = some n := tkN_loc h (by rw [List.take_append_of_le_length (by omega)])
        have hw' : 5 + n + (scan (l.drop (5 + n)) (a + (5 + n))).2 = l.length := hw
        have ih := scan_app f (l.drop (5 + n)) m (a + (5 + n)) (by rw [List.length_drop]; omega) (by rw [List.length_drop]; omega)
        rw [scan_some h2, scan_some h, List.drop_append_of_le_length (i := 5) (by omega), List.drop_append_of_le_length (i := 5 + n) (by omega), ih, List.take_append_of_le_length (by rw [List.length_drop]; omega)]
        have e : a + (5 + n) + (l.drop (5 + n)).length = a + l.length := by rw [List.length_drop]; omega
        rw [e]
        refine Prod.ext rfl ?_
        show 5 + n + ((l.drop (5 + n)).length + _) = l.length + _
        rw [List.length_drop]; omega
theorem scan_len : ∀ (f : Nat) (l : List Nat) (a : Nat), l.length ≤ f → (scan l a).1.length ≤ (scan l a).2 ∧ ∀ r ∈ (scan l a).1, a ≤ r.1 ∧ r.1 + 5 + r.2.length ≤ a + (scan l a).2
  | f, l, a, hf => by
    cases h : tkN l with
    | none => rw [scan_none h]; exact ⟨Nat.le_refl _, fun r hr => by cases hr⟩
    | some n =>
      have hle := tkN_le h
      rw [scan_some h]
      cases f with
      | zero => omega
      | succ f =>
        obtain ⟨h1, h2⟩ := scan_len f (l.drop (5 + n)) (a + (5 + n)) (by rw [List.length_drop]; omega)
        refine ⟨?_, fun r hr => ?_⟩
        · show _ + 1 ≤ 5 + n + _
          omega
        · show _ ∧ _ ≤ a + (5 + n + _)
          rcases List.mem_cons.1 hr with rfl | hr
          · refine ⟨Nat.le_refl _, ?_⟩
            show a + 5 + ((l.drop 5).take n).length ≤ _
            rw [List.length_take, List.length_drop]; omega
          · have := h2 r hr; omega
/-- Numbers rise. -/
def Inc (R : List (Nat × List Nat)) : Prop := R.Pairwise fun x y => x.1 < y.1
theorem scan_inc : ∀ (f : Nat) (l : List Nat) (a : Nat), l.length ≤ f → Inc (scan l a).1
  | f, l, a, hf => by
    cases h : tkN l with
    | none => rw [scan_none h]; exact .nil
    | some n =>
      have hle := tkN_le h
      rw [scan_some h]
      cases f with
      | zero => omega
      | succ f =>
        refine .cons (fun r hr => ?_) (scan_inc f (l.drop (5 + n)) (a + (5 + n)) (by rw [List.length_drop]; omega))
        have := (scan_len f (l.drop (5 + n)) (a + (5 + n)) (by rw [List.length_drop]; omega)).2 r hr
        show a < r.1
        omega
/-- What power leaves of the records when it leaves x bytes: those that end there. -/
theorem scan_cut : ∀ (f : Nat) (l : List Nat) (a x : Nat), l.length ≤ f → x ≤ l.length → ∃ j, (scan (l.take x) a).1 = (scan l a).1.take j ∧ j ≤ (scan l a).1.length ∧ (scan (l.take x) a).2 ≤ x ∧ ∀ i r, (scan l a).1[i]? = some r → (i < j ↔ r.1 + 5 + r.2.length ≤ a + x)
  | f, l, a, x, hf, hx => by
    have hxl : (l.take x).length = x := by rw [List.length_take]; omega
    cases h : tkN l with
    | none =>
      rw [scan_none h]
      have hs := scan_le (l.take x).length (l.take x) a (Nat.le_refl _)
      refine ⟨0, ?_, Nat.le_refl _, Nat.le_trans hs (Nat.le_of_eq hxl), fun i r hr => by simp at hr⟩
      cases h2 : tkN (l.take x) with
      | none => rw [scan_none h2]; rfl
      | some n =>
        have hle := tkN_le h2
        rw [hxl] at hle
        rw [tkN_loc h2 (by rw [List.take_take, Nat.min_eq_left (by omega)])] at h; cases h
    | some n =>
      have hle := tkN_le h
      rw [scan_some h]
      cases f with
      | zero => omega
      | succ f =>
        by_cases hn : x < 5 + n
        · rw [scan_none (tkN_short h hn)]
          refine ⟨0, rfl, Nat.zero_le _, Nat.zero_le _, fun i r hr => ⟨fun h => by omega, fun h9 => ?_⟩⟩
          exfalso
          cases i with
          | zero =>
            have hr : ((a, (l.drop 5).take n) : Nat × List Nat) = r := by simpa using hr
            subst hr
            have h9 : a + 5 + ((l.drop 5).take n).length ≤ a + x := h9
            rw [List.length_take, List.length_drop] at h9; omega
          | succ i =>
            have hr : (scan (l.drop (5 + n)) (a + (5 + n))).1[i]? = some r := by simpa using hr
            have := (scan_len f (l.drop (5 + n)) (a + (5 + n)) (by rw [List.length_drop]; omega)).2 r (List.mem_of_getElem? hr)
            omega
        · obtain ⟨j, h1, h2, h3, h4⟩ := scan_cut f (l.drop (5 + n)) (a + (5 + n)) (x - (5 + n)) (by rw [List.length_drop]; omega) (by rw [List.length_drop]; omega)
          have ht : tkN (l.take x) = some n := tkN_loc h (by rw [List.take_take, Nat.min_eq_left (by omega)])
          rw [scan_some ht, List.drop_take, List.drop_take, List.take_take, Nat.min_eq_left (by omega), h1]
          refine ⟨j + 1, rfl, by show j + 1 ≤ _ + 1; omega, by show 5 + n + _ ≤ x; omega, fun i r hr => ?_⟩
          cases i with
          | zero =>
            have hr : ((a, (l.drop 5).take n) : Nat × List Nat) = r := by simpa using hr
            subst hr
            refine ⟨fun _ => ?_, fun _ => by omega⟩
            show a + 5 + ((l.drop 5).take n).length ≤ a + x
            rw [List.length_take, List.length_drop]; omega
          | succ i =>
            have hr : (scan (l.drop (5 + n)) (a + (5 + n))).1[i]? = some r := by simpa using hr
            have := h4 i r hr
            omega
/-- Bytes that are a log's, whole: these records, and nothing behind. -/
def Whole (l : List Nat) (a : Nat) (R : List (Nat × List Nat)) : Prop := scan l a = (R, l.length)
theorem Whole.len {l : List Nat} {a : Nat} {R : List (Nat × List Nat)} (h : Whole l a R) : R.length ≤ l.length ∧ ∀ r ∈ R, a ≤ r.1 ∧ r.1 + 5 + r.2.length ≤ a + l.length := by
  have := scan_len l.length l a (Nat.le_refl _)
  rwa [show scan l a = (R, l.length) from h] at this
theorem Whole.inc {l : List Nat} {a : Nat} {R : List (Nat × List Nat)} (h : Whole l a R) : Inc R := by
  have := scan_inc l.length l a (Nat.le_refl _)
  rwa [show scan l a = (R, l.length) from h] at this
theorem whole_nil (a : Nat) : Whole [] a [] := scan_nil a
theorem whole_scan : ∀ (f : Nat) (l : List Nat) (a : Nat), l.length ≤ f → Whole (l.take (scan l a).2) a (scan l a).1
  | f, l, a, hf => by
    have hs := scan_le l.length l a (Nat.le_refl _)
    have hxl : (l.take (scan l a).2).length = (scan l a).2 := by rw [List.length_take]; omega
    unfold Whole
    rw [hxl]
    cases h : tkN l with
    | none => rw [scan_none h]; exact scan_nil a
    | some n =>
      have hle := tkN_le h
      cases f with
      | zero => omega
      | succ f =>
        have ih := whole_scan f (l.drop (5 + n)) (a + (5 + n)) (by rw [List.length_drop]; omega)
        have hs' := scan_le (l.drop (5 + n)).length (l.drop (5 + n)) (a + (5 + n)) (Nat.le_refl _)
        unfold Whole at ih
        have ht : tkN (l.take (scan l a).2) = some n := tkN_loc h (by rw [scan_some h, List.take_take, Nat.min_eq_left (by show 5 + n ≤ 5 + n + _; omega)])
        rw [scan_some ht, List.drop_take, List.drop_take, List.take_take]
        rw [scan_some h]
        show (_, _) = _
        rw [show 5 + n + (scan (l.drop (5 + n)) (a + (5 + n))).2 - (5 + n) = (scan (l.drop (5 + n)) (a + (5 + n))).2 by omega, ih, Nat.min_eq_left (by omega), List.length_take, Nat.min_eq_left hs']
theorem Whole.app {l m : List Nat} {a : Nat} {R : List (Nat × List Nat)} (h : Whole l a R) (hm : waOk m) : Whole (l ++ fr m) a (R ++ [(a + l.length, m)]) := by
  have h2 : (scan l a).2 = l.length := by rw [show scan l a = (R, l.length) from h]
  have h1 := scan_app l.length l (fr m) a (Nat.le_refl _) h2
  rw [show scan l a = (R, l.length) from h, scan_fr hm] at h1
  unfold Whole
  rw [h1, List.length_append, fr_len]
  refine Prod.ext rfl ?_
  show l.length + (5 + m.length) = l.length + (m.length + 5)
  omega
theorem Whole.drop : ∀ (i : Nat) {l : List Nat} {a : Nat} {R : List (Nat × List Nat)} {r : Nat × List Nat}, Whole l a R → R[i]? = some r → Whole (l.drop (r.1 - a)) r.1 (R.drop i)
  | 0, l, a, R, r, h, hr => by
    cases hk : tkN l with
    | none =>
      unfold Whole at h; rw [scan_none hk] at h
      obtain ⟨rfl, -⟩ := Prod.mk.inj h
      simp at hr
    | some n =>
      have h0 := h
      unfold Whole at h; rw [scan_some hk] at h
      obtain ⟨rfl, -⟩ := Prod.mk.inj h
      have hr : ((a, (l.drop 5).take n) : Nat × List Nat) = r := by simpa using hr
      subst hr
      show Whole (l.drop (a - a)) a _
      rw [Nat.sub_self]
      exact h0
  | i + 1, l, a, R, r, h, hr => by
    cases hk : tkN l with
    | none =>
      unfold Whole at h; rw [scan_none hk] at h
      obtain ⟨rfl, -⟩ := Prod.mk.inj h
      simp at hr
    | some n =>
      have hle := tkN_le hk
      unfold Whole at h; rw [scan_some hk] at h
      obtain ⟨rfl, h2⟩ := Prod.mk.inj h
      have hw : Whole (l.drop (5 + n)) (a + (5 + n)) (scan (l.drop (5 + n)) (a + (5 + n))).1 := by
        refine Prod.ext rfl ?_
        rw [List.length_drop]; simp only; omega
      have hr : (scan (l.drop (5 + n)) (a + (5 + n))).1[i]? = some r := by simpa using hr
      have ih := Whole.drop i hw hr
      have hb := (hw.len).2 r (List.mem_of_getElem? hr)
      rw [List.drop_drop] at ih
      rwa [show 5 + n + (r.1 - (a + (5 + n))) = r.1 - a by omega] at ih
theorem Whole.dropAll {l : List Nat} {a : Nat} {R : List (Nat × List Nat)} (h : Whole l a R) : Whole (l.drop l.length) (a + l.length) (R.drop R.length) := by
  rw [List.drop_length, List.drop_length]; exact whole_nil _
/-- In rising numbers each is found where it stands. -/
theorem Inc.find {R : List (Nat × List Nat)} (h : Inc R) {i : Nat} {r : Nat × List Nat} (hr : R[i]? = some r) : rdO R ((r.1 : Nat) : Int) = some r.2 := by
  unfold rdO
  induction h generalizing i with
  | nil => simp at hr
  | @cons x R h1 _ ih =>
    rw [List.find?_cons]
    cases i with
    | zero =>
      have hr : x = r := by simpa using hr
      subst hr
      simp
    | succ i =>
      have hr : R[i]? = some r := by simpa using hr
      have := h1 r (List.mem_of_getElem? hr)
      rw [decide_eq_false (by omega)]
      exact ih hr
end Go.Proofs.Ytmbbkliekgiolaa
