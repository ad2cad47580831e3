/- The plain law of a key's bytes: they stand as the values do; none begins another's, unless the values do. -/
import Derived.Test.YtmemgpcgjephmaaGreatDoorK5
set_option linter.unusedVariables false
set_option linter.unusedSimpArgs false
namespace Go.Proofs.YtmemgpcgjephmaaGreatDoor
open Go.RowKit
theorem bl_irr : ∀ l : List Nat, bl l l = false
  | [] => rfl
  | a :: l => by simp [bl, bl_irr l]
theorem bl_tot : ∀ {l m : List Nat}, bl l m = false → bl m l = false → l = m
  | [], [], _, _ => rfl
  | [], b :: m, h, _ => by simp [bl] at h
  | a :: l, [], _, h => by simp [bl] at h
  | a :: l, b :: m, h, h' => by
    simp only [bl, Bool.or_eq_false_iff, decide_eq_false_iff_not, Bool.and_eq_false_iff] at h h'
    have hab : a = b := by omega
    subst hab
    rw [bl_tot (l := l) (m := m) (by simpa using h.2) (by simpa using h'.2)]
theorem bl_cons (a b : Nat) (l m : List Nat) : bl (a :: l) (b :: m) = (decide (a < b) || (decide (a = b) && bl l m)) := rfl
theorem bl_hd {a b : Nat} (h : a ≠ b) (l m : List Nat) : bl (a :: l) (b :: m) = decide (a < b) := by rw [bl_cons, decide_eq_false h]; simp
/-- The k last bytes of a number. -/
def bek : Nat → Nat → List Nat
  | 0, _ => []
  | k + 1, u => (u / 256 ^ k % 256) :: bek k u
theorem be8_bek (u : Nat) : be8 u = bek 8 u := rfl
theorem bek_lt (r r' : List Nat) : ∀ (k u u' : Nat), bl (bek k u ++ r) (bek k u' ++ r') = if u % 256 ^ k = u' % 256 ^ k then bl r r' else decide (u % 256 ^ k < u' % 256 ^ k)
  | 0, u, u' => by simp [bek, Nat.mod_one]
  | k + 1, u, u' => by
    have e : ∀ x : Nat, x % 256 ^ (k + 1) = x % 256 ^ k + 256 ^ k * (x / 256 ^ k % 256) := fun x => by rw [Nat.pow_succ, Nat.mod_mul]
    have hp : 0 < 256 ^ k := Nat.pow_pos (by decide)
    have h1 := Nat.mod_lt u hp
    have h2 := Nat.mod_lt u' hp
    rw [e u, e u']
    show bl ((u / 256 ^ k % 256) :: (bek k u ++ r)) ((u' / 256 ^ k % 256) :: (bek k u' ++ r')) = _
    generalize u / 256 ^ k % 256 = a
    generalize u' / 256 ^ k % 256 = b
    rcases Nat.lt_trichotomy a b with h | h | h
    · have h3 := Nat.mul_le_mul_left (256 ^ k) (show a + 1 ≤ b from h)
      rw [Nat.mul_add, Nat.mul_one] at h3
      rw [bl_hd (by omega), decide_eq_true h, if_neg (by omega), decide_eq_true (by omega)]
    · subst h
      rw [bl_cons, decide_eq_false (Nat.lt_irrefl a), decide_eq_true rfl, Bool.false_or, Bool.true_and, bek_lt r r' k u u']
      by_cases h3 : u % 256 ^ k = u' % 256 ^ k
      · rw [if_pos h3, if_pos (by omega)]
      · rw [if_neg h3, if_neg (by omega)]
        exact decide_eq_decide.2 (by omega)
    · have h3 := Nat.mul_le_mul_left (256 ^ k) (show b + 1 ≤ a from h)
      rw [Nat.mul_add, Nat.mul_one] at h3
      rw [bl_hd (by omega), decide_eq_false (by omega), if_neg (by omega), decide_eq_false (by omega)]
theorem bia_eq {z : Int} (h : -9223372036854775808 ≤ z ∧ z ≤ 9223372036854775807) : ((bia z : Nat) : Int) = z + 9223372036854775808 := by
  unfold bia toU; omega
theorem be8_lt {z z' : Int} (h : -9223372036854775808 ≤ z ∧ z ≤ 9223372036854775807) (h' : -9223372036854775808 ≤ z' ∧ z' ≤ 9223372036854775807) (r r' : List Nat) :
    bl (be8 (bia z) ++ r) (be8 (bia z') ++ r') = if z = z' then bl r r' else decide (z < z') := by
  have e := bia_eq h
  have e' := bia_eq h'
  rw [be8_bek, be8_bek, bek_lt, show (256 : Nat) ^ 8 = 18446744073709551616 from by decide, Nat.mod_eq_of_lt (by omega), Nat.mod_eq_of_lt (by omega)]
  by_cases hz : z = z'
  · subst hz; rw [if_pos rfl, if_pos rfl]
  · rw [if_neg hz, if_neg (by omega)]
    exact decide_eq_decide.2 (by omega)
theorem esc_cons (a : Nat) (s : List Nat) : esc (a :: s) = (if a = 0 then [0, 255] else [a]) ++ esc s := rfl
theorem esc_lt (r r' : List Nat) : ∀ s t : List Nat, bl (esc s ++ 0 :: 1 :: r) (esc t ++ 0 :: 1 :: r') = if s = t then bl r r' else bl s t
  | [], [] => by simp [esc, bl]
  | [], b :: t => by
    rw [esc_cons]
    by_cases hb : b = 0
    · subst hb; simp [esc, bl]
    · rw [if_neg hb]; simp [esc, bl]; omega
  | a :: s, [] => by
    rw [esc_cons]
    by_cases ha : a = 0
    · subst ha; simp [esc, bl]
    · rw [if_neg ha]; simp [esc, bl]; omega
  | a :: s, b :: t => by
    rw [esc_cons, esc_cons, List.append_assoc, List.append_assoc]
    by_cases hab : a = b
    · subst hab
      rw [bl_pre, esc_lt r r' s t, bl_cons]
      simp
    · rw [if_neg (fun h => hab (List.cons.inj h).1), bl_hd hab]
      by_cases ha : a = 0
      · subst ha
        rw [if_pos rfl, if_neg (fun h => hab h.symm)]
        simp [bl]; omega
      · rw [if_neg ha]
        by_cases hb : b = 0
        · subst hb; simp [bl, ha]
        · rw [if_neg hb]
          show bl (a :: _) (b :: _) = _
          rw [bl_hd hab]
/-- Which of two values comes first. -/
def vlt (v w : Vl) : Bool := decide (v.1 < w.1) || (decide (v.1 = w.1) && (decide (v.2.1 < w.2.1) || (decide (v.2.1 = w.2.1) && bl v.2.2 w.2.2)))
theorem right_s {v : Vl} (h : rightB v = true) : (v.1 = 0 → v.2.1 = 0 ∧ v.2.2 = []) ∧ (v.1 = 1 → v.2.2 = []) ∧ (v.1 = 2 ∨ v.1 = 3 → v.2.2 = []) ∧ (v.1 = 4 ∨ v.1 = 5 → v.2.1 = 0) := by
  unfold rightB at h
  repeat' split at h
  all_goals simp at h
  all_goals refine ⟨fun h' => ?_, fun h' => ?_, fun h' => ?_, fun h' => ?_⟩ <;> first | omega | exact h | exact h.1 | exact h.2
theorem vl_ext {v w : Vl} (h1 : v.1 = w.1) (h2 : v.2.1 = w.2.1) (h3 : v.2.2 = w.2.2) : v = w := by
  obtain ⟨a, b, c⟩ := v
  obtain ⟨a', b', c'⟩ := w
  simp only at h1 h2 h3
  subst h1 h2 h3; rfl
theorem encV_lt {v w : Vl} (hv : VOk v) (hw : VOk w) (rv : rightB v = true) (rw' : rightB w = true) (r r' : List Nat) : bl (encV v ++ r) (encV w ++ r') = if v = w then bl r r' else vlt v w := by
  obtain ⟨k0, k5, k1, _⟩ := right_k rv
  obtain ⟨k0', k5', k1', _⟩ := right_k rw'
  obtain ⟨s0, s1, s2, s4⟩ := right_s rv
  obtain ⟨s0', s1', s2', s4'⟩ := right_s rw'
  show bl ((v.1.toNat % 256) :: (encB v ++ r)) ((w.1.toNat % 256) :: (encB w ++ r')) = _
  by_cases hk : v.1 = w.1
  · rw [bl_cons, decide_eq_false (by omega), decide_eq_true (by omega), Bool.false_or, Bool.true_and]
    have hvl : vlt v w = (decide (v.2.1 < w.2.1) || (decide (v.2.1 = w.2.1) && bl v.2.2 w.2.2)) := by
      unfold vlt; rw [decide_eq_false (by omega), decide_eq_true hk]; simp
    rw [hvl]
    by_cases c1 : v.1 = 1
    · have e1 := encB1 (v := v) c1
      have e2 := encB1 (v := w) (by omega)
      rw [e1, e2, s1 c1, s1' (by omega)]
      have q := k1 c1
      have q' := k1' (by omega)
      by_cases hz : v.2.1 = w.2.1
      · rw [if_pos (vl_ext hk hz (by rw [s1 c1, s1' (by omega)])), hz]; simp [bl]
      · rw [if_neg (fun h => hz (by rw [h]))]
        show bl (_ :: r) (_ :: r') = _
        rw [bl_hd (by omega), decide_eq_false hz]
        simp only [Bool.false_and, Bool.or_false]
        exact decide_eq_decide.2 (by omega)
    · by_cases c2 : v.1 = 2 ∨ v.1 = 3
      · have c2' : w.1 = 2 ∨ w.1 = 3 := by omega
        rw [encB2 c2, encB2 c2', be8_lt hv.2.2 hw.2.2, s2 c2, s2' c2']
        by_cases hz : v.2.1 = w.2.1
        · rw [if_pos hz, if_pos (vl_ext hk hz (by rw [s2 c2, s2' c2']))]
        · rw [if_neg hz, if_neg (fun h => hz (by rw [h])), decide_eq_false hz]; simp
      · by_cases c4 : v.1 = 4 ∨ v.1 = 5
        · have c4' : w.1 = 4 ∨ w.1 = 5 := by omega
          rw [encB4 c4, encB4 c4', List.append_assoc, List.append_assoc]
          show bl (esc _ ++ 0 :: 1 :: r) (esc _ ++ 0 :: 1 :: r') = _
          rw [esc_lt, s4 c4, s4' c4']
          by_cases hz : v.2.2 = w.2.2
          · rw [if_pos hz, if_pos (vl_ext hk (by rw [s4 c4, s4' c4']) hz)]
          · rw [if_neg hz, if_neg (fun h => hz (by rw [h]))]; simp
        · have c0 : v.1 = 0 := by omega
          rw [encB0 (by omega), encB0 (by omega), if_pos (vl_ext hk (by rw [(s0 c0).1, (s0' (by omega)).1]) (by rw [(s0 c0).2, (s0' (by omega)).2]))]; rfl
  · rw [bl_hd (by omega), if_neg (fun h => hk (by rw [h]))]
    unfold vlt
    rw [decide_eq_false hk, Bool.false_and, Bool.or_false]
    exact decide_eq_decide.2 (by omega)
theorem vlt_irr (v : Vl) : vlt v v = false := by simp [vlt, bl_irr]
theorem vlt_tot {v w : Vl} (h : vlt v w = false) (h' : vlt w v = false) : v = w := by
  simp only [vlt, Bool.or_eq_false_iff, decide_eq_false_iff_not, Bool.and_eq_false_iff] at h h'
  have e1 : v.1 = w.1 := by omega
  have g := h.2.resolve_left (by simp [e1])
  have g' := h'.2.resolve_left (by simp [e1])
  have e2 : v.2.1 = w.2.1 := by omega
  exact vl_ext e1 e2 (bl_tot (g.2.resolve_left (by simp [e2])) (g'.2.resolve_left (by simp [e2])))
theorem encV_inj {v w : Vl} (hv : VOk v) (hw : VOk w) (rv : rightB v = true) (rw' : rightB w = true) {r r' : List Nat} (h : encV v ++ r = encV w ++ r') : v = w ∧ r = r' := by
  have h1 := encV_lt hv hw rv rw' r r'
  have h2 := encV_lt hw hv rw' rv r' r
  rw [h, bl_irr] at h1
  rw [← h, bl_irr] at h2
  have e : v = w := by
    by_cases e : v = w
    · exact e
    · rw [if_neg e] at h1
      rw [if_neg (fun h => e h.symm)] at h2
      exact vlt_tot h1.symm h2.symm
  subst e
  exact ⟨rfl, List.append_cancel_left h⟩
/-- Values, all of them right. -/
def RsOk (l : List Vl) : Prop := VsOk l ∧ ∀ v ∈ l, rightB v = true
theorem RsOk.hd {v : Vl} {l : List Vl} (h : RsOk (v :: l)) : VOk v ∧ rightB v = true := ⟨h.1 v (.head _), h.2 v (.head _)⟩
theorem RsOk.tl {v : Vl} {l : List Vl} (h : RsOk (v :: l)) : RsOk l := ⟨fun x hx => h.1 x (.tail _ hx), fun x hx => h.2 x (.tail _ hx)⟩
theorem RsOk.take {l : List Vl} (h : RsOk l) (n : Nat) : RsOk (l.take n) := ⟨h.1.take, fun x hx => h.2 x (List.mem_of_mem_take hx)⟩
theorem enc_cons (v : Vl) (l : List Vl) : enc (v :: l) = encV v ++ enc l := rfl
theorem enc_nil : enc [] = [] := rfl
theorem enc_pre : ∀ {s l : List Vl} {r : List Nat}, RsOk s → RsOk l → enc l = enc s ++ r → ∃ m, l = s ++ m ∧ r = enc m
  | [], l, r, _, _, h => ⟨l, rfl, h.symm⟩
  | v :: s, [], r, _, _, h => by rw [enc_cons] at h; simp [enc_nil, encV] at h
  | v :: s, w :: l, r, hs, hl, h => by
    rw [enc_cons, enc_cons, List.append_assoc] at h
    obtain ⟨rfl, h2⟩ := encV_inj hl.hd.1 hs.hd.1 hl.hd.2 hs.hd.2 h
    obtain ⟨m, rfl, h3⟩ := enc_pre hs.tl hl.tl h2
    exact ⟨m, rfl, h3⟩
theorem enc_inj {s l : List Vl} (hs : RsOk s) (hl : RsOk l) (h : enc l = enc s) : l = s := by
  obtain ⟨m, rfl, h2⟩ := enc_pre (r := []) hs hl (by rw [h, List.append_nil])
  cases m with
  | nil => rw [List.append_nil]
  | cons v m => rw [enc_cons] at h2; simp [encV] at h2
/-- Which of two rows of values comes first. -/
def vls : List Vl → List Vl → Bool
  | _, [] => false
  | [], _ :: _ => true
  | v :: l, w :: m => if v = w then vls l m else vlt v w
theorem enc_lt : ∀ {l m : List Vl}, RsOk l → RsOk m → bl (enc l) (enc m) = vls l m
  | [], [], _, _ => rfl
  | v :: l, [], _, _ => rfl
  | [], w :: m, _, _ => rfl
  | v :: l, w :: m, hl, hm => by
    rw [enc_cons, enc_cons, encV_lt hl.hd.1 hm.hd.1 hl.hd.2 hm.hd.2, enc_lt hl.tl hm.tl]
    rfl
end Go.Proofs.YtmemgpcgjephmaaGreatDoor
