/- Rows as bytes, the plain law: what a row's bytes are, what they begin with, that no other row has them. -/
import Derived.Test.YtlplhlncdfhhoaaRa
import Derived.Test.YtlplhlncdfhhoaaRv
set_option linter.unusedVariables false
set_option linter.unusedSimpArgs false
namespace Go.Proofs.Ytlplhlncdfhhoaa
/-- A value's bytes in a row, behind its kind. -/
def rencb (v : Vl) : List Nat := if v.1 = 1 then [v.2.1.toNat % 256] else if v.1 = 2 ∨ v.1 = 3 then short v.2.1 else if v.1 = 4 ∨ v.1 = 5 then short (v.2.2.length : Int) ++ v.2.2 else []
def renc (v : Vl) : List Nat := (v.1.toNat % 256) :: rencb v
def rencs (l : List Vl) : List Nat := l.flatMap renc
def encRow (l : List Vl) : List Nat := (l.length % 256) :: rencs l
theorem rencs_app (l m : List Vl) : rencs (l ++ m) = rencs l ++ rencs m := List.flatMap_append
theorem rencs_one (v : Vl) : rencs [v] = renc v := by unfold rencs; rw [List.flatMap_cons]; exact List.append_nil _
theorem rencs_cons (v : Vl) (l : List Vl) : rencs (v :: l) = renc v ++ rencs l := List.flatMap_cons
theorem renc_bytes {v : Vl} (h : Bytes v.2.2) : Bytes (renc v) := by
  intro x hx
  rcases List.mem_cons.1 hx with rfl | hx
  · omega
  · unfold rencb at hx
    split at hx
    · simp at hx; omega
    · split at hx
      · exact short_bytes _ x hx
      · split at hx
        · rcases List.mem_append.1 hx with hx | hx
          · exact short_bytes _ x hx
          · exact h x hx
        · cases hx
theorem rencs_bytes {l : List Vl} (h : VsOk l) : Bytes (rencs l) := by
  intro x hx
  obtain ⟨v, hv, hx⟩ := List.mem_flatMap.1 hx
  exact renc_bytes (h v hv).1 x hx
theorem encRow_bytes {l : List Vl} (h : VsOk l) : Bytes (encRow l) := by
  intro x hx
  rcases List.mem_cons.1 hx with rfl | hx
  · omega
  · exact rencs_bytes h x hx
theorem rightr {v : Vl} (h : rightB v = true) : 0 ≤ v.1 ∧ v.1 ≤ 5 ∧ (v.1 = 0 → v.2.1 = 0 ∧ v.2.2 = []) ∧ (v.1 = 1 → (v.2.1 = 0 ∨ v.2.1 = 1) ∧ v.2.2 = []) ∧ (v.1 = 2 ∨ v.1 = 3 → v.2.2 = []) ∧ (v.1 = 4 ∨ v.1 = 5 → v.2.1 = 0 ∧ v.2.2.length ≤ 200) := by
  unfold rightB at h
  split at h
  · simp only [Bool.and_eq_true, decide_eq_true_eq] at h
    refine ⟨by omega, by omega, fun _ => h, fun _ => by omega, fun _ => h.2, fun _ => by omega⟩
  · split at h
    · simp only [Bool.and_eq_true, Bool.or_eq_true, decide_eq_true_eq] at h
      exact ⟨by omega, by omega, fun _ => by omega, fun _ => h, fun _ => h.2, fun _ => by omega⟩
    · split at h
      · simp only [decide_eq_true_eq] at h
        exact ⟨by omega, by omega, fun _ => by omega, fun _ => by omega, fun _ => h, fun _ => by omega⟩
      · split at h
        · simp only [Bool.and_eq_true, decide_eq_true_eq] at h
          exact ⟨by omega, by omega, fun _ => by omega, fun _ => by omega, fun _ => by omega, fun _ => h⟩
        · cases h
theorem vr_ext {v w : Vl} (h1 : v.1 = w.1) (h2 : v.2.1 = w.2.1) (h3 : v.2.2 = w.2.2) : v = w := by
  obtain ⟨a, b, c⟩ := v; obtain ⟨a', b', c'⟩ := w
  simp only at h1 h2 h3; subst h1 h2 h3; rfl
theorem rencb1 {v : Vl} (h : v.1 = 1) : rencb v = [v.2.1.toNat % 256] := by unfold rencb; rw [if_pos h]
theorem rencb2 {v : Vl} (h : v.1 = 2 ∨ v.1 = 3) : rencb v = short v.2.1 := by unfold rencb; rw [if_neg (by omega), if_pos h]
theorem rencb4 {v : Vl} (h : v.1 = 4 ∨ v.1 = 5) : rencb v = short (v.2.2.length : Int) ++ v.2.2 := by unfold rencb; rw [if_neg (by omega), if_neg (by omega), if_pos h]
theorem rencb0 {v : Vl} (h : v.1 = 0) : rencb v = [] := by unfold rencb; rw [if_neg (by omega), if_neg (by omega), if_neg (by omega)]
theorem app_inj_len {α : Type} {a b r s : List α} (h : a ++ r = b ++ s) (hl : a.length = b.length) : a = b ∧ r = s := List.append_inj h hl
theorem renc_inj {v w : Vl} (rv : rightB v = true) (rw' : rightB w = true) {r r' : List Nat} (h : renc v ++ r = renc w ++ r') : v = w ∧ r = r' := by
  obtain ⟨a0, a5, a6, a7, a8, a9⟩ := rightr rv
  obtain ⟨b0, b5, b6, b7, b8, b9⟩ := rightr rw'
  have h' : (v.1.toNat % 256) :: (rencb v ++ r) = (w.1.toNat % 256) :: (rencb w ++ r') := h
  obtain ⟨h1, h2⟩ := List.cons.inj h'
  have hk : v.1 = w.1 := by omega
  rcases (by omega : v.1 = 0 ∨ v.1 = 1 ∨ (v.1 = 2 ∨ v.1 = 3) ∨ (v.1 = 4 ∨ v.1 = 5)) with k | k | k | k
  · rw [rencb0 k, rencb0 (by omega)] at h2
    exact ⟨vr_ext hk (by rw [(a6 k).1, (b6 (by omega)).1]) (by rw [(a6 k).2, (b6 (by omega)).2]), h2⟩
  · rw [rencb1 k, rencb1 (by omega)] at h2
    obtain ⟨h3, h4⟩ := List.cons.inj h2
    have := (a7 k).1; have := (b7 (by omega)).1
    exact ⟨vr_ext hk (by omega) (by rw [(a7 k).2, (b7 (by omega)).2]), h4⟩
  · rw [rencb2 k, rencb2 (by omega)] at h2
    obtain ⟨h3, h4⟩ := short_inj h2
    exact ⟨vr_ext hk h3 (by rw [a8 k, b8 (by omega)]), h4⟩
  · rw [rencb4 k, rencb4 (by omega), List.append_assoc, List.append_assoc] at h2
    obtain ⟨h3, h4⟩ := short_inj h2
    obtain ⟨h5, h6⟩ := app_inj_len h4 (by omega)
    exact ⟨vr_ext hk (by rw [(a9 k).1, (b9 (by omega)).1]) h5, h6⟩
def RrOk (l : List Vl) : Prop := VsOk l ∧ ∀ v ∈ l, rightB v = true
theorem RrOk.nil : RrOk [] := ⟨VsOk.nil, fun v h => by cases h⟩
theorem RrOk.app {l m : List Vl} (h : RrOk l) (h' : RrOk m) : RrOk (l ++ m) := ⟨h.1.app h'.1, fun v hv => (List.mem_append.1 hv).elim (h.2 v) (h'.2 v)⟩
theorem RrOk.one {v : Vl} (h : VOk v) (h' : rightB v = true) : RrOk [v] := ⟨VsOk.one h, fun x hx => by rw [List.mem_singleton] at hx; subst hx; exact h'⟩
theorem RrOk.tl {v : Vl} {l : List Vl} (h : RrOk (v :: l)) : RrOk l := ⟨fun x hx => h.1 x (.tail _ hx), fun x hx => h.2 x (.tail _ hx)⟩
theorem rencs_pre : ∀ {s l : List Vl} {r : List Nat}, RrOk s → RrOk l → rencs l = rencs s ++ r → s.length ≤ l.length → ∃ m, l = s ++ m ∧ r = rencs m
  | [], l, r, _, _, h, _ => ⟨l, rfl, by simpa [rencs] using h.symm⟩
  | v :: s, [], r, _, _, _, hl => by simp at hl
  | v :: s, w :: l, r, hs, hl, h, hn => by
    rw [rencs_cons, rencs_cons, List.append_assoc] at h
    obtain ⟨h1, h2⟩ := renc_inj (hl.2 w (.head _)) (hs.2 v (.head _)) h
    obtain ⟨m, h3, h4⟩ := rencs_pre hs.tl hl.tl h2 (by simp at hn; omega)
    exact ⟨m, by rw [h1, h3]; rfl, h4⟩
theorem encRow_inj {s l : List Vl} (hs : RrOk s) (hl : RrOk l) (h16 : s.length ≤ 16) (h16' : l.length ≤ 16) (h : encRow l = encRow s) : l = s := by
  obtain ⟨h1, h2⟩ := List.cons.inj h
  obtain ⟨m, h3, h4⟩ := rencs_pre (r := []) hs hl (by rw [h2, List.append_nil]) (by omega)
  have : m = [] := by
    cases m with
    | nil => rfl
    | cons v m => have h5 := congrArg List.length h4; rw [rencs_cons] at h5; simp [renc] at h5
  rw [h3, this, List.append_nil]
/-- No row's bytes. -/
def NoRow (b : List Nat) : Prop := ∀ L, RrOk L → L.length ≤ 16 → b ≠ encRow L
/-- The row that bytes are, or the error. -/
noncomputable def decRw (b : List Nat) : List Vl × Int := @dite _ (∃ L, RrOk L ∧ L.length ≤ 16 ∧ b = encRow L) (Classical.propDecidable _) (fun h => (h.choose, 0)) (fun _ => ([], 51))
theorem decRw_yes {L : List Vl} {b : List Nat} (hL : RrOk L) (h16 : L.length ≤ 16) (hb : b = encRow L) : decRw b = (L, 0) := by
  have h : ∃ L, RrOk L ∧ L.length ≤ 16 ∧ b = encRow L := ⟨L, hL, h16, hb⟩
  unfold decRw
  rw [dif_pos h]
  have h2 := h.choose_spec
  rw [encRow_inj hL h2.1 h16 h2.2.1 (by rw [← h2.2.2, hb])]
theorem decRw_no {b : List Nat} (h : NoRow b) : decRw b = ([], 51) := by
  unfold decRw
  rw [dif_neg]
  rintro ⟨L, h1, h2, h3⟩
  exact h L h1 h2 h3
theorem decRw_or (b : List Nat) : (∃ L, RrOk L ∧ L.length ≤ 16 ∧ b = encRow L ∧ decRw b = (L, 0)) ∨ (NoRow b ∧ decRw b = ([], 51)) := by
  rcases Classical.em (∃ L, RrOk L ∧ L.length ≤ 16 ∧ b = encRow L) with ⟨L, h1, h2, h3⟩ | h
  · exact .inl ⟨L, h1, h2, h3, decRw_yes h1 h2 h3⟩
  · have h' : NoRow b := fun L h1 h2 h3 => h ⟨L, h1, h2, h3⟩
    exact .inr ⟨h', decRw_no h'⟩
theorem decRw_ok (b : List Nat) : RrOk (decRw b).1 ∧ (decRw b).1.length ≤ 16 := by
  rcases decRw_or b with ⟨L, h1, h2, _, h4⟩ | ⟨_, h4⟩
  · rw [h4]; exact ⟨h1, h2⟩
  · rw [h4]; exact ⟨RrOk.nil, Nat.zero_le _⟩
theorem decRw_zero {b : List Nat} (h : (decRw b).2 = 0) : b = encRow (decRw b).1 := by
  rcases decRw_or b with ⟨L, h1, h2, h3, h4⟩ | ⟨_, h4⟩
  · rw [h4]; exact h3
  · rw [h4] at h; cases h
/-- No value's bytes in a row begin these. -/
def NoVal (b : List Nat) : Prop := ∀ a r, VOk a → rightB a = true → b ≠ renc a ++ r
theorem norow_nil : NoRow [] := fun L _ _ h => by cases h
theorem cons_at {b : List Nat} {x : Nat} (hx : b[0]? = some x) : b = x :: b.drop 1 := by
  match b, hx with
  | y :: b, hx => simp at hx; subst hx; rfl
theorem val_head {b r : List Nat} {x : Nat} {a : Vl} (hx : b[0]? = some x) (hr : rightB a = true) (h : b = renc a ++ r) : a.1 = (x : Int) ∧ b.drop 1 = rencb a ++ r := by
  obtain ⟨k0, k5, _⟩ := rightr hr
  have h2 := cons_at hx
  rw [h] at h2
  have h3 : a.1.toNat % 256 = x ∧ rencb a ++ r = (renc a ++ r).drop 1 := List.cons.inj h2
  exact ⟨by omega, by rw [h3.2, ← h]⟩
theorem renc_of {x : Nat} {z : Int} {s b r : List Nat} (hx : b[0]? = some x) (hB : x < 256) (h : b.drop 1 = rencb ((x : Int), z, s) ++ r) : b = renc ((x : Int), z, s) ++ r := by
  rw [cons_at hx]
  show x :: b.drop 1 = ((x : Int).toNat % 256) :: (rencb ((x : Int), z, s) ++ r)
  rw [h, Int.toNat_natCast, Nat.mod_eq_of_lt hB]
/-- A value was taken off, or none can be. -/
def TkR (b : List Nat) (a : Vl) (r : List Nat) (ok : Bool) : Prop := (ok = true → rightB a = true ∧ b = renc a ++ r) ∧ (ok = false → NoVal b)
theorem tkr_yes {b r : List Nat} {a : Vl} (h : b = renc a ++ r) (hno : rightB a = false → NoVal b) : TkR b a r (rightB a) := ⟨fun h' => ⟨h', h⟩, hno⟩
theorem tkr_no {b r : List Nat} {a : Vl} (h : NoVal b) : TkR b a r false := ⟨fun h' => (by cases h'), fun _ => h⟩
theorem noval_nil : NoVal [] := fun a r _ _ h => by cases h
theorem noval_kind {b : List Nat} {x : Nat} (hx : b[0]? = some x) (h : 5 < x) : NoVal b := fun a r _ hr e => by
  obtain ⟨k, _⟩ := val_head hx hr e
  obtain ⟨k0, k5, _⟩ := rightr hr
  omega
theorem noval_bool {b : List Nat} {x : Nat} (hx : b[0]? = some x) (h : x = 1) (h2 : ∀ c, (b.drop 1)[0]? = some c → c ≠ 0 ∧ c ≠ 1) : NoVal b := fun a r _ hr e => by
  obtain ⟨k, h3⟩ := val_head hx hr e
  obtain ⟨_, _, _, k1, _⟩ := rightr hr
  rw [rencb1 (by omega)] at h3
  have := h2 _ (by rw [h3]; rfl)
  have := (k1 (by omega)).1
  omega
theorem noval_num {b : List Nat} {x : Nat} (hx : b[0]? = some x) (h : x = 2 ∨ x = 3) (h2 : NoShort (b.drop 1)) : NoVal b := fun a r ha hr e => by
  obtain ⟨k, h3⟩ := val_head hx hr e
  rw [rencb2 (by omega)] at h3
  exact h2 _ _ ha.2.2.1 ha.2.2.2 h3
theorem noval_text {b : List Nat} {x : Nat} (hx : b[0]? = some x) (h : x = 4 ∨ x = 5) (h2 : NoShort (b.drop 1)) : NoVal b := fun a r ha hr e => by
  obtain ⟨k, h3⟩ := val_head hx hr e
  obtain ⟨_, _, _, _, _, k4⟩ := rightr hr
  rw [rencb4 (by omega), List.append_assoc] at h3
  have := (k4 (by omega)).2
  exact h2 _ _ (by omega) (by omega) h3
theorem noval_long {b r : List Nat} {x : Nat} {n : Int} (hx : b[0]? = some x) (h : x = 4 ∨ x = 5) (h2 : b.drop 1 = short n ++ r) (h3 : n < 0 ∨ (r.length : Int) < n ∨ 200 < n) : NoVal b := fun a r' ha hr e => by
  obtain ⟨k, h4⟩ := val_head hx hr e
  obtain ⟨_, _, _, _, _, k4⟩ := rightr hr
  rw [rencb4 (by omega), List.append_assoc, h2] at h4
  obtain ⟨h5, h6⟩ := short_inj h4
  have := (k4 (by omega)).2
  have := congrArg List.length h6
  rw [List.length_append] at this
  omega
theorem val_null {b : List Nat} {x : Nat} (hx : b[0]? = some x) (h : x = 0) : b = renc ((x : Int), 0, []) ++ b.drop 1 := renc_of hx (by omega) (by rw [rencb0 (by simpa using h)]; rfl)
theorem val_bool {b : List Nat} {x c : Nat} (hx : b[0]? = some x) (h : x = 1) (hc : (b.drop 1)[0]? = some c) (hB : c < 256) : b = renc ((x : Int), (c : Int), []) ++ (b.drop 1).drop 1 := by
  refine renc_of hx (by omega) ?_
  rw [rencb1 (by simp; omega)]
  show b.drop 1 = ((c : Int).toNat % 256) :: (b.drop 1).drop 1
  rw [Int.toNat_natCast, Nat.mod_eq_of_lt hB]; exact cons_at hc
theorem val_num {b r : List Nat} {x : Nat} {n : Int} (hx : b[0]? = some x) (h : x = 2 ∨ x = 3) (h2 : b.drop 1 = short n ++ r) : b = renc ((x : Int), n, []) ++ r :=
  renc_of hx (by omega) (by rw [rencb2 (by simp; omega)]; exact h2)
theorem val_text {b r s : List Nat} {x : Nat} {n : Int} (hx : b[0]? = some x) (h : x = 4 ∨ x = 5) (h2 : b.drop 1 = short n ++ r) (h3 : (s.length : Int) = n) (h4 : ∃ q, r = s ++ q) : b = renc ((x : Int), 0, s) ++ r.drop s.length := by
  obtain ⟨q, rfl⟩ := h4
  refine renc_of hx (by omega) ?_
  rw [rencb4 (by simp; omega), h2, List.append_assoc]
  simp only
  rw [h3, List.drop_left]
theorem row_next {b rest r : List Nat} {l : List Vl} {a : Vl} {x : Nat} (he : b = x :: (rencs l ++ rest)) (h : rest = renc a ++ r) : b = x :: (rencs (l ++ [a]) ++ r) := by
  rw [rencs_app, rencs_one, he, h, List.append_assoc]
theorem row_fail {b rest : List Nat} {l : List Vl} {x : Nat} (he : b = x :: (rencs l ++ rest)) (hR : RrOk l) (hx : l.length < x) (hB : x < 256) (h : NoVal rest ∨ 16 ≤ l.length) : NoRow b := fun L hL h16 e => by
  rw [e] at he
  obtain ⟨h1, h2⟩ := List.cons.inj he
  obtain ⟨m, rfl, h3⟩ := rencs_pre hR hL h2 (by omega)
  rw [List.length_append] at h1 h16
  match m with
  | [] => simp at h1; omega
  | v :: m =>
    rcases h with h | h
    · exact h v (rencs m) (hL.1 v (List.mem_append_right _ (.head _))) (hL.2 v (List.mem_append_right _ (.head _))) (by rw [h3, rencs_cons])
    · simp at h16; omega
theorem row_more {b rest : List Nat} {l : List Vl} {x : Nat} (he : b = x :: (rencs l ++ rest)) (hR : RrOk l) (hx : l.length = x) (h16 : l.length ≤ 16) (hp : 0 < rest.length) : NoRow b := fun L hL h16' e => by
  rw [e] at he
  obtain ⟨h1, h2⟩ := List.cons.inj he
  obtain ⟨m, rfl, h3⟩ := rencs_pre hR hL h2 (by omega)
  rw [List.length_append] at h1 h16'
  match m with
  | [] => rw [h3] at hp; simp [rencs] at hp
  | v :: m => simp at h1 h16'; omega
theorem row_yes {b rest : List Nat} {l : List Vl} {x : Nat} (he : b = x :: (rencs l ++ rest)) (hR : RrOk l) (hx : l.length = x) (h16 : l.length ≤ 16) (hp : rest.length = 0) : decRw b = (l, 0) := by
  have : rest = [] := List.eq_nil_of_length_eq_zero hp
  subst this
  refine decRw_yes hR h16 ?_
  rw [he, List.append_nil, ← hx]
  show _ = (l.length % 256) :: rencs l
  rw [Nat.mod_eq_of_lt (by omega)]
end Go.Proofs.Ytlplhlncdfhhoaa
