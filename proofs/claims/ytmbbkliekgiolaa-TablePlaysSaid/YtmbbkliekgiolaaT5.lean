/- Package table: the plain law of pages: rising entries; where a key stands. -/
import Derived.Test.YtmbbkliekgiolaaT4
set_option linter.unusedVariables false
set_option linter.unusedSimpArgs false
namespace Go.Proofs.Ytmbbkliekgiolaa
open Go.RowKit
theorem bl_trans : ∀ {l m k : List Nat}, bl l m = true → bl m k = true → bl l k = true
  | _, [], _, h, _ => by simp [bl] at h
  | [], b :: m, c :: k, _, _ => rfl
  | [], b :: m, [], _, h => by simp [bl] at h
  | a :: l, b :: m, [], _, h => by simp [bl] at h
  | a :: l, b :: m, c :: k, h, h' => by
    simp only [bl, Bool.or_eq_true, decide_eq_true_eq, Bool.and_eq_true] at h h' ⊢
    rcases h with h | ⟨h, h1⟩
    · rcases h' with h' | ⟨h', _⟩
      · exact .inl (by omega)
      · exact .inl (by omega)
    · rcases h' with h' | ⟨h', h2⟩
      · exact .inl (by omega)
      · exact .inr ⟨by omega, bl_trans h1 h2⟩
theorem bl_asym {l m : List Nat} (h : bl l m = true) : bl m l = false := by
  cases h' : bl m l with
  | false => rfl
  | true => have := bl_trans h h'; rw [bl_irr] at this; cases this
theorem bl_tot : ∀ {l m : List Nat}, bl l m = false → bl m l = false → l = m
  | [], [], _, _ => rfl
  | [], b :: m, h, _ => by simp [bl] at h
  | a :: l, [], _, h => by simp [bl] at h
  | a :: l, b :: m, h, h' => by
    simp only [bl, Bool.or_eq_false_iff, decide_eq_false_iff_not, Bool.and_eq_false_iff] at h h'
    have hab : a = b := by omega
    subst hab
    have e : l = m := bl_tot (l := l) (m := m) (by simpa using h.2) (by simpa using h'.2)
    rw [e]
theorem bl_ne {l m : List Nat} (h : bl l m = true) : l ≠ m := by
  rintro rfl; rw [bl_irr] at h; cases h
theorem bl_of {l m : List Nat} (h : bl l m = false) (hn : l ≠ m) : bl m l = true := by
  cases h' : bl m l with
  | true => rfl
  | false => exact absurd (bl_tot h h') hn
theorem bl_le {l m k : List Nat} (h : bl l m = true) (h' : bl k m = false) : bl l k = true := by
  by_cases e : k = m
  · subst e; exact h
  · exact bl_trans h (bl_of h' e)
theorem bl_le' {l m k : List Nat} (h : bl m l = false) (h' : bl m k = true) : bl l k = true := by
  by_cases e : m = l
  · subst e; exact h'
  · exact bl_trans (bl_of h e) h'
/-! ### rising rows by their keys -/
abbrev KV := List Nat × List Nat
def Srt (L : List KV) : Prop := L.Pairwise fun a b => bl a.1 b.1 = true
def En.kv (a : En) : KV := (a.kb, a.rb)
def flat (ps : List Pg) : List En := ps.flatMap Pg.es
def ab (ps : List Pg) : List KV := (flat ps).map En.kv
def putA (L : List KV) (k r : List Nat) : List KV := L.filter (fun a => bl a.1 k) ++ (k, r) :: L.filter (fun a => bl k a.1)
def dropA (L : List KV) (k : List Nat) : List KV := L.filter fun a => decide (a.1 ≠ k)
def getA (L : List KV) (k : List Nat) : Option (List Nat) := (L.find? fun a => decide (a.1 = k)).map (·.2)
/-- Below a key, and from it on. -/
structure Cut (X Y : List KV) (k : List Nat) : Prop where
  srt : Srt (X ++ Y)
  lo : ∀ a ∈ X, bl a.1 k = true
  hi : ∀ a ∈ Y, bl a.1 k = false
section
variable {X Y : List KV} {k r s : List Nat}
theorem Cut.no (h : Cut X Y k) (hn : ∀ a ∈ Y.head?, a.1 ≠ k) : ∀ a ∈ Y, bl k a.1 = true := by
  cases Y with
  | nil => intro a ha; cases ha
  | cons y Y =>
    have hy : bl k y.1 = true := bl_of (h.hi y (.head _)) (hn y rfl)
    intro a ha
    cases ha with
    | head => exact hy
    | tail _ ha => exact bl_trans hy ((List.pairwise_cons.1 (List.pairwise_append.1 h.srt).2.1).1 a ha)
theorem Cut.yes (h : Cut X ((k, s) :: Y) k) : ∀ a ∈ Y, bl k a.1 = true := fun a ha => (List.pairwise_cons.1 (List.pairwise_append.1 h.srt).2.1).1 a ha
theorem Cut.pre (h : Cut X Y k) : ∀ a ∈ X, bl k a.1 = false ∧ a.1 ≠ k := fun a ha => ⟨bl_asym (h.lo a ha), bl_ne (h.lo a ha)⟩
theorem Cut.put_new (h : Cut X Y k) (hn : ∀ a ∈ Y.head?, a.1 ≠ k) : putA (X ++ Y) k r = X ++ (k, r) :: Y := by
  have h1 := h.no hn
  unfold putA
  rw [List.filter_append, List.filter_append, List.filter_eq_self.2 h.lo, List.filter_eq_nil_iff.2 (fun a ha => by rw [h.hi a ha]; simp), List.filter_eq_nil_iff.2 (fun a ha => by rw [(h.pre a ha).1]; simp), List.filter_eq_self.2 h1]
  simp
theorem Cut.put_old (h : Cut X ((k, s) :: Y) k) : putA (X ++ (k, s) :: Y) k r = X ++ (k, r) :: Y := by
  have h1 := h.yes
  unfold putA
  rw [List.filter_append, List.filter_append, List.filter_eq_self.2 h.lo, List.filter_eq_nil_iff.2 (fun a ha => by rw [h.hi a ha]; simp), List.filter_eq_nil_iff.2 (fun a ha => by rw [(h.pre a ha).1]; simp), List.filter_cons, bl_irr, List.filter_eq_self.2 h1]
  simp
theorem Cut.drop_no (h : Cut X Y k) (hn : ∀ a ∈ Y.head?, a.1 ≠ k) : dropA (X ++ Y) k = X ++ Y := by
  have h1 := h.no hn
  unfold dropA
  refine List.filter_eq_self.2 fun a ha => decide_eq_true ?_
  rcases List.mem_append.1 ha with ha | ha
  · exact (h.pre a ha).2
  · exact (bl_ne (h1 a ha)).symm
theorem Cut.drop_yes (h : Cut X ((k, s) :: Y) k) : dropA (X ++ (k, s) :: Y) k = X ++ Y := by
  have h1 := h.yes
  unfold dropA
  rw [List.filter_append, List.filter_cons, List.filter_eq_self.2 (fun a ha => decide_eq_true (h.pre a ha).2), List.filter_eq_self.2 (fun a ha => decide_eq_true (bl_ne (h1 a ha)).symm)]
  simp
theorem Cut.get_no (h : Cut X Y k) (hn : ∀ a ∈ Y.head?, a.1 ≠ k) : getA (X ++ Y) k = none := by
  have h1 := h.no hn
  unfold getA
  rw [List.find?_eq_none.2 fun a ha => ?_]
  · rfl
  · rcases List.mem_append.1 ha with ha | ha
    · simpa using (h.pre a ha).2
    · simpa using (bl_ne (h1 a ha)).symm
theorem Cut.get_yes (h : Cut X ((k, s) :: Y) k) : getA (X ++ (k, s) :: Y) k = some s := by
  unfold getA
  rw [List.find?_append, List.find?_eq_none.2 (fun a ha => by simpa using (h.pre a ha).2)]
  simp
end
theorem Srt.put {L : List KV} (h : Srt L) (k r : List Nat) : Srt (putA L k r) := by
  unfold putA Srt
  rw [List.pairwise_append]
  refine ⟨List.Pairwise.filter _ h, List.pairwise_cons.2 ⟨fun a ha => (List.mem_filter.1 ha).2, List.Pairwise.filter _ h⟩, fun a ha b hb => ?_⟩
  have h1 : bl a.1 k = true := (List.mem_filter.1 ha).2
  cases hb with
  | head => exact h1
  | tail _ hb => exact bl_trans h1 (List.mem_filter.1 hb).2
theorem Srt.drop {L : List KV} (h : Srt L) (k : List Nat) : Srt (dropA L k) := List.Pairwise.filter _ h
/-! ### pages -/
structure POk (ps : List Pg) : Prop where
  few : ∀ p ∈ ps, 0 < p.es.length ∧ p.es.length ≤ 16
  srt : Srt (ab ps)
theorem flat_app (A B : List Pg) : flat (A ++ B) = flat A ++ flat B := List.flatMap_append
theorem flat_cons (p : Pg) (B : List Pg) : flat (p :: B) = p.es ++ flat B := rfl
theorem ab_app (A B : List Pg) : ab (A ++ B) = ab A ++ ab B := by unfold ab; rw [flat_app, List.map_append]
theorem ab_cons (p : Pg) (B : List Pg) : ab (p :: B) = p.es.map En.kv ++ ab B := by unfold ab; rw [flat_cons, List.map_append]
/-- Where a key stands, or would stand: in which page, in which place of it. -/
def Where (ps : List Pg) (key : List Nat) (i k : Nat) (fd : Bool) : Prop :=
  (ps = [] ∧ i = 0 ∧ k = 0 ∧ fd = false) ∨ ∃ A p B E1 E2, ps = A ++ p :: B ∧ A.length = i ∧ p.es = E1 ++ E2 ∧ E1.length = k ∧ Cut (ab A ++ E1.map En.kv) (E2.map En.kv ++ ab B) key ∧
    (fd = true → ∃ a E, E2 = a :: E ∧ a.kb = key) ∧ (fd = false → ∀ c ∈ (E2.map En.kv ++ ab B).head?, c.1 ≠ key)
theorem srt_mid {L : List KV} (h : Srt L) {x y : Nat} {a b : KV} (hxy : x < y) (ha : L[x]? = some a) (hb : L[y]? = some b) : bl a.1 b.1 = true := by
  obtain ⟨hx, rfl⟩ := List.getElem?_eq_some_iff.1 ha
  obtain ⟨hy, rfl⟩ := List.getElem?_eq_some_iff.1 hb
  exact List.pairwise_iff_getElem.1 h x y hx hy hxy
theorem srt_up {es : List En} (h : Srt (es.map En.kv)) (key : List Nat) : Up es key := by
  intro x y a b hxy ha hb hk
  rcases Nat.lt_or_eq_of_le hxy with hlt | rfl
  · exact bl_trans (srt_mid h hlt (a := a.kv) (b := b.kv) (by rw [List.getElem?_map, ha]; rfl) (by rw [List.getElem?_map, hb]; rfl)) hk
  · rw [ha] at hb; injection hb with hb; subst hb; exact hk
theorem POk.page {ps : List Pg} (h : POk ps) {A B : List Pg} {p : Pg} (e : ps = A ++ p :: B) : Srt (p.es.map En.kv) := by
  have := h.srt
  rw [e, ab_app, ab_cons] at this
  exact (List.pairwise_append.1 (List.pairwise_append.1 this).2.1).1
theorem split_at {α : Type} {L : List α} {i : Nat} {x : α} (h : L[i]? = some x) : ∃ A B, L = A ++ x :: B ∧ A.length = i := by
  obtain ⟨hi, rfl⟩ := List.getElem?_eq_some_iff.1 h
  exact ⟨L.take i, L.drop (i + 1), by rw [← List.drop_eq_getElem_cons hi, List.take_append_drop], by rw [List.length_take]; omega⟩
theorem mem_ab {ps : List Pg} {c : KV} (h : c ∈ ab ps) : ∃ p ∈ ps, ∃ a ∈ p.es, a.kv = c := by
  unfold ab flat at h
  obtain ⟨a, ha, rfl⟩ := List.mem_map.1 h
  obtain ⟨p, hp, ha⟩ := List.mem_flatMap.1 ha
  exact ⟨p, hp, a, ha, rfl⟩
/-- The first entries of pages rise. -/
theorem POk.first {ps : List Pg} (h : POk ps) {x y : Nat} {p q : Pg} {a b : En} (hxy : x < y) (hp : ps[x]? = some p) (hq : ps[y]? = some q) (ha : a ∈ p.es) (hb : b ∈ q.es) : bl a.kb b.kb = true := by
  obtain ⟨A, B, e, hA⟩ := split_at hp
  have hs := h.srt
  rw [e, ab_app, ab_cons] at hs
  have hq' : q ∈ B := by
    rw [e, List.getElem?_append_right (by omega)] at hq
    have h1 : y - A.length = (y - A.length - 1) + 1 := by omega
    rw [h1, List.getElem?_cons_succ] at hq
    exact List.mem_of_getElem? hq
  have h2 := (List.pairwise_append.1 (List.pairwise_append.1 hs).2.1).2.2 a.kv (List.mem_map.2 ⟨a, ha, rfl⟩) b.kv
    (by unfold ab flat; exact List.mem_map.2 ⟨b, List.mem_flatMap.2 ⟨q, hq', hb⟩, rfl⟩)
  exact h2
theorem POk.upP {ps : List Pg} (h : POk ps) (key : List Nat) : UpP ps key := by
  intro x y p q a b hxy hp hq ha hb hk
  rcases Nat.lt_or_eq_of_le hxy with hlt | rfl
  · exact bl_trans (h.first hlt hp hq (List.mem_of_getElem? ha) (List.mem_of_getElem? hb)) hk
  · rw [hp] at hq; injection hq with hq; subst hq
    rw [ha] at hb; injection hb with hb; subst hb; exact hk
/-- The two searches found where. -/
theorem where_of {ps : List Pg} (h : POk ps) {key : List Nat} {i' i k : Nat} {is' fd : Bool} (hs : SeekP ps key i' is') (hi : i = if is' then i' else i' - 1) {p : Pg} (hp : ps[i]? = some p) (hk : Seek p.es key k fd) : Where ps key i k fd := by
  obtain ⟨h1, h2, h3, h4⟩ := hs
  obtain ⟨k1, k2, k3, k4⟩ := hk
  obtain ⟨A, B, e, hA⟩ := split_at hp
  refine .inr ⟨A, p, B, p.es.take k, p.es.drop k, e, hA, (List.take_append_drop _ _).symm, by rw [List.length_take]; omega, ⟨?_, ?_, ?_⟩, ?_, ?_⟩
  · have hs := h.srt
    rw [e, ab_app, ab_cons] at hs
    rw [List.append_assoc, ← List.append_assoc (List.map _ _), ← List.map_append, List.take_append_drop]
    exact hs
  · -- what stands ahead is less
    have hpe := h.few p (List.mem_of_getElem? hp)
    obtain ⟨f, hf⟩ : ∃ f, p.es[0]? = some f := ⟨_, List.getElem?_eq_getElem hpe.1⟩
    intro c hc
    rcases List.mem_append.1 hc with hc | hc
    · obtain ⟨q, hq, a, ha, rfl⟩ := mem_ab hc
      obtain ⟨j, hj, rfl⟩ := List.getElem_of_mem hq
      have hj2 : ps[j]? = some A[j] := by rw [e, List.getElem?_append_left hj, List.getElem?_eq_getElem hj]
      have hlt : bl a.kb f.kb = true := h.first (by omega) hj2 hp ha (List.mem_of_getElem? hf)
      show bl a.kb key = true
      cases his : is' with
      | true =>
        rw [his] at hi
        simp only [if_true] at hi
        subst hi
        obtain ⟨p', hp', a', ha', hk'⟩ := h4.1 his
        rw [hp] at hp'; injection hp' with hp'; subst hp'
        rw [hf] at ha'; injection ha' with ha'; subst ha'
        rw [← hk']; exact hlt
      | false =>
        rw [his] at hi
        simp at hi
        exact bl_trans hlt (h2 i (by omega) p hp f hf)
    · obtain ⟨a, ha, rfl⟩ := List.mem_map.1 hc
      obtain ⟨j, hj, rfl⟩ := List.getElem_of_mem ha
      rw [List.length_take] at hj
      have : (p.es.take k)[j]? = some ((p.es.take k)[j]) := List.getElem?_eq_getElem (by rw [List.length_take]; exact hj)
      rw [List.getElem?_take, if_pos (by omega)] at this
      exact k2 j (by omega) _ this
  · intro c hc
    rcases List.mem_append.1 hc with hc | hc
    · obtain ⟨a, ha, rfl⟩ := List.mem_map.1 hc
      obtain ⟨j, hj, rfl⟩ := List.getElem_of_mem ha
      rw [List.length_drop] at hj
      have : (p.es.drop k)[j]? = some ((p.es.drop k)[j]) := List.getElem?_eq_getElem (by rw [List.length_drop]; exact hj)
      rw [List.getElem?_drop] at this
      exact k3 (k + j) (by omega) _ this
    · obtain ⟨q, hq, a, ha, rfl⟩ := mem_ab hc
      obtain ⟨j, hj, rfl⟩ := List.getElem_of_mem hq
      have hj2 : ps[i + 1 + j]? = some B[j] := by
        rw [e, List.getElem?_append_right (by omega), show i + 1 + j - A.length = j + 1 from by omega, List.getElem?_cons_succ, List.getElem?_eq_getElem hj]
      have hqe := h.few B[j] (by rw [e]; exact List.mem_append_right _ (.tail _ hq))
      obtain ⟨f, hf⟩ : ∃ f, B[j].es[0]? = some f := ⟨_, List.getElem?_eq_getElem hqe.1⟩
      have hff : bl f.kb key = false := h3 (i + 1 + j) (by
        cases his : is' with
        | true => rw [his] at hi; simp at hi; omega
        | false => rw [his] at hi; simp at hi; omega) _ hj2 f hf
      show bl a.kb key = false
      cases hx : bl a.kb key with
      | false => rfl
      | true =>
        -- the first one of its page is not above it
        obtain ⟨x, hx2, rfl⟩ := List.getElem_of_mem ha
        have h5 : bl f.kb key = true := by
          have hup := srt_up (h.page (A := A ++ p :: B.take j) (B := B.drop (j + 1)) (p := B[j]) (by
            rw [e, List.append_assoc, List.cons_append, ← List.drop_eq_getElem_cons hj, List.take_append_drop])) key
          exact hup 0 x f _ (Nat.zero_le _) hf (List.getElem?_eq_getElem hx2) hx
        rw [hff] at h5; cases h5
  · intro hf
    obtain ⟨a, ha, hak⟩ := k4.1 hf
    obtain ⟨hkl, rfl⟩ := List.getElem?_eq_some_iff.1 ha
    exact ⟨_, _, List.drop_eq_getElem_cons hkl, hak⟩
  · intro hf c hc hck
    have hpe := h.few p (List.mem_of_getElem? hp)
    by_cases hkl : k < p.es.length
    · rw [List.drop_eq_getElem_cons hkl] at hc
      simp only [List.map_cons, List.cons_append, List.head?_cons, Option.mem_def, Option.some.injEq] at hc
      subst hc
      have := k4.2 ⟨_, List.getElem?_eq_getElem hkl, hck⟩
      rw [hf] at this; cases this
    · have hk0 : 0 < k := by omega
      obtain ⟨f, hf0⟩ : ∃ f, p.es[0]? = some f := ⟨_, List.getElem?_eq_getElem hpe.1⟩
      have hlt := k2 0 hk0 f hf0
      rw [List.drop_eq_nil_of_le (by omega), List.map_nil, List.nil_append] at hc
      cases his : is' with
      | true =>
        obtain ⟨p', hp', a', ha', hk'⟩ := h4.1 his
        rw [his] at hi; simp at hi; subst hi
        rw [hp] at hp'; injection hp' with hp'; subst hp'
        rw [hf0] at ha'; injection ha' with ha'; subst ha'
        rw [hk', bl_irr] at hlt; cases hlt
      | false =>
        rw [his] at hi; simp at hi
        have hi1 : i' = i + 1 := by
          rcases Nat.lt_or_ge i i' with h5 | h5
          · omega
          · have := h3 i h5 p hp f hf0
            rw [hlt] at this; cases this
        cases B with
        | nil => simp [ab, flat] at hc
        | cons q B =>
          have hqe := h.few q (by rw [e]; simp)
          have hq : ps[i']? = some q := by rw [e, List.getElem?_append_right (by omega), show i' - A.length = 1 from by omega]; rfl
          obtain ⟨z, hz⟩ : ∃ z, q.es[0]? = some z := ⟨_, List.getElem?_eq_getElem hqe.1⟩
          rw [ab_cons] at hc
          cases hqs : q.es with
          | nil => rw [hqs] at hqe; simp at hqe
          | cons z' E =>
            rw [hqs] at hc hz
            simp at hc hz
            subst hz hc
            have := h4.2 ⟨q, hq, _, by rw [hqs]; rfl, hck⟩
            rw [his] at this; cases this
theorem Where.yes {ps : List Pg} {key : List Nat} {i k : Nat} (h : Where ps key i k true) : ∃ A ad cap B E1 a E2, ps = A ++ Pg.mk ad cap (E1 ++ a :: E2) :: B ∧ A.length = i ∧ E1.length = k ∧ a.kb = key ∧ Cut (ab A ++ E1.map En.kv) (a.kv :: (E2.map En.kv ++ ab B)) key := by
  rcases h with ⟨_, _, _, h⟩ | ⟨A, ⟨ad, cap, es⟩, B, E1, E2, rfl, hA, rfl, hE, hc, hy, _⟩
  · cases h
  · obtain ⟨a, E, rfl, ha⟩ := hy rfl
    exact ⟨A, ad, cap, B, E1, a, E, rfl, hA, hE, ha, hc⟩
theorem Where.no {ps : List Pg} {key : List Nat} {i k : Nat} (h : Where ps key i k false) (hn : ps ≠ []) : ∃ A ad cap B E1 E2, ps = A ++ Pg.mk ad cap (E1 ++ E2) :: B ∧ A.length = i ∧ E1.length = k ∧ Cut (ab A ++ E1.map En.kv) (E2.map En.kv ++ ab B) key ∧ (∀ c ∈ (E2.map En.kv ++ ab B).head?, c.1 ≠ key) := by
  rcases h with ⟨h, _⟩ | ⟨A, ⟨ad, cap, es⟩, B, E1, E2, rfl, hA, rfl, hE, hc, _, hy⟩
  · exact absurd h hn
  · exact ⟨A, ad, cap, B, E1, E2, rfl, hA, hE, hc, hy rfl⟩
theorem Where.lt {ps : List Pg} {key : List Nat} {i k : Nat} {fd : Bool} (h : Where ps key i k fd) : (i = ps.length → ps = [] ∧ k = 0 ∧ fd = false) ∧ (i ≠ ps.length → ps ≠ []) := by
  rcases h with ⟨rfl, rfl, rfl, rfl⟩ | ⟨A, p, B, E1, E2, rfl, hA, _⟩
  · simp
  · simp; omega
/-- Where it is not, there is none. -/
theorem Where.none {ps : List Pg} {key : List Nat} {i k : Nat} (h : Where ps key i k false) : ∃ X Y, ab ps = X ++ Y ∧ ((ps = [] ∧ X = [] ∧ Y = []) ∨ (Cut X Y key ∧ (∀ c ∈ Y.head?, c.1 ≠ key))) := by
  by_cases hn : ps = []
  · subst hn; exact ⟨[], [], rfl, .inl ⟨rfl, rfl, rfl⟩⟩
  · obtain ⟨A, ad, cap, B, E1, E2, rfl, hA, hE, hc, hy⟩ := h.no hn
    exact ⟨_, _, by rw [ab_app, ab_cons, List.map_append]; simp, .inr ⟨hc, hy⟩⟩
theorem Where.get_no {ps : List Pg} {key : List Nat} {i k : Nat} (h : Where ps key i k false) : getA (ab ps) key = Option.none := by
  obtain ⟨X, Y, e, ⟨_, rfl, rfl⟩ | ⟨hc, hy⟩⟩ := h.none
  · rw [e]; rfl
  · rw [e]; exact hc.get_no hy
theorem Where.drop_no {ps : List Pg} {key : List Nat} {i k : Nat} (h : Where ps key i k false) : dropA (ab ps) key = ab ps := by
  obtain ⟨X, Y, e, ⟨_, rfl, rfl⟩ | ⟨hc, hy⟩⟩ := h.none
  · rw [e]; rfl
  · rw [e]; exact hc.drop_no hy
end Go.Proofs.Ytmbbkliekgiolaa
