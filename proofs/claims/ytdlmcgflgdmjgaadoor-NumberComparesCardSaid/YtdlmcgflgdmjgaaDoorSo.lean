/- What is handed in, opened: slices as rows of elements. Over any program. -/
import Derived.Test.YtdlmcgflgdmjgaaDoorSk
import Derived.Deep.Slices
import Derived.Deep.Fields
import Derived.ChangeSame
import Derived.OpenShut
set_option linter.unusedVariables false
set_option linter.unusedSimpArgs false
namespace Go.Proofs.YtdlmcgflgdmjgaaDoor
open Go.RowKit Go.ChangeShapes Go.WideShapes Go.Deep
theorem slG_of {W : World} {a : Addr} : ∀ {xs : List Value}, (∀ j u, xs[j]? = some u → W.cell? (a.add j) = some u) → SlG (hw W) (some a) xs
  | [], _ => .inl rfl
  | v :: xs, h => by
    have h0 := h 0 v rfl
    obtain ⟨b, off, sp⟩ := a
    have hsp : sp = none := by
      cases sp with
      | none => rfl
      | some q => simp [World.cell?, Addr.add] at h0; split at h0 <;> simp at h0
    subst hsp
    rw [addr_add] at h0
    unfold World.cell? at h0
    split at h0
    · rename_i arr T fz hb
      refine .inr ⟨b, off, arr, T, fz, rfl, hb, fun j u hu => ?_⟩
      have h1 := h j u hu
      rw [addr_add] at h1
      simpa [World.cell?, hb] using h1
    · cases h0
theorem all_of {α : Type} {Q : Nat → α → Prop} : ∀ (n : Nat), (∀ i, i < n → ∃ x, Q i x) → ∃ l : List α, l.length = n ∧ ∀ i x, l[i]? = some x → Q i x
  | 0, _ => ⟨[], rfl, fun i x h => by simp at h⟩
  | n + 1, h => by
    obtain ⟨l, hl, hq⟩ := all_of n fun i hi => h i (by omega)
    obtain ⟨x, hx⟩ := h n (by omega)
    refine ⟨l ++ [x], by rw [List.length_append, hl]; rfl, fun i y hy => ?_⟩
    by_cases hi : i < n
    · rw [List.getElem?_append_left (by omega)] at hy; exact hq i y hy
    · have hin : i = n := by
        have := (List.getElem?_eq_some_iff.1 hy).1
        rw [List.length_append, hl] at this
        simp at this; omega
      subst hin
      rw [List.getElem?_append_right (by omega), hl, Nat.sub_self] at hy
      simp at hy; subst hy; exact hx
section
variable {H : Type} {enc : TypeId × Value → H} {P : Program} {W : World} {base : Nat} {spare : Nat → Bool} {held : Bool}
/-- A slice whose elements are known by their cells. -/
theorem opn_rows {α : Type} {f : α → List Value} {Q : α → Prop} {t e : TypeId} {C : Nat} (ht : P.underlying t = some (.slice e)) (hC : P.cellsOf e = C) (hp : 0 < C) (hf : ∀ x, (f x).length = C)
    (helem : ∀ n c y, DataW.trod enc P W base spare held n e c = some y → ∃ x, c = f x ∧ Q x) {fuel : Nat} {ad : Option Addr} {len cap : Nat} {x : DataW H × List MemPlace} (h : DataW.trod enc P W base spare held fuel t [.slice ad len cap] = some x) :
    ∃ l : List α, l.length = len ∧ SlG (hw W) ad (List.flatMap f l) ∧ (∀ x ∈ l, Q x) ∧ len ≤ cap ∧ cap ≤ maxLen := by
  rcases open_slice ht h with ⟨h0, _⟩ | ⟨a, len', cap', m, n, D, Pl, hcs, hb, hl, hm, hmm, hx, hi⟩
  · injection h0 with h0 _; injection h0 with h1 h2 h3; subst h1 h2 h3
    refine ⟨[], rfl, .inl rfl, ?_, Nat.le_refl _, Nat.zero_le _⟩
    intro x hx; cases hx
  · injection hcs with hcs _; injection hcs with h1 h2 h3; subst h1 h2 h3
    have hlm : len ≤ m := by rw [hmm]; split <;> omega
    obtain ⟨l, hll, hq⟩ := all_of (Q := fun i x => (∀ j u, (f x)[j]? = some u → W.cell? (a.add (i * C + j)) = some u) ∧ Q x) len fun i hi' => by
      obtain ⟨cs', hc, ht'⟩ := hi i (by omega)
      rw [hC] at hc
      obtain ⟨_, hcl, hat⟩ := World.cells?_some hc
      obtain ⟨x, rfl, hqx⟩ := helem _ _ _ ht'
      refine ⟨x, fun j u hu => ?_, hqx⟩
      have hj : j < C := by rw [← hf x]; exact (List.getElem?_eq_some_iff.1 hu).1
      rw [← Go.Deep.add_add, hat j hj, hu]
    refine ⟨l, hll, slG_of fun j u hu => ?_, fun x hx => ?_, hl, hm⟩
    · have hjl : j < (List.flatMap f l).length := (List.getElem?_eq_some_iff.1 hu).1
      rw [rows_len hf, hll] at hjl
      have hdiv : j / C < len := Nat.div_lt_of_lt_mul (by rw [Nat.mul_comm]; exact hjl)
      obtain ⟨x, hx⟩ : ∃ x, l[j / C]? = some x := ⟨_, List.getElem?_eq_getElem (by omega)⟩
      have hmod : j % C < (f x).length := by rw [hf]; exact Nat.mod_lt _ hp
      have h1 := row_at hx hf (j := j % C) (List.getElem?_eq_getElem hmod)
      rw [Nat.mul_comm, Nat.div_add_mod] at h1
      rw [hu] at h1
      have h2 := (hq _ _ hx).1 (j % C) u (by rw [List.getElem?_eq_getElem hmod, ← h1])
      rw [Nat.mul_comm, Nat.div_add_mod] at h2
      exact h2
    · obtain ⟨i, hi', rfl⟩ := List.getElem_of_mem hx
      exact (hq i _ (List.getElem?_eq_getElem hi')).2
theorem bv_rows (l : List Nat) : List.flatMap (fun x : Nat => [Value.int .u8 ((x : Nat) : Int)]) l = bv l := by
  induction l with
  | nil => rfl
  | cons a l ih => rw [List.flatMap_cons, ih]; rfl
theorem iv_rows (l : List Int) : List.flatMap (fun x : Int => [Value.int .i64 x]) l = iv l := by
  induction l with
  | nil => rfl
  | cons a l ih => rw [List.flatMap_cons, ih]; rfl
theorem wf_u8 {k : Int} (h : (Lit.int .u8 k).wf = true) : 0 ≤ k ∧ k < 256 := by
  simp [Lit.wf, IntKind.min, IntKind.max, IntKind.bits, IntKind.signed] at h
  omega
/-- Bytes that are handed in. -/
theorem opn_bytes {t e : TypeId} (ht : P.underlying t = some (.slice e)) (he : P.underlying e = some (.int .u8)) (hC : P.cellsOf e = 1) {fuel : Nat} {ad : Option Addr} {len cap : Nat} {x : DataW H × List MemPlace} (h : DataW.trod enc P W base spare held fuel t [.slice ad len cap] = some x) :
    ∃ l : List Nat, l.length = len ∧ SlG (hw W) ad (bv l) ∧ Bytes l ∧ len ≤ cap ∧ cap ≤ maxLen := by
  obtain ⟨l, h1, h2, h3, h4, h5⟩ := opn_rows (α := Nat) (f := fun x => [Value.int .u8 ((x : Nat) : Int)]) (Q := fun x => x < 256) ht hC (by decide) (fun _ => rfl) (fun n c y hy => by
    obtain ⟨k, rfl, _, hw⟩ := DataW.trod_int he hy
    have := wf_u8 hw
    exact ⟨k.toNat, by rw [Int.toNat_of_nonneg this.1], by omega⟩) h
  rw [bv_rows] at h2
  exact ⟨l, h1, h2, h3, h4, h5⟩
theorem opn_bytesT {t e : TypeId} (ht : P.underlying t = some (.slice e)) (he : P.underlying e = some (.int .u8)) (hC : P.cellsOf e = 1) {ad : Option Addr} {len cap : Nat} {d : DataW H} {p : List MemPlace} (h : DataW.Trod enc P W base spare held t (.slice ad len cap) d p) :
    ∃ l : List Nat, l.length = len ∧ SlG (hw W) ad (bv l) ∧ Bytes l ∧ len ≤ cap ∧ cap ≤ maxLen := by
  obtain ⟨fu, h⟩ := h
  exact opn_bytes ht he hC h
/-- A struct's fields, one cell each. -/
theorem opn_fields {e : TypeId} {fs : Array Field} {n : Nat} {c : List Value} {y : DataW H × List MemPlace} (he : P.underlying e = some (.struct fs)) (hone : oneCellFields P fs = true) (hC : P.cellsOf e = fs.size) (h : DataW.trod enc P W base spare held n e c = some y) :
    c.length = fs.size ∧ ∃ n', ∀ (j : Nat) (f : Field) (v : Value), fs[j]? = some f → c[j]? = some v → ∃ z, DataW.trod enc P W base spare held n' f.type [v] = some z := by
  obtain ⟨xs, n', _, _, hl, hxl, hf⟩ := DataW.trod_struct he h
  rw [hC] at hl
  refine ⟨hl, n', fun j f v hj hv => ?_⟩
  obtain ⟨ho, hk⟩ := hone_of hone j f hj
  have h1 := hf j f hj
  have hjl : j < fs.size := (Array.getElem?_eq_some_iff.1 hj).1
  rw [ho, hk, List.drop_eq_getElem_cons (by omega)] at h1
  have hv' : c[j]'(by omega) = v := (List.getElem?_eq_some_iff.1 hv).2
  rw [hv'] at h1
  exact ⟨_, h1.trans (List.getElem?_eq_getElem (by omega))⟩
theorem bnd_i64 {k : Int} (h : (Lit.int .i64 k).wf = true) : -9223372036854775808 ≤ k ∧ k ≤ 9223372036854775807 := by
  simp [Lit.wf, IntKind.min, IntKind.max, IntKind.bits, IntKind.signed] at h
  omega
end
end Go.Proofs.YtdlmcgflgdmjgaaDoor
