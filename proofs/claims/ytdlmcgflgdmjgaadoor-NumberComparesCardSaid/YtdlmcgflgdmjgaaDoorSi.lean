/- Ghost heaps; slices that are read, wherever they lie; own slices of any place and room. Over any program. -/
import Derived.Test.YtdlmcgflgdmjgaaDoorSh
import Derived.Deep.AppendSrc
import Derived.Lib.AppendZeros
import Derived.Laws.CopyRow
set_option linter.unusedVariables false
set_option linter.unusedSimpArgs false
namespace Go.Proofs.YtdlmcgflgdmjgaaDoor
open Go.RowKit

/-! ### ghost heaps -/
abbrev Gh := Nat → Option Obj
def Gle (g h : Gh) : Prop := ∀ k o, g k = some o → h k = some o
def hw (w : World) : Gh := fun k => w.heap[k]?
theorem Gle.refl (g : Gh) : Gle g g := fun _ _ h => h
theorem Gle.trans {g1 g2 g3 : Gh} (h : Gle g1 g2) (h' : Gle g2 g3) : Gle g1 g3 := fun k o e => h' k o (h k o e)
theorem hw_drawn (w : World) (m : Nat) : hw { w with drawn := m } = hw w := rfl

section
variable {w w0 : World} {D : Nat → Prop} {Γ : List Ch}
theorem St.base (h : St w0 (fun _ => False) Γ w) : Gle (hw w0) (hw w) := fun k o e =>
  (h.keep k (Array.getElem?_eq_some_iff.1 e).1 id).trans e
/-- Frozen blocks with what they hold. -/
def Ch.fz (g : Gh) : Ch := .gen (fun k => ∃ o, g k = some o) (fun w => Gle g (hw w)) (fun w w' hk h k o e => (hk k ⟨o, e⟩).trans (h k o e))
theorem St.fz {g : Gh} {i : Nat} (h : St w0 D Γ w) (hi : Γ[i]? = some (.fz g)) : Gle g (hw w) := (h.sat.get hi).1
theorem St.freeze {g : Gh} {b : Nat} {o : Obj} (h : St w0 D (.blk b o :: .fz g :: Γ) w) : ∃ g', Gle g g' ∧ g' b = some o ∧ St w0 D (.fz g' :: Γ) w := by
  refine ⟨fun k => if k = b then some o else g k, ?_, by simp, h.join (c' := .fz _) ?_ ?_⟩
  · intro k o' e
    by_cases hk : k = b
    · subst hk
      exact absurd ⟨o', e⟩ (h.sat.2.2.1 (.fz g) (.head _) k rfl)
    · simp [hk, e]
  · rintro k ⟨o', e⟩
    by_cases hk : k = b
    · exact .inl hk
    · simp [hk] at e; exact .inr ⟨o', e⟩
  · intro h1 h2 k o' e
    by_cases hk : k = b
    · subst hk; simp at e; subst e; exact h1
    · simp [hk] at e; exact h2 k o' e

/-! ### slices that are read -/
def SlG (g : Gh) (ad : Option Addr) (xs : List Value) : Prop := xs = [] ∨ ∃ b off arr T fz, ad = some ⟨b, off, none⟩ ∧ g b = some (.cells arr T fz) ∧ ∀ j u, xs[j]? = some u → arr[off + j]? = some u
theorem SlG.mono {g h : Gh} {ad : Option Addr} {xs : List Value} (hs : SlG g ad xs) (hg : Gle g h) : SlG h ad xs := by
  rcases hs with h0 | ⟨b, off, arr, T, fz, ha, hb, hx⟩
  · exact .inl h0
  · exact .inr ⟨b, off, arr, T, fz, ha, hg _ _ hb, hx⟩
theorem SlG.nil {g : Gh} {ad : Option Addr} : SlG g ad [] := .inl rfl
theorem SlG.ofNone {g : Gh} {xs : List Value} (h : SlG g none xs) : xs = [] := by
  rcases h with h | ⟨b, off, arr, T, fz, ha, _⟩
  · exact h
  · cases ha
/-- An element's place. -/
def Ad (ad : Option Addr) (k : Nat) : Addr := match ad with | some a => ⟨a.block, a.off + k, Option.none⟩ | Option.none => ⟨0, k, Option.none⟩
theorem SlG.cell {g : Gh} {ad : Option Addr} {xs : List Value} (h : SlG g ad xs) (hg : Gle g (hw w)) {k : Nat} {u : Value} (hu : xs[k]? = some u) : w.cell? (Ad ad k) = some u := by
  rcases h with rfl | ⟨b, off, arr, T, fz, rfl, hb, hx⟩
  · simp at hu
  · exact cell_blk (hg _ _ hb) (hx k u hu)
theorem addr_add (b off j : Nat) : Addr.add ⟨b, off, Option.none⟩ j = ⟨b, off + j, Option.none⟩ := by unfold Addr.add; split <;> simp_all
/-- Where there is an element, there is a place. -/
theorem SlG.place {g : Gh} {ad : Option Addr} {xs : List Value} (h : SlG g ad xs) (hp : 0 < xs.length) : ∃ b off, ad = some ⟨b, off, Option.none⟩ := by
  rcases h with rfl | ⟨b, off, arr, T, fz, rfl, hb, hx⟩
  · simp at hp
  · exact ⟨b, off, rfl⟩
/-- x[l:h] of a slice with the capacity (or third index) m: its address. -/
def subS (ad : Option Addr) (l size m : Nat) : Option Addr := if m = l then ad else ad.map (·.add (l * size))
theorem SlG.sub {g : Gh} {ad : Option Addr} {xs : List Value} (h : SlG g ad xs) {l size m n : Nat} (hm : l + n ≤ m) (hs : 0 < size) : SlG g (subS ad l size m) ((xs.drop (l * size)).take (n * size)) := by
  rcases h with rfl | ⟨b, off, arr, T, fz, rfl, hb, hx⟩
  · exact .inl (by simp)
  · by_cases hml : m = l
    · left
      have : n = 0 := by omega
      subst this; simp
    · right
      refine ⟨b, off + l * size, arr, T, fz, ?_, hb, fun j u hu => ?_⟩
      · simp [subS, hml, addr_add]
      · rw [List.getElem?_take] at hu
        split at hu
        · rw [List.getElem?_drop] at hu
          have := hx _ _ hu
          rwa [← Nat.add_assoc] at this
        · cases hu

/-! ### own slices -/
/-- A slice of the call's own, wherever it lies in its block, of whatever room. -/
def Ch.ow (e : TypeId) (size : Nat) (ad : Option Addr) (m cap : Nat) (xs : List Value) : Ch :=
  .gen (fun k => ∃ a, ad = some a ∧ a.block = k) (fun w => xs.length = m * size ∧ m ≤ cap ∧ cap ≤ maxLen ∧
    ((ad = Option.none ∧ cap = 0) ∨ ∃ gb off cur, ad = some ⟨gb, off, Option.none⟩ ∧ w.heap[gb]? = some (.cells cur e (0, 0)) ∧ off + cap * size ≤ cur.size ∧ (cur.toList.drop off).take (m * size) = xs))
   (fun w w' hk h => by
    refine ⟨h.1, h.2.1, h.2.2.1, h.2.2.2.imp id ?_⟩
    rintro ⟨gb, off, cur, rfl, h1, r⟩
    exact ⟨gb, off, cur, rfl, (hk gb ⟨_, rfl, rfl⟩).trans h1, r⟩)
section
variable {e : TypeId} {size m cap i : Nat} {ad : Option Addr} {xs : List Value}
theorem St.owLen (h : St w0 D Γ w) (hi : Γ[i]? = some (.ow e size ad m cap xs)) : xs.length = m * size ∧ m ≤ cap ∧ cap ≤ maxLen := ⟨(h.sat.get hi).1.1, (h.sat.get hi).1.2.1, (h.sat.get hi).1.2.2.1⟩
theorem St.owG (h : St w0 D Γ w) (hi : Γ[i]? = some (.ow e size ad m cap xs)) : SlG (hw w) ad xs := by
  obtain ⟨h1, h2, h3, h4⟩ := (h.sat.get hi).1
  rcases h4 with ⟨_, h0⟩ | ⟨gb, off, cur, ha, hg, hle, hx⟩
  · left
    have : m = 0 := by omega
    subst this
    exact List.eq_nil_of_length_eq_zero (by simpa using h1)
  · refine .inr ⟨gb, off, cur, e, _, ha, hg, fun j u hu => ?_⟩
    rw [← hx, List.getElem?_take] at hu
    split at hu
    · rw [List.getElem?_drop] at hu
      simpa using hu
    · cases hu
theorem ow_own {k : Nat} (h : (Ch.ow e size ad m cap xs).own k) : ∃ a, ad = some a ∧ a.block = k := h
/-- One piece, in one block, is written anew. -/
theorem St.putAt {c c' : Ch} {gb i : Nat} {w' : World} (h : St w0 D Γ w) (hi : Γ[i]? = some c) (hc : c.own gb) (hc' : ∀ k, c'.own k → k = gb) (ho : w'.os = w.os) (ht : w'.tape = w.tape) (hu : w'.output = w.output) (hz : w'.heap.size = w.heap.size)
    (hf : ∀ k, k ≠ gb → w'.heap[k]? = w.heap[k]?) (hs : c'.sat w') : St w0 D (Γ.set i c') w' := by
  have hcg := (h.sat.get hi).2 gb hc
  refine ⟨ho.trans h.os, ht.trans h.tape, hu.trans h.output, by rw [hz]; exact h.size, fun k hk hD => (hf k ?_).trans (h.keep k hk hD), ?_⟩
  · rintro rfl
    rcases hcg.1 with h1 | h1
    · exact hD h1
    · omega
  · exact h.sat.put (by rw [hz]; exact Nat.le_refl _) hi (fun k hn _ => hf k fun e => hn (e ▸ hc)) hs fun k hk => ⟨.inl (hc' k hk ▸ hc), by rw [hz, hc' k hk]; exact hcg.2⟩
theorem St.ow_of_sl {v : Value} (h : St w0 D Γ w) (hi : Γ[i]? = some (.sl e size v m xs)) : ∃ ad cap, v = .slice ad m cap ∧ St w0 D (Γ.set i (.ow e size ad m cap xs)) w := by
  have ho := h.sl hi
  rcases ho.2 with ⟨rfl, rfl⟩ | ⟨gb, cap, cur, rfl, _, hg, hle, hcm, hcs, htk⟩
  · exact ⟨none, 0, rfl, h.recast hi (fun k hk => by obtain ⟨a, h1, _⟩ := hk; cases h1) fun hs => ⟨ho.1, Nat.le_refl _, Nat.zero_le _, .inl ⟨rfl, rfl⟩⟩⟩
  · refine ⟨_, cap, rfl, h.recast hi (fun k hk => ?_) fun hs => ⟨ho.1, hle, hcm, .inr ⟨gb, 0, cur, rfl, hg, by omega, by simpa using htk⟩⟩⟩
    obtain ⟨a, h1, rfl⟩ := hk
    injection h1 with h1; subst h1; rfl
/-- No slice. -/
theorem St.ow_nil (h : St w0 D Γ w) (e : TypeId) (size : Nat) : St w0 D (.ow e size Option.none 0 0 [] :: Γ) w :=
  ⟨h.os, h.tape, h.output, h.size, h.keep, ⟨by simp, Nat.le_refl _, Nat.zero_le _, .inl ⟨rfl, rfl⟩⟩, fun k hk => (by obtain ⟨a, h1, _⟩ := hk; cases h1), fun c _ k hk => (by obtain ⟨a, h1, _⟩ := hk; cases h1), h.sat⟩
/-- A whole block as a slice. -/
theorem St.blkOw {b : Nat} {arr : Array Value} (size m : Nat) (h : St w0 D Γ w) (hi : Γ[i]? = some (.blk b (.cells arr e))) (hz : arr.size = m * size) (hm : m ≤ maxLen) : St w0 D (Γ.set i (.ow e size (some ⟨b, 0, Option.none⟩) m m arr.toList)) w := by
  refine h.recast hi (fun k hk => ?_) fun hs => ⟨by simpa using hz, Nat.le_refl _, hm, .inr ⟨b, 0, arr, rfl, hs, by omega, ?_⟩⟩
  · obtain ⟨a, h1, rfl⟩ := hk
    injection h1 with h1; subst h1; rfl
  · rw [List.drop_zero, ← hz, ← Array.length_toList, List.take_length]
/-- It is frozen. -/
theorem St.freezeOw {g : Gh} (h : St w0 D (.ow e size ad m cap xs :: .fz g :: Γ) w) : ∃ g', Gle g g' ∧ SlG g' ad xs ∧ St w0 D (.fz g' :: Γ) w := by
  have hG := h.owG (i := 0) rfl
  obtain ⟨h1, h2, h3, h4⟩ := (h.sat.get (i := 0) (c := .ow e size ad m cap xs) rfl).1
  rcases h4 with ⟨rfl, h0⟩ | ⟨gb, off, cur, rfl, hg, hle, hx⟩
  · refine ⟨g, Gle.refl g, .inl (SlG.ofNone hG), h.sub (List.sublist_cons_self _ _)⟩
  · have h' : St w0 D (.blk gb (.cells cur e (0, 0)) :: .fz g :: Γ) w := h.recast (i := 0) (c' := .blk gb (.cells cur e (0, 0))) rfl (fun k hk => ⟨_, rfl, hk.symm⟩) fun _ => hg
    obtain ⟨g', hg1, hg2, hS⟩ := h'.freeze
    refine ⟨g', hg1, ?_, hS⟩
    refine .inr ⟨gb, off, cur, e, _, rfl, hg2, fun j u hu => ?_⟩
    rw [← hx, List.getElem?_take] at hu
    split at hu
    · rw [List.getElem?_drop] at hu
      simpa using hu
    · cases hu
/-- A part of it, for all of it. -/
theorem St.owSub {l hh mx : Nat} (h : St w0 D Γ w) (hi : Γ[i]? = some (.ow e size ad m cap xs)) (h1 : l ≤ hh) (h2 : hh ≤ mx) (h3 : mx ≤ cap) (h4 : hh ≤ m) :
    St w0 D (Γ.set i (.ow e size (subS ad l size mx) (hh - l) (mx - l) ((xs.drop (l * size)).take ((hh - l) * size)))) w := by
  refine h.recast hi (fun k hk => ?_) fun hs => ?_
  · obtain ⟨a, ha, hb⟩ := hk
    cases ad with
    | none => unfold subS at ha; split at ha <;> cases ha
    | some a0 =>
      refine ⟨a0, rfl, ?_⟩
      unfold subS at ha
      split at ha
      · injection ha with ha; subst ha; exact hb
      · simp at ha; subst ha; rw [← hb]; unfold Addr.add; split <;> rfl
  · obtain ⟨k1, k2, k3, k4⟩ := hs
    have hsz : l * size + (hh - l) * size ≤ m * size := by rw [← Nat.add_mul]; exact Nat.mul_le_mul_right _ (by omega)
    refine ⟨by rw [List.length_take, List.length_drop, k1]; omega, by omega, by omega, ?_⟩
    rcases k4 with ⟨rfl, hc⟩ | ⟨gb, off, cur, rfl, hg, hle, hx⟩
    · left; exact ⟨by unfold subS; split <;> rfl, by omega⟩
    · right
      by_cases hml : mx = l
      · have : hh - l = 0 := by omega
        refine ⟨gb, off, cur, by simp [subS, hml], hg, ?_, by simp [this]⟩
        rw [hml]; simp; omega
      · refine ⟨gb, off + l * size, cur, by simp [subS, hml, addr_add], hg, ?_, ?_⟩
        · have : l * size + (mx - l) * size ≤ cap * size := by rw [← Nat.add_mul]; exact Nat.mul_le_mul_right _ (by omega)
          omega
        · rw [← hx, List.drop_take, List.take_take, List.drop_drop, Nat.min_eq_left (by omega)]
/-- Its room is taken in. -/
theorem St.owExt {hh : Nat} (h : St w0 D Γ w) (hi : Γ[i]? = some (.ow e size ad m cap xs)) (h1 : m ≤ hh) (h2 : hh ≤ cap) : ∃ ys, ys.length = (hh - m) * size ∧ St w0 D (Γ.set i (.ow e size ad hh cap (xs ++ ys))) w := by
  obtain ⟨k1, k2, k3, k4⟩ := (h.sat.get hi).1
  rcases k4 with ⟨rfl, hc⟩ | ⟨gb, off, cur, rfl, hg, hle, hx⟩
  · have : hh = m := by omega
    subst this
    refine ⟨[], by simp, ?_⟩
    rw [List.append_nil]
    exact h.recast hi (fun _ hk => hk) fun hs => hs
  · have hhs : m * size + (hh - m) * size ≤ cap * size := by rw [← Nat.add_mul]; exact Nat.mul_le_mul_right _ (by omega)
    have hhs2 : m * size + (hh - m) * size = hh * size := by rw [← Nat.add_mul]; congr 1; omega
    refine ⟨(cur.toList.drop (off + m * size)).take ((hh - m) * size), by rw [List.length_take, List.length_drop, Array.length_toList]; omega, h.recast hi (fun _ hk => hk) fun hs => ⟨?_, h2, k3, .inr ⟨gb, off, cur, rfl, hg, hle, ?_⟩⟩⟩
    · rw [List.length_append, k1, List.length_take, List.length_drop, Array.length_toList]; omega
    · rw [← hx, ← hhs2, List.take_add, List.drop_drop]
end
end
end Go.Proofs.YtdlmcgflgdmjgaaDoor
