/- Ranges over a function, II: control within a round; what abides the loop's own book-keeping; what a round keeps. Over any program. -/
import Derived.Test.YtmemgpcgjephmaaGreatDoorSq
set_option linter.unusedVariables false
set_option linter.unusedSimpArgs false
namespace Go.Proofs.YtmemgpcgjephmaaGreatDoor
open Go Go.RowKit
section
variable {F : Fence} {P : Program} {n m : Nat} {f : Nat → Value} {w w' : World} {Q : Exit → Act → World → Prop}
theorem ci_cond {c : Operand} {x y : Code} {t : Bool} (hc : ev m f c = .bool t) (h1 : t = true → x.wpIn F n P Q (E m f) w) (h0 : t = false → y.wpIn F n P Q (E m f) w) : (Code.cond c x y).wpIn F n P Q (E m f) w :=
  wpIn_cond_split (by rw [E_eval]; exact hc) h1 h0
theorem ci_condT {c : Operand} {x y : Code} {t : Bool} (hc : ev m f c = .bool t) (ht : t = true) (h1 : x.wpIn F n P Q (E m f) w) : (Code.cond c x y).wpIn F n P Q (E m f) w :=
  wpIn_cond_true (by rw [E_eval, hc, ht]) h1
theorem ci_condF {c : Operand} {x y : Code} {t : Bool} (hc : ev m f c = .bool t) (ht : t = false) (h1 : y.wpIn F n P Q (E m f) w) : (Code.cond c x y).wpIn F n P Q (E m f) w :=
  wpIn_cond_false (by rw [E_eval, hc, ht]) h1
end
/-! ### pieces that are cells abide what is no cells -/
def Ch.cel (w : World) (c : Ch) : Prop := ∀ k, c.own k → ∃ o : Obj, w.heap[k]? = some o ∧ o.isCells = true
section
variable {w0 w w' : World} {D : Nat → Prop} {Γ : List Ch} {g : Gh}
theorem cel_blk {b : Nat} {arr : Array Value} {T : TypeId} (h : (Ch.blk b (.cells arr T)).sat w) : (Ch.blk b (.cells arr T)).cel w := by
  rintro k rfl; exact ⟨_, h, rfl⟩
theorem cel_ow {e : TypeId} {size m cap : Nat} {ad : Option Addr} {xs : List Value} (h : (Ch.ow e size ad m cap xs).sat w) : (Ch.ow e size ad m cap xs).cel w := by
  rintro k ⟨a, ha, rfl⟩
  obtain ⟨_, _, _, h4⟩ := h
  rcases h4 with ⟨h0, _⟩ | ⟨gb, off, cur, h0, h1, _⟩
  · rw [h0] at ha; cases ha
  · rw [h0] at ha; injection ha with ha; subst ha; exact ⟨_, h1, rfl⟩
theorem cel_pk {Δ : List Ch} (h : ∀ c ∈ Δ, c.cel w) : (Ch.pk Δ).cel w := by
  rintro k ⟨c, hc, hk⟩; exact h c hc k hk
/-- A new block, or the turn of one behind the base that is no cells, leaves the pieces. -/
theorem St.abide {row : Option Nat} (h : St w0 D Γ w) (hc : ∀ c ∈ Γ, c.cel w) (hg : w.grownBy w' row) (hr : ∀ r, row = some r → w0.heap.size ≤ r ∧ ∃ o : Obj, w.heap[r]? = some o ∧ o.isCells = false) : St w0 D Γ w' := by
  refine ⟨hg.os.trans h.os, hg.tape.trans h.tape, hg.output.trans h.output, Nat.le_trans h.size hg.size, fun k hk hD => ?_, h.sat.move hg.size fun c hcm k hk => ?_⟩
  · refine (hg.block k (Nat.lt_of_lt_of_le hk h.size) fun e => ?_).trans (h.keep k hk hD)
    have := (hr k e.symm).1; omega
  · refine hg.block k ((h.sat.mem c hcm).2 k hk).2 fun e => ?_
    obtain ⟨_, o, ho, hoc⟩ := hr k e.symm
    obtain ⟨o', ho', hoc'⟩ := hc c hcm k hk
    rw [ho] at ho'; injection ho' with ho'; subst ho'; rw [hoc] at hoc'; cases hoc'
/-- What the loop's maker reads abides it: it lies below the loop. -/
theorem Gle.grown {row : Option Nat} {B : Nat} (h : Gle g (hw w)) (hB : ∀ k o, g k = some o → k < B) (hg : w.grownBy w' row) (hr : ∀ r, row = some r → B ≤ r) : Gle g (hw w') := fun k o e =>
  (hg.block k (Array.getElem?_eq_some_iff.1 (h k o e)).1 fun e' => by have := hr k e'.symm; have := hB k o e; omega).trans (h k o e)
/-- What a round keeps: what the iterator reads. -/
def Kg (g : Gh) (w w' : World) : Prop := Gle g (hw w) → Gle g (hw w')
theorem kg_t {A B C : World} (h : Kg g A B) (h' : Kg g B C) : Kg g A C := fun q => h' (h q)
theorem kg_b {B : Nat} (hB : ∀ k o, g k = some o → k < B) (W : World) (l : Nat) (o o' : Obj) (hl : B ≤ l) : Kg g W (W.putObj l o') := fun q k x e => by
  have := hB k x e
  exact (World.putObj_heap_other (by omega)).trans (q k x e)
/-- A round's walk begins at its own world: what it may write is cells. -/
theorem St.keeps {B : Nat} {Γ Γ' : List Ch} (h : St w (owns Γ) Γ' w') (hc : ∀ c ∈ Γ, c.cel w) : KeepsFrom B w w' :=
  ⟨h.size, fun k o _ hk ho => by
    refine (h.keep k (Array.getElem?_eq_some_iff.1 hk).1 ?_).trans hk
    rintro ⟨c, hcm, hck⟩
    obtain ⟨o', ho', hoc'⟩ := hc c hcm k hck
    rw [hk] at ho'; injection ho' with ho'; subst ho'; rw [ho] at hoc'; cases hoc'⟩
theorem St.kg {Γ Γ' : List Ch} (h : St w (owns Γ) Γ' w') (hd : ∀ c ∈ Γ, ∀ k, c.own k → g k = none) : Kg g w w' := fun q k o e =>
  (h.keep k (Array.getElem?_eq_some_iff.1 (q k o e)).1 (by rintro ⟨c, hc, hk⟩; rw [hd c hc k hk] at e; cases e)).trans (q k o e)
end
end Go.Proofs.YtmemgpcgjephmaaGreatDoor
