/- Texts that the claim needs, part 1. -/
import Derived.WalkKit
import Derived.Below
import Derived.OrdersHeld
import Derived.Lib.Hide
import Derived.IntWalk
import Derived.LoopN
import Derived.Deep.AppendSrc
import Derived.Lib.AppendZeros
import Derived.Laws.CopyRow
import Derived.Lib.Overlaps
import Derived.Laws.BytesArg
import Derived.Laws.Strings
import Derived.Laws.IdiomStrings
import Derived.Lib.BytesEntry
import GoSem.Extern.BytealgCompare
import Derived.OwnWalk
import Derived.Laws.StructEq
import Derived.Test.YteojpdijmnpmgaaProg
import Derived.Laws.MakeOwn
set_option linter.unusedVariables false
set_option linter.unusedSimpArgs false
namespace Go.Proofs.Yteojpdijmnpmgaa
theorem zll : (∀ {α : Type} {a b : List α}, (a ++ b).length = a.length + b.length) ∧ (∀ {α β : Type} {l : List α} (f : α → β), (l.map f).length = l.length) ∧ (∀ {α : Type} {a : α} {l : List α}, (a :: l).length = l.length + 1) ∧ (∀ {α : Type}, ([] : List α).length = 0) ∧ (∀ {α : Type} {i : Nat} {l : List α}, (l.take i).length = min i l.length) ∧ (∀ {α : Type} {i : Nat} {l : List α}, (l.drop i).length = l.length - i) ∧ (∀ {α : Type} {l : List α} {i : Nat} {a : α}, (l.set i a).length = l.length) :=
  ⟨List.length_append, fun f => List.length_map f, List.length_cons, List.length_nil, List.length_take, List.length_drop, List.length_set⟩
theorem zbb : (∀ (p : Prop) [Decidable p], (decide p = true) = p) ∧ (∀ (p : Prop) [Decidable p], decide p = false ↔ ¬p) ∧ (∀ {b : Bool}, (!b) = true ↔ b = false) ∧ (∀ {b : Bool}, (!b) = false ↔ b = true) ∧ (∀ (a b : Bool), ((a && b) = true) = (a = true ∧ b = true)) ∧ (∀ (a b : Bool), ((a || b) = true) = (a = true ∨ b = true)) ∧ (∀ {a b : Int}, ¬a < b ↔ b ≤ a) ∧ (∀ {a b : Int}, ¬a ≤ b ↔ b < a) ∧ (∀ {α : Type} (a b : α), (a ≠ b) = ¬(a = b)) ∧ (∀ {p : Prop} [Decidable p], ¬¬p ↔ p) :=
  ⟨fun p _ => decide_eq_true_eq, fun p _ => decide_eq_false_iff_not, by intro b; cases b <;> simp, by intro b; cases b <;> simp, fun a b => Bool.and_eq_true a b, fun a b => Bool.or_eq_true a b, Int.not_lt, Int.not_le, fun a b => ne_eq a b, Decidable.not_not⟩
end Go.Proofs.Yteojpdijmnpmgaa
namespace Go.Proofs.Yteojpdijmnpmgaa
open Go.RowKit

/-! ### the frame -/
def up (f : Nat → Value) (d : Nat) (v : Value) : Nat → Value := fun t => bif Nat.beq t d then v else f t
def E (n : Nat) (f : Nat → Value) : Act := ⟨((List.range n).map f).toArray, []⟩
def ev (n : Nat) (f : Nat → Value) : Operand → Value
  | .tmp t => bif Nat.blt t n then f t else undef
  | .const v => v
  | .global g => .pointer (some ⟨g, 0, none⟩)
  | .func g => .func (.func g) #[] #[]
def evl (n : Nat) (f : Nat → Value) : List Operand → List Value
  | [] => []
  | x :: l => ev n f x :: evl n f l
theorem evl_eq (n : Nat) (f : Nat → Value) (l : List Operand) : evl n f l = l.map (ev n f) := by
  induction l with
  | nil => rfl
  | cons a l ih => simp [evl, ih]
theorem blt_iff (t n : Nat) : Nat.blt t n = decide (t < n) := by
  rw [Bool.eq_iff_iff, decide_eq_true_iff, Nat.blt, Nat.ble_eq]; omega
theorem E_get (n : Nat) (f : Nat → Value) (t : Nat) : (E n f).tmps.getD t undef = bif Nat.blt t n then f t else undef := by
  rw [blt_iff]
  by_cases h : t < n <;> simp [E, h]
theorem E_eval (n : Nat) (f : Nat → Value) : (E n f).eval = ev n f := by
  funext x
  cases x with
  | tmp t => exact E_get n f t
  | _ => rfl
theorem E_put (n : Nat) (f : Nat → Value) (d : Nat) (v : Value) : (E n f).put (some d) v = E n (up f d v) := by
  unfold Act.put E
  simp only [Act.mk.injEq, and_true]
  apply Array.ext
  · simp
  · intro i h1 h2
    have hi : i < n := by simpa using h2
    rw [Array.getElem_setIfInBounds (by simpa using hi)]
    simp only [List.getElem_toArray, List.getElem_map, List.getElem_range, up]
    by_cases h : d = i
    · subst h; simp
    · rw [if_neg h]
      have : Nat.beq i d = false := by
        cases hb : Nat.beq i d
        · rfl
        · exact absurd (Nat.eq_of_beq_eq_true hb).symm h
      rw [this]; rfl
def argsF (l : List Value) (t : Nat) : Value := l.getD t undef
theorem enter_E (l : List Value) (n : Nat) (h : l.length ≤ n) : ({ tmps := l.toArray ++ Array.replicate (n - l.toArray.size) undef, defers := [] } : Act) = E n (argsF l) := by
  unfold E
  simp only [Act.mk.injEq, and_true]
  apply Array.ext
  · simp; omega
  · intro i h1 h2
    have hi : i < n := by simpa using h2
    simp only [Array.getElem_append, List.getElem_toArray, List.getElem_map, List.getElem_range, argsF, List.size_toArray, Array.getElem_replicate]
    by_cases hl : i < l.length
    · simp [hl]
    · simp [hl, Nat.le_of_not_lt hl]

/-! ### the memory -/
inductive Ch where
  | blk (b : Nat) (o : Obj)
  | gen (own : Nat → Prop) (sat : World → Prop) (loc : ∀ w w' : World, (∀ k, own k → w'.heap[k]? = w.heap[k]?) → sat w → sat w')
def Ch.own : Ch → Nat → Prop
  | .blk b _ => fun k => k = b
  | .gen own _ _ => own
def Ch.sat : Ch → World → Prop
  | .blk b o => fun w => w.heap[b]? = some o
  | .gen _ sat _ => sat
theorem Ch.loc (c : Ch) {w w' : World} (h : ∀ k, c.own k → w'.heap[k]? = w.heap[k]?) (hs : c.sat w) : c.sat w' := by
  cases c with
  | blk b o => exact (h b rfl).trans hs
  | gen own sat loc => exact loc w w' h hs

/-- All pieces hold, each within D or behind B; no two meet. -/
def Sat (B : Nat) (D : Nat → Prop) : List Ch → World → Prop
  | [], w => True
  | c :: Γ, w => c.sat w ∧ (∀ k, c.own k → (D k ∨ B ≤ k) ∧ k < w.heap.size) ∧ (∀ d ∈ Γ, ∀ k, c.own k → ¬ d.own k) ∧ Sat B D Γ w

structure St (w0 : World) (D : Nat → Prop) (Γ : List Ch) (w : World) : Prop where
  os : w.os = w0.os
  tape : w.tape = w0.tape
  output : w.output = w0.output
  size : w0.heap.size ≤ w.heap.size
  keep : ∀ k, k < w0.heap.size → ¬ D k → w.heap[k]? = w0.heap[k]?
  sat : Sat w0.heap.size D Γ w

theorem Sat.mem {B : Nat} {D : Nat → Prop} {w : World} : ∀ {Γ : List Ch}, Sat B D Γ w → ∀ c ∈ Γ, c.sat w ∧ ∀ k, c.own k → (D k ∨ B ≤ k) ∧ k < w.heap.size
  | [], _, c, hc => by cases hc
  | d :: Γ, h, c, hc => by
    cases hc with
    | head => exact ⟨h.1, h.2.1⟩
    | tail _ hc => exact Sat.mem h.2.2.2 c hc
theorem Sat.get {B : Nat} {D : Nat → Prop} {w : World} {Γ : List Ch} (h : Sat B D Γ w) {i : Nat} {c : Ch} (hi : Γ[i]? = some c) : c.sat w ∧ ∀ k, c.own k → (D k ∨ B ≤ k) ∧ k < w.heap.size :=
  h.mem c (List.mem_of_getElem? hi)
/-- What the pieces do not own may turn. -/
theorem Sat.move {B : Nat} {D : Nat → Prop} {w w' : World} (hs : w.heap.size ≤ w'.heap.size) : ∀ {Γ : List Ch}, Sat B D Γ w → (∀ c ∈ Γ, ∀ k, c.own k → w'.heap[k]? = w.heap[k]?) → Sat B D Γ w'
  | [], _, _ => trivial
  | d :: Γ, h, hk => ⟨d.loc (hk d (.head _)) h.1, fun k hk' => ⟨(h.2.1 k hk').1, Nat.lt_of_lt_of_le (h.2.1 k hk').2 hs⟩, h.2.2.1, Sat.move hs h.2.2.2 fun c hc => hk c (.tail _ hc)⟩
theorem Sat.disj {B : Nat} {D : Nat → Prop} {w : World} : ∀ {Γ : List Ch} {i j : Nat} {c d : Ch}, Sat B D Γ w → Γ[i]? = some c → Γ[j]? = some d → i ≠ j → ∀ k, c.own k → ¬ d.own k
  | [], i, j, c, d, _, hi, _, _ => by simp at hi
  | x :: Γ, 0, 0, c, d, h, hi, hj, hn => absurd rfl hn
  | x :: Γ, 0, j + 1, c, d, h, hi, hj, hn => by
    simp at hi hj; subst hi
    exact h.2.2.1 d (List.mem_of_getElem? hj)
  | x :: Γ, i + 1, 0, c, d, h, hi, hj, hn => by
    simp at hi hj; subst hj
    intro k hc hd
    exact h.2.2.1 c (List.mem_of_getElem? hi) k hd hc
  | x :: Γ, i + 1, j + 1, c, d, h, hi, hj, hn => by
    simp at hi hj
    exact Sat.disj h.2.2.2 hi hj (by omega)
/-- One piece is put in another's place, that owns no more than it (or new blocks). -/
theorem Sat.put {B : Nat} {D : Nat → Prop} {w w' : World} (hs : w.heap.size ≤ w'.heap.size) {c' : Ch} : ∀ {Γ : List Ch} {i : Nat} {c : Ch}, Sat B D Γ w → Γ[i]? = some c →
    (∀ k, ¬ c.own k → k < w.heap.size → w'.heap[k]? = w.heap[k]?) → c'.sat w' → (∀ k, c'.own k → (c.own k ∨ (B ≤ k ∧ w.heap.size ≤ k)) ∧ k < w'.heap.size) → Sat B D (Γ.set i c') w'
  | [], i, c, _, hi, _, _, _ => by simp at hi
  | x :: Γ, 0, c, h, hi, hk, hc, ho => by
    simp at hi; subst hi
    refine ⟨hc, fun k hk' => ⟨?_, (ho k hk').2⟩, ?_, ?_⟩
    · rcases (ho k hk').1 with h1 | h1
      · exact (h.2.1 k h1).1
      · exact .inr h1.1
    · intro d hd k hk' hdk
      rcases (ho k hk').1 with h1 | h1
      · exact h.2.2.1 d hd k h1 hdk
      · have := ((h.2.2.2.mem d hd).2 k hdk).2; omega
    · refine h.2.2.2.move hs fun d hd k hdk => hk k (fun h1 => h.2.2.1 d hd k h1 hdk) ((h.2.2.2.mem d hd).2 k hdk).2
  | x :: Γ, i + 1, c, h, hi, hk, hc, ho => by
    simp at hi
    have hcm := List.mem_of_getElem? hi
    refine ⟨x.loc (fun k hk' => hk k (fun h1 => h.2.2.1 c hcm k hk' h1) (h.2.1 k hk').2) h.1, fun k hk' => ⟨(h.2.1 k hk').1, Nat.lt_of_lt_of_le (h.2.1 k hk').2 hs⟩, ?_, Sat.put hs h.2.2.2 hi hk hc ho⟩
    intro d hd k hk' hdk
    rcases List.mem_or_eq_of_mem_set hd with hd | rfl
    · exact h.2.2.1 d hd k hk' hdk
    · rcases (ho k hdk).1 with h1 | h1
      · exact h.2.2.1 c hcm k hk' h1
      · have := (h.2.1 k hk').2; omega

theorem St.refl (w : World) (D : Nat → Prop) : St w D [] w := ⟨rfl, rfl, rfl, Nat.le_refl _, fun _ _ _ => rfl, trivial⟩
theorem St.below {w0 : World} {Γ : List Ch} {w : World} (h : St w0 (fun _ => False) Γ w) : Below w0.heap.size w0 w := ⟨h.os, h.tape, h.output, h.size, fun k hk => h.keep k hk id⟩
theorem St.ro {w0 : World} {D : Nat → Prop} {Γ : List Ch} {w : World} (h : St w0 D Γ w) {k : Nat} (hk : k < w0.heap.size) (hD : ¬ D k) : w.heap[k]? = w0.heap[k]? := h.keep k hk hD
theorem St.drop {w0 : World} {D : Nat → Prop} {Γ : List Ch} {w : World} (h : St w0 D Γ w) : St w0 D [] w := ⟨h.os, h.tape, h.output, h.size, h.keep, trivial⟩
/-- A new block. -/
theorem St.alloc {w0 : World} {D : Nat → Prop} {Γ : List Ch} {w : World} (h : St w0 D Γ w) (o : Obj) : St w0 D (.blk w.heap.size o :: Γ) (w.alloc o) := by
  have hk : ∀ k, k < w.heap.size → (w.alloc o).heap[k]? = w.heap[k]? := fun k hk => Below.heap_alloc w o k hk
  refine ⟨h.os, h.tape, h.output, Nat.le_trans h.size (by simp), fun k hk' hD => (hk k (Nat.lt_of_lt_of_le hk' h.size)).trans (h.keep k hk' hD), ?_, ?_, ?_, ?_⟩
  · show (w.heap.push o)[w.heap.size]? = some o; simp
  · rintro k rfl; exact ⟨.inr h.size, by simp⟩
  · rintro d hd k rfl hdk; exact Nat.lt_irrefl _ ((h.sat.mem d hd).2 _ hdk).2
  · exact h.sat.move (by simp) fun c hc k hck => hk k ((h.sat.mem c hc).2 k hck).2
/-- A world that differs in draws alone. -/
theorem St.of_heap {w0 : World} {D : Nat → Prop} {Γ : List Ch} {w w' : World} (h : St w0 D Γ w) (ho : w'.os = w.os) (ht : w'.tape = w.tape) (hu : w'.output = w.output) (hh : w'.heap = w.heap) : St w0 D Γ w' :=
  ⟨ho.trans h.os, ht.trans h.tape, hu.trans h.output, by rw [hh]; exact h.size, fun k hk hD => by rw [hh]; exact h.keep k hk hD, h.sat.move (by rw [hh]; exact Nat.le_refl _) fun c hc k hck => by rw [hh]⟩
theorem St.drawn {w0 : World} {D : Nat → Prop} {Γ : List Ch} {w : World} (h : St w0 D Γ w) (m : Nat) : St w0 D Γ { w with drawn := m } := h.of_heap rfl rfl rfl rfl
/-- A block of the pieces is written anew. -/
theorem St.setBlk {w0 : World} {D : Nat → Prop} {Γ : List Ch} {w w' : World} (h : St w0 D Γ w) {i b : Nat} {o o' : Obj} (hi : Γ[i]? = some (.blk b o)) (ho : w'.os = w.os) (ht : w'.tape = w.tape) (hu : w'.output = w.output) (hz : w'.heap.size = w.heap.size)
    (hb : w'.heap[b]? = some o') (hk : ∀ k, k ≠ b → w'.heap[k]? = w.heap[k]?) : St w0 D (Γ.set i (.blk b o')) w' := by
  have hc := h.sat.get hi
  refine ⟨ho.trans h.os, ht.trans h.tape, hu.trans h.output, by rw [hz]; exact h.size, fun k hk' hD => (hk k ?_).trans (h.keep k hk' hD), ?_⟩
  · rintro rfl
    rcases (hc.2 k rfl).1 with h1 | h1
    · exact hD h1
    · omega
  · exact h.sat.put (by rw [hz]; exact Nat.le_refl _) hi (fun k hn _ => hk k hn) hb (fun k hk' => ⟨.inl hk', by rw [hz]; exact (hc.2 k hk').2⟩)
theorem Sat.perm {B : Nat} {D : Nat → Prop} {w : World} {Γ Γ' : List Ch} (p : Γ.Perm Γ') (h : Sat B D Γ w) : Sat B D Γ' w := by
  induction p with
  | nil => exact h
  | cons x p ih => exact ⟨h.1, h.2.1, fun d hd => h.2.2.1 d (p.mem_iff.2 hd), ih h.2.2.2⟩
  | swap x y l =>
    obtain ⟨h1, h2, h3, k1, k2, k3, k4⟩ := h
    refine ⟨k1, k2, ?_, h1, h2, fun e he => h3 e (.tail _ he), k4⟩
    intro e he k hd hek
    cases he with
    | head => exact h3 _ (.head _) k hek hd
    | tail _ he => exact k3 e he k hd hek
  | trans _ _ ih1 ih2 => exact ih2 (ih1 h)
theorem St.perm {w0 : World} {D : Nat → Prop} {w : World} {Γ Γ' : List Ch} (h : St w0 D Γ w) (p : Γ.Perm Γ') : St w0 D Γ' w := ⟨h.os, h.tape, h.output, h.size, h.keep, h.sat.perm p⟩
theorem Sat.sub {B : Nat} {D : Nat → Prop} {w : World} {Γ Γ' : List Ch} (p : Γ'.Sublist Γ) (h : Sat B D Γ w) : Sat B D Γ' w := by
  induction p with
  | slnil => trivial
  | cons x p ih => exact ih h.2.2.2
  | cons_cons x p ih => exact ⟨h.1, h.2.1, fun d hd => h.2.2.1 d (p.subset hd), ih h.2.2.2⟩
theorem St.sub {w0 : World} {D : Nat → Prop} {w : World} {Γ Γ' : List Ch} (h : St w0 D Γ w) (p : Γ'.Sublist Γ) : St w0 D Γ' w := ⟨h.os, h.tape, h.output, h.size, h.keep, h.sat.sub p⟩

/-- What a call owns of what it is handed. -/
def owns (Γ : List Ch) (k : Nat) : Prop := ∃ c ∈ Γ, c.own k
/-- Its pieces alone, as they lie when it begins. -/
theorem St.begin {w0 : World} {D : Nat → Prop} {Γ F : List Ch} {w : World} (h : St w0 D (Γ ++ F) w) : St w (owns Γ) Γ w := by
  refine ⟨rfl, rfl, rfl, Nat.le_refl _, fun _ _ _ => rfl, ?_⟩
  have key : ∀ (Δ : List Ch), (∀ c ∈ Δ, c ∈ Γ) → Sat w0.heap.size D Δ w → Sat w.heap.size (owns Γ) Δ w := by
    intro Δ
    induction Δ with
    | nil => intro _ _; trivial
    | cons c Δ ih => intro hm hs; exact ⟨hs.1, fun k hk => ⟨.inl ⟨c, hm c (.head _), hk⟩, (hs.2.1 k hk).2⟩, hs.2.2.1, ih (fun d hd => hm d (.tail _ hd)) hs.2.2.2⟩
  exact key Γ (fun _ h => h) (h.sat.sub (List.sublist_append_left _ _))
/-- Behind a call the rest lies as it lay. -/
theorem St.frame {w0 : World} {D : Nat → Prop} {Γ F Γ' : List Ch} {w w' : World} (h : St w0 D (Γ ++ F) w) (hc : St w (owns Γ) Γ' w') : St w0 D (Γ' ++ F) w' := by
  have hΓ : Sat w0.heap.size D Γ w := h.sat.sub (List.sublist_append_left _ _)
  have hF : Sat w0.heap.size D F w := h.sat.sub (List.sublist_append_right _ _)
  have hdis : ∀ k, owns Γ k → ∀ d ∈ F, ¬ d.own k := by
    have key : ∀ (Δ : List Ch), Sat w0.heap.size D (Δ ++ F) w → ∀ c ∈ Δ, ∀ d ∈ F, ∀ k, c.own k → ¬ d.own k := by
      intro Δ
      induction Δ with
      | nil => intro _ c hc; cases hc
      | cons x Δ ih =>
        intro hs c hc d hd k hck
        cases hc with
        | head => exact hs.2.2.1 d (List.mem_append_right _ hd) k hck
        | tail _ hc => exact ih hs.2.2.2 c hc d hd k hck
    rintro k ⟨c, hc, hck⟩ d hd
    exact key Γ h.sat c hc d hd k hck
  have hFk : ∀ d ∈ F, ∀ k, d.own k → w'.heap[k]? = w.heap[k]? := fun d hd k hdk => hc.keep k ((hF.mem d hd).2 k hdk).2 fun ho => hdis k ho d hd hdk
  refine ⟨hc.os.trans h.os, hc.tape.trans h.tape, hc.output.trans h.output, Nat.le_trans h.size hc.size, fun k hk hD => ?_, ?_⟩
  · refine (hc.keep k (Nat.lt_of_lt_of_le hk h.size) ?_).trans (h.keep k hk hD)
    rintro ⟨c, hcm, hck⟩
    rcases ((hΓ.mem c hcm).2 k hck).1 with h1 | h1
    · exact hD h1
    · omega
  · have key : ∀ (Δ : List Ch), Sat w.heap.size (owns Γ) Δ w' → Sat w0.heap.size D (Δ ++ F) w' := by
      intro Δ
      induction Δ with
      | nil => intro _; exact hF.move hc.size hFk
      | cons x Δ ih =>
        intro hs
        refine ⟨hs.1, fun k hk => ⟨?_, (hs.2.1 k hk).2⟩, ?_, ih hs.2.2.2⟩
        · rcases (hs.2.1 k hk).1 with ⟨c, hcm, hck⟩ | h1
          · exact ((hΓ.mem c hcm).2 k hck).1
          · exact .inr (Nat.le_trans h.size h1)
        · intro d hd k hxk hdk
          rcases List.mem_append.1 hd with hd | hd
          · exact hs.2.2.1 d hd k hxk hdk
          · rcases (hs.2.1 k hxk).1 with h1 | h1
            · exact hdis k h1 d hd hdk
            · have := ((hF.mem d hd).2 k hdk).2; omega
    exact key Γ' hc.sat

/-- The post of a contract: it comes back with a value and pieces; of what was there, it has turned its own alone. -/
def Post (w : World) (Γ : List Ch) (φ : Value → List Ch → Prop) : Ending → World → Prop := fun e w' => ∃ v Γ', e = .returned v ∧ φ v Γ' ∧ St w (owns Γ) Γ' w'
/-- A call that only reads, and makes what is forgotten. -/
def PostR (w : World) (φ : Value → Prop) : Ending → World → Prop := fun e w' => ∃ v, e = .returned v ∧ φ v ∧ St w (fun _ => False) [] w'
theorem owns_nil : owns [] = fun _ => False := by funext k; simp [owns]
theorem St.frameR {w0 : World} {D : Nat → Prop} {F : List Ch} {w w' : World} (h : St w0 D F w) (hc : St w (fun _ => False) [] w') : St w0 D F w' :=
  St.frame (Γ := []) (Γ' := []) h (by rw [owns_nil]; exact hc)
/-- A call that makes pieces of its own. -/
theorem St.frameN {w0 : World} {D : Nat → Prop} {F Γ' : List Ch} {w w' : World} (h : St w0 D F w) (hc : St w (fun _ => False) Γ' w') : St w0 D (Γ' ++ F) w' :=
  St.frame (Γ := []) h (by rw [owns_nil]; exact hc)
/-! ### what a call only reads -/
/-- A block that was there and may not be written. -/
def Ro (w0 : World) (D : Nat → Prop) (k : Nat) : Prop := k < w0.heap.size ∧ ¬ D k
theorem Ro.same {w0 : World} {D : Nat → Prop} {Γ : List Ch} {w : World} (h : St w0 D Γ w) {k : Nat} (hk : Ro w0 D k) : w.heap[k]? = w0.heap[k]? := h.keep k hk.1 hk.2
theorem Ro.next {w0 : World} {D : Nat → Prop} {Γ F : List Ch} {w : World} (h : St w0 D (Γ ++ F) w) {k : Nat} (hk : Ro w0 D k) : Ro w (owns Γ) k := by
  refine ⟨Nat.lt_of_lt_of_le hk.1 h.size, ?_⟩
  rintro ⟨c, hc, hck⟩
  rcases ((h.sat.mem c (List.mem_append_left _ hc)).2 k hck).1 with h1 | h1
  · exact hk.2 h1
  · have := hk.1; omega
end Go.Proofs.Yteojpdijmnpmgaa
namespace Go.Proofs.Yteojpdijmnpmgaa
open Go.RowKit

section
variable {P : Program} {ops : Array Oper} {Q : Exit → Act → World → Prop} {n : Nat} {f : Nat → Value} {w : World}

/-! ### facts of a program's types, as closed words -/
def sglB (P : Program) (t : TypeId) : Bool := match P.underlying t with
  | some (.struct _) => false | some (.array _ _) => false | some _ => true | none => false
def aggB (P : Program) (t : TypeId) : Bool := match P.underlying t with
  | some (.struct _) => true | some (.array _ _) => true | _ => false
def szB (P : Program) (t : TypeId) : Option Nat := (P.info? t).map (·.size)
def zeroB (P : Program) (t : TypeId) : Option Value := (P.info? t).bind (·.zero)
/-- A struct's field: its type, its place, and it has cells. -/
def fldB (P : Program) (s : TypeId) (i : Nat) : Option (TypeId × Nat) := match P.underlying s with
  | some (.struct fs) => (fs[i]?).bind fun g => match P.info? g.type with | some inf => if inf.size = 0 then none else some (g.type, g.offset) | none => none
  | _ => none
def slB (P : Program) (t : TypeId) : Option TypeId := match P.underlying t with | some (.slice e) => some e | _ => none
theorem run_isAgg {t : TypeId} (h : sglB P t = true) : (isAgg t).run P w = .ok false w := by
  unfold sglB at h
  cases hu : P.underlying t with
  | none => simp [hu] at h
  | some d => cases d <;> simp [hu] at h <;> simp [isAgg, underlying, hu, program, Sem.run]
theorem run_isAggT {t : TypeId} (h : aggB P t = true) : (isAgg t).run P w = .ok true w := by
  unfold aggB at h
  cases hu : P.underlying t with
  | none => simp [hu] at h
  | some d => cases d <;> simp [hu] at h <;> simp [isAgg, underlying, hu, program, Sem.run]
theorem run_sizeOf {t : TypeId} {m : Nat} (h : szB P t = some m) : (sizeOf t).run P w = .ok m w := by
  unfold szB at h
  cases hu : P.info? t with
  | none => simp [hu] at h
  | some d => simp [hu] at h; simp [sizeOf, typeInfo, hu, program, Sem.run, h]
theorem run_zero {t : TypeId} {v : Value} (h : zeroB P t = some v) : (zeroValue t).run P w = .ok v w := by
  unfold zeroB at h
  cases hu : P.info? t with
  | none => simp [hu] at h
  | some d => simp [hu] at h; simp [zeroValue, typeInfo, hu, program, Sem.run, h]
theorem run_undSl {t e : TypeId} (h : slB P t = some e) : (underlying t).run P w = .ok (.slice e) w := by
  unfold slB at h
  cases hu : P.underlying t with
  | none => simp [hu] at h
  | some d => cases d <;> simp [hu] at h <;> (subst h; simp [underlying, hu, program, Sem.run])

/-! ### cells -/
theorem cell_blk {b off : Nat} {arr : Array Value} {T : TypeId} {fz : Nat × Nat} {v : Value} (h : w.heap[b]? = some (.cells arr T fz)) (hv : arr[off]? = some v) : w.cell? ⟨b, off, none⟩ = some v := by
  simp [World.cell?, h, hv]
theorem run_loadCellsFrom {b : Nat} {arr : Array Value} {T : TypeId} {fz : Nat × Nat} (h : w.heap[b]? = some (.cells arr T fz)) (off : Nat) : ∀ (m i : Nat) (acc : Array Value), off + i + m ≤ arr.size →
    (loadCellsFrom ⟨b, off, none⟩ i m acc).run P w = .ok (acc ++ arr.extract (off + i) (off + i + m)) w
  | 0, i, acc, _ => by simp [loadCellsFrom, Sem.run]; omega
  | m + 1, i, acc, hm => by
    have ha : Addr.add ⟨b, off, none⟩ i = ⟨b, off + i, none⟩ := by unfold Addr.add; split <;> simp_all
    have hc : w.cell? ⟨b, off + i, none⟩ = some arr[off + i] := cell_blk h (by simp <;> omega)
    simp only [loadCellsFrom, Sem.run_bind, load, ha, Sem.run, hc, Result.andThen_ok]
    rw [run_loadCellsFrom h off m (i + 1) _ (by omega)]
    congr 1
    apply Array.ext
    · simp; try omega
    · intro j h1 h2
      simp only [Array.getElem_append, Array.getElem_push, Array.size_push, Array.getElem_extract]
      by_cases hj : j < acc.size
      · simp [hj, Nat.lt_succ_of_lt hj]
      · by_cases hj2 : j = acc.size
        · subst hj2; simp
        · have : ¬ j < acc.size + 1 := by omega
          simp only [hj, this, dite_false]
          congr 1; omega
theorem run_load1 {t : TypeId} {a : Addr} {v : Value} (h : sglB P t = true) (hc : w.cell? a = some v) : (Instr.loadAt t (.pointer (some a))).run P w = .ok v w := by
  simp [Instr.loadAt, Instr.sureAddr, loadVar, run_isAgg h, load, Sem.run, hc]
theorem run_loadA {t : TypeId} {m b off : Nat} {arr : Array Value} {T : TypeId} {fz : Nat × Nat} (h : aggB P t = true) (hz : szB P t = some m) (hb : w.heap[b]? = some (.cells arr T fz)) (hm : off + m ≤ arr.size) :
    (Instr.loadAt t (.pointer (some ⟨b, off, none⟩))).run P w = .ok (.agg (arr.extract off (off + m))) w := by
  simp [Instr.loadAt, Instr.sureAddr, loadVar, run_isAggT h, run_sizeOf hz, loadCells, run_loadCellsFrom hb off m 0 #[] (by omega)]

/-! ### an operation that yields and leaves the memory -/
abbrev Run (P : Program) (n : Nat) (f : Nat → Value) (o : Oper) (w : World) (v : Value) : Prop := (execOp (ev n f) o).run P w = .ok (.value v) w
section ops
variable {d : Option Tmp} {x y z : Operand} {ty T T' : TypeId} {pos : String} {aft : Array Edge} {g : Option (Nat × Bool)} {k : IntKind} {a b : Int}
theorem q_move {v : Value} (hx : ev n f x = v) : Run P n f ⟨d, .move x, ty, pos, aft, g⟩ w v := by subst hx; rfl
theorem q_assign {v : Value} (hx : ev n f x = v) : Run P n f ⟨d, .assign x, ty, pos, aft, g⟩ w v := by subst hx; rfl
theorem q_moveI (hx : ev n f x = .int k a) : Run P n f ⟨d, .move x, ty, pos, aft, g⟩ w (.int k a) := q_move hx
theorem q_moveB {t : Bool} (hx : ev n f x = .bool t) : Run P n f ⟨d, .move x, ty, pos, aft, g⟩ w (.bool t) := q_move hx
theorem q_moveS {ad : Option Addr} {l c : Nat} (hx : ev n f x = .slice ad l c) : Run P n f ⟨d, .move x, ty, pos, aft, g⟩ w (.slice ad l c) := q_move hx
theorem q_moveP {ad : Option Addr} (hx : ev n f x = .pointer ad) : Run P n f ⟨d, .move x, ty, pos, aft, g⟩ w (.pointer ad) := q_move hx
theorem q_assignI (hx : ev n f x = .int k a) : Run P n f ⟨d, .assign x, ty, pos, aft, g⟩ w (.int k a) := q_assign hx
theorem q_assignB {t : Bool} (hx : ev n f x = .bool t) : Run P n f ⟨d, .assign x, ty, pos, aft, g⟩ w (.bool t) := q_assign hx
theorem q_assignS {ad : Option Addr} {l c : Nat} (hx : ev n f x = .slice ad l c) : Run P n f ⟨d, .assign x, ty, pos, aft, g⟩ w (.slice ad l c) := q_assign hx
theorem q_assignP {ad : Option Addr} (hx : ev n f x = .pointer ad) : Run P n f ⟨d, .assign x, ty, pos, aft, g⟩ w (.pointer ad) := q_assign hx
theorem q_pickT {v : Value} {t : Bool} (hx : ev n f x = .bool t) (ht : t = true) (hy : ev n f y = v) : Run P n f ⟨d, .pick x y z, ty, pos, aft, g⟩ w v := by
  subst hy ht; simp [Run, execOp, hx, asBool, Sem.run]
theorem q_pickF {v : Value} {t : Bool} (hx : ev n f x = .bool t) (ht : t = false) (hy : ev n f z = v) : Run P n f ⟨d, .pick x y z, ty, pos, aft, g⟩ w v := by
  subst hy ht; simp [Run, execOp, hx, asBool, Sem.run]
theorem q_add (hx : ev n f x = .int k a) (hy : ev n f y = .int k b) : Run P n f ⟨d, .binOp .add T x y T', ty, pos, aft, g⟩ w (.int k (k.wrap (a + b))) := by
  simp [Run, execOp, hx, hy, eqGuard, binOp, Op.intArith, Sem.run]
theorem q_sub (hx : ev n f x = .int k a) (hy : ev n f y = .int k b) : Run P n f ⟨d, .binOp .sub T x y T', ty, pos, aft, g⟩ w (.int k (k.wrap (a - b))) := by
  simp [Run, execOp, hx, hy, eqGuard, binOp, Op.intArith, Sem.run]
theorem q_mul (hx : ev n f x = .int k a) (hy : ev n f y = .int k b) : Run P n f ⟨d, .binOp .mul T x y T', ty, pos, aft, g⟩ w (.int k (k.wrap (a * b))) := by
  simp [Run, execOp, hx, hy, eqGuard, binOp, Op.intArith, Sem.run]
theorem wrap_in {c : Int} (h0 : -9223372036854775808 ≤ c) (h1 : c ≤ 9223372036854775807) : IntKind.i64.wrap c = c := by
  simp [IntKind.wrap, IntKind.bits, IntKind.signed]; omega
theorem q_addx (hx : ev n f x = .int .i64 a) (hy : ev n f y = .int .i64 b) (h0 : -9223372036854775808 ≤ a + b) (h1 : a + b ≤ 9223372036854775807) : Run P n f ⟨d, .binOp .add T x y T', ty, pos, aft, g⟩ w (.int .i64 (a + b)) := by
  have := q_add (P := P) (w := w) (d := d) (T := T) (T' := T') (ty := ty) (pos := pos) (aft := aft) (g := g) hx hy; rwa [wrap_in h0 h1] at this
theorem q_subx (hx : ev n f x = .int .i64 a) (hy : ev n f y = .int .i64 b) (h0 : -9223372036854775808 ≤ a - b) (h1 : a - b ≤ 9223372036854775807) : Run P n f ⟨d, .binOp .sub T x y T', ty, pos, aft, g⟩ w (.int .i64 (a - b)) := by
  have := q_sub (P := P) (w := w) (d := d) (T := T) (T' := T') (ty := ty) (pos := pos) (aft := aft) (g := g) hx hy; rwa [wrap_in h0 h1] at this
theorem q_mulx (hx : ev n f x = .int .i64 a) (hy : ev n f y = .int .i64 b) (h0 : -9223372036854775808 ≤ a * b) (h1 : a * b ≤ 9223372036854775807) : Run P n f ⟨d, .binOp .mul T x y T', ty, pos, aft, g⟩ w (.int .i64 (a * b)) := by
  have := q_mul (P := P) (w := w) (d := d) (T := T) (T' := T') (ty := ty) (pos := pos) (aft := aft) (g := g) hx hy; rwa [wrap_in h0 h1] at this
theorem q_rem (hx : ev n f x = .int k a) (hy : ev n f y = .int k b) (hb : b ≠ 0) : Run P n f ⟨d, .binOp .rem T x y T', ty, pos, aft, g⟩ w (.int k (a.tmod b)) := by
  simp [Run, execOp, hx, hy, eqGuard, binOp, Op.intDiv, Sem.run, hb]
theorem q_lss (hx : ev n f x = .int k a) (hy : ev n f y = .int k b) : Run P n f ⟨d, .binOp .lss T x y T', ty, pos, aft, g⟩ w (.bool (decide (a < b))) := by
  simp [Run, execOp, hx, hy, eqGuard, binOp, Op.intCmp, Sem.run]
theorem q_leq (hx : ev n f x = .int k a) (hy : ev n f y = .int k b) : Run P n f ⟨d, .binOp .leq T x y T', ty, pos, aft, g⟩ w (.bool (decide (a ≤ b))) := by
  simp [Run, execOp, hx, hy, eqGuard, binOp, Op.intCmp, Sem.run]
theorem q_gtr (hx : ev n f x = .int k a) (hy : ev n f y = .int k b) : Run P n f ⟨d, .binOp .gtr T x y T', ty, pos, aft, g⟩ w (.bool (decide (b < a))) := by
  simp [Run, execOp, hx, hy, eqGuard, binOp, Op.intCmp, Sem.run]
theorem q_geq (hx : ev n f x = .int k a) (hy : ev n f y = .int k b) : Run P n f ⟨d, .binOp .geq T x y T', ty, pos, aft, g⟩ w (.bool (decide (b ≤ a))) := by
  simp [Run, execOp, hx, hy, eqGuard, binOp, Op.intCmp, Sem.run]
theorem q_eql (hx : ev n f x = .int k a) (hy : ev n f y = .int k b) : Run P n f ⟨d, .binOp .eql T x y T', ty, pos, aft, g⟩ w (.bool (decide (a = b))) := by
  simp [Run, execOp, hx, hy, eqGuard, binOp, Op.intCmp, Sem.run]; rfl
theorem q_neq (hx : ev n f x = .int k a) (hy : ev n f y = .int k b) : Run P n f ⟨d, .binOp .neq T x y T', ty, pos, aft, g⟩ w (.bool (decide (a ≠ b))) := by
  simp [Run, execOp, hx, hy, eqGuard, binOp, Op.intCmp, Sem.run]; rw [Bool.eq_iff_iff]; simp
theorem q_not {t : Bool} (hx : ev n f x = .bool t) : Run P n f ⟨d, .unOp .not T x, ty, pos, aft, g⟩ w (.bool (!t)) := by
  simp [Run, execOp, hx, Op.unary, Sem.run]
theorem q_neg (hx : ev n f x = .int k a) : Run P n f ⟨d, .unOp .neg T x, ty, pos, aft, g⟩ w (.int k (k.wrap (0 - a))) := by
  simp [Run, execOp, hx, Op.unary, Op.intArith, Sem.run]
theorem q_extract {vs : Array Value} {i : Nat} {v : Value} (hx : ev n f x = .tuple vs) (hi : vs[i]? = some v) : Run P n f ⟨d, .extract x i, ty, pos, aft, g⟩ w v := by
  simp [Run, execOp, hx, Instr.extract, Sem.run, hi]
theorem q_makeFunc {fn : Fn} {fs cs : List Operand} : Run P n f ⟨d, .makeFunc fn fs.toArray cs.toArray, ty, pos, aft, g⟩ w (.func fn (evl n f fs).toArray (evl n f cs).toArray) := by
  simp [Run, execOp, Instr.makeFunc, Sem.run, evl_eq]
theorem q_nilCheck {ad : Addr} (hx : ev n f x = .pointer (some ad)) : Run P n f ⟨d, .nilCheck x, ty, pos, aft, g⟩ w (.pointer (some ad)) := by
  simp [Run, execOp, hx, Sem.run]
theorem q_fieldAddr {bl off i o : Nat} {ft : TypeId} (hx : ev n f x = .pointer (some ⟨bl, off, none⟩)) (hf : fldB P T i = some (ft, o)) : Run P n f ⟨d, .fieldAddr T x i, ty, pos, aft, g⟩ w (.pointer (some ⟨bl, off + o, none⟩)) := by
  unfold fldB at hf
  split at hf
  case h_2 => cases hf
  rename_i fs hu
  cases hi : fs[i]? with
  | none => simp [hi] at hf
  | some fl =>
    simp only [hi, Option.bind_some] at hf
    cases hn : P.info? fl.type with
    | none => simp [hn] at hf
    | some inf =>
      simp only [hn] at hf
      split at hf
      · cases hf
      rename_i hz
      simp only [Option.some.injEq, Prod.mk.injEq] at hf
      obtain ⟨rfl, rfl⟩ := hf
      have hadd : Addr.add ⟨bl, off, none⟩ fl.offset = ⟨bl, off + fl.offset, none⟩ := by unfold Addr.add; split <;> simp_all
      simp [Run, execOp, hx, Instr.fieldAt, underlying, hu, program, Sem.run, hi, Instr.sureAddr, fieldPlace, sizeOf, typeInfo, hn, hz, hadd]
theorem q_load1 {ad : Addr} {v : Value} (hx : ev n f x = .pointer (some ad)) (h : sglB P T = true) (hc : w.cell? ad = some v) : Run P n f ⟨d, .load T x, ty, pos, aft, g⟩ w v := by
  simp [Run, execOp, hx, run_load1 h hc]
theorem q_loadA {m bl off : Nat} {arr : Array Value} {T2 : TypeId} {fz : Nat × Nat} {cs : List Value} (hx : ev n f x = .pointer (some ⟨bl, off, none⟩)) (h : aggB P T = true) (hz : szB P T = some m) (hb : w.heap[bl]? = some (.cells arr T2 fz)) (hcs : (arr.toList.drop off).take m = cs) (hl : cs.length = m) :
    Run P n f ⟨d, .load T x, ty, pos, aft, g⟩ w (.agg cs.toArray) := by
  have hm : off + m ≤ arr.size ∨ m = 0 := by
    have := congrArg List.length hcs
    simp at this; omega
  have he : arr.extract off (off + m) = cs.toArray := by
    subst hcs
    apply Array.ext'
    simp [List.take_drop, Array.toList_extract, List.extract_eq_take_drop]
  rcases hm with hm | rfl
  · simp [Run, execOp, hx, run_loadA h hz hb hm, he]
  · have hcs0 : cs = [] := List.eq_nil_of_length_eq_zero hl
    subst hcs0
    simp [Run, execOp, hx, Instr.loadAt, Instr.sureAddr, loadVar, run_isAggT h, run_sizeOf hz, loadCells, loadCellsFrom, Sem.run]
theorem run_loadCellsC {bl off : Nat} : ∀ (l : List Value) (i : Nat) (acc : Array Value), (∀ j u, l[j]? = some u → w.cell? ⟨bl, off + (i + j), none⟩ = some u) → (loadCellsFrom ⟨bl, off, none⟩ i l.length acc).run P w = .ok (acc ++ l.toArray) w
  | [], i, acc, _ => by simp [loadCellsFrom, Sem.run]
  | v :: l, i, acc, h => by
    have ha : Addr.add ⟨bl, off, none⟩ i = ⟨bl, off + i, none⟩ := by unfold Addr.add; split <;> simp_all
    have hc : w.cell? ⟨bl, off + i, none⟩ = some v := h 0 v rfl
    simp only [List.length_cons, loadCellsFrom, Sem.run_bind, load, ha, Sem.run, hc, Result.andThen_ok]
    rw [run_loadCellsC l (i + 1) _ (fun j u hu => by have := h (j + 1) u (by simpa using hu); rwa [show i + (j + 1) = i + 1 + j by omega] at this)]
    simp
theorem q_indexAddr {bl off len cap m : Nat} {e : TypeId} (hx : ev n f x = .slice (some ⟨bl, off, none⟩) len cap) (hy : ev n f y = .int k a) (ht : slB P T = some e) (hz : szB P e = some m) (h0 : 0 ≤ a) (h1 : a < len) :
    Run P n f ⟨d, .indexAddr T x y, ty, pos, aft, g⟩ w (.pointer (some ⟨bl, off + a.toNat * m, none⟩)) := by
  have hadd : Addr.add ⟨bl, off, none⟩ (a.toNat * m) = ⟨bl, off + a.toNat * m, none⟩ := by unfold Addr.add; split <;> simp_all
  simp [Run, execOp, hx, hy, Instr.indexAt, asIntOf, run_undSl ht, run_sizeOf hz, Sem.run, h0, h1, hadd]
theorem q_lenSl {ad : Option Addr} {len cap : Nat} {e : TypeId} {rest : List TypeId} (hx : ev n f x = .slice ad len cap) (ht : slB P T = some e) : Run P n f ⟨d, .call ⟨.builtin .len, List.toArray [x], List.toArray (T :: rest)⟩, ty, pos, aft, g⟩ w (.int .i64 len) := by
  simp [Run, execOp, resolve, invoke, builtin, Builtin.len_, hx, run_undSl ht, goInt, Sem.run]
theorem q_max (hx : ev n f x = .int k a) (hy : ev n f y = .int k b) {ts : Array TypeId} : Run P n f ⟨d, .call ⟨.builtin .max, List.toArray [x, y], ts⟩, ty, pos, aft, g⟩ w (.int k (max a b)) := by
  simp [Run, execOp, resolve, invoke, builtin, Builtin.max_, Builtin.max2, hx, hy, Sem.run]; split <;> omega
theorem run_und {t : TypeId} {u : TypeDesc} (h : P.underlying t = some u) : (underlying t).run P w = .ok u w := by simp [underlying, h, program, Sem.run]
def ptB (P : Program) (t : TypeId) : Bool := match P.underlying t with | some (.pointer _) => true | _ => false
theorem und_pt {t : TypeId} (h : ptB P t = true) : ∃ e, P.underlying t = some (.pointer e) := by
  unfold ptB at h
  cases hu : P.underlying t with
  | none => simp [hu] at h
  | some d => cases d <;> simp [hu] at h; exact ⟨_, rfl⟩
theorem eq_ptr {t : TypeId} {a : Option Addr} (h : ptB P t = true) : (Op.equal t (.pointer a) (.pointer none)).run P w = .ok a.isNone w := by
  obtain ⟨e, hu⟩ := und_pt h
  have : ∀ q : Nat, (Op.equalIn (q + 1) t (.pointer a) (.pointer none)).run P w = .ok a.isNone w := fun q => by cases a <;> simp [Op.equalIn, run_und hu, Sem.run]
  exact this 9999
theorem q_peq {a : Option Addr} (hx : ev n f x = .pointer a) (ht : ptB P T = true) : Run P n f ⟨d, .binOp .eql T x (.const (.pointer none)) T', ty, pos, aft, g⟩ w (.bool a.isNone) := by
  have hc : ev n f (.const (.pointer none)) = .pointer none := rfl
  cases a <;> (simp only [Run, execOp, hx, hc, binOp, eqGuard]; simp [eq_ptr ht, Sem.run])
def IsIf (v : Value) : Prop := v = .nilIface ∨ ∃ t u, v = .iface t u
/-! structs that are built -/
def plB (P : Program) : List Field → Option (List (Nat × Nat))
  | [] => some []
  | g :: l => match szB P g.type, plB P l with | some m, some r => some ((g.offset, m) :: r) | _, _ => none
def placesB (P : Program) (t : TypeId) : Option (List (Nat × Nat)) := match P.underlying t with
  | some (.struct fs) => plB P fs.toList
  | _ => none
def setMany : List Value → Nat → List Value → List Value
  | cs, _, [] => cs
  | cs, off, v :: l => setMany (cs.set off v) (off + 1) l
def fill1 (ps : List (Nat × Nat)) : List Value → List (Nat × Value) → Option (List Value)
  | cs, [] => some cs
  | cs, (i, v) :: r => match ps[i]? with
    | some (off, sz) => bif Nat.beq sz 1 then (bif Nat.blt off cs.length then fill1 ps (cs.set off v) r else none) else match v with
      | .agg a => bif Nat.beq a.size sz && Nat.ble (off + sz) cs.length then fill1 ps (setMany cs off a.toList) r else none
      | _ => none
    | none => none
def PartsOk (ps : List (Nat × Nat)) : List (Nat × Value) → Prop
  | [] => True
  | (i, v) :: r => ((∃ off, ps[i]? = some (off, 1)) → v.oneCell' = true) ∧ PartsOk ps r
def evp (n : Nat) (f : Nat → Value) : List (Nat × Operand) → List (Nat × Value)
  | [] => []
  | (i, x) :: l => (i, ev n f x) :: evp n f l
theorem evp_eq (l : List (Nat × Operand)) : evp n f l = l.map fun q => (q.1, ev n f q.2) := by
  induction l with
  | nil => rfl
  | cons a l ih => obtain ⟨i, x⟩ := a; simp [evp, ih]
theorem one_cells {v : Value} (h : v.oneCell' = true) : v.cells = #[v] := by cases v <;> simp [Value.oneCell'] at h <;> rfl
theorem foldl_setMany : ∀ (a : List Value) (cs : List Value) (off j : Nat), (List.foldl (fun (cs : Array Value) (x : Value × Nat) => cs.setIfInBounds (off + x.2) x.1) cs.toArray (a.zipIdx j)) = (setMany cs (off + j) a).toArray
  | [], cs, off, j => by simp [setMany]
  | v :: a, cs, off, j => by
    simp only [List.zipIdx_cons, List.foldl_cons, setMany, List.setIfInBounds_toArray]
    rw [foldl_setMany a _ off (j + 1)]; rfl
theorem fill_of_fill1 (ps : List (Nat × Nat)) : ∀ (r : List (Nat × Value)) (cs cs' : List Value), PartsOk ps r → fill1 ps cs r = some cs' → Instr.fill (fun i => ps[i]?) cs.toArray r = some cs'.toArray
  | [], cs, cs', _, h => by simp only [fill1, Option.some.injEq] at h; subst h; rfl
  | (i, v) :: r, cs, cs', hok, h => by
    simp only [fill1] at h
    cases hi : ps[i]? with
    | none => simp [hi] at h
    | some q =>
      obtain ⟨off, sz⟩ := q
      simp only [hi] at h
      simp only [Instr.fill, hi]
      cases hb : Nat.beq sz 1 with
      | true =>
        obtain rfl : sz = 1 := Nat.eq_of_beq_eq_true hb
        simp only [hb, cond_true] at h
        cases hl : Nat.blt off cs.length with
        | false => simp [hl] at h
        | true =>
          simp only [hl, cond_true] at h
          rw [blt_iff] at hl
          have hl' : off < cs.length := by simpa using hl
          have hc := one_cells (hok.1 ⟨off, hi⟩)
          rw [hc, if_neg (by simp; omega)]
          have := fill_of_fill1 ps r _ _ hok.2 h
          simpa using this
      | false =>
        simp only [hb, cond_false] at h
        cases v with
        | agg a =>
          simp only at h
          cases hl : (Nat.beq a.size sz && Nat.ble (off + sz) cs.length) with
          | false => simp [hl] at h
          | true =>
            simp only [hl, cond_true] at h
            rw [Bool.and_eq_true] at hl
            have h1 : a.size = sz := Nat.eq_of_beq_eq_true hl.1
            have h2 := Nat.le_of_ble_eq_true hl.2
            have hc : (Value.agg a).cells = a := rfl
            rw [hc, if_neg (by simp; omega)]
            have h3 := fill_of_fill1 ps r _ _ hok.2 h
            have h4 := foldl_setMany a.toList cs off 0
            have h5 : Array.foldl (fun cs x => Array.setIfInBounds cs (off + x.2) x.1) cs.toArray a.zipIdx = (setMany cs off a.toList).toArray := by
              rw [← Array.foldl_toList, Array.toList_zipIdx]; exact h4
            rw [h5]; exact h3
        | _ => simp at h
theorem run_places {t : TypeId} : ∀ (fs : List Field) (ps : List (Nat × Nat)), plB P fs = some ps → (fs.mapM (fun g => (do pure (g.offset, ← sizeOf g.type) : Sem (Nat × Nat)))).run P w = .ok ps w
  | [], ps, h => by simp only [plB, Option.some.injEq] at h; subst h; simp [Sem.run]
  | g :: l, ps, h => by
    simp only [plB] at h
    cases h1 : szB P g.type with
    | none => simp [h1] at h
    | some m =>
      cases h2 : plB P l with
      | none => simp [h1, h2] at h
      | some r =>
        simp only [h1, h2, Option.some.injEq] at h
        subst h
        have ih := run_places (t := t) l r h2
        simp only [List.mapM_cons, Sem.run_bind, run_sizeOf h1, Result.andThen_ok, Sem.run_pure, ih]
theorem q_build {ps : List (Nat × Nat)} {zv : Value} {parts : List (Nat × Operand)} {pv : List (Nat × Value)} {cs : List Value} (hp : placesB P T = some ps) (hz : zeroB P T = some zv) (hv : evp n f parts = pv) (hok : PartsOk ps pv) (hf : fill1 ps zv.cells.toList pv = some cs) : Run P n f ⟨d, .build T parts.toArray, ty, pos, aft, g⟩ w (.agg cs.toArray) := by
  unfold placesB at hp
  cases hu : P.underlying T with
  | none => simp [hu] at hp
  | some du =>
    cases du <;> simp [hu] at hp
    rename_i fs
    have h1 := run_places (P := P) (w := w) (t := T) fs.toList ps hp
    have h2 := fill_of_fill1 ps pv _ _ hok hf
    have h3 : (parts.toArray.map fun (i, x) => (i, ev n f x)).toList = pv := by rw [← hv, evp_eq]; simp
    have h4 : (fs.mapM (fun g => (do pure (g.offset, ← sizeOf g.type) : Sem (Nat × Nat)))).run P w = .ok ps.toArray w := by
      rw [← Array.toArray_toList (xs := fs), List.mapM_toArray]
      simp only [Sem.run_map, h1]; rfl
    simp only [Run, execOp, Sem.run_bind, Instr.build, run_zero hz, Result.andThen_ok, run_und hu, h4, h3]
    have h5 : Instr.fill (fun x => ps[x]?) zv.cells pv = some cs.toArray := by simpa using h2
    simp [h5, Sem.run]
theorem q_conv {k' : IntKind} (hx : ev n f x = .int k a) (h : P.underlying T' = some (.int k')) (h2 : (P.underlying T).isSome = true) : Run P n f ⟨d, .convert T T' x, ty, pos, aft, g⟩ w (.int k' (k'.wrap a)) := by
  cases hu : P.underlying T with
  | none => simp [hu] at h2
  | some du => cases du <;> simp [Run, execOp, hx, convert, run_und hu, run_und h, Conv.intToInt, Sem.run]
end ops

/-! ### the list of a region, in its own order -/
variable {rest : List Oper}
theorem l_nil (h : Q .normal (E n f) w) : wpList P ops Q [] (E n f) w := h
theorem l_q {o : Oper} {d : Nat} {v : Value} (hd : o.dst = some d) (hg : o.guard = none) (h : Run P n f o w v) (k : wpList P ops Q rest (E n (up f d v)) w) : wpList P ops Q (o :: rest) (E n f) w := by
  refine wpList_plain hg fun K hK => ?_
  unfold Oper.wp
  rw [E_eval, h]
  simp only [Oper.upon, hd, E_put]
  exact hK _ _ k
/-- An operation of one's own rule. -/
theorem l_e {o : Oper} (hg : o.guard = none) (h : ∀ K : Act → World → Prop, (∀ a w, wpList P ops Q rest a w → K a w) → o.wp P (E n f) w K Q) : wpList P ops Q (o :: rest) (E n f) w := wpList_plain hg h
def yl (ops : Array Oper) (n : Nat) (f : Nat → Value) (j : Nat) : Option Bool := match (ops[j]?).bind (·.dst) with
  | some t => match ev n f (.tmp t) with | .bool b => some b | _ => none
  | none => none
theorem yl_eq (j : Nat) (b : Bool) (h : yl ops n f j = some b) : yielded ops (E n f).tmps j = some b := by
  unfold yl at h
  unfold yielded
  cases hd : (ops[j]?).bind (·.dst) with
  | none => simp [hd] at h
  | some t =>
    simp only [hd, Option.bind_some] at h ⊢
    by_cases ht : t < n
    · have hb : Nat.blt t n = true := by rw [blt_iff]; simpa using ht
      have : (E n f).tmps[t]? = some (f t) := by simp [E, ht]
      rw [this]
      simp only [ev, hb, cond_true] at h
      cases hf : f t <;> simp [hf] at h ⊢
      exact h
    · have hb : Nat.blt t n = false := by rw [blt_iff]; simpa using ht
      simp only [ev, hb, cond_false] at h
      cases h
theorem l_on {o : Oper} {j : Nat} {c t : Bool} (hg : o.guard = some (j, c)) (hy : yl ops n f j = some t) (ht : t = c)
    (h : wpList P ops Q ({ o with guard := none } :: rest) (E n f) w) : wpList P ops Q (o :: rest) (E n f) w := by
  subst ht
  unfold wpList at h ⊢
  have h1 : Region.wanted o (yielded ops (E n f).tmps) = true := by simp [Region.wanted, hg, yl_eq j t hy]
  rw [if_pos h1]
  rw [if_pos (by simp [Region.wanted])] at h
  exact h
theorem l_off {o : Oper} {d j : Nat} {c t : Bool} (hd : o.dst = some d) (hg : o.guard = some (j, c)) (hy : yl ops n f j = some t) (ht : t = !c)
    (h : wpList P ops Q rest (E n (up f d undef)) w) : wpList P ops Q (o :: rest) (E n f) w := by
  subst ht
  unfold wpList
  have h1 : Region.wanted o (yielded ops (E n f).tmps) = false := by simp [Region.wanted, hg, yl_eq j _ hy]
  rw [if_neg (by simp [h1]), hd, E_put]
  exact h

theorem yl_none (j : Nat) (h : yl ops n f j = none) : yielded ops (E n f).tmps j = none := by
  unfold yl at h
  unfold yielded
  cases hd : (ops[j]?).bind (·.dst) with
  | none => simp
  | some t =>
    simp only [hd, Option.bind_some] at h ⊢
    by_cases ht : t < n
    · have hb : Nat.blt t n = true := by rw [blt_iff]; simpa using ht
      have : (E n f).tmps[t]? = some (f t) := by simp [E, ht]
      rw [this]
      simp only [ev, hb, cond_true] at h
      cases hf : f t <;> simp [hf] at h ⊢
    · have hn : n ≤ t := Nat.le_of_not_lt ht
      rw [Array.getElem?_eq_none (by simpa [E] using hn)]
/-- The guard's own operation was left out. -/
theorem l_offN {o : Oper} {d j : Nat} {c : Bool} (hd : o.dst = some d) (hg : o.guard = some (j, c)) (hy : yl ops n f j = none)
    (h : wpList P ops Q rest (E n (up f d undef)) w) : wpList P ops Q (o :: rest) (E n f) w := by
  unfold wpList
  have h1 : Region.wanted o (yielded ops (E n f).tmps) = false := by simp [Region.wanted, hg, yl_none j hy]
  rw [if_neg (by simp [h1]), hd, E_put]
  exact h

/-! ### the code -/
theorem c_enter {fid : FuncId} {fn : Func} {c : Code} {args : List Value} {m : Nat} {R : Ending → World → Prop} (hf : P.funcs[fid]? = some fn) (hb : fn.body = some c) (hn : fn.ntmps = m) (hl : Nat.ble args.length m = true)
    (h : c.wp P (bodyPost P fn R) (E m (argsF args)) w) : Calls P fid args.toArray w R := by
  refine calls_of_wp hf hb ?_
  subst hn
  rw [enter_E args fn.ntmps (Nat.le_of_ble_eq_true hl)]
  exact h
theorem c_cond {c : Operand} {x y : Code} {t : Bool} (hc : ev n f c = .bool t) (h1 : t = true → x.wp P Q (E n f) w) (h0 : t = false → y.wp P Q (E n f) w) : (Code.cond c x y).wp P Q (E n f) w :=
  wp_cond_split (by rw [E_eval]; exact hc) h1 h0
theorem c_condT {c : Operand} {x y : Code} {t : Bool} (hc : ev n f c = .bool t) (ht : t = true) (h1 : x.wp P Q (E n f) w) : (Code.cond c x y).wp P Q (E n f) w :=
  wp_cond_true (by rw [E_eval, hc, ht]) h1
theorem c_condF {c : Operand} {x y : Code} {t : Bool} (hc : ev n f c = .bool t) (ht : t = false) (h1 : y.wp P Q (E n f) w) : (Code.cond c x y).wp P Q (E n f) w :=
  wp_cond_false (by rw [E_eval, hc, ht]) h1
theorem c_ret1 {fn : Func} {R : Ending → World → Prop} {t : Tmp} {v : Value} (hr : fn.results = #[.tmp t]) (hv : ev n f (.tmp t) = v) (h : R (.returned v) w) : bodyPost P fn R .ret (E n f) w := by
  refine ⟨rfl, v, ?_, h⟩
  rw [results_tmp hr, E_get]; exact congrArg (fun v => Result.ok v w) hv
theorem c_ret2 {fn : Func} {R : Ending → World → Prop} {t u : Tmp} {v v' : Value} (hr : fn.results = #[.tmp t, .tmp u]) (hv : ev n f (.tmp t) = v) (hu : ev n f (.tmp u) = v') (h : R (.returned (.tuple #[v, v'])) w) : bodyPost P fn R .ret (E n f) w := by
  refine ⟨rfl, .tuple #[v, v'], ?_, h⟩
  rw [results_tmp2 hr, E_get, E_get]; subst hv hu; rfl
theorem c_end0 {fn : Func} {R : Ending → World → Prop} (hr : fn.results = #[]) (h : R (.returned (.tuple #[])) w) : bodyPost P fn R .normal (E n f) w :=
  ⟨rfl, .tuple #[], results_none hr _ _ _, h⟩
/-! ### frames that differ in some slots -/
/-- In the slots of some ranges. -/
def inR : List (Nat × Nat) → Nat → Bool
  | [], _ => false
  | (lo, hi) :: l, t => bif Nat.ble lo t && Nat.ble t hi then true else inR l t
def hav (p : List (Nat × Nat)) (j f : Nat → Value) : Nat → Value := fun t => bif inR p t then j t else f t
def ups : List (Nat × Value) → (Nat → Value) → (Nat → Value)
  | [], f => f
  | (d, v) :: l, f => up (ups l f) d v
/-- f' differs from f in those slots alone. -/
def Agree (p : List (Nat × Nat)) (f' f : Nat → Value) : Prop := ∀ t, inR p t = false → f' t = f t
theorem Agree.refl (p : List (Nat × Nat)) (f : Nat → Value) : Agree p f f := fun _ _ => rfl
theorem Agree.up {p : List (Nat × Nat)} {f' f : Nat → Value} (h : Agree p f' f) {d : Nat} {v : Value} (hd : inR p d = true) : Agree p (up f' d v) f := fun t ht => by
  unfold Proofs.Yteojpdijmnpmgaa.up
  cases hb : Nat.beq t d
  · exact h t ht
  · rw [Nat.eq_of_beq_eq_true hb, hd] at ht; cases ht
theorem Agree.hav {p q : List (Nat × Nat)} {j f' f : Nat → Value} (h : Agree p f' f) (hq : ∀ t, inR q t = true → inR p t = true) : Agree p (hav q j f') f := fun t ht => by
  unfold Proofs.Yteojpdijmnpmgaa.hav
  cases hb : inR q t
  · exact h t ht
  · rw [hq t hb] at ht; cases ht
theorem Agree.ups {p : List (Nat × Nat)} {f' f : Nat → Value} (h : Agree p f' f) : ∀ {l : List (Nat × Value)}, (∀ q ∈ l, inR p q.1 = true) → Agree p (ups l f') f
  | [], _ => h
  | (d, v) :: l, hl => Agree.up (Agree.ups h fun q hq => hl q (.tail _ hq)) (hl (d, v) (.head _))
def subR (q p : List (Nat × Nat)) : Bool := q.all fun r => p.any fun s => Nat.ble s.1 r.1 && Nat.ble r.2 s.2
theorem inR_iff {p : List (Nat × Nat)} {t : Nat} : inR p t = true ↔ ∃ r ∈ p, r.1 ≤ t ∧ t ≤ r.2 := by
  induction p with
  | nil => simp [inR]
  | cons r p ih =>
    obtain ⟨lo, hi⟩ := r
    unfold inR
    cases hb : (Nat.ble lo t && Nat.ble t hi) with
    | true =>
      simp only [cond_true, true_iff]
      rw [Bool.and_eq_true] at hb
      exact ⟨(lo, hi), .head _, Nat.le_of_ble_eq_true hb.1, Nat.le_of_ble_eq_true hb.2⟩
    | false =>
      simp only [cond_false, ih]
      constructor
      · rintro ⟨r, hr, h⟩; exact ⟨r, .tail _ hr, h⟩
      · rintro ⟨r, hr, h⟩
        cases hr with
        | head =>
          rw [Bool.and_eq_false_iff] at hb
          rcases hb with hb | hb
          · have := Nat.ble_eq_true_of_le h.1; rw [this] at hb; cases hb
          · have := Nat.ble_eq_true_of_le h.2; rw [this] at hb; cases hb
        | tail _ hr => exact ⟨r, hr, h⟩
theorem Agree.hav2 {p q : List (Nat × Nat)} {j f' f : Nat → Value} (h : Agree p f' f) (hq : subR q p = true) : Agree p (Proofs.Yteojpdijmnpmgaa.hav q j f') f := Agree.hav h fun t ht => by
  rw [inR_iff] at ht ⊢
  obtain ⟨r, hr, h1, h2⟩ := ht
  obtain ⟨s, hs, h3⟩ := List.any_eq_true.1 (List.all_eq_true.1 hq r hr)
  rw [Bool.and_eq_true] at h3
  exact ⟨s, hs, Nat.le_trans (Nat.le_of_ble_eq_true h3.1) h1, Nat.le_trans h2 (Nat.le_of_ble_eq_true h3.2)⟩
theorem Agree.ups2 {p : List (Nat × Nat)} {f' f : Nat → Value} {l : List (Nat × Value)} (h : Agree p f' f) (hl : (l.all fun q => inR p q.1) = true) : Agree p (Proofs.Yteojpdijmnpmgaa.ups l f') f := Agree.ups h fun q hq => List.all_eq_true.1 hl q hq
def MatchF (f : Nat → Value) : List (Nat × Value) → Prop
  | [] => True
  | (d, v) :: l => f d = v ∧ MatchF f l
theorem ups_of_match {f : Nat → Value} : ∀ {l : List (Nat × Value)} {g : Nat → Value}, MatchF f l → ∀ t, (f t = g t ∨ ∃ q ∈ l, q.1 = t) → ups l g t = f t
  | [], g, _, t, h => by
    rcases h with h | ⟨q, hq, _⟩
    · exact h.symm
    · cases hq
  | (d, v) :: l, g, hm, t, h => by
    show up (ups l g) d v t = f t
    unfold up
    cases hb : Nat.beq t d
    · refine ups_of_match hm.2 t ?_
      rcases h with h | ⟨q, hq, hqt⟩
      · exact .inl h
      · cases hq with
        | head => rw [← hqt] at hb; simp at hb
        | tail _ hq => exact .inr ⟨q, hq, hqt⟩
    · show v = f t
      rw [Nat.eq_of_beq_eq_true hb]; exact hm.1.symm
/-- A frame that agrees but in p is one that is known in the slots named and forgotten in p. -/
theorem norm_frame {p : List (Nat × Nat)} {f' f : Nat → Value} {l : List (Nat × Value)} (h : Agree p f' f) (hm : MatchF f' l) : f' = ups l (hav p f' f) := by
  funext t
  refine (ups_of_match hm t ?_).symm
  unfold hav
  cases hb : inR p t
  · exact .inl (h t hb)
  · exact .inl rfl
/-- What a piece of code comes to: some slots known, others forgotten, the world as J says. -/
def Came {τ : Type} (n : Nat) (p : List (Nat × Nat)) (f : Nat → Value) (sl : τ → List (Nat × Value)) (J : τ → World → Prop) : Act → World → Prop := fun a w =>
  ∃ x f', a = E n f' ∧ Agree p f' f ∧ MatchF f' (sl x) ∧ J x w
theorem came {τ : Type} {p : List (Nat × Nat)} {f f' : Nat → Value} {sl : τ → List (Nat × Value)} {J : τ → World → Prop} (x : τ) (h : Agree p f' f) (hm : MatchF f' (sl x)) (hJ : J x w) : Came n p f sl J (E n f') w := ⟨x, f', rfl, h, hm, hJ⟩
theorem Came.elim {τ : Type} {p : List (Nat × Nat)} {f : Nat → Value} {sl : τ → List (Nat × Value)} {J : τ → World → Prop} {a : Act} (h : Came n p f sl J a w) {K : Act → World → Prop}
    (k : ∀ x j w, J x w → K (E n (ups (sl x) (hav p j f))) w) : K a w := by
  obtain ⟨x, f', rfl, hA, hm, hJ⟩ := h
  have := k x f' w hJ
  rwa [← norm_frame hA hm] at this
/-- Cut: behind c some slots are known, the others that it may have written are forgotten. -/
theorem c_cut {τ : Type} {c c' : Code} (p : List (Nat × Nat)) (sl : τ → List (Nat × Value)) (J : τ → World → Prop)
    (h : ∀ K : Act → World → Prop, (∀ a w, Came n p f sl J a w → K a w) → c.wp P (Exit.then K Q) (E n f) w) (k : ∀ x j w, J x w → c'.wp P Q (E n (ups (sl x) (hav p j f))) w) : (Code.seq c c').wp P Q (E n f) w :=
  wp_seq (h _ fun a w hc => hc.elim (K := fun a w => c'.wp P Q a w) k)
theorem c_loop {τ : Type} {c : Code} (p : List (Nat × Nat)) (sl : τ → List (Nat × Value)) (J : τ → World → Prop) (μ : τ → Nat) (x0 : τ) (h0 : J x0 w) (hm0 : MatchF f (sl x0))
    (round : ∀ x j w, J x w → ∀ K : Act → World → Prop, (∀ a w, Came n p f sl (fun x' w' => J x' w' ∧ μ x' < μ x) a w → K a w) → c.wp P (Exit.then K Q) (E n (ups (sl x) (hav p j f))) w) : (Code.loop c).wp P Q (E n f) w := by
  let I : Nat → Act → World → Prop := fun m a w => ∃ x f', a = E n f' ∧ Agree p f' f ∧ MatchF f' (sl x) ∧ J x w ∧ μ x = m
  intro b k cs
  have key : ∀ m a w, I m a w → ∃ e a' w', Q e a' w' ∧ Arrives P (lone (b.at a (.code c :: .inLoop c :: k)) cs w) b k cs e a' w' := by
    intro m
    induction m using Nat.strongRecOn with
    | _ m ih =>
      rintro a w ⟨x, f', rfl, hA, hm, hJ, hmu⟩
      have hr := round x f' w hJ (fun a' w' => ∃ m', m' < m ∧ I m' a' w') (by
        rintro a' w' ⟨x', f'', rfl, hA', hm', hJ', hlt⟩
        exact ⟨μ x', hmu ▸ hlt, x', f'', rfl, hA', hm', hJ', rfl⟩)
      rw [← norm_frame hA hm] at hr
      obtain ⟨e, a₁, w₁, hq, harr⟩ := hr b (.inLoop c :: k) cs
      cases e with
      | normal =>
        obtain ⟨m', hlt, hI⟩ := hq
        obtain ⟨e₂, a₂, w₂, hq₂, harr₂⟩ := ih m' hlt a₁ w₁ hI
        exact ⟨e₂, a₂, w₂, hq₂, .of_steps (Steps.trans harr (.one step_inLoop)) harr₂⟩
      | exit id => exact ⟨_, a₁, w₁, hq, .pass (x := .inLoop c) rfl (fun _ _ => .inl (by simp)) harr⟩
      | goto l => exact ⟨_, a₁, w₁, hq, .pass (x := .inLoop c) rfl (fun _ _ => .inl (by simp)) harr⟩
      | ret => exact ⟨_, a₁, w₁, hq, .pass (x := .inLoop c) rfl (fun _ _ => .inl (by simp)) harr⟩
      | panic ch => exact ⟨_, a₁, w₁, hq, .pass (x := .inLoop c) rfl (fun _ _ => .inl (by simp)) harr⟩
      | outgrown => exact ⟨_, a₁, w₁, hq, .pass (x := .inLoop c) rfl (fun _ _ => .inl (by simp)) harr⟩
  obtain ⟨e, a', w', hq, harr⟩ := key _ _ _ ⟨x0, f, rfl, .refl _ _, hm0, h0, rfl⟩
  exact ⟨e, a', w', hq, .of_steps (.one step_loop) harr⟩
theorem g_splitL {rest : List Oper} {t : Nat} {b : Bool} (h : ev n f (.tmp t) = .bool b) (h1 : b = true → wpList P ops Q rest (E n f) w) (h0 : b = false → wpList P ops Q rest (E n f) w) : wpList P ops Q rest (E n f) w := by
  cases b
  · exact h0 rfl
  · exact h1 rfl
theorem int_succ (k : Nat) : Value.int .i64 ((k : Int) + 1) = .int .i64 ((k + 1 : Nat) : Int) := by simp
theorem one_if {v : Value} (h : IsIf v) : v.oneCell' = true := by rcases h with rfl | ⟨t, u, rfl⟩ <;> rfl
end
end Go.Proofs.Yteojpdijmnpmgaa
namespace Go.Proofs.Yteojpdijmnpmgaa
open Go.RowKit

section
variable {P : Program} {ops : Array Oper} {Q : Exit → Act → World → Prop} {n : Nat} {f : Nat → Value} {w w0 : World} {D : Nat → Prop} {Γ : List Ch} {K : Act → World → Prop}
variable {d : Option Tmp} {dd : Nat} {x y z : Operand} {ty T T' : TypeId} {pos : String} {aft : Array Edge} {g : Option (Nat × Bool)}

/-! ### pieces and cells -/
theorem St.blk {b : Nat} {o : Obj} {i : Nat} (h : St w0 D Γ w) (hi : Γ[i]? = some (.blk b o)) : w.heap[b]? = some o := (h.sat.get hi).1
theorem St.cell {b off : Nat} {arr : Array Value} {T : TypeId} {fz : Nat × Nat} {v : Value} {i : Nat} (h : St w0 D Γ w) (hi : Γ[i]? = some (.blk b (.cells arr T fz))) (hv : arr[off]? = some v) : w.cell? ⟨b, off, none⟩ = some v :=
  cell_blk (h.blk hi) hv
/-- A row of the call's own, of unknown room. -/
def Ch.sl (e : TypeId) (size : Nat) (v : Value) (m : Nat) (xs : List Value) : Ch :=
  .gen (fun k => v.ownBlock = some k) (fun w => w.ownsRow 0 e size v m xs) (fun w w' hk h => by
    refine ⟨h.1, h.2.imp id ?_⟩
    rintro ⟨gb, cap, cur, rfl, h1, h2, r⟩
    exact ⟨gb, cap, cur, rfl, h1, (hk gb rfl).trans h2, r⟩)
theorem St.sl {e : TypeId} {size m i : Nat} {v : Value} {xs : List Value} (h : St w0 D Γ w) (hi : Γ[i]? = some (.sl e size v m xs)) : w.ownsRow 0 e size v m xs := (h.sat.get hi).1
/-- One piece is seen otherwise. -/
theorem St.recast {i : Nat} {c c' : Ch} (h : St w0 D Γ w) (hi : Γ[i]? = some c) (ho : ∀ k, c'.own k → c.own k) (hs : c.sat w → c'.sat w) : St w0 D (Γ.set i c') w :=
  ⟨h.os, h.tape, h.output, h.size, h.keep, h.sat.put (Nat.le_refl _) hi (fun _ _ _ => rfl) (hs (h.sat.get hi).1) fun k hk => ⟨.inl (ho k hk), ((h.sat.get hi).2 k (ho k hk)).2⟩⟩
/-- Two pieces are seen as one. -/
theorem St.join {c d c' : Ch} (h : St w0 D (c :: d :: Γ) w) (ho : ∀ k, c'.own k → c.own k ∨ d.own k) (hs : c.sat w → d.sat w → c'.sat w) : St w0 D (c' :: Γ) w := by
  obtain ⟨h1, h2, h3, k1, k2, k3, k4⟩ := h.sat
  refine ⟨h.os, h.tape, h.output, h.size, h.keep, hs h1 k1, fun k hk => (ho k hk).elim (h2 k) (k2 k), fun e he k hk => (ho k hk).elim (h3 e (.tail _ he) k) (k3 e he k), k4⟩
/-! ### what makes memory -/
theorem e_new {v : Value} {o : Oper} {ob : Obj} (hS : St w0 D Γ w) (hd : o.dst = some dd) (hr : (execOp (ev n f) o).run P w = .ok (.value v) (w.alloc ob)) (h : ∀ w', St w0 D (.blk w.heap.size ob :: Γ) w' → K (E n (up f dd v)) w') : o.wp P (E n f) w K Q := by
  unfold Oper.wp
  rw [E_eval, hr]
  simp only [Oper.upon, hd, E_put]
  exact h _ (hS.alloc ob)
theorem e_alloc {zv : Value} (hS : St w0 D Γ w) (hz : zeroB P T = some zv) (h : ∀ b w', St w0 D (.blk b (.cells zv.cells T) :: Γ) w' → K (E n (up f dd (.pointer (some ⟨b, 0, none⟩)))) w') : Oper.wp P ⟨some dd, .alloc T, ty, pos, aft, g⟩ (E n f) w K Q :=
  e_new hS rfl (by simp [execOp, Instr.alloc, run_zero hz, newVar, newRow, newObj, Sem.run]) (fun w' hw => h _ w' hw)
theorem e_box {v : Value} (hS : St w0 D Γ w) (hx : ev n f x = v) (h : ∀ b w', St w0 D (.blk b (.cells v.cells T) :: Γ) w' → K (E n (up f dd (.pointer (some ⟨b, 0, none⟩)))) w') : Oper.wp P ⟨some dd, .box T x, ty, pos, aft, g⟩ (E n f) w K Q :=
  e_new hS rfl (by subst hx; simp [execOp, Instr.box, newVar, newRow, newObj, Sem.run]) (fun w' hw => h _ w' hw)
theorem e_boxA {cs : List Value} (hS : St w0 D Γ w) (hx : ev n f x = .agg cs.toArray) (h : ∀ b w', St w0 D (.blk b (.cells cs.toArray T) :: Γ) w' → K (E n (up f dd (.pointer (some ⟨b, 0, none⟩)))) w') : Oper.wp P ⟨some dd, .box T x, ty, pos, aft, g⟩ (E n f) w K Q :=
  e_box hS hx h
/-- One cell is written. -/
theorem e_store1 {v : Value} {b off i : Nat} {arr : Array Value} {T2 : TypeId} (hS : St w0 D Γ w) (hx : ev n f x = .pointer (some ⟨b, off, none⟩)) (hy : ev n f y = v) (hz : szB P T = some 1) (hv : v.oneCell' = true) (hi : Γ[i]? = some (.blk b (.cells arr T2))) (ho : Nat.blt off arr.size = true)
    (h : ∀ w', St w0 D (Γ.set i (.blk b (.cells (arr.setIfInBounds off v) T2))) w' → K (E n f) w') : Oper.wp P ⟨none, .store T x y, ty, pos, aft, g⟩ (E n f) w K Q := by
  have hb := hS.blk hi
  have hlt : off < arr.size := by rw [blt_iff] at ho; simpa using ho
  have hc : w.cell? ⟨b, off, none⟩ = some arr[off] := cell_blk hb (by simp [hlt])
  have hfz : w.frozen? ⟨b, off, none⟩ = false := by simp [World.frozen?, hb]
  have hvc : v.cells = #[v] := by cases v <;> simp [Value.oneCell'] at hv <;> rfl
  have hrun : (Instr.storeAt T (.pointer (some ⟨b, off, none⟩)) v).run P w = .ok () (w.setCell ⟨b, off, none⟩ v) := by
    simp only [Instr.storeAt, Instr.sureAddr, Sem.run_bind, Sem.run_pure, Result.andThen_ok, storeVar, hvc, run_sizeOf hz]
    have ha : Addr.add ⟨b, off, none⟩ 0 = ⟨b, off, none⟩ := rfl
    cases v <;> simp [Value.oneCell'] at hv <;> simp [storeCells, store, ha, Sem.run, hc, hfz]
  unfold Oper.wp
  rw [E_eval]
  simp only [execOp, hx, hy, Sem.run_bind, hrun, Result.andThen_ok, Sem.run_pure, Oper.upon]
  refine h _ (hS.setBlk hi rfl rfl rfl (by simp [World.setCell]) ?_ fun k hk => Below.heap_setCell _ _ _ _ hk)
  simp [World.setCell, Array.getElem?_modify, hb]

def AllOne : List Value → Prop
  | [] => True
  | v :: l => v.oneCell' = true ∧ AllOne l
theorem AllOne.all : ∀ {l : List Value}, AllOne l → ∀ u ∈ l, u.oneCell' = true
  | v :: l, h, u, hu => by
    cases hu with
    | head => exact h.1
    | tail _ hu => exact AllOne.all h.2 u hu
/-- A whole block is written: a struct. -/
theorem e_storeA {b i : Nat} {arr : Array Value} {T2 : TypeId} {cs : List Value} (hS : St w0 D Γ w) (hx : ev n f x = .pointer (some ⟨b, 0, none⟩)) (hy : ev n f y = .agg cs.toArray) (hz : szB P T = some cs.length) (h1' : AllOne cs) (hi : Γ[i]? = some (.blk b (.cells arr T2))) (hl : Nat.beq arr.size cs.length = true)
    (h : ∀ w', St w0 D (Γ.set i (.blk b (.cells cs.toArray T2))) w' → K (E n f) w') : Oper.wp P ⟨none, .store T x y, ty, pos, aft, g⟩ (E n f) w K Q := by
  have h1 := h1'.all
  have hb := hS.blk hi
  have hl' : arr.size = cs.length := Nat.eq_of_beq_eq_true hl
  have hst := run_storeCells_at P b 0 T2 cs 0 arr w hb (by omega) h1
  have harr : (arr.toList.take (0 + 0) ++ cs ++ arr.toList.drop (0 + 0 + cs.length)) = cs := by
    have h1 : arr.toList.drop (0 + 0 + cs.length) = [] := List.drop_eq_nil_of_le (by simp; omega)
    rw [h1]; simp
  rw [harr] at hst
  have hrun : (Instr.storeAt T (.pointer (some ⟨b, 0, none⟩)) (.agg cs.toArray)).run P w = .ok () (w.setRow b cs.toArray) := by
    have hc : (Value.agg cs.toArray).cells = cs.toArray := rfl
    simp only [Instr.storeAt, Instr.sureAddr, Sem.run_bind, Sem.run_pure, Result.andThen_ok, storeVar, hc, run_sizeOf hz]
    rw [if_neg (by simp)]
    simpa using hst
  unfold Oper.wp
  rw [E_eval]
  simp only [execOp, hx, hy, Sem.run_bind, hrun, Result.andThen_ok, Sem.run_pure, Oper.upon]
  exact h _ (hS.setBlk hi rfl rfl rfl (by simp) (setRow_heap w b arr _ T2 _ hb) fun k hk => setRow_other w b k _ hk)

/-- Elements of one cell each. -/
theorem fill_ones : ∀ (l : List Value) (i : Nat) (pre : List Value), (∀ v ∈ l, v.oneCell' = true) → pre.length = i → ∀ (post : List Value), l.length = post.length →
    Instr.fill (fun i => some (i * 1, 1)) (pre ++ post).toArray ((l.zipIdx i).map fun q => (q.2, q.1)) = some (pre ++ l).toArray
  | [], i, pre, _, _, post, hl => by
    have : post = [] := List.eq_nil_of_length_eq_zero hl.symm
    simp [Instr.fill, this]
  | v :: l, i, pre, h1, hp, [], hl => by simp at hl
  | v :: l, i, pre, h1, hp, u :: post, hl => by
    have hvc : v.cells = #[v] := by have := h1 v (.head _); cases v <;> simp [Value.oneCell'] at this <;> rfl
    have ih := fill_ones l (i + 1) (pre ++ [v]) (fun u hu => h1 u (.tail _ hu)) (by simp [hp]) post (by simpa using hl)
    simp only [List.zipIdx_cons, List.map_cons, Instr.fill, hvc]
    rw [if_neg (by simp; omega)]
    have : (Array.foldl (fun cs x => Array.setIfInBounds cs (i * 1 + x.2) x.1) (pre ++ u :: post).toArray (Array.zipIdx #[v])) = (pre ++ [v] ++ post).toArray := by
      subst hp
      simp
    rw [this, ih]
    simp
theorem e_buildSlice1 {e : TypeId} {zv : Value} {xs : List Operand} {vs : List Value} {m : Nat} {parts : List (Nat × Operand)} (hS : St w0 D Γ w) (ht : slB P T = some e) (hz : szB P e = some 1) (hzv : zeroB P e = some zv) (hzc : zv.cells.size = 1)
    (hp : parts = (xs.zipIdx).map fun q => (q.2, q.1)) (hxs : evl n f xs = vs) (hm : vs.length = m) (h1 : ∀ v ∈ vs, v.oneCell' = true) (hle : Nat.ble m 16777216 = true)
    (h : ∀ b w', St w0 D (.blk b (.cells vs.toArray e) :: Γ) w' → K (E n (up f dd (.slice (some ⟨b, 0, none⟩) m m))) w') : Oper.wp P ⟨some dd, .buildSlice T m parts.toArray, ty, pos, aft, g⟩ (E n f) w K Q := by
  refine e_new hS rfl ?_ (fun w' hw => h _ w' hw)
  have hlen : m ≤ 16777216 := Nat.le_of_ble_eq_true hle
  have hfl : Instr.fill (fun i => some (i * 1, 1)) ((Array.range (m * 1)).map (zv.cells[· % zv.cells.size]!)) ((parts.map fun q => (q.1, ev n f q.2))) = some vs.toArray := by
    have hmap : (parts.map fun q => (q.1, ev n f q.2)) = (vs.zipIdx 0).map fun q => (q.2, q.1) := by
      rw [hp, ← hxs, evl_eq, List.zipIdx_map]; simp
    rw [hmap]
    have key : ∀ arr : Array Value, vs.length = arr.size → Instr.fill (fun i => some (i * 1, 1)) arr ((vs.zipIdx 0).map fun q => (q.2, q.1)) = some vs.toArray := fun arr ha => by
      have := fill_ones vs 0 [] h1 rfl arr.toList (by simpa using ha)
      simpa using this
    exact key _ (by simp [hm])
  have hmp : (parts.toArray.map fun (i, x) => (i, ev n f x)).toList = parts.map fun q => (q.1, ev n f q.2) := by simp
  simp only [execOp, Sem.run_bind, Instr.buildSlice, run_undSl ht, Result.andThen_ok, run_sizeOf hz]
  rw [if_neg (by omega)]
  by_cases hm0 : m * 1 = 0
  · have hv0 : vs = [] := List.eq_nil_of_length_eq_zero (by omega)
    subst hv0
    have hp0 : parts = [] := by
      rw [hp]; have : xs = [] := by cases xs with
        | nil => rfl
        | cons a l => simp [evl] at hxs
      simp [this]
    subst hp0
    simp at hm; subst hm
    simp [Instr.fill, newRow, newObj, Sem.run]
    have : (Array.map (fun x => (default : Value)) (Array.range 0)) = #[] := by simp
    rw [this]
  · rw [if_neg hm0]
    simp only [Sem.run_bind, run_zero hzv, Result.andThen_ok, Sem.run_pure, hmp, hfl]
    simp [newRow, newObj, Sem.run]

theorem setMany_full : ∀ (cs pre post : List Value), post.length = cs.length → setMany (pre ++ post) pre.length cs = pre ++ cs
  | [], pre, post, h => by
    have : post = [] := List.eq_nil_of_length_eq_zero (by simpa using h)
    simp [setMany, this]
  | v :: cs, pre, [], h => by simp at h
  | v :: cs, pre, u :: post, h => by
    have ih := setMany_full cs (pre ++ [v]) post (by simpa using h)
    simp only [setMany]
    have h1 : (pre ++ u :: post).set pre.length v = pre ++ [v] ++ post := by simp
    have h2 : pre.length + 1 = (pre ++ [v]).length := by simp
    rw [h1, h2, ih]; simp
/-- One element that is a struct. -/
theorem e_buildSliceA {e : TypeId} {zv : Value} {cs : List Value} {m : Nat} (hS : St w0 D Γ w) (ht : slB P T = some e) (hz : szB P e = some m) (hzv : zeroB P e = some zv) (hx : ev n f x = .agg cs.toArray) (hm : cs.length = m) (hpos : Nat.blt 0 m = true) (hle : Nat.ble m 16777216 = true)
    (h : ∀ b w', St w0 D (.blk b (.cells cs.toArray e) :: Γ) w' → K (E n (up f dd (.slice (some ⟨b, 0, none⟩) 1 1))) w') : Oper.wp P ⟨some dd, .buildSlice T 1 (List.toArray [(0, x)]), ty, pos, aft, g⟩ (E n f) w K Q := by
  refine e_new hS rfl ?_ (fun w' hw => h _ w' hw)
  have hlen : m ≤ 16777216 := Nat.le_of_ble_eq_true hle
  rw [blt_iff] at hpos
  have hpos' : 0 < m := by simpa using hpos
  have hfl : ∀ arr : Array Value, arr.size = m → Instr.fill (fun i => some (i * m, m)) arr [(0, .agg cs.toArray)] = some cs.toArray := fun arr ha => by
    have hc : (Value.agg cs.toArray).cells = cs.toArray := rfl
    simp only [Instr.fill, hc]
    rw [if_neg (by simp; omega)]
    have h4 := foldl_setMany cs arr.toList 0 0
    have h5 := setMany_full cs [] arr.toList (by simp; omega)
    simp only [List.nil_append, List.length_nil] at h5
    have h6 : Array.foldl (fun (cs : Array Value) x => Array.setIfInBounds cs (0 * m + x.2) x.1) arr cs.toArray.zipIdx = cs.toArray := by
      rw [← Array.foldl_toList, Array.toList_zipIdx, Nat.zero_mul]
      rw [h5] at h4
      simpa using h4
    rw [h6]
  simp only [execOp, Sem.run_bind, Instr.buildSlice, run_undSl ht, Result.andThen_ok, run_sizeOf hz]
  rw [if_neg (by omega), if_neg (by omega)]
  simp only [Sem.run_bind, run_zero hzv, Result.andThen_ok, Sem.run_pure, List.map_toArray, List.map_cons, List.map_nil, hx]
  rw [hfl _ (by simp)]
  simp [newRow, newObj, Sem.run]

/-! ### append onto a row of the call's own -/
/-- The element type of a slice: its size in cells, in bytes. -/
def appB (P : Program) (t : TypeId) (e size bytes : Nat) : Bool := match P.underlying t, P.info? e with
  | some (.slice e'), some i => e' == e && i.size == size && i.bytes == bytes && (match i.zero with | some z => z.cells.size == size | none => false) && Nat.blt 0 size
  | _, _ => false
/-! ### calls -/
def callB (P : Program) (fid : FuncId) : Bool := match P.funcs[fid]? with
  | some fn => fn.name != "runtime.NumGoroutine" && fn.body.isSome
  | none => false
theorem run_callFunc {fid : FuncId} (h : callB P fid = true) (args : Array Value) : (callFunc fid args).run P w = .ok (.enter fid args) w := by
  unfold callB at h
  cases hf : P.funcs[fid]? with
  | none => simp [hf] at h
  | some fn =>
    simp [hf] at h
    have hb : fn.body.isNone = false := by cases hb : fn.body <;> simp_all
    simp [callFunc, program, Sem.run, hf, h.1, hb]
    intro hn; simp [hn] at hb
/-- What a call leaves. -/
def After (n : Nat) (f : Nat → Value) (d : Option Tmp) (Q : Exit → Act → World → Prop) (K : Act → World → Prop) : Ending → World → Prop := fun e w' => match e with
  | .returned v => K ((E n f).put d v) w'
  | .panicked c => Q (.panic c) (E n f) w'
  | .outgrown => LetsOut Q
theorem wp_enter {o : Oper} {fid : FuncId} {args : Array Value} {R : Ending → World → Prop} (hr : (execOp (ev n f) o).run P w = .ok (.enter fid args) w) (hc : Calls P fid args w R) (hk : ∀ e w', R e w' → After n f o.dst Q K e w') : o.wp P (E n f) w K Q := by
  unfold Oper.wp
  rw [E_eval, hr]
  exact hc.mono fun e w' he => by cases e <;> exact hk _ _ he
theorem e_call {fid : FuncId} {args : List Operand} {vs : List Value} {ts : Array TypeId} {R : Ending → World → Prop} (hb : callB P fid = true) (hc : Calls P fid vs.toArray w R) (ha : evl n f args = vs) (hk : ∀ e w', R e w' → After n f d Q K e w') :
    Oper.wp P ⟨d, .call ⟨.value (.func fid), args.toArray, ts⟩, ty, pos, aft, g⟩ (E n f) w K Q := by
  refine wp_enter (fid := fid) ?_ hc hk
  subst ha
  simp [execOp, resolve, ev, Deferred.ofValue, invoke, run_callFunc hb, evl_eq]
theorem e_callV {fid : FuncId} {args : List Operand} {fs cs : Array Value} {vs : List Value} {ts : Array TypeId} {R : Ending → World → Prop} (hb : callB P fid = true) (hx : ev n f x = .func (.func fid) fs cs) (hc : Calls P fid vs.toArray w R) (ha : fs.toList ++ evl n f args ++ cs.toList = vs) (hk : ∀ e w', R e w' → After n f d Q K e w') :
    Oper.wp P ⟨d, .call ⟨.value x, args.toArray, ts⟩, ty, pos, aft, g⟩ (E n f) w K Q := by
  refine wp_enter (fid := fid) ?_ hc hk
  subst ha
  have : fs ++ (args.toArray.map (ev n f)) ++ cs = (fs.toList ++ evl n f args ++ cs.toList).toArray := by simp [evl_eq]
  simp [execOp, resolve, hx, Deferred.ofValue, invoke, run_callFunc hb, evl_eq]
/-- A call that makes pieces of its own, and turns nothing that was there. -/
def PostN (w : World) (φ : Value → List Ch → Prop) : Ending → World → Prop := fun e w' => ∃ v Γ', e = .returned v ∧ φ v Γ' ∧ St w (fun _ => False) Γ' w'
theorem after_R {φ : Value → Prop} (hS : St w0 D Γ w) (h : ∀ v w', φ v → St w0 D Γ w' → K (E n (up f dd v)) w') : ∀ e w', PostR w φ e w' → After n f (some dd) Q K e w' := by
  rintro e w' ⟨v, rfl, hv, hw⟩
  show K ((E n f).put (some dd) v) w'
  rw [E_put]; exact h v w' hv (hS.frameR hw)
theorem after_N {φ : Value → List Ch → Prop} (hS : St w0 D Γ w) (h : ∀ v Γ' w', φ v Γ' → St w0 D (Γ' ++ Γ) w' → K (E n (up f dd v)) w') : ∀ e w', PostN w φ e w' → After n f (some dd) Q K e w' := by
  rintro e w' ⟨v, Γ', rfl, hv, hw⟩
  show K ((E n f).put (some dd) v) w'
  rw [E_put]; exact h v Γ' w' hv (hS.frameN hw)
theorem after_M {φ : Value → List Ch → Prop} {Γ1 F : List Ch} (hS : St w0 D (Γ1 ++ F) w) (h : ∀ v Γ' w', φ v Γ' → St w0 D (Γ' ++ F) w' → K (E n (up f dd v)) w') : ∀ e w', Post w Γ1 φ e w' → After n f (some dd) Q K e w' := by
  rintro e w' ⟨v, Γ', rfl, hv, hw⟩
  show K ((E n f).put (some dd) v) w'
  rw [E_put]; exact h v Γ' w' hv (hS.frame hw)

/-! ### functions without a body -/
theorem q_ext {fid : FuncId} {args : List Operand} {vs : List Value} {ts : Array TypeId} {v : Value} (hx : evl n f args = vs) (h : (callFunc fid vs.toArray).run P w = .ok (.value v) w) : Run P n f ⟨d, .call ⟨.value (.func fid), args.toArray, ts⟩, ty, pos, aft, g⟩ w v := by
  subst hx; rw [evl_eq] at h; simpa [Run, execOp, resolve, ev, Deferred.ofValue, invoke] using h
theorem St.free {b off i : Nat} {arr : Array Value} {T2 : TypeId} (h : St w0 D Γ w) (hi : Γ[i]? = some (.blk b (.cells arr T2))) : w.frozen? ⟨b, off, none⟩ = false := by
  simp [World.frozen?, h.blk hi]
/-! ### regions that draw their order -/
/-- Whichever order: of each step that operation j makes, what O says is shown. -/
def wpAnyO (P : Program) (ops : Array Oper) (Q : Exit → Act → World → Prop) (O : Nat → World → World → Prop) : Nat → Array Bool → Act → World → Prop
  | 0, listed, a, w => Region.ready .any ops listed = [] ∧ Q .normal a w
  | fuel + 1, listed, a, w =>
    (Region.ready .any ops listed = [] → Q .normal a w) ∧
    ∀ i ∈ Region.ready .any ops listed, wpOp P ops Q i (fun a' w' => O i w w' ∧ wpAnyO P ops Q O fuel (listed.setIfInBounds i true) a' w') a w
theorem wpAny_of_O {O : Nat → World → World → Prop} : ∀ (fuel : Nat) (listed : Array Bool) (a : Act) (w : World), wpAnyO P ops Q O fuel listed a w → wpAny P .any ops Q fuel listed a w
  | 0, _, _, _, h => h
  | fuel + 1, _, _, _, h => ⟨h.1, fun i hi => wpOp_mono (fun a' w' h' => wpAny_of_O fuel _ a' w' h'.2) (h.2 i hi)⟩
theorem r_any {id : Nat} {l : List Oper} (hm : P.follows .mixedOrders = true) (hS : St w0 D Γ w)
    (h : ∀ w', St w0 D Γ w' → wpAnyO P l.toArray Q (fun _ _ _ => True) l.toArray.size (Array.replicate l.toArray.size false) (E n f) w') : (Code.region id l.toArray true).wp P Q (E n f) w :=
  wp_region_any hm (wpAny_of_O _ _ _ _ (h _ (hS.drawn _)))
def inL : List Nat → Nat → Bool
  | [], _ => false
  | a :: l, t => bif Nat.beq t a then true else inL l t
/-- dep: numbers of operations each of which waits for i, or for another one of them. -/
def depOk (ops : Array Oper) (i : Nat) (dep : List Nat) : Bool := dep.all fun j => match ops[j]? with
  | some o => o.after.any fun e => Region.binds .any e && (e.on == i || inL dep e.on)
  | none => true
def depOff (listed : Array Bool) (dep : List Nat) : Bool := dep.all fun j => !listed.getD j false
theorem inL_iff {l : List Nat} {t : Nat} : inL l t = true ↔ t ∈ l := by
  induction l with
  | nil => simp [inL]
  | cons a l ih =>
    unfold inL
    cases hb : Nat.beq t a
    · have : t ≠ a := by rintro rfl; simp at hb
      simp [ih, this]
    · simp [Nat.eq_of_beq_eq_true hb]
theorem wpAnyO_first {O : Nat → World → World → Prop} (hO : ∀ j w, O j w w) {i : Nat} {oi : Oper} {v : Value} (hi : ops[i]? = some oi) (hsel : ∀ (j : Nat) (o : Oper) cs b, ops[j]? = some o → o.op ≠ .select cs b)
    (hQ : ∀ c a w, Q (.panic c) (a.put oi.dst v) w → Q (.panic c) a w) (S : World → Prop) (dep : List Nat) (hdep : depOk ops i dep = true) :
    ∀ (fuel : Nat) (listed : Array Bool) (a : Act) (w : World),
      (∀ j oj, ops[j]? = some oj → j ≠ i → listed.getD j true = false → (∀ e ∈ oj.after, Region.binds .any e = true → e.on ≠ i) → oi.apart ops oj = true) → (∀ j ∈ dep, listed.getD j false = false) →
      i ∈ Region.ready .any ops listed → YieldsIf P ops S oi v a → S w →
      wpAnyO P ops Q (fun j w w' => O j w w' ∧ (inL dep j = false → S w → S w')) fuel (listed.setIfInBounds i true) (a.put oi.dst v) w → wpAnyO P ops Q O (fuel + 1) listed a w := by
  have weak : ∀ (fuel : Nat) (listed : Array Bool) (a : Act) (w : World), wpAnyO P ops Q (fun j w w' => O j w w' ∧ (inL dep j = false → S w → S w')) fuel listed a w → wpAnyO P ops Q O fuel listed a w := by
    intro fuel
    induction fuel with
    | zero => intro listed a w h; exact h
    | succ fuel ih => intro listed a w h; exact ⟨h.1, fun j hj => wpOp_mono (fun a' w' h' => ⟨h'.1.1, ih _ _ _ h'.2⟩) (h.2 j hj)⟩
  intro fuel
  induction fuel with
  | zero =>
    intro listed a w _ _ hr hy hS H
    refine ⟨fun h => (by rw [h] at hr; cases hr), fun j hj => ?_⟩
    by_cases hji : j = i
    · subst hji; exact hy.wpOp hi hS ⟨hO _ _, weak _ _ _ _ H⟩
    · have := ready_mono hj hji
      rw [H.1] at this
      cases this
  | succ fuel ih =>
    intro listed a w hfree hoff hr hy hS H
    refine ⟨fun h => (by rw [h] at hr; cases hr), fun j hj => ?_⟩
    by_cases hji : j = i
    · subst hji; exact hy.wpOp hi hS ⟨hO _ _, weak _ _ _ _ H⟩
    · have h1 := H.2 j (ready_mono hj hji)
      obtain ⟨hjun, oj, hoj, hall⟩ := mem_ready.1 hj
      have hi0 : listed.getD i false = false := by
        have h0 := (mem_ready.1 hr).1
        rcases Nat.lt_or_ge i listed.size with h' | h'
        · simpa [h'] using h0
        · simp [Array.getElem?_eq_none h']
      have hnot : ∀ e ∈ oj.after, Region.binds .any e = true → e.on ≠ i := fun e he hb heq => by
        have h1 := hall e he hb
        rw [heq, hi0] at h1; cases h1
      have hjd : inL dep j = false := by
        cases hjd : inL dep j with
        | false => rfl
        | true =>
          have hjm := inL_iff.1 hjd
          have h2 := List.all_eq_true.1 hdep j hjm
          simp only [hoj] at h2
          obtain ⟨e, he, hb⟩ := Array.any_eq_true'.1 h2
          rw [Bool.and_eq_true, Bool.or_eq_true] at hb
          have h3 := hall e he hb.1
          rcases hb.2 with hb2 | hb2
          · exact absurd (by simpa using hb2) (hnot e he hb.1)
          · rw [hoff e.on (inL_iff.1 hb2)] at h3; cases h3
      have h2 := wpOp_putIf hoj (hfree j oj hoj hji hjun hnot) (fun cs b => hsel i oi cs b hi) (fun cs b => hsel j oj cs b hoj) hQ hy h1
      have hfree' : ∀ k ok, ops[k]? = some ok → k ≠ i → (listed.setIfInBounds j true).getD k true = false →
          (∀ e ∈ ok.after, Region.binds .any e = true → e.on ≠ i) → oi.apart ops ok = true := fun k ok hk hki hun hno => by
        refine hfree k ok hk hki ?_ hno
        by_cases hjk : j = k
        · subst hjk; exact hjun
        · rw [getD_set_ne true hjk] at hun; exact hun
      have hoff' : ∀ k ∈ dep, (listed.setIfInBounds j true).getD k false = false := fun k hk => by
        have hjk : j ≠ k := by rintro rfl; rw [inL_iff.2 hk] at hjd; cases hjd
        rw [getD_set_ne false hjk]; exact hoff k hk
      refine wpOp_mono (fun a' w' h3 => ⟨h3.2.1.1, ih (listed.setIfInBounds j true) a' w' hfree' hoff' (ready_mono hr (Ne.symm hji)) h3.1 (h3.2.1.2 hjd hS) ?_⟩) h2
      rw [Array.setIfInBounds_comm _ _ hji]
      exact h3.2.2
theorem apartOk {i : Nat} {oi : Oper} {listed : Array Bool} (hi : ops[i]? = some oi) (hf : Region.free .any ops listed i = true) :
    ∀ j oj, ops[j]? = some oj → j ≠ i → listed.getD j true = false → (∀ e ∈ oj.after, Region.binds .any e = true → e.on ≠ i) → oi.apart ops oj = true := Region.free_spec hi hf
/-- Does it run: no guard, or the guard lets it. -/
def Goes (ops : Array Oper) (n : Nat) (f : Nat → Value) (o : Oper) : Prop := o.guard = none ∨ ∃ j c, o.guard = some (j, c) ∧ yl ops n f j = some c
theorem Goes.wanted {o : Oper} (h : Goes ops n f o) : Region.wanted o (yielded ops (E n f).tmps) = true := by
  rcases h with h | ⟨j, c, h, hy⟩
  · simp [Region.wanted, h]
  · simp [Region.wanted, h, yl_eq j c hy]
theorem goes0 {o : Oper} (h : o.guard = none) : Goes ops n f o := .inl h
theorem goes1 {o : Oper} {j : Nat} {c t : Bool} (h : o.guard = some (j, c)) (hy : yl ops n f j = some t) (ht : t = c) : Goes ops n f o := .inr ⟨j, c, h, ht ▸ hy⟩
def QOk (Q : Exit → Act → World → Prop) : Prop := ∀ c a d v w, Q (.panic c) (Act.put a d v) w → Q (.panic c) a w
/-- A load, or what may not run in whatever world, is taken first. -/
theorem o_held {O : Nat → World → World → Prop} {i : Nat} {oi : Oper} {v : Value} {fuel : Nat} {listed : Array Bool} (dep : List Nat) (hO : ∀ j w, O j w w) (hi : ops[i]? = some oi) (hd : oi.dst = some dd) (hk : (Region.noSelect ops && Region.free .any ops listed i && (Region.ready .any ops listed).contains i && depOk ops i dep && depOff listed dep) = true)
    (hg : Goes ops n f oi) (hQ : QOk Q) (h : Run P n f oi w v)
    (k : wpAnyO P ops Q (fun j w w' => O j w w' ∧ (inL dep j = false → Run P n f oi w v → Run P n f oi w' v)) fuel (listed.setIfInBounds i true) (E n (up f dd v)) w) : wpAnyO P ops Q O (fuel + 1) listed (E n f) w := by
  simp only [Bool.and_eq_true] at hk
  obtain ⟨⟨⟨⟨h1, h2⟩, h3⟩, h4⟩, h5⟩ := hk
  refine wpAnyO_first hO hi (Region.noSelect_spec h1) (fun c a w => hQ c a _ _ w) (fun w => Run P n f oi w v) dep h4 fuel listed (E n f) w (apartOk hi h2) ?_ (by simpa using h3) (.inl ⟨hg.wanted, fun w hw => by rw [E_eval]; exact hw⟩) h (by rw [hd, E_put]; exact k)
  intro j hj
  have := List.all_eq_true.1 h5 j hj
  simpa using this
/-- What runs in whatever world is taken first. -/
theorem o_pure {O : Nat → World → World → Prop} {i : Nat} {oi : Oper} {v : Value} {fuel : Nat} {listed : Array Bool} (hO : ∀ j w, O j w w) (hi : ops[i]? = some oi) (hd : oi.dst = some dd) (hk : (Region.noSelect ops && Region.free .any ops listed i && (Region.ready .any ops listed).contains i) = true)
    (hg : Goes ops n f oi) (hQ : QOk Q) (h : ∀ w, Run P n f oi w v)
    (k : wpAnyO P ops Q O fuel (listed.setIfInBounds i true) (E n (up f dd v)) w) : wpAnyO P ops Q O (fuel + 1) listed (E n f) w := by
  simp only [Bool.and_eq_true] at hk
  obtain ⟨⟨h1, h2⟩, h3⟩ := hk
  refine wpAnyO_first hO hi (Region.noSelect_spec h1) (fun c a w => hQ c a _ _ w) (fun w => True) [] rfl fuel listed (E n f) w (apartOk hi h2) (fun j hj => by cases hj) (by simpa using h3) (.inl ⟨hg.wanted, fun w _ => by rw [E_eval]; exact h w⟩) trivial ?_
  rw [hd, E_put]
  have : (fun j w w' => O j w w' ∧ (inL [] j = false → True → True)) = O := by funext j w w'; simp
  rw [this]; exact k
/-- A guard that does not let it. -/
theorem o_off {O : Nat → World → World → Prop} {i j : Nat} {c t : Bool} {oi : Oper} {fuel : Nat} {listed : Array Bool} (hO : ∀ j w, O j w w) (hi : ops[i]? = some oi) (hd : oi.dst = some dd) (hk : (Region.noSelect ops && Region.free .any ops listed i && (Region.ready .any ops listed).contains i) = true)
    (hg : oi.guard = some (j, c)) (hy : yl ops n f j = some t) (ht : t = !c) (hQ : QOk Q)
    (k : wpAnyO P ops Q O fuel (listed.setIfInBounds i true) (E n (up f dd undef)) w) : wpAnyO P ops Q O (fuel + 1) listed (E n f) w := by
  subst ht
  simp only [Bool.and_eq_true] at hk
  obtain ⟨⟨h1, h2⟩, h3⟩ := hk
  refine wpAnyO_first hO hi (Region.noSelect_spec h1) (fun c a w => hQ c a _ _ w) (fun w => True) [] rfl fuel listed (E n f) w (apartOk hi h2) (fun j hj => by cases hj) (by simpa using h3) (.inr ⟨by simp [Region.wanted, hg, yl_eq j _ hy], rfl⟩) trivial ?_
  rw [hd, E_put]
  have : (fun j w w' => O j w w' ∧ (inL [] j = false → True → True)) = O := by funext j w w'; simp
  rw [this]; exact k
/-- One alone may come up. -/
theorem o_eff {O : Nat → World → World → Prop} {i : Nat} {oi : Oper} {fuel : Nat} {listed : Array Bool} (hr : Region.ready .any ops listed = [i]) (hi : ops[i]? = some oi) (hg : Goes ops n f oi)
    (h : ∀ K : Act → World → Prop, (∀ a w', O i w w' → wpAnyO P ops Q O fuel (listed.setIfInBounds i true) a w' → K a w') → oi.wp P (E n f) w K Q) : wpAnyO P ops Q O (fuel + 1) listed (E n f) w := by
  refine ⟨fun h0 => (by rw [hr] at h0; cases h0), fun j hj => ?_⟩
  rw [hr] at hj
  obtain rfl : j = i := by simpa using hj
  unfold wpOp
  simp only [hi]
  rw [if_pos hg.wanted]
  exact .inl (h _ fun a w' ho hk => ⟨ho, hk⟩)
theorem o_done {O : Nat → World → World → Prop} {fuel : Nat} {listed : Array Bool} (hr : Region.ready .any ops listed = []) (h : Q .normal (E n f) w) : wpAnyO P ops Q O fuel listed (E n f) w := by
  cases fuel with
  | zero => exact ⟨hr, h⟩
  | succ _ => exact ⟨fun _ => h, by rw [hr]; simp⟩
/-! The posts in use do not hang on the frame at a panic. -/
theorem QOk.body {fn : Func} {R : Ending → World → Prop} : QOk (bodyPost P fn R) := fun c a d v w h => ⟨by have := h.1; cases d <;> exact this, h.2⟩
theorem QOk.then {K : Act → World → Prop} (h : QOk Q) : QOk (Exit.then K Q) := fun c a d v w hq => h c a d v w hq
theorem QOk.inBlock {id : Nat} (h : QOk Q) : QOk (Exit.inBlock id Q) := fun c a d v w hq => h c a d v w hq
theorem g_splitO {O : Nat → World → World → Prop} {fuel : Nat} {listed : Array Bool} {t : Nat} {b : Bool} (h : ev n f (.tmp t) = .bool b) (h1 : b = true → wpAnyO P ops Q O fuel listed (E n f) w) (h0 : b = false → wpAnyO P ops Q O fuel listed (E n f) w) : wpAnyO P ops Q O fuel listed (E n f) w := by
  cases b
  · exact h0 rfl
  · exact h1 rfl
/-- Nothing is owned yet. -/
theorem St.start (w : World) : St w (fun _ => False) [] w := St.refl w _
end
end Go.Proofs.Yteojpdijmnpmgaa
namespace Go.Proofs.Yteojpdijmnpmgaa
open Go.RowKit
section
variable {P : Program} {n : Nat} {f : Nat → Value} {w : World}
variable {d : Option Tmp} {x y : Operand} {ty T T' : TypeId} {pos : String} {aft : Array Edge} {g : Option (Nat × Bool)}
theorem wrap_nat (k : IntKind) {a : Nat} (h : a < 2 ^ (k.bits - 1)) : k.wrap (a : Int) = (a : Int) := by
  have h2 : a < 2 ^ k.bits := Nat.lt_of_lt_of_le h (Nat.pow_le_pow_right (by omega) (by omega))
  unfold IntKind.wrap
  have e : (a : Int) % (2 ^ k.bits : Int) = (a : Int) := Int.emod_eq_of_lt (by omega) (by exact_mod_cast h2)
  simp only [e]
  rw [if_neg]
  simp only [Bool.and_eq_true, decide_eq_true_eq, not_and]
  intro _ h3
  have : (2 ^ (k.bits - 1) : Int) = ((2 ^ (k.bits - 1) : Nat) : Int) := by simp
  omega
theorem wrap_u {k : IntKind} (hk : k.signed = false) (a : Nat) : k.wrap (a : Int) = ((a % 2 ^ k.bits : Nat) : Int) := by
  unfold IntKind.wrap
  simp [hk]
theorem wrap_u8 (a : Nat) : IntKind.u8.wrap (a : Int) = ((a % 256 : Nat) : Int) := wrap_u (k := .u8) rfl a
theorem q_shl {k yk : IntKind} {a b : Int} (hx : ev n f x = .int k a) (hy : ev n f y = .int yk b) (h0 : 0 ≤ b) :
    Run P n f ⟨d, .binOp .shl T x y T', ty, pos, aft, g⟩ w (.int k (k.wrap (a * 2 ^ min b.toNat k.bits))) := by
  simp [Run, execOp, hx, hy, binOp, eqGuard, Op.shift, Int.not_lt.2 h0, Sem.run]
theorem q_shr {k yk : IntKind} {a b : Int} (hx : ev n f x = .int k a) (hy : ev n f y = .int yk b) (h0 : 0 ≤ b) :
    Run P n f ⟨d, .binOp .shr T x y T', ty, pos, aft, g⟩ w (.int k (a.fdiv (2 ^ min b.toNat k.bits))) := by
  simp [Run, execOp, hx, hy, binOp, eqGuard, Op.shift, Int.not_lt.2 h0, Sem.run]
theorem q_xor {k : IntKind} {a b : Int} (hx : ev n f x = .int k a) (hy : ev n f y = .int k b) :
    Run P n f ⟨d, .binOp .xor T x y T', ty, pos, aft, g⟩ w (.int k (k.wrap ((BitVec.ofInt k.bits a ^^^ BitVec.ofInt k.bits b).toNat : Int))) := by
  simp [Run, execOp, hx, hy, binOp, eqGuard, Op.intBits, Sem.run]
theorem bv_xor {m a b : Nat} (ha : a < 2 ^ m) (hb : b < 2 ^ m) : (BitVec.ofInt m (a : Int) ^^^ BitVec.ofInt m (b : Int)).toNat = a ^^^ b := by
  rw [BitVec.toNat_xor]
  simp [Nat.mod_eq_of_lt ha, Nat.mod_eq_of_lt hb]
/-- Small numbers without a sign, as naturals. -/
theorem q_xorN {k : IntKind} {a b : Nat} (m : Nat) (hx : ev n f x = .int k (a : Int)) (hy : ev n f y = .int k (b : Int)) (ha : a < 2 ^ m) (hb : b < 2 ^ m) (hm : (k.signed = false ∧ m = k.bits) ∨ m ≤ k.bits - 1) :
    Run P n f ⟨d, .binOp .xor T x y T', ty, pos, aft, g⟩ w (.int k ((a ^^^ b : Nat) : Int)) := by
  have h := q_xor (P := P) (w := w) (d := d) (T := T) (T' := T') (ty := ty) (pos := pos) (aft := aft) (g := g) hx hy
  have hmb : m ≤ k.bits := by rcases hm with ⟨_, h⟩ | h <;> omega
  have ha' : a < 2 ^ k.bits := Nat.lt_of_lt_of_le ha (Nat.pow_le_pow_right (by omega) hmb)
  have hb' : b < 2 ^ k.bits := Nat.lt_of_lt_of_le hb (Nat.pow_le_pow_right (by omega) hmb)
  rw [bv_xor ha' hb'] at h
  have hlt : a ^^^ b < 2 ^ m := Nat.xor_lt_two_pow ha hb
  have e : k.wrap ((a ^^^ b : Nat) : Int) = ((a ^^^ b : Nat) : Int) := by
    rcases hm with ⟨h1, h2⟩ | h1
    · rw [wrap_u h1, Nat.mod_eq_of_lt (by rw [← h2]; exact hlt)]
    · exact wrap_nat k (Nat.lt_of_lt_of_le hlt (Nat.pow_le_pow_right (by omega) h1))
  rwa [e] at h
theorem q_shrN {k yk : IntKind} {a b : Nat} (hx : ev n f x = .int k (a : Int)) (hy : ev n f y = .int yk (b : Int)) (hb : b ≤ k.bits) :
    Run P n f ⟨d, .binOp .shr T x y T', ty, pos, aft, g⟩ w (.int k ((a / 2 ^ b : Nat) : Int)) := by
  have h := q_shr (P := P) (w := w) (d := d) (T := T) (T' := T') (ty := ty) (pos := pos) (aft := aft) (g := g) hx hy (by omega)
  have e : ((a : Int)).fdiv (2 ^ min ((b : Int)).toNat k.bits) = ((a / 2 ^ b : Nat) : Int) := by
    rw [Int.toNat_natCast, Nat.min_eq_left hb, Int.fdiv_eq_ediv_of_nonneg _ (by exact_mod_cast Nat.zero_le _)]
    push_cast
    rfl
  rwa [e] at h
theorem q_shlU {k yk : IntKind} {a b : Nat} (hk : k.signed = false) (hx : ev n f x = .int k (a : Int)) (hy : ev n f y = .int yk (b : Int)) (hb : b ≤ k.bits) :
    Run P n f ⟨d, .binOp .shl T x y T', ty, pos, aft, g⟩ w (.int k ((a * 2 ^ b % 2 ^ k.bits : Nat) : Int)) := by
  have h := q_shl (P := P) (w := w) (d := d) (T := T) (T' := T') (ty := ty) (pos := pos) (aft := aft) (g := g) hx hy (by omega)
  have e : k.wrap ((a : Int) * 2 ^ min ((b : Int)).toNat k.bits) = ((a * 2 ^ b % 2 ^ k.bits : Nat) : Int) := by
    rw [Int.toNat_natCast, Nat.min_eq_left hb, ← wrap_u hk]
    push_cast
    rfl
  rwa [e] at h
theorem q_mulU {k : IntKind} {a b : Nat} (hk : k.signed = false) (hx : ev n f x = .int k (a : Int)) (hy : ev n f y = .int k (b : Int)) :
    Run P n f ⟨d, .binOp .mul T x y T', ty, pos, aft, g⟩ w (.int k ((a * b % 2 ^ k.bits : Nat) : Int)) := by
  have h := q_mul (P := P) (w := w) (d := d) (T := T) (T' := T') (ty := ty) (pos := pos) (aft := aft) (g := g) hx hy
  have e : k.wrap ((a : Int) * (b : Int)) = ((a * b % 2 ^ k.bits : Nat) : Int) := by rw [← wrap_u hk]; push_cast; rfl
  rwa [e] at h
theorem q_convN {k k' : IntKind} {a : Nat} (hx : ev n f x = .int k (a : Int)) (h : P.underlying T' = some (.int k')) (h2 : (P.underlying T).isSome = true) (hw : k'.wrap (a : Int) = (a : Int)) : Run P n f ⟨d, .convert T T' x, ty, pos, aft, g⟩ w (.int k' (a : Int)) := by
  have := q_conv (w := w) (d := d) (ty := ty) (pos := pos) (aft := aft) (g := g) hx h h2
  rwa [hw] at this
end
end Go.Proofs.Yteojpdijmnpmgaa
namespace Go.Proofs.Yteojpdijmnpmgaa
open Go.RowKit

/-! ### ghost heaps -/
abbrev Gh := Nat → Option Obj
def Gle (g h : Gh) : Prop := ∀ k o, g k = some o → h k = some o
def hw (w : World) : Gh := fun k => w.heap[k]?
theorem Gle.refl (g : Gh) : Gle g g := fun _ _ h => h
theorem Gle.trans {g1 g2 g3 : Gh} (h : Gle g1 g2) (h' : Gle g2 g3) : Gle g1 g3 := fun k o e => h' k o (h k o e)
section
variable {w w0 : World} {D : Nat → Prop} {Γ : List Ch}
theorem St.base (h : St w0 (fun _ => False) Γ w) : Gle (hw w0) (hw w) := fun k o e =>
  (h.keep k (Array.getElem?_eq_some_iff.1 e).1 id).trans e
/-- Frozen blocks with what they hold. -/
def Ch.fz (g : Gh) : Ch := .gen (fun k => ∃ o, g k = some o) (fun w => Gle g (hw w)) (fun w w' hk h k o e => (hk k ⟨o, e⟩).trans (h k o e))
theorem St.fz {g : Gh} {i : Nat} (h : St w0 D Γ w) (hi : Γ[i]? = some (.fz g)) : Gle g (hw w) := (h.sat.get hi).1
theorem St.freeze {g : Gh} {b : Nat} {o : Obj} (h : St w0 D (.blk b o :: .fz g :: Γ) w) : ∃ g', Gle g g' ∧ g' b = some o ∧ St w0 D (.fz g' :: Γ) w := by
  refine ⟨fun k => if k = b then some o else g k, ?_, by simp, h.join (c' := .fz _) ?_ ?_⟩
  · intro k o' e
    by_cases hk : k = b
    · subst hk
      exact absurd ⟨o', e⟩ (h.sat.2.2.1 (.fz g) (.head _) k rfl)
    · simp [hk, e]
  · rintro k ⟨o', e⟩
    by_cases hk : k = b
    · exact .inl hk
    · simp [hk] at e; exact .inr ⟨o', e⟩
  · intro h1 h2 k o' e
    by_cases hk : k = b
    · subst hk; simp at e; subst e; exact h1
    · simp [hk] at e; exact h2 k o' e

/-! ### slices that are read -/
def SlG (g : Gh) (ad : Option Addr) (xs : List Value) : Prop := xs = [] ∨ ∃ b off arr T fz, ad = some ⟨b, off, none⟩ ∧ g b = some (.cells arr T fz) ∧ ∀ j u, xs[j]? = some u → arr[off + j]? = some u
theorem SlG.mono {g h : Gh} {ad : Option Addr} {xs : List Value} (hs : SlG g ad xs) (hg : Gle g h) : SlG h ad xs := by
  rcases hs with h0 | ⟨b, off, arr, T, fz, ha, hb, hx⟩
  · exact .inl h0
  · exact .inr ⟨b, off, arr, T, fz, ha, hg _ _ hb, hx⟩
theorem SlG.nil {g : Gh} {ad : Option Addr} : SlG g ad [] := .inl rfl
theorem SlG.ofNone {g : Gh} {xs : List Value} (h : SlG g none xs) : xs = [] := by
  rcases h with h | ⟨b, off, arr, T, fz, ha, _⟩
  · exact h
  · cases ha
/-- An element's place. -/
def Ad (ad : Option Addr) (k : Nat) : Addr := match ad with | some a => ⟨a.block, a.off + k, Option.none⟩ | Option.none => ⟨0, k, Option.none⟩
theorem SlG.cell {g : Gh} {ad : Option Addr} {xs : List Value} (h : SlG g ad xs) (hg : Gle g (hw w)) {k : Nat} {u : Value} (hu : xs[k]? = some u) : w.cell? (Ad ad k) = some u := by
  rcases h with rfl | ⟨b, off, arr, T, fz, rfl, hb, hx⟩
  · simp at hu
  · exact cell_blk (hg _ _ hb) (hx k u hu)
theorem addr_add (b off j : Nat) : Addr.add ⟨b, off, Option.none⟩ j = ⟨b, off + j, Option.none⟩ := by unfold Addr.add; split <;> simp_all
/-- Where there is an element, there is a place. -/
theorem SlG.place {g : Gh} {ad : Option Addr} {xs : List Value} (h : SlG g ad xs) (hp : 0 < xs.length) : ∃ b off, ad = some ⟨b, off, Option.none⟩ := by
  rcases h with rfl | ⟨b, off, arr, T, fz, rfl, hb, hx⟩
  · simp at hp
  · exact ⟨b, off, rfl⟩
/-- x[l:h] of a slice with the capacity (or third index) m: its address. -/
def subS (ad : Option Addr) (l size m : Nat) : Option Addr := if m = l then ad else ad.map (·.add (l * size))
theorem SlG.sub {g : Gh} {ad : Option Addr} {xs : List Value} (h : SlG g ad xs) {l size m n : Nat} (hm : l + n ≤ m) (hs : 0 < size) : SlG g (subS ad l size m) ((xs.drop (l * size)).take (n * size)) := by
  rcases h with rfl | ⟨b, off, arr, T, fz, rfl, hb, hx⟩
  · exact .inl (by simp)
  · by_cases hml : m = l
    · left
      have : n = 0 := by omega
      subst this; simp
    · right
      refine ⟨b, off + l * size, arr, T, fz, ?_, hb, fun j u hu => ?_⟩
      · simp [subS, hml, addr_add]
      · rw [List.getElem?_take] at hu
        split at hu
        · rw [List.getElem?_drop] at hu
          have := hx _ _ hu
          rwa [← Nat.add_assoc] at this
        · cases hu

/-! ### own slices -/
/-- A slice of the call's own, wherever it lies in its block, of whatever room. -/
def Ch.ow (e : TypeId) (size : Nat) (ad : Option Addr) (m cap : Nat) (xs : List Value) : Ch :=
  .gen (fun k => ∃ a, ad = some a ∧ a.block = k) (fun w => xs.length = m * size ∧ m ≤ cap ∧ cap ≤ maxLen ∧
    ((ad = Option.none ∧ cap = 0) ∨ ∃ gb off cur, ad = some ⟨gb, off, Option.none⟩ ∧ w.heap[gb]? = some (.cells cur e (0, 0)) ∧ off + cap * size ≤ cur.size ∧ (cur.toList.drop off).take (m * size) = xs))
   (fun w w' hk h => by
    refine ⟨h.1, h.2.1, h.2.2.1, h.2.2.2.imp id ?_⟩
    rintro ⟨gb, off, cur, rfl, h1, r⟩
    exact ⟨gb, off, cur, rfl, (hk gb ⟨_, rfl, rfl⟩).trans h1, r⟩)
section
variable {e : TypeId} {size m cap i : Nat} {ad : Option Addr} {xs : List Value}
theorem St.owLen (h : St w0 D Γ w) (hi : Γ[i]? = some (.ow e size ad m cap xs)) : xs.length = m * size ∧ m ≤ cap ∧ cap ≤ maxLen := ⟨(h.sat.get hi).1.1, (h.sat.get hi).1.2.1, (h.sat.get hi).1.2.2.1⟩
theorem St.owG (h : St w0 D Γ w) (hi : Γ[i]? = some (.ow e size ad m cap xs)) : SlG (hw w) ad xs := by
  obtain ⟨h1, h2, h3, h4⟩ := (h.sat.get hi).1
  rcases h4 with ⟨_, h0⟩ | ⟨gb, off, cur, ha, hg, hle, hx⟩
  · left
    have : m = 0 := by omega
    subst this
    exact List.eq_nil_of_length_eq_zero (by simpa using h1)
  · refine .inr ⟨gb, off, cur, e, _, ha, hg, fun j u hu => ?_⟩
    rw [← hx, List.getElem?_take] at hu
    split at hu
    · rw [List.getElem?_drop] at hu
      simpa using hu
    · cases hu
/-- One piece, in one block, is written anew. -/
theorem St.putAt {c c' : Ch} {gb i : Nat} {w' : World} (h : St w0 D Γ w) (hi : Γ[i]? = some c) (hc : c.own gb) (hc' : ∀ k, c'.own k → k = gb) (ho : w'.os = w.os) (ht : w'.tape = w.tape) (hu : w'.output = w.output) (hz : w'.heap.size = w.heap.size)
    (hf : ∀ k, k ≠ gb → w'.heap[k]? = w.heap[k]?) (hs : c'.sat w') : St w0 D (Γ.set i c') w' := by
  have hcg := (h.sat.get hi).2 gb hc
  refine ⟨ho.trans h.os, ht.trans h.tape, hu.trans h.output, by rw [hz]; exact h.size, fun k hk hD => (hf k ?_).trans (h.keep k hk hD), ?_⟩
  · rintro rfl
    rcases hcg.1 with h1 | h1
    · exact hD h1
    · omega
  · exact h.sat.put (by rw [hz]; exact Nat.le_refl _) hi (fun k hn _ => hf k fun e => hn (e ▸ hc)) hs fun k hk => ⟨.inl (hc' k hk ▸ hc), by rw [hz, hc' k hk]; exact hcg.2⟩
/-- No slice. -/
theorem St.ow_nil (h : St w0 D Γ w) (e : TypeId) (size : Nat) : St w0 D (.ow e size Option.none 0 0 [] :: Γ) w :=
  ⟨h.os, h.tape, h.output, h.size, h.keep, ⟨by simp, Nat.le_refl _, Nat.zero_le _, .inl ⟨rfl, rfl⟩⟩, fun k hk => (by obtain ⟨a, h1, _⟩ := hk; cases h1), fun c _ k hk => (by obtain ⟨a, h1, _⟩ := hk; cases h1), h.sat⟩
/-- A whole block as a slice. -/
theorem St.blkOw {b : Nat} {arr : Array Value} (size m : Nat) (h : St w0 D Γ w) (hi : Γ[i]? = some (.blk b (.cells arr e))) (hz : arr.size = m * size) (hm : m ≤ maxLen) : St w0 D (Γ.set i (.ow e size (some ⟨b, 0, Option.none⟩) m m arr.toList)) w := by
  refine h.recast hi (fun k hk => ?_) fun hs => ⟨by simpa using hz, Nat.le_refl _, hm, .inr ⟨b, 0, arr, rfl, hs, by omega, ?_⟩⟩
  · obtain ⟨a, h1, rfl⟩ := hk
    injection h1 with h1; subst h1; rfl
  · rw [List.drop_zero, ← hz, ← Array.length_toList, List.take_length]
/-- It is frozen. -/
theorem St.freezeOw {g : Gh} (h : St w0 D (.ow e size ad m cap xs :: .fz g :: Γ) w) : ∃ g', Gle g g' ∧ SlG g' ad xs ∧ St w0 D (.fz g' :: Γ) w := by
  have hG := h.owG (i := 0) rfl
  obtain ⟨h1, h2, h3, h4⟩ := (h.sat.get (i := 0) (c := .ow e size ad m cap xs) rfl).1
  rcases h4 with ⟨rfl, h0⟩ | ⟨gb, off, cur, rfl, hg, hle, hx⟩
  · refine ⟨g, Gle.refl g, .inl (SlG.ofNone hG), h.sub (List.sublist_cons_self _ _)⟩
  · have h' : St w0 D (.blk gb (.cells cur e (0, 0)) :: .fz g :: Γ) w := h.recast (i := 0) (c' := .blk gb (.cells cur e (0, 0))) rfl (fun k hk => ⟨_, rfl, hk.symm⟩) fun _ => hg
    obtain ⟨g', hg1, hg2, hS⟩ := h'.freeze
    refine ⟨g', hg1, ?_, hS⟩
    refine .inr ⟨gb, off, cur, e, _, rfl, hg2, fun j u hu => ?_⟩
    rw [← hx, List.getElem?_take] at hu
    split at hu
    · rw [List.getElem?_drop] at hu
      simpa using hu
    · cases hu
/-- A part of it, for all of it. -/
theorem St.owSub {l hh mx : Nat} (h : St w0 D Γ w) (hi : Γ[i]? = some (.ow e size ad m cap xs)) (h1 : l ≤ hh) (h2 : hh ≤ mx) (h3 : mx ≤ cap) (h4 : hh ≤ m) :
    St w0 D (Γ.set i (.ow e size (subS ad l size mx) (hh - l) (mx - l) ((xs.drop (l * size)).take ((hh - l) * size)))) w := by
  refine h.recast hi (fun k hk => ?_) fun hs => ?_
  · obtain ⟨a, ha, hb⟩ := hk
    cases ad with
    | none => unfold subS at ha; split at ha <;> cases ha
    | some a0 =>
      refine ⟨a0, rfl, ?_⟩
      unfold subS at ha
      split at ha
      · injection ha with ha; subst ha; exact hb
      · simp at ha; subst ha; rw [← hb]; unfold Addr.add; split <;> rfl
  · obtain ⟨k1, k2, k3, k4⟩ := hs
    have hsz : l * size + (hh - l) * size ≤ m * size := by rw [← Nat.add_mul]; exact Nat.mul_le_mul_right _ (by omega)
    refine ⟨by rw [List.length_take, List.length_drop, k1]; omega, by omega, by omega, ?_⟩
    rcases k4 with ⟨rfl, hc⟩ | ⟨gb, off, cur, rfl, hg, hle, hx⟩
    · left; exact ⟨by unfold subS; split <;> rfl, by omega⟩
    · right
      by_cases hml : mx = l
      · have : hh - l = 0 := by omega
        refine ⟨gb, off, cur, by simp [subS, hml], hg, ?_, by simp [this]⟩
        rw [hml]; simp; omega
      · refine ⟨gb, off + l * size, cur, by simp [subS, hml, addr_add], hg, ?_, ?_⟩
        · have : l * size + (mx - l) * size ≤ cap * size := by rw [← Nat.add_mul]; exact Nat.mul_le_mul_right _ (by omega)
          omega
        · rw [← hx, List.drop_take, List.take_take, List.drop_drop, Nat.min_eq_left (by omega)]
/-- Its room is taken in. -/
theorem St.owExt {hh : Nat} (h : St w0 D Γ w) (hi : Γ[i]? = some (.ow e size ad m cap xs)) (h1 : m ≤ hh) (h2 : hh ≤ cap) : ∃ ys, ys.length = (hh - m) * size ∧ St w0 D (Γ.set i (.ow e size ad hh cap (xs ++ ys))) w := by
  obtain ⟨k1, k2, k3, k4⟩ := (h.sat.get hi).1
  rcases k4 with ⟨rfl, hc⟩ | ⟨gb, off, cur, rfl, hg, hle, hx⟩
  · have : hh = m := by omega
    subst this
    refine ⟨[], by simp, ?_⟩
    rw [List.append_nil]
    exact h.recast hi (fun _ hk => hk) fun hs => hs
  · have hhs : m * size + (hh - m) * size ≤ cap * size := by rw [← Nat.add_mul]; exact Nat.mul_le_mul_right _ (by omega)
    have hhs2 : m * size + (hh - m) * size = hh * size := by rw [← Nat.add_mul]; congr 1; omega
    refine ⟨(cur.toList.drop (off + m * size)).take ((hh - m) * size), by rw [List.length_take, List.length_drop, Array.length_toList]; omega, h.recast hi (fun _ hk => hk) fun hs => ⟨?_, h2, k3, .inr ⟨gb, off, cur, rfl, hg, hle, ?_⟩⟩⟩
    · rw [List.length_append, k1, List.length_take, List.length_drop, Array.length_toList]; omega
    · rw [← hx, ← hhs2, List.take_add, List.drop_drop]
end
end
end Go.Proofs.Yteojpdijmnpmgaa
namespace Go.Proofs.Yteojpdijmnpmgaa
open Go.RowKit
section
variable {P : Program} {ops : Array Oper} {Q : Exit → Act → World → Prop} {n : Nat} {f : Nat → Value} {w w0 : World} {D : Nat → Prop} {Γ : List Ch} {K : Act → World → Prop}
variable {d : Option Tmp} {dd : Nat} {x y z : Operand} {ty T Tx T' : TypeId} {pos : String} {aft : Array Edge} {g : Option (Nat × Bool)} {k : IntKind} {a b : Int}

/-! ### what yields -/
theorem q_ixG {ad : Option Addr} {len cap m j : Nat} {e : TypeId} {G : Gh} {xs : List Value} (hx : ev n f x = .slice ad len cap) (hy : ev n f y = .int k a) (ht : slB P T = some e) (hz : szB P e = some m) (hj : a = (j : Int)) (h1 : j < len) (hG : SlG G ad xs) (hp : 0 < xs.length) :
    Run P n f ⟨d, .indexAddr T x y, ty, pos, aft, g⟩ w (.pointer (some (Ad ad (j * m)))) := by
  obtain ⟨bl, off, rfl⟩ := hG.place hp
  subst hj
  have := q_indexAddr (P := P) (w := w) (d := d) (ty := ty) (pos := pos) (aft := aft) (g := g) hx hy ht hz (Int.natCast_nonneg j) (by omega)
  simpa [Ad] using this
theorem q_fieldG {ad : Option Addr} {i o j : Nat} {ft : TypeId} (hx : ev n f x = .pointer (some (Ad ad j))) (hf : fldB P T i = some (ft, o)) : Run P n f ⟨d, .fieldAddr T x i, ty, pos, aft, g⟩ w (.pointer (some (Ad ad (j + o)))) := by
  cases ad with
  | none => exact q_fieldAddr (off := j) hx hf
  | some a0 => have := q_fieldAddr (P := P) (w := w) (d := d) (ty := ty) (pos := pos) (aft := aft) (g := g) (off := a0.off + j) hx hf; rw [Nat.add_assoc] at this; exact this
theorem q_loadGA {m j : Nat} {ad : Option Addr} {xs cs : List Value} (hx : ev n f x = .pointer (some (Ad ad j))) (h : aggB P T = true) (hz : szB P T = some m) (hG : SlG (hw w) ad xs) (hcs : (xs.drop j).take m = cs) (hl : cs.length = m) (hp : 0 < m) :
    Run P n f ⟨d, .load T x, ty, pos, aft, g⟩ w (.agg cs.toArray) := by
  have hl2 : j + m ≤ xs.length := by
    have := congrArg List.length hcs
    simp at this; omega
  obtain ⟨bl, off, rfl⟩ := hG.place (by omega)
  have hrun : (loadCellsFrom ⟨bl, off + j, Option.none⟩ 0 cs.length #[]).run P w = .ok (#[] ++ cs.toArray) w := run_loadCellsC (off := off + j) cs 0 #[] fun i u hu => by
    rw [← hcs, List.getElem?_take] at hu
    split at hu
    · rw [List.getElem?_drop] at hu
      have := hG.cell (w := w) (Gle.refl _) hu
      rw [show off + j + (0 + i) = off + (j + i) by omega]
      exact this
    · cases hu
  rw [hl] at hrun
  have hx' : ev n f x = .pointer (some ⟨bl, off + j, Option.none⟩) := hx
  simp [Run, execOp, hx', Instr.loadAt, Instr.sureAddr, loadVar, run_isAggT h, run_sizeOf hz, loadCells, hrun, Sem.run]
theorem q_capSl {ad : Option Addr} {len cap : Nat} {e : TypeId} {rest : List TypeId} (hx : ev n f x = .slice ad len cap) (ht : slB P T = some e) : Run P n f ⟨d, .call ⟨.builtin .cap, List.toArray [x], List.toArray (T :: rest)⟩, ty, pos, aft, g⟩ w (.int .i64 cap) := by
  simp [Run, execOp, resolve, invoke, builtin, Builtin.cap_, hx, run_undSl ht, goInt, Sem.run]
theorem run_sliceBound {v : Value} {j y : Nat} {code : BoundsCode} (hv : v = .int k (j : Int)) (h : j ≤ y) : (Instr.sliceBound v y code).run P w = .ok j w := by
  subst hv; simp [Instr.sliceBound, asIntOf, Sem.run, h]
/-- x[l:h:m], each there or not. -/
def bndIs (n : Nat) (f : Nat → Value) (o : Option Operand) (dflt j : Nat) : Prop := match o with
  | Option.none => j = dflt
  | some y => ∃ k, ev n f y = .int k (j : Int)
theorem q_sliceG {lo hi mx : Option Operand} {ad : Option Addr} {len cap l h m size : Nat} {e : TypeId} (hx : ev n f x = .slice ad len cap) (ht : slB P T = some e) (hz : szB P e = some size)
    (hm : bndIs n f mx cap m) (hh : bndIs n f hi len h) (hl : bndIs n f lo 0 l) (h1 : l ≤ h) (h2 : h ≤ m) (h3 : m ≤ cap) (hno : (mx.isSome && !hi.isSome) = false) :
    Run P n f ⟨d, .slice T x lo hi mx, ty, pos, aft, g⟩ w (.slice (subS ad l size m) (h - l) (m - l)) := by
  have hu : (underlying T).run P w = .ok (.slice e) w := run_undSl ht
  have hb : (Instr.sliceBounds true len cap (lo.map (ev n f)) (hi.map (ev n f)) (mx.map (ev n f))).run P w = .ok (l, h, m) w := by
    have B : ∀ (y : Operand) (j q : Nat) (code : BoundsCode), (∃ k, ev n f y = .int k (j : Int)) → j ≤ q → (Instr.sliceBound (ev n f y) q code).run P w = .ok j w := fun y j q code ⟨k, hk⟩ hle => run_sliceBound hk hle
    cases mx <;> cases hi <;> cases lo <;> simp only [bndIs] at hm hh hl <;> first
      | (exfalso; simp at hno; done)
      | (try subst hm; try subst hh; try subst hl
         simp only [Instr.sliceBounds, Option.map, if_true, Option.isSome, Sem.run_bind, Sem.run_pure, Result.andThen_ok, Bool.false_eq_true, if_false]
         repeat (first | rw [B _ _ _ _ (by assumption) (by assumption), Result.andThen_ok] | rfl | rw [hl]))
  have : (Instr.sliceAt T (.slice ad len cap) (lo.map (ev n f)) (hi.map (ev n f)) (mx.map (ev n f))).run P w = .ok (.slice (subS ad l size m) (h - l) (m - l)) w := by
    unfold Instr.sliceAt
    rw [Sem.run_bind, hu, Result.andThen_ok]
    simp only
    unfold Instr.slice
    rw [Sem.run_bind, hu, Result.andThen_ok]
    simp only
    rw [Sem.run_bind, hb, Result.andThen_ok]
    simp only
    rw [Sem.run_bind, run_sizeOf hz, Result.andThen_ok]; rfl
  simp [Run, execOp, hx, this, Sem.run]

/-! ### what writes -/
theorem SlG.src {size l c : Nat} {ad : Option Addr} {news : List Value} {e : TypeId} (ht : slB P Tx = some e) (hG : SlG (hw w) ad news) (hl : news.length = l * size) (hs : 0 < size) (h1 : ∀ u ∈ news, u.oneCell' = true) : Src P size Tx (.slice ad l c) l news w := by
  have hu : P.underlying Tx = some (.slice e) := by
    unfold slB at ht
    cases hu : P.underlying Tx with
    | none => simp [hu] at ht
    | some d => cases d <;> simp [hu] at ht; obtain rfl := ht; rfl
  cases ad with
  | none =>
    have := SlG.ofNone hG
    subst this
    have hl0 : l = 0 := by
      rcases Nat.mul_eq_zero.1 hl.symm with h | h
      · exact h
      · omega
    subst hl0
    exact Src.ofNil w hu c
  | some a0 =>
    refine Src.ofSlice w hu a0 l c news hl (fun j u hj => ?_) h1
    rcases hG with rfl | ⟨b, off, arr, T, fz, ha, hb, hx⟩
    · simp at hj
    · injection ha with ha; subst ha
      rw [addr_add]; exact cell_blk hb (hx j u hj)
theorem SlG.first {size m q c : Nat} {ad : Option Addr} {xs : List Value} (hG : SlG (hw w) ad xs) (hl : xs.length = m * size) : (Builtin.firstCells size m (.slice ad q c)).run P w = .ok xs.toArray w := by
  cases ad with
  | none => have := SlG.ofNone hG; subst this; exact run_firstCells_none w size m q c
  | some a0 =>
    refine run_firstCells_some w size m a0 q c xs hl fun j u hj => ?_
    rcases hG with rfl | ⟨b, off, arr, T, fz, ha, hb, hx⟩
    · simp at hj
    · injection ha with ha; subst ha
      rw [addr_add]; exact cell_blk hb (hx j u hj)
theorem zeroCells_size (zc : Array Value) (c : Nat) : (Builtin.zeroCells zc c).size = c * zc.size := by simp [Builtin.zeroCells]
theorem appB_facts {e size bytes : Nat} (hB : appB P T e size bytes = true) : ∃ inf zv, P.underlying T = some (.slice e) ∧ P.info? e = some inf ∧ inf.size = size ∧ inf.bytes = bytes ∧ inf.zero = some zv ∧ zv.cells.size = size ∧ 0 < size := by
  unfold appB at hB
  cases hu : P.underlying T with
  | none => simp [hu] at hB
  | some du =>
    cases hif : P.info? e with
    | none => cases du <;> simp [hu, hif] at hB
    | some inf =>
      cases du <;> simp [hu, hif] at hB
      rename_i e'
      obtain ⟨⟨⟨⟨rfl, hs1⟩, hs2⟩, hz⟩, hpos⟩ := hB
      cases hzz : inf.zero with
      | none => simp [hzz] at hz
      | some zv => simp [hzz] at hz; exact ⟨inf, zv, rfl, rfl, hs1, hs2, hzz, hz, hpos⟩
/-- An operation whose run is known. -/
theorem wp_known {o : Oper} {v : Value} {w' : World} (hd : o.dst = some dd) (hr : (execOp (ev n f) o).run P w = .ok (.value v) w') (h : K (E n (up f dd v)) w') : o.wp P (E n f) w K Q := by
  unfold Oper.wp
  rw [E_eval, hr]
  simp only [Oper.upon, hd, E_put]; exact h
theorem ex_append {vx vy v : Value} {w' : World} (hx : ev n f x = vx) (hy : ev n f y = vy) (hr : (Builtin.append_ #[T, Tx] ty #[vx, vy]).run P w = .ok v w') :
    (execOp (ev n f) ⟨some dd, .call ⟨.builtin .append, List.toArray [x, y], List.toArray [T, Tx]⟩, ty, pos, aft, g⟩).run P w = .ok (.value v) w' := by
  simp only [execOp, resolve, invoke, builtin, Sem.run_bind, Sem.run_pure, Result.andThen_ok, List.map_toArray, List.map_cons, List.map_nil, hx, hy, hr]
theorem ex_copy {vx vy v : Value} {w' : World} (hx : ev n f x = vx) (hy : ev n f y = vy) (hr : (Builtin.copy_ #[T, Tx] ty #[vx, vy]).run P w = .ok v w') :
    (execOp (ev n f) ⟨some dd, .call ⟨.builtin .copy, List.toArray [x, y], List.toArray [T, Tx]⟩, ty, pos, aft, g⟩).run P w = .ok (.value v) w' := by
  simp only [execOp, resolve, invoke, builtin, Sem.run_bind, Sem.run_pure, Result.andThen_ok, List.map_toArray, List.map_cons, List.map_nil, hx, hy, hr]
/-- A row that grows always: what is there is read alone. -/
theorem e_appNew0 {e size bytes m cap l : Nat} {ad : Option Addr} {xs news : List Value} {X : Value} (hB : appB P T e size bytes = true) (hS : St w0 D Γ w) (hx : ev n f x = .slice ad m cap) (hG : SlG (hw w) ad xs) (hlx : xs.length = m * size)
    (hy : ev n f y = X) (hs : Src P size Tx X l news w) (hgr : cap < m + l) (h63 : m + l ≤ maxLen) (hby : (m + l) * bytes ≤ 140737488355328)
    (h : ∀ b cap' w', St w0 D (.ow e size (some ⟨b, 0, Option.none⟩) (m + l) cap' (xs ++ news) :: Γ) w' → K (E n (up f dd (.slice (some ⟨b, 0, Option.none⟩) (m + l) cap'))) w') :
    Oper.wp P ⟨some dd, .call ⟨.builtin .append, List.toArray [x, y], List.toArray [T, Tx]⟩, ty, pos, aft, g⟩ (E n f) w K Q := by
  obtain ⟨inf, zv, hu, hif, hs1, hs2, hzz, hz, hpos⟩ := appB_facts hB
  subst hs1 hs2
  have hGd : SlG (hw w.drew) ad xs := hG
  have hr := run_append_grow_src (P := P) w T Tx ty e inf zv hu hif hzz ad m cap xs (hGd.first hlx) X l news hs hgr (by simp only [maxLen] at h63; omega) (growslice_fits hgr hby)
  have hc1 := grownCap_ge w (m + l) cap e
  have hc2 := grownCap_le_maxLen w (m + l) cap e h63
  refine wp_known rfl (ex_append hx hy hr) (h _ _ _ ?_)
  have hg1 : St w0 D (.blk w.heap.size (.cells ((xs ++ news).toArray ++ Builtin.zeroCells zv.cells (grownCap w (m + l) cap e - (m + l))) e) :: Γ) (w.drew.alloc (.cells ((xs ++ news).toArray ++ Builtin.zeroCells zv.cells (grownCap w (m + l) cap e - (m + l))) e)) := hS.alloc _ |>.of_heap rfl rfl rfl rfl
  have hlen : (xs ++ news).length = (m + l) * inf.size := by rw [List.length_append, hlx, hs.newsLen, Nat.add_mul]
  have hg2 := hg1.recast (i := 0) (c' := .ow e inf.size (some ⟨w.heap.size, 0, Option.none⟩) (m + l) (grownCap w (m + l) cap e) (xs ++ news)) rfl (fun k hk => by obtain ⟨a0, h1, rfl⟩ := hk; injection h1 with h1; subst h1; rfl) fun hsat => ?_
  · exact hg2
  · refine ⟨hlen, hc1, hc2, .inr ⟨_, 0, _, rfl, hsat, ?_, ?_⟩⟩
    · simp only [Array.size_append, zeroCells_size, hz, List.size_toArray, hlen, Nat.zero_add]
      rw [← Nat.add_mul]; exact Nat.mul_le_mul_right _ (by omega)
    · rw [List.drop_zero, Array.toList_append, ← hlen, List.take_left' rfl]
/-- append onto an own slice. -/
theorem e_app0 {e size bytes i m cap l : Nat} {ad : Option Addr} {xs news : List Value} {X : Value} (hB : appB P T e size bytes = true) (hS : St w0 D Γ w) (hx : ev n f x = .slice ad m cap) (hi : Γ[i]? = some (.ow e size ad m cap xs))
    (hy : ev n f y = X) (hs : Src P size Tx X l news w) (h63 : m + l ≤ maxLen) (hby : (m + l) * bytes ≤ 140737488355328)
    (h : ∀ ad' cap' w', St w0 D (Γ.set i (.ow e size ad' (m + l) cap' (xs ++ news))) w' → K (E n (up f dd (.slice ad' (m + l) cap'))) w') :
    Oper.wp P ⟨some dd, .call ⟨.builtin .append, List.toArray [x, y], List.toArray [T, Tx]⟩, ty, pos, aft, g⟩ (E n f) w K Q := by
  obtain ⟨h1, h2, h3⟩ := hS.owLen hi
  by_cases hroom : m + l ≤ cap
  · obtain ⟨inf, zv, hu, hif, hs1, hs2, hzz, hz, hpos⟩ := appB_facts hB
    subst hs1 hs2
    have hnl := hs.newsLen
    have hlen : (xs ++ news).length = (m + l) * inf.size := by rw [List.length_append, h1, hnl, Nat.add_mul]
    obtain ⟨_, _, _, h4⟩ := (hS.sat.get hi).1
    rcases h4 with ⟨rfl, hc⟩ | ⟨gb, off, cur, rfl, hg, hle, hxx⟩
    · have hm0 : m = 0 := by omega
      have hl0 : l = 0 := by omega
      subst hm0 hl0 hc
      have hn0 : news = [] := List.eq_nil_of_length_eq_zero (by simpa using hnl)
      subst hn0
      have hr : (Builtin.append_ #[T, Tx] ty #[.slice Option.none 0 0, X]).run P w = .ok (.slice Option.none 0 0) w := by
        rcases hs.kind with ⟨e', hk⟩ | hk <;> simp [Builtin.append_, run_underlying hu, run_underlying hk, sizeOf, typeInfo, hif, hs.len, hs.cells]
      refine wp_known rfl (ex_append hx hy hr) (h _ _ _ ?_)
      refine hS.recast hi (fun _ hk => hk) fun hsat => ?_
      rw [List.append_nil]; exact hsat
    · have hmul : (m + l) * inf.size ≤ cap * inf.size := Nat.mul_le_mul_right _ hroom
      rw [Nat.add_mul] at hmul
      have hfit : off + m * inf.size + 0 + news.length ≤ cur.size := by rw [hnl]; omega
      have hst := run_storeCells_at P gb (off + m * inf.size) e news 0 cur w hg hfit hs.one
      simp only [Nat.add_zero] at hst hfit
      have hr : (Builtin.append_ #[T, Tx] ty #[.slice (some ⟨gb, off, Option.none⟩) m cap, X]).run P w = .ok (.slice (some ⟨gb, off, Option.none⟩) (m + l) cap) (w.setRow gb (cur.toList.take (off + m * inf.size) ++ news ++ cur.toList.drop (off + m * inf.size + news.length)).toArray) := by
        rcases hs.kind with ⟨e', hk⟩ | hk <;> simp [Builtin.append_, run_underlying hu, run_underlying hk, sizeOf, typeInfo, hif, hs.len, hroom, hs.cells, Addr.add_lit, hst]
      refine wp_known rfl (ex_append hx hy hr) (h _ _ _ ?_)
      refine hS.putAt (gb := gb) hi ⟨_, rfl, rfl⟩ (fun k hk => by obtain ⟨a0, h1, rfl⟩ := hk; injection h1 with h1; subst h1; rfl) rfl rfl rfl (by simp [World.setRow]) (fun k hk => by simp [World.setRow, Array.getElem?_modify, Ne.symm hk]) ⟨hlen, hroom, h3, .inr ⟨gb, off, _, rfl, setRow_heap w gb cur _ e _ hg, ?_, ?_⟩⟩
      · simp only [List.size_toArray, List.length_append, List.length_take, List.length_drop, Array.length_toList]; omega
      · have e1 : ((cur.toList.take (off + m * inf.size) ++ news ++ cur.toList.drop (off + m * inf.size + news.length)).drop off) = (cur.toList.drop off).take (m * inf.size) ++ news ++ cur.toList.drop (off + m * inf.size + news.length) := by
          rw [List.append_assoc, List.drop_append_of_le_length (by rw [List.length_take, Array.length_toList]; omega), List.drop_take, Nat.add_sub_cancel_left, List.append_assoc]
        simp only
        rw [e1, hxx, ← hlen, List.take_left' rfl]
  · obtain ⟨inf, zv, hu, hif, hs1, hs2, hzz, hz, hpos⟩ := appB_facts hB
    refine e_appNew0 (bytes := bytes) hB hS hx (hS.owG hi) h1 hy hs (by omega) h63 hby fun b cap' w' hS' => h _ _ _ ?_
    -- the old piece is forgotten, the new one stands in its place
    have hp := hS'.sat
    refine ⟨hS'.os, hS'.tape, hS'.output, hS'.size, hS'.keep, ?_⟩
    have key : ∀ {B : Nat} {D : Nat → Prop} {w : World} {c c' : Ch} {Γ : List Ch} {i : Nat}, Sat B D (c' :: Γ) w → Γ[i]? = some c → Sat B D (Γ.set i c') w := by
      intro B D w c c' Γ
      induction Γ with
      | nil => intro i _ hi; simp at hi
      | cons d Γ ih =>
        intro i hs hi
        obtain ⟨k1, k2, k3, k4, k5, k6, k7⟩ := hs
        cases i with
        | zero => exact ⟨k1, k2, fun e he => k3 e (.tail _ he), k7⟩
        | succ i =>
          simp at hi
          refine ⟨k4, k5, ?_, ih ⟨k1, k2, fun e he => k3 e (.tail _ he), k7⟩ hi⟩
          intro e he k hd hek
          rcases List.mem_or_eq_of_mem_set he with he | rfl
          · exact k6 e he k hd hek
          · exact k3 d (.head _) k hek hd
    exact key hp hi
/-- copy onto a part of an own slice. -/
theorem e_cpy0 {e size i m cap lo l mx dl dc sl sc : Nat} {ad ad2 : Option Addr} {xs ys : List Value} (hS : St w0 D Γ w) (ht : slB P T = some e) (hsz : szB P e = some size) (hpos : 0 < size) (hx : ev n f x = .slice (subS ad lo size mx) dl dc) (hi : Γ[i]? = some (.ow e size ad m cap xs))
    (hle : lo + dl ≤ m) (hmx : lo + dl ≤ mx) (hy : ev n f y = .slice ad2 sl sc) (hG : SlG (hw w) ad2 ys) (hl : ys.length = sl * size) (h1 : ∀ u ∈ ys.take (min sl dl * size), u.oneCell' = true)
    (h : ∀ w', St w0 D (Γ.set i (.ow e size ad m cap (xs.take (lo * size) ++ ys.take (min sl dl * size) ++ xs.drop (lo * size + min sl dl * size)))) w' → K (E n (up f dd (.int .i64 (min sl dl : Nat)))) w') :
    Oper.wp P ⟨some dd, .call ⟨.builtin .copy, List.toArray [x, y], List.toArray [T, Tx]⟩, ty, pos, aft, g⟩ (E n f) w K Q := by
  obtain ⟨k1, k2, k3, k4⟩ := (hS.sat.get hi).1
  have hN : Nat.min sl dl = min sl dl := rfl
  have hfc : (Builtin.firstCells size (min sl dl) (.slice ad2 sl sc)).run P w = .ok (ys.take (min sl dl * size)).toArray w := by
    have hG2 : SlG (hw w) ad2 (ys.take (min sl dl * size)) := by
      rcases hG with h0 | ⟨b, off, arr, T, fz, ha, hb, hx⟩
      · exact .inl (by rw [h0]; simp)
      · refine .inr ⟨b, off, arr, T, fz, ha, hb, fun j u hu => hx j u ?_⟩
        rw [List.getElem?_take] at hu
        split at hu
        · exact hu
        · cases hu
    have hl2 : (ys.take (min sl dl * size)).length = min sl dl * size := by
      rw [List.length_take, hl]; exact Nat.min_eq_left (Nat.mul_le_mul_right _ (Nat.min_le_left _ _))
    exact hG2.first hl2
  have hmul : min sl dl * size ≤ dl * size := Nat.mul_le_mul_right _ (Nat.min_le_right _ _)
  have hmul4 : min sl dl * size ≤ sl * size := Nat.mul_le_mul_right _ (Nat.min_le_left _ _)
  have hmul2 : lo * size + dl * size ≤ m * size := by rw [← Nat.add_mul]; exact Nat.mul_le_mul_right _ hle
  have hmul3 : m * size ≤ cap * size := Nat.mul_le_mul_right _ k2
  have hyl : (ys.take (min sl dl * size)).length = min sl dl * size := by
    rw [List.length_take, hl]; exact Nat.min_eq_left (Nat.mul_le_mul_right _ (Nat.min_le_left _ _))
  by_cases h0 : min sl dl = 0
  · have hnone : (ys.take (min sl dl * size)) = [] := by rw [h0]; simp
    have hr : (Builtin.copy_ #[T, Tx] ty #[.slice (subS ad lo size mx) dl dc, .slice ad2 sl sc]).run P w = .ok (.int .i64 (min sl dl : Nat)) w := by
      rw [hnone] at hfc
      cases hsub : subS ad lo size mx <;> simp [Builtin.copy_, run_undSl ht, Builtin.lenOf, run_sizeOf hsz, hN, hfc, storeCells, goInt, Sem.run]
    refine wp_known rfl (ex_copy hx hy hr) (h _ ?_)
    refine hS.recast hi (fun _ hk => hk) fun hs => ?_
    rw [hnone, h0]; simpa using hs
  · rcases k4 with ⟨rfl, hcc⟩ | ⟨gb, off, cur, rfl, hg, hlec, hxx⟩
    · omega
    · have hml : mx ≠ lo := by omega
      have hsub : subS (some ⟨gb, off, none⟩) lo size mx = some ⟨gb, off + lo * size, none⟩ := by simp [subS, hml, addr_add]
      have hone : ∀ v ∈ ys.take (min sl dl * size), v.oneCell' = true := fun v hv => h1 v hv
      have hst := run_storeCells_at P gb (off + lo * size) e (ys.take (min sl dl * size)) 0 cur w hg (by rw [hyl]; omega) hone
      simp only [Nat.add_zero] at hst
      rw [hsub] at hx
      have hr : (Builtin.copy_ #[T, Tx] ty #[.slice (some ⟨gb, off + lo * size, none⟩) dl dc, .slice ad2 sl sc]).run P w = .ok (.int .i64 (min sl dl : Nat)) (w.setRow gb (cur.toList.take (off + lo * size) ++ ys.take (min sl dl * size) ++ cur.toList.drop (off + lo * size + (ys.take (min sl dl * size)).length)).toArray) := by
        simp [Builtin.copy_, run_undSl ht, Builtin.lenOf, run_sizeOf hsz, hN, hfc, hst, goInt, Sem.run]
      refine wp_known rfl (ex_copy hx hy hr) (h _ ?_)
      refine hS.putAt (gb := gb) hi ⟨_, rfl, rfl⟩ (fun k hk => by obtain ⟨a0, h1, rfl⟩ := hk; injection h1 with h1; subst h1; rfl) rfl rfl rfl (by simp [World.setRow]) (fun k hk => by simp [World.setRow, Array.getElem?_modify, Ne.symm hk]) ⟨by simp only [List.length_append, List.length_take, List.length_drop]; omega, k2, k3, .inr ⟨gb, off, _, rfl, setRow_heap w gb cur _ e _ hg, ?_, ?_⟩⟩
      · simp only [List.size_toArray, List.length_append, List.length_take, List.length_drop, Array.length_toList]; omega
      · subst hxx
        have hlo : lo * size + min sl dl * size ≤ m * size := by omega
        apply List.ext_getElem?
        intro q
        simp only [List.getElem?_take, List.getElem?_drop, List.getElem?_append, List.length_append, List.length_take, List.length_drop, Array.length_toList]
        repeat' split
        all_goals first | rfl | omega | (congr 1; omega) | skip
/-! ### the same, the new row as the caller says it -/
theorem e_app {e size bytes i m cap l m' : Nat} {ad : Option Addr} {xs news xs' : List Value} {X : Value} (hB : appB P T e size bytes = true) (hS : St w0 D Γ w) (hx : ev n f x = .slice ad m cap) (hi : Γ[i]? = some (.ow e size ad m cap xs))
    (hy : ev n f y = X) (hs : Src P size Tx X l news w) (hm' : m + l = m') (hx' : xs ++ news = xs') (h63 : m' ≤ maxLen) (hby : m' * bytes ≤ 140737488355328)
    (h : ∀ ad' cap' w', St w0 D (Γ.set i (.ow e size ad' m' cap' xs')) w' → K (E n (up f dd (.slice ad' m' cap'))) w') :
    Oper.wp P ⟨some dd, .call ⟨.builtin .append, List.toArray [x, y], List.toArray [T, Tx]⟩, ty, pos, aft, g⟩ (E n f) w K Q := by
  subst hm' hx'; exact e_app0 hB hS hx hi hy hs h63 hby h
theorem e_cpy {e size i m cap lo l mx dl dc sl sc : Nat} {ad ad2 : Option Addr} {xs ys xs' : List Value} (hS : St w0 D Γ w) (ht : slB P T = some e) (hsz : szB P e = some size) (hpos : 0 < size) (hx : ev n f x = .slice (subS ad lo size mx) dl dc) (hi : Γ[i]? = some (.ow e size ad m cap xs))
    (hle : lo + dl ≤ m) (hmx : lo + dl ≤ mx) (hy : ev n f y = .slice ad2 sl sc) (hG : SlG (hw w) ad2 ys) (hl : ys.length = sl * size) (h1 : ∀ u ∈ ys.take (min sl dl * size), u.oneCell' = true) (hx' : xs.take (lo * size) ++ ys.take (min sl dl * size) ++ xs.drop (lo * size + min sl dl * size) = xs')
    (h : ∀ w', St w0 D (Γ.set i (.ow e size ad m cap xs')) w' → K (E n (up f dd (.int .i64 (min sl dl : Nat)))) w') :
    Oper.wp P ⟨some dd, .call ⟨.builtin .copy, List.toArray [x, y], List.toArray [T, Tx]⟩, ty, pos, aft, g⟩ (E n f) w K Q := by
  subst hx'; exact e_cpy0 (l := l) hS ht hsz hpos hx hi hle hmx hy hG hl h1 h
end
end Go.Proofs.Yteojpdijmnpmgaa
namespace Go.Proofs.Yteojpdijmnpmgaa
open Go.RowKit

/-! ### rows -/
theorem ite_no {c : Prop} [Decidable c] {A B : Prop} (h : ¬ c) (hb : B) : if c then A else B := by rw [if_neg h]; exact hb
theorem ite_yes {c : Prop} [Decidable c] {A B : Prop} (h : c) (ha : A) : if c then A else B := by rw [if_pos h]; exact ha
/-- Bytes as a row's values. -/
abbrev bv (l : List Nat) : List Value := l.map fun (x : Nat) => Value.int .u8 ((x : Nat) : Int)
def Bytes (l : List Nat) : Prop := ∀ x ∈ l, x < 256
instance (l : List Nat) : Decidable (Bytes l) := inferInstanceAs (Decidable (∀ x ∈ l, x < 256))
/-- Numbers as a row's values. -/
abbrev iv (l : List Int) : List Value := l.map fun (x : Int) => Value.int .i64 x
theorem bv_at {l : List Nat} {i x : Nat} (h : l[i]? = some x) : (bv l)[i]? = some (.int .u8 (x : Int)) := by rw [List.getElem?_map, h]; rfl
theorem iv_at {l : List Int} {i : Nat} {x : Int} (h : l[i]? = some x) : (iv l)[i]? = some (.int .i64 x) := by rw [List.getElem?_map, h]; rfl
theorem at1 {xs : List Value} {i : Nat} {u : Value} (h : xs[i]? = some u) : xs[i * 1]? = some u := by rw [Nat.mul_one]; exact h
theorem bv_one (l : List Nat) : ∀ u ∈ bv l, u.oneCell' = true := fun u hu => by obtain ⟨q, _, rfl⟩ := List.mem_map.1 hu; rfl
theorem iv_one (l : List Int) : ∀ u ∈ iv l, u.oneCell' = true := fun u hu => by obtain ⟨q, _, rfl⟩ := List.mem_map.1 hu; rfl
theorem bv_app {l m : List Nat} : bv l ++ bv m = bv (l ++ m) := List.map_append.symm
theorem iv_app {l m : List Int} : iv l ++ iv m = iv (l ++ m) := List.map_append.symm
theorem bv_len (l : List Nat) : (bv l).length = l.length := List.length_map ..
theorem iv_len (l : List Int) : (iv l).length = l.length := List.length_map ..
theorem Bytes.sub {l : List Nat} (h : Bytes l) {a b : Nat} : Bytes ((l.drop a).take b) := fun x hx => h x (List.mem_of_mem_drop (List.mem_of_mem_take hx))
theorem Bytes.app {l m : List Nat} (h : Bytes l) (h' : Bytes m) : Bytes (l ++ m) := fun x hx => (List.mem_append.1 hx).elim (h x) (h' x)
theorem Bytes.set {l : List Nat} (h : Bytes l) {k z : Nat} (hz : z < 256) : Bytes (l.set k z) := fun x hx => by
  rcases List.mem_or_eq_of_mem_set hx with h1 | rfl
  · exact h x h1
  · exact hz
theorem Bytes.take {l : List Nat} (h : Bytes l) {a : Nat} : Bytes (l.take a) := fun x hx => h x (List.mem_of_mem_take hx)
theorem Bytes.drop {l : List Nat} (h : Bytes l) {a : Nat} : Bytes (l.drop a) := fun x hx => h x (List.mem_of_mem_drop hx)
theorem Bytes.cons {l : List Nat} {a : Nat} (ha : a < 256) (h : Bytes l) : Bytes (a :: l) := fun x hx => by
  rcases List.mem_cons.1 hx with rfl | h1
  · exact ha
  · exact h x h1
theorem Bytes.nil : Bytes [] := fun _ h => by cases h
theorem bv_sub {g : Gh} {ad : Option Addr} {l : List Nat} {a b : Nat} (h : SlG g ad (((bv l).drop (a * 1)).take (b * 1))) : SlG g ad (bv ((l.drop a).take b)) := by
  rw [Nat.mul_one, Nat.mul_one] at h; unfold bv; rw [List.map_take, List.map_drop]; exact h
theorem SlG.takeN {g : Gh} {ad : Option Addr} {xs : List Value} (h : SlG g ad xs) (n : Nat) : SlG g ad (xs.take n) := by
  rcases h with h | ⟨b, off, arr, T, fz, ha, hb, hx⟩
  · exact .inl (by rw [h]; simp)
  · refine .inr ⟨b, off, arr, T, fz, ha, hb, fun j u hu => hx j u ?_⟩
    rw [List.getElem?_take] at hu
    split at hu
    · exact hu
    · cases hu
theorem bv_takeG {g : Gh} {ad : Option Addr} {l : List Nat} {n : Nat} (h : SlG g ad (bv l)) : SlG g ad (bv (l.take n)) := by
  have := h.takeN n; unfold bv at this ⊢; rwa [List.map_take]
theorem bv_subx {l : List Nat} {a b : Nat} : ((bv l).drop (a * 1)).take (b * 1) = bv ((l.drop a).take b) := by
  rw [Nat.mul_one, Nat.mul_one]; unfold bv; rw [List.map_take, List.map_drop]
theorem bv_subxT {l : List Nat} {b : Nat} : ((bv l).drop (0 * 1)).take ((b - 0) * 1) = bv (l.take b) := by rw [bv_subx, List.drop_zero, Nat.sub_zero]
theorem bv_subxD {l : List Nat} {a n : Nat} (hn : n = l.length) : ((bv l).drop (a * 1)).take ((n - a) * 1) = bv (l.drop a) := by
  subst hn; rw [bv_subx, ← List.length_drop, List.take_length]
theorem bv_subD {g : Gh} {ad : Option Addr} {l : List Nat} {a n : Nat} (hn : n = l.length) (h : SlG g ad (((bv l).drop (a * 1)).take ((n - a) * 1))) : SlG g ad (bv (l.drop a)) := bv_subxD hn ▸ h
section
variable {α : Type} {c : α → List Value} {m : Nat}
theorem rows_len (hc : ∀ r, (c r).length = m) : ∀ l : List α, (List.flatMap c l).length = l.length * m
  | [] => by simp
  | r :: l => by rw [List.flatMap_cons, List.length_append, hc, rows_len hc l, List.length_cons, Nat.add_mul, Nat.one_mul, Nat.add_comm]
theorem rows_drop (hc : ∀ r, (c r).length = m) : ∀ (l : List α) (a : Nat), (List.flatMap c l).drop (a * m) = List.flatMap c (l.drop a)
  | [], a => by simp
  | r :: l, 0 => by simp
  | r :: l, a + 1 => by
    rw [List.flatMap_cons, List.drop_succ_cons, ← rows_drop hc l a, Nat.add_mul, Nat.one_mul, Nat.add_comm, List.drop_append, List.drop_eq_nil_of_le (by rw [hc]; omega), List.nil_append, hc, Nat.add_sub_cancel_left]
theorem rows_one (hc : ∀ r, AllOne (c r)) {l : List α} : ∀ u ∈ List.flatMap c l, u.oneCell' = true := fun u hu => by
  obtain ⟨r, _, hr⟩ := List.mem_flatMap.1 hu; exact (hc r).all u hr
theorem rows_app {l l' : List α} : List.flatMap c l ++ List.flatMap c l' = List.flatMap c (l ++ l') := List.flatMap_append.symm
theorem row_take {l : List α} {i : Nat} {x : α} (hx : l[i]? = some x) (hc : ∀ r, (c r).length = m) : ((List.flatMap c l).drop (i * m)).take m = c x := by
  have h1 := rows_drop hc l i
  obtain ⟨hi, hx⟩ := List.getElem?_eq_some_iff.1 hx
  rw [h1, List.drop_eq_getElem_cons hi, List.flatMap_cons, hx, List.take_left' (hc x)]
theorem row_at {l : List α} {i : Nat} {x : α} (hx : l[i]? = some x) (hc : ∀ r, (c r).length = m) {j : Nat} {u : Value} (hu : (c x)[j]? = some u) : (List.flatMap c l)[i * m + j]? = some u := by
  have h := row_take hx hc
  have hj : j < m := by rw [← hc x]; exact (List.getElem?_eq_some_iff.1 hu).1
  rw [← h, List.getElem?_take, if_pos hj, List.getElem?_drop] at hu
  exact hu
end

/-! ### whole numbers -/
theorem wrap_fit_i64 {a : Nat} (h : a < 9223372036854775808) : IntKind.i64.wrap (a : Int) = (a : Int) := wrap_nat .i64 (by simpa [IntKind.bits] using h)
theorem wrap_fit_u64 {a : Nat} (h : a < 18446744073709551616) : IntKind.u64.wrap (a : Int) = (a : Int) := by rw [wrap_u (k := .u64) rfl a]; congr 1; exact Nat.mod_eq_of_lt h
section
variable {P : Program} {n : Nat} {f : Nat → Value} {w : World}
variable {d : Option Tmp} {x y : Operand} {ty T T' : TypeId} {pos : String} {aft : Array Edge} {g : Option (Nat × Bool)}
theorem u_conv {k k' : IntKind} {a M : Nat} (hx : ev n f x = .int k (a : Int)) (h : P.underlying T' = some (.int k')) (h2 : (P.underlying T).isSome = true) (hs : k'.signed = false) (hM : 2 ^ k'.bits = M) : Run P n f ⟨d, .convert T T' x, ty, pos, aft, g⟩ w (.int k' ((a % M : Nat) : Int)) := by
  subst hM; have := q_conv (w := w) (d := d) (ty := ty) (pos := pos) (aft := aft) (g := g) hx h h2; rwa [wrap_u hs] at this
theorem u_shl {k yk : IntKind} {a b M : Nat} (hk : k.signed = false) (hx : ev n f x = .int k (a : Int)) (hy : ev n f y = .int yk (b : Int)) (hb : b ≤ k.bits) (hM : 2 ^ k.bits = M) : Run P n f ⟨d, .binOp .shl T x y T', ty, pos, aft, g⟩ w (.int k ((a * 2 ^ b % M : Nat) : Int)) := by
  subst hM; exact q_shlU hk hx hy hb
theorem q_shlN {k yk : IntKind} {a b : Nat} (hx : ev n f x = .int k (a : Int)) (hy : ev n f y = .int yk (b : Int)) (hb : b ≤ k.bits) (hfit : k.wrap ((a * 2 ^ b : Nat) : Int) = ((a * 2 ^ b : Nat) : Int)) : Run P n f ⟨d, .binOp .shl T x y T', ty, pos, aft, g⟩ w (.int k ((a * 2 ^ b : Nat) : Int)) := by
  have := q_shl (P := P) (w := w) (d := d) (T := T) (T' := T') (ty := ty) (pos := pos) (aft := aft) (g := g) hx hy (Int.natCast_nonneg b)
  have e : k.wrap ((a : Int) * 2 ^ min ((b : Int)).toNat k.bits) = ((a * 2 ^ b : Nat) : Int) := by
    rw [Int.toNat_natCast, Nat.min_eq_left hb, ← hfit]
    congr 1
  rwa [e] at this
theorem int_nat {k : IntKind} {a : Int} {j : Nat} {v : Value} (h : a = (j : Int)) (hv : v = .int k a) : v = .int k (j : Int) := h ▸ hv
theorem allone {l : List Value} (h : AllOne l) : ∀ u ∈ l, u.oneCell' = true := h.all

theorem und_sl {t e : TypeId} (h : slB P t = some e) : P.underlying t = some (.slice e) := by
  unfold slB at h
  cases hu : P.underlying t with
  | none => simp [hu] at h
  | some d => cases d <;> simp [hu] at h; obtain rfl := h; rfl
theorem eq_sln {t e : TypeId} {ad : Option Addr} {l c : Nat} (h : slB P t = some e) : (Op.equal t (.slice ad l c) (.slice none 0 0)).run P w = .ok ad.isNone w := by
  have hu := und_sl h
  have : ∀ q : Nat, (Op.equalIn (q + 1) t (.slice ad l c) (.slice none 0 0)).run P w = .ok ad.isNone w := fun q => by cases ad <;> simp [Op.equalIn, run_und hu, Sem.run]
  exact this 9999
theorem q_slice_eql {ad : Option Addr} {l c : Nat} (e : TypeId) (hx : ev n f x = .slice ad l c) (hy : ev n f y = .slice none 0 0) (ht : slB P T = some e) : Run P n f ⟨d, .binOp .eql T x y T', ty, pos, aft, g⟩ w (.bool ad.isNone) := by
  simp only [Run, execOp, hx, hy, binOp, eqGuard]; simp [eq_sln ht, Sem.run]
theorem q_slice_neq {ad : Option Addr} {l c : Nat} (e : TypeId) (hx : ev n f x = .slice ad l c) (hy : ev n f y = .slice none 0 0) (ht : slB P T = some e) : Run P n f ⟨d, .binOp .neq T x y T', ty, pos, aft, g⟩ w (.bool (!ad.isNone)) := by
  simp only [Run, execOp, hx, hy, binOp, eqGuard]; simp [eq_sln ht, Sem.run]
end

section
variable {P : Program} {ops : Array Oper} {Q : Exit → Act → World → Prop} {n : Nat} {f : Nat → Value} {w : World} {K : Act → World → Prop} {d : Option Tmp} {ty : TypeId} {pos : String} {aft : Array Edge} {g : Option (Nat × Bool)}
/-- A call whose arguments are seen otherwise. -/
theorem e_callA {fid : FuncId} {args : List Operand} {vs vs' : List Value} {ts : Array TypeId} {R : Ending → World → Prop} (hb : callB P fid = true) (hc : Calls P fid vs.toArray w R) (ha : evl n f args = vs') (he : vs' = vs) (hk : ∀ e w', R e w' → After n f d Q K e w') :
    Oper.wp P ⟨d, .call ⟨.value (.func fid), args.toArray, ts⟩, ty, pos, aft, g⟩ (E n f) w K Q := by
  subst he; exact e_call hb hc ha hk
end
theorem subS_zero {ad : Option Addr} {size m : Nat} : subS ad 0 size m = ad := by
  unfold subS
  split
  · rfl
  · cases ad with
    | none => rfl
    | some a => simp [Addr.add]
section
variable {P : Program} {ops : Array Oper} {Q : Exit → Act → World → Prop} {n : Nat} {f : Nat → Value} {w w0 : World} {D : Nat → Prop} {Γ : List Ch} {K : Act → World → Prop} {dd : Nat} {x y : Operand} {d : Option Tmp} {T Tx ty : TypeId} {pos : String} {aft : Array Edge} {g : Option (Nat × Bool)}
theorem q_sliceX {lo hi mx : Option Operand} {ad ad' : Option Addr} {len cap l h m size len' cap' : Nat} {e : TypeId} (hx : ev n f x = .slice ad len cap) (ht : slB P T = some e) (hz : szB P e = some size)
    (hm : bndIs n f mx cap m) (hh : bndIs n f hi len h) (hl : bndIs n f lo 0 l) (h1 : l ≤ h) (h2 : h ≤ m) (h3 : m ≤ cap) (hno : (mx.isSome && !hi.isSome) = false) (ha : subS ad l size m = ad') (hle : h - l = len') (hc : m - l = cap') :
    Run P n f ⟨d, .slice T x lo hi mx, ty, pos, aft, g⟩ w (.slice ad' len' cap') := by
  subst ha hle hc; exact q_sliceG hx ht hz hm hh hl h1 h2 h3 hno
theorem e_cpyX {e size i m cap lo mx dl dc sl sc N : Nat} {ad ad1 ad2 : Option Addr} {xs ys xs' : List Value} (hS : St w0 D Γ w) (ht : slB P T = some e) (hsz : szB P e = some size) (hpos : 0 < size) (hx : ev n f x = .slice ad1 dl dc) (had : ad1 = subS ad lo size mx) (hi : Γ[i]? = some (.ow e size ad m cap xs))
    (hle : lo + dl ≤ m) (hmx : lo + dl ≤ mx) (hy : ev n f y = .slice ad2 sl sc) (hG : SlG (hw w) ad2 ys) (hl : ys.length = sl * size) (hN : min sl dl = N) (h1 : ∀ u ∈ ys.take (N * size), u.oneCell' = true) (hx' : xs.take (lo * size) ++ ys.take (N * size) ++ xs.drop (lo * size + N * size) = xs')
    (h : ∀ w', St w0 D (Γ.set i (.ow e size ad m cap xs')) w' → K (E n (up f dd (.int .i64 (N : Nat)))) w') :
    Oper.wp P ⟨some dd, .call ⟨.builtin .copy, List.toArray [x, y], List.toArray [T, Tx]⟩, ty, pos, aft, g⟩ (E n f) w K Q := by
  subst had hN; exact e_cpy (l := 0) hS ht hsz hpos hx hi hle hmx hy hG hl h1 hx' h
/-- append(x, make([]T, l)...), that grows always. -/
theorem e_appZ {e size bytes m cap l m' : Nat} {ad : Option Addr} {xs : List Value} {kn : IntKind} {a : Int} (hB : appB P T e size bytes = true) (hTx : P.underlying Tx = some (.int kn)) (hS : St w0 D Γ w) (hx : ev n f x = .slice ad m cap) (hG : SlG (hw w) ad xs) (hlx : xs.length = m * size)
    (hy : ev n f y = .int .i64 a) (hl : a = (l : Int)) (hgr : cap < m + l) (hm' : m + l = m') (h63 : m' ≤ maxLen) (hby : m' * bytes ≤ 140737488355328)
    (h : ∀ b cap' w' zs, zs.length = l * size → St w0 D (.ow e size (some ⟨b, 0, Option.none⟩) m' cap' (xs ++ zs) :: Γ) w' → K (E n (up f dd (.slice (some ⟨b, 0, Option.none⟩) m' cap'))) w') :
    Oper.wp P ⟨some dd, .call ⟨.builtin .append, List.toArray [x, y], List.toArray [T, Tx]⟩, ty, pos, aft, g⟩ (E n f) w K Q := by
  subst hm' hl
  obtain ⟨inf, zv, hu, hif, hs1, hs2, hzz, hz, hpos⟩ := appB_facts hB
  subst hs1 hs2
  have hlm : (l : Int) ≤ 9223372036854775807 := by simp only [maxLen] at h63; omega
  have hw1 : IntKind.i64.wrap (l : Int) = l := by rw [IntKind.wrap_i64]; omega
  have hneg : ¬ ((l : Int) < 0) := by omega
  have hlb : l * inf.bytes ≤ (m + l) * inf.bytes := Nat.mul_le_mul_right _ (by omega)
  have h48i : ¬ (281474976710656 < (l : Int) * (inf.bytes : Int)) := by rw [← Int.natCast_mul]; omega
  have hfit := growslice_fits hgr hby
  have h48' : ¬ (281474976710656 < Builtin.nextslicecap (m + l) cap * inf.bytes) := by omega
  have h63' : ¬ (9223372036854775807 < ((m : Int) + (l : Int))) := by simp only [maxLen] at h63; omega
  have hn : ¬ (m + l ≤ cap) := by omega
  have hGd : SlG (hw w.drew) ad xs := hG
  have hfo := hGd.first (P := P) (size := inf.size) (q := m) (c := cap) hlx
  have hc1 := grownCap_ge w (m + l) cap e
  have hc2 := grownCap_le_maxLen w (m + l) cap e h63
  let zs : Array Value := if l * inf.size = 0 then #[] else Builtin.zeroCells zv.cells l
  have hzl : zs.size = l * inf.size := by
    by_cases h0 : l * inf.size = 0
    · simp [zs, h0]
    · simp [zs, h0, zeroCells_size, hz]
  have hr : (Builtin.append_ #[T, Tx] ty #[.slice ad m cap, .int .i64 l]).run P w = .ok (.slice (some ⟨w.heap.size, 0, none⟩) (m + l) (grownCap w (m + l) cap e))
      (w.drew.alloc (.cells (xs.toArray ++ zs ++ Builtin.zeroCells zv.cells (grownCap w (m + l) cap e - (m + l))) e)) := by
    by_cases h0 : l * inf.size = 0
    · simp [Builtin.append_, run_underlying hu, run_underlying hTx, sizeOf, typeInfo, zeroValue, hif, hzz, asInt, asIntOf, hw1, hn, hneg, h0, h63', h48', h48i, Question.forced, hfo, newRow, grownCap, zs]
    · simp [Builtin.append_, run_underlying hu, run_underlying hTx, sizeOf, typeInfo, zeroValue, hif, hzz, asInt, asIntOf, hw1, hn, hneg, h0, h63', h48', h48i, Question.forced, hfo, newRow, grownCap, zs]
  refine wp_known rfl (ex_append hx hy hr) (h _ _ _ zs.toList (by rw [Array.length_toList]; exact hzl) ?_)
  have hg1 : St w0 D (.blk w.heap.size (.cells (xs.toArray ++ zs ++ Builtin.zeroCells zv.cells (grownCap w (m + l) cap e - (m + l))) e) :: Γ) (w.drew.alloc (.cells (xs.toArray ++ zs ++ Builtin.zeroCells zv.cells (grownCap w (m + l) cap e - (m + l))) e)) := hS.alloc _ |>.of_heap rfl rfl rfl rfl
  have hlen : (xs ++ zs.toList).length = (m + l) * inf.size := by rw [List.length_append, hlx, Array.length_toList, hzl, Nat.add_mul]
  have hg2 := hg1.recast (i := 0) (c' := .ow e inf.size (some ⟨w.heap.size, 0, Option.none⟩) (m + l) (grownCap w (m + l) cap e) (xs ++ zs.toList)) rfl (fun k hk => by obtain ⟨a0, h1, rfl⟩ := hk; injection h1 with h1; subst h1; rfl) fun hsat => ?_
  · exact hg2
  · refine ⟨hlen, hc1, hc2, .inr ⟨_, 0, _, rfl, hsat, ?_, ?_⟩⟩
    · simp only [Array.size_append, zeroCells_size, hz, List.size_toArray, hlx, hzl, Nat.zero_add]
      rw [← Nat.add_mul, ← Nat.add_mul]; exact Nat.mul_le_mul_right _ (by omega)
    · rw [List.drop_zero, Array.toList_append, Array.toList_append, ← hlen]
      exact List.take_left' rfl
end
/-! ### slices.Insert's rows -/
theorem ins_cells {xs ys zs : List Value} {I M N : Nat} (hI : I ≤ N) (hx : xs.length = N) (hy : ys.length = M) (hz : zs.length = M) :
    let X := xs ++ ys
    let X1 := X.take (I + M) ++ (X.drop I).take (N - I) ++ X.drop (I + M + (N - I))
    X1.take I ++ zs.take M ++ X1.drop (I + M) = xs.take I ++ zs ++ xs.drop I := by
  intro X X1
  have e1 : X1.drop (I + M) = xs.drop I := by
    have hX : X.length = N + M := by simp [X, hx, hy]
    have h1 : (X.take (I + M)).length = I + M := by rw [List.length_take, hX]; omega
    have h2 : X.drop (I + M + (N - I)) = [] := List.drop_eq_nil_of_le (by rw [hX]; omega)
    show ((X.take (I + M) ++ (X.drop I).take (N - I)) ++ X.drop (I + M + (N - I))).drop (I + M) = _
    rw [h2, List.append_nil, List.drop_left' h1]
    show ((xs ++ ys).drop I).take (N - I) = _
    rw [List.drop_append_of_le_length (by omega), List.take_append_of_le_length (by rw [List.length_drop]; omega), List.take_of_length_le (by rw [List.length_drop]; omega)]
  have e2 : X1.take I = xs.take I := by
    show ((X.take (I + M) ++ (X.drop I).take (N - I)) ++ X.drop (I + M + (N - I))).take I = _
    have hX : X.length = N + M := by simp [X, hx, hy]
    rw [List.append_assoc, List.take_append_of_le_length (by rw [List.length_take, hX]; omega), List.take_take, Nat.min_eq_left (by omega)]
    exact List.take_append_of_le_length (by omega)
  have h3 : zs.take M = zs := List.take_of_length_le (by omega)
  rw [e1, e2, h3]
theorem ins_cells2 {xs ys zs : List Value} {I M N L : Nat} (hI : I ≤ N) (hx : xs.length = N) (hy : ys.length = L) (hL : L = N + M - I) (hz : zs.length = M) :
    let X := xs.take I ++ ys
    let X1 := X.take I ++ zs.take M ++ X.drop (I + M)
    X1.take (I + M) ++ (xs.drop I).take (N - I) ++ X1.drop (I + M + (N - I)) = xs.take I ++ zs ++ xs.drop I := by
  intro X X1
  have hX : X.length = N + M := by simp only [X, List.length_append, List.length_take, hx, hy]; omega
  have h1 : (X.take I).length = I := by rw [List.length_take, hX]; omega
  have h2 : X.take I = xs.take I := List.take_left' (by rw [List.length_take]; omega)
  have h3 : zs.take M = zs := List.take_of_length_le (by omega)
  have h4 : X1.length = N + M := by simp only [X1, List.length_append, List.length_take, List.length_drop, hX, hz]; omega
  have h5 : X1.drop (I + M + (N - I)) = [] := List.drop_eq_nil_of_le (by omega)
  have h6 : X1.take (I + M) = xs.take I ++ zs := by
    show ((X.take I ++ zs.take M) ++ X.drop (I + M)).take (I + M) = _
    rw [List.take_left' (by rw [List.length_append, h1, h3, hz]), h2, h3]
  have h7 : (xs.drop I).take (N - I) = xs.drop I := List.take_of_length_le (by rw [List.length_drop]; omega)
  rw [h5, h6, h7, List.append_nil]
/-- A slice in plain memory. -/
def SlP (g : Gh) (ad : Option Addr) (xs : List Value) : Prop := xs = [] ∨ ∃ b off arr T, ad = some ⟨b, off, none⟩ ∧ g b = some (.cells arr T (0, 0)) ∧ off + xs.length ≤ arr.size ∧ ∀ j u, xs[j]? = some u → arr[off + j]? = some u
theorem SlP.slg {g : Gh} {ad : Option Addr} {xs : List Value} (h : SlP g ad xs) : SlG g ad xs := by
  rcases h with h | ⟨b, off, arr, T, h1, h2, _, h3⟩
  · exact .inl h
  · exact .inr ⟨b, off, arr, T, (0, 0), h1, h2, h3⟩
section
variable {P : Program} {w : World}
theorem ov_apart {f : FuncId} {tS tR e size la ca lb cb : Nat} {ad ad2 : Option Addr} {zs : List Value} {g : Gh} (hx : ∀ args w, (callFunc f args).run P w = ((Extern.SlicesOverlaps.overlaps #[tS, tS] #[tR] args).run P w).andThen fun v w' => .ok (.value v) w')
    (ht : slB P tS = some e) (hz : szB P e = some size) (hp : 0 < size) (hZ : SlP g ad2 zs) (hg : Gle g (hw w)) (hzl : zs.length = la * size)
    (hA : ad = none ∨ ∃ gb off cur T, ad = some ⟨gb, off, none⟩ ∧ w.heap[gb]? = some (.cells cur T (0, 0)) ∧ cur.size ≠ 0 ∧ ∀ o, g gb ≠ some o) :
    (callFunc f #[.slice ad2 la ca, .slice ad lb cb]).run P w = .ok (.value (.bool false)) w := by
  rw [hx]
  have ht' := und_sl ht
  have hz' : ∀ w, (Go.sizeOf e).run P w = .ok size w := fun w => run_sizeOf hz
  have key : (Extern.SlicesOverlaps.overlaps #[tS, tS] #[tR] #[.slice ad2 la ca, .slice ad lb cb]).run P w = .ok (.bool false) w := by
    by_cases hla : la = 0
    · change Sem.run P (α := Value) (do
        let some t := (#[tS, tS] : Array TypeId)[0]? | stuck "slices.overlaps: no parameter types"
        let .slice elem ← underlying t | stuck "slices.overlaps: slice type expected"
        let size ← sizeOf elem
        match ad2, ad with
        | some a, some b =>
          if la = 0 ∨ lb = 0 ∨ size = 0 then pure (Value.bool false)
          else if a.block != b.block && (← frozen a) && (← frozen b) then unsupported .addressObserved
          else do
            if a.block != b.block then do
              noView a; noView b
              if ← mayBeOne a b then return Value.bool ((← choose (.extern "sameAddr.stringBytes" 2)) == 1)
            pure (Value.bool (a.block == b.block && a.off < b.off + lb * size && b.off < a.off + la * size))
        | _, _ => pure (Value.bool false)) w = _
      cases ad2 <;> cases ad <;> simp [run_underlying ht', hz', hla, Sem.run]
    · have hzp : 0 < zs.length := by rw [hzl]; exact Nat.mul_pos (by omega) hp
      rcases hZ with rfl | ⟨b, off, arr, T, rfl, hb, hle, hxx⟩
      · simp at hzp
      · rcases hA with rfl | ⟨gb, off2, cur, T2, rfl, hgb, hne, hap⟩
        · change Sem.run P (α := Value) (do
            let some t := (#[tS, tS] : Array TypeId)[0]? | stuck "slices.overlaps: no parameter types"
            let .slice elem ← underlying t | stuck "slices.overlaps: slice type expected"
            let size ← sizeOf elem
            match (some ⟨b, off, none⟩ : Option Addr), (none : Option Addr) with
            | some a, some b =>
              if la = 0 ∨ lb = 0 ∨ size = 0 then pure (Value.bool false)
              else if a.block != b.block && (← frozen a) && (← frozen b) then unsupported .addressObserved
              else do
                if a.block != b.block then do
                  noView a; noView b
                  if ← mayBeOne a b then return Value.bool ((← choose (.extern "sameAddr.stringBytes" 2)) == 1)
                pure (Value.bool (a.block == b.block && a.off < b.off + lb * size && b.off < a.off + la * size))
            | _, _ => pure (Value.bool false)) w = _
          simp [run_underlying ht', hz', Sem.run]
        · have hbh : w.heap[b]? = some (.cells arr T (0, 0)) := hg _ _ hb
          refine Lib.run_overlaps_apart w tS tR e ht' size hz' ⟨b, off, none⟩ ⟨gb, off2, none⟩ la ca lb cb (fun he => by have he' : b = gb := he; subst he'; exact hap _ hb) T T2 arr.size cur.size ?_ ?_ hne ?_ ?_
          · simp [World.shape?, hbh]
          · simp [World.shape?, hgb]
          · simp [World.frozen?, hbh]
          · simp [World.frozen?, hbh]
  rw [key]; rfl
end
/-! ### pieces -/
section
variable {w w0 : World} {D : Nat → Prop} {Γ : List Ch}
theorem St.cast {Γ' : List Ch} (h : St w0 D Γ w) (e : Γ = Γ') : St w0 D Γ' w := e ▸ h
theorem St.only (h : St w0 D Γ w) (k : Nat) : St w0 D (Γ.take k) w := h.sub (List.take_sublist k Γ)
theorem St.front (h : St w0 D Γ w) {k : Nat} {c : Ch} {Γ' : List Ch} (hk : Γ[k]? = some c) (he : c :: Γ.eraseIdx k = Γ') : St w0 D Γ' w := by
  subst he
  refine h.perm ?_
  have key : ∀ (l : List Ch) (k : Nat), l[k]? = some c → l.Perm (c :: l.eraseIdx k) := by
    intro l
    induction l with
    | nil => intro k h; simp at h
    | cons a l ih =>
      intro k h
      cases k with
      | zero => simp at h; subst h; exact .refl _
      | succ k => simp at h; exact (List.Perm.cons a (ih k h)).trans (.swap _ _ _)
  exact key Γ k hk
theorem St.blkOw' {e b i size m : Nat} {arr : Array Value} {xs : List Value} (h : St w0 D Γ w) (hi : Γ[i]? = some (.blk b (.cells arr e))) (hx : arr.toList = xs) (hz : arr.size = m * size) (hm : m ≤ maxLen) : St w0 D (Γ.set i (.ow e size (some ⟨b, 0, none⟩) m m xs)) w := by
  subst hx; exact h.blkOw size m hi hz hm
theorem St.owSubX {e size i m cap l hh mx m' cap' : Nat} {ad ad' : Option Addr} {xs xs' : List Value} (h : St w0 D Γ w) (hi : Γ[i]? = some (.ow e size ad m cap xs)) (h1 : l ≤ hh) (h2 : hh ≤ mx) (h3 : mx ≤ cap) (h4 : hh ≤ m)
    (ha : subS ad l size mx = ad') (hm : hh - l = m') (hc : mx - l = cap') (hx : (xs.drop (l * size)).take ((hh - l) * size) = xs') : St w0 D (Γ.set i (.ow e size ad' m' cap' xs')) w := by
  subst ha hm hc hx; exact h.owSub hi h1 h2 h3 h4
variable {a b c d e f g h' i j : Ch}
theorem St.fr1 (h : St w0 D (a :: b :: Γ) w) : St w0 D (b :: a :: Γ) w := h.front (k := 1) rfl rfl
theorem St.fr2 (h : St w0 D (a :: b :: c :: Γ) w) : St w0 D (c :: a :: b :: Γ) w := h.front (k := 2) rfl rfl
theorem St.fr3 (h : St w0 D (a :: b :: c :: d :: Γ) w) : St w0 D (d :: a :: b :: c :: Γ) w := h.front (k := 3) rfl rfl
theorem St.fr4 (h : St w0 D (a :: b :: c :: d :: e :: Γ) w) : St w0 D (e :: a :: b :: c :: d :: Γ) w := h.front (k := 4) rfl rfl
theorem St.fr5 (h : St w0 D (a :: b :: c :: d :: e :: f :: Γ) w) : St w0 D (f :: a :: b :: c :: d :: e :: Γ) w := h.front (k := 5) rfl rfl
theorem St.fr6 (h : St w0 D (a :: b :: c :: d :: e :: f :: g :: Γ) w) : St w0 D (g :: a :: b :: c :: d :: e :: f :: Γ) w := h.front (k := 6) rfl rfl
theorem St.fr7 (h : St w0 D (a :: b :: c :: d :: e :: f :: g :: h' :: Γ) w) : St w0 D (h' :: a :: b :: c :: d :: e :: f :: g :: Γ) w := h.front (k := 7) rfl rfl
theorem St.fr8 (h : St w0 D (a :: b :: c :: d :: e :: f :: g :: h' :: i :: Γ) w) : St w0 D (i :: a :: b :: c :: d :: e :: f :: g :: h' :: Γ) w := h.front (k := 8) rfl rfl
theorem St.fr9 (h : St w0 D (a :: b :: c :: d :: e :: f :: g :: h' :: i :: j :: Γ) w) : St w0 D (j :: a :: b :: c :: d :: e :: f :: g :: h' :: i :: Γ) w := h.front (k := 9) rfl rfl

/-! ### what a call reads besides its pieces -/
def Rog (Γ1 : List Ch) (w : World) (g : Gh) : Prop := ∀ k o, g k = some o → w.heap[k]? = some o ∧ ¬ owns Γ1 k
section
variable {g : Gh} {Γ1 F : List Ch}
theorem Rog.le {w' : World} {Γ' : List Ch} (hg : Rog Γ1 w g) (h : St w (owns Γ1) Γ' w') : Gle g (hw w') := fun k o e => (h.keep k (Array.getElem?_eq_some_iff.1 (hg k o e).1).1 (hg k o e).2).trans (hg k o e).1
theorem owns_meet {i : Nat} {c : Ch} (h : St w0 D (Γ1 ++ F) w) (hi : F[i]? = some c) {k : Nat} (hk : c.own k) : ¬ owns Γ1 k := by
  rintro ⟨d, hd, hdk⟩
  obtain ⟨j, hj⟩ := List.getElem?_of_mem hd
  have hjl : j < Γ1.length := (List.getElem?_eq_some_iff.1 hj).1
  exact h.sat.disj (i := j) (j := Γ1.length + i) (by rw [List.getElem?_append_left hjl]; exact hj) (by rw [List.getElem?_append_right (by omega), Nat.add_sub_cancel_left]; exact hi) (by omega) k hdk hk
theorem St.rogO {e size m cap i : Nat} {ad : Option Addr} {xs : List Value} (h : St w0 D (Γ1 ++ F) w) (hi : F[i]? = some (.ow e size ad m cap xs)) : ∃ g, Rog Γ1 w g ∧ SlG g ad xs := by
  have hm : (Γ1 ++ F)[Γ1.length + i]? = some (.ow e size ad m cap xs) := by rw [List.getElem?_append_right (by omega), Nat.add_sub_cancel_left]; exact hi
  rcases h.owG hm with h0 | ⟨b, off, arr, T, fz, rfl, hb, hx⟩
  · exact ⟨fun _ => none, fun k o e => by (cases e), .inl h0⟩
  · refine ⟨fun k => if k = b then w.heap[k]? else none, fun k o e => ?_, .inr ⟨b, off, arr, T, fz, rfl, (if_pos rfl).trans hb, hx⟩⟩
    by_cases hk : k = b
    · subst hk
      simp at e
      exact ⟨by simpa using e, owns_meet h hi ⟨_, rfl, rfl⟩⟩
    · simp [hk] at e
theorem St.rogP {e size m cap i : Nat} {ad : Option Addr} {xs : List Value} (h : St w0 D (Γ1 ++ F) w) (hi : F[i]? = some (.ow e size ad m cap xs)) : ∃ g, Rog Γ1 w g ∧ SlP g ad xs := by
  have hm : (Γ1 ++ F)[Γ1.length + i]? = some (.ow e size ad m cap xs) := by rw [List.getElem?_append_right (by omega), Nat.add_sub_cancel_left]; exact hi
  obtain ⟨h1, h2, h3, h4⟩ := (h.sat.get hm).1
  rcases h4 with ⟨rfl, h0⟩ | ⟨gb, off, cur, rfl, hg, hle, hx⟩
  · refine ⟨fun _ => none, fun k o e => by (cases e), .inl ?_⟩
    have : m = 0 := by omega
    subst this; exact List.eq_nil_of_length_eq_zero (by simpa using h1)
  · have hmul : m * size ≤ cap * size := Nat.mul_le_mul_right _ h2
    refine ⟨fun k => if k = gb then w.heap[k]? else none, fun k o e => ?_, .inr ⟨gb, off, cur, e, rfl, (if_pos rfl).trans hg, by omega, fun j u hu => ?_⟩⟩
    · by_cases hk : k = gb
      · subst hk
        simp at e
        exact ⟨by simpa using e, owns_meet h hi ⟨_, rfl, rfl⟩⟩
      · simp [hk] at e
    · rw [← hx, List.getElem?_take] at hu
      split at hu
      · rw [List.getElem?_drop] at hu
        simpa using hu
      · cases hu
theorem St.rogB (h : St w0 (fun _ => False) (Γ1 ++ F) w) : Rog Γ1 w (hw w0) := fun k o e => by
  have hk : k < w0.heap.size := (Array.getElem?_eq_some_iff.1 e).1
  refine ⟨h.base k o e, ?_⟩
  rintro ⟨c, hc, hck⟩
  rcases ((h.sat.mem c (List.mem_append_left _ hc)).2 k hck).1 with h1 | h1
  · exact h1
  · omega
theorem St.rogR {Γ0 : List Ch} (h : St w0 (owns Γ0) (Γ1 ++ F) w) (hg : Rog Γ0 w0 g) : Rog Γ1 w g := fun k o e => by
  have hk : k < w0.heap.size := (Array.getElem?_eq_some_iff.1 (hg k o e).1).1
  refine ⟨hg.le h k o e, ?_⟩
  rintro ⟨c, hc, hck⟩
  rcases ((h.sat.mem c (List.mem_append_left _ hc)).2 k hck).1 with h1 | h1
  · exact (hg k o e).2 h1
  · omega
end
theorem St.fz0 (h : St w0 D Γ w) : St w0 D (.fz (fun _ => none) :: Γ) w :=
  ⟨h.os, h.tape, h.output, h.size, h.keep, (fun k o e => by cases e), (fun k hk => by obtain ⟨o, e⟩ := hk; cases e), (fun c _ k hk => by obtain ⟨o, e⟩ := hk; cases e), h.sat⟩
/-- Pieces as one. -/
def Ch.pk (Γ : List Ch) : Ch := .gen (owns Γ) (Sat 0 (fun _ => True) Γ) (fun w w' hk h => by
  have key : ∀ Δ : List Ch, (∀ c ∈ Δ, c ∈ Γ) → Sat 0 (fun _ => True) Δ w → Sat 0 (fun _ => True) Δ w' := by
    intro Δ
    induction Δ with
    | nil => intro _ _; trivial
    | cons c Δ ih =>
      intro hm hs
      have hc : ∀ k, c.own k → w'.heap[k]? = w.heap[k]? := fun k hk' => hk k ⟨c, hm c (.head _), hk'⟩
      refine ⟨c.loc hc hs.1, fun k hk' => ⟨.inl trivial, ?_⟩, hs.2.2.1, ih (fun d hd => hm d (.tail _ hd)) hs.2.2.2⟩
      have h1 := (hs.2.1 k hk').2
      have h2 := hc k hk'
      rw [Array.getElem?_eq_getElem h1] at h2
      exact (Array.getElem?_eq_some_iff.1 h2).1
  exact key Γ (fun _ h => h) h)
theorem St.unpk {Γ1 : List Ch} (h : St w0 D (.pk Γ1 :: Γ) w) : St w0 D (Γ1 ++ Γ) w := by
  obtain ⟨h1, h2, h3, h4⟩ := h.sat
  refine ⟨h.os, h.tape, h.output, h.size, h.keep, ?_⟩
  have key : ∀ Δ : List Ch, (∀ c ∈ Δ, c ∈ Γ1) → Sat 0 (fun _ => True) Δ w → Sat w0.heap.size D (Δ ++ Γ) w := by
    intro Δ
    induction Δ with
    | nil => intro _ _; exact h4
    | cons c Δ ih =>
      intro hm hs
      refine ⟨hs.1, fun k hk => h2 k ⟨c, hm c (.head _), hk⟩, fun d hd k hk hdk => ?_, ih (fun d hd => hm d (.tail _ hd)) hs.2.2.2⟩
      rcases List.mem_append.1 hd with hd | hd
      · exact hs.2.2.1 d hd k hk hdk
      · exact h3 d hd k ⟨c, hm c (.head _), hk⟩ hdk
  exact key Γ1 (fun _ h => h) h1
theorem St.pk {Γ1 : List Ch} (h : St w0 D (Γ1 ++ Γ) w) : St w0 D (.pk Γ1 :: Γ) w := by
  refine ⟨h.os, h.tape, h.output, h.size, h.keep, ?_⟩
  have key : ∀ Δ : List Ch, Sat w0.heap.size D (Δ ++ Γ) w → Sat 0 (fun _ => True) Δ w ∧ (∀ k, owns Δ k → (D k ∨ w0.heap.size ≤ k) ∧ k < w.heap.size) ∧ (∀ d ∈ Γ, ∀ k, owns Δ k → ¬ d.own k) ∧ Sat w0.heap.size D Γ w := by
    intro Δ
    induction Δ with
    | nil =>
      intro hs
      refine ⟨trivial, ?_, ?_, hs⟩
      · rintro k ⟨c, hc, _⟩; cases hc
      · rintro d _ k ⟨c, hc, _⟩; cases hc
    | cons c Δ ih =>
      intro hs
      obtain ⟨i1, i2, i3, i4⟩ := ih hs.2.2.2
      refine ⟨⟨hs.1, fun k hk => ⟨.inl trivial, (hs.2.1 k hk).2⟩, fun d hd => hs.2.2.1 d (List.mem_append_left _ hd), i1⟩, ?_, ?_, i4⟩
      · rintro k ⟨d, hd, hk⟩
        cases hd with
        | head => exact hs.2.1 k hk
        | tail _ hd => exact i2 k ⟨d, hd, hk⟩
      · rintro e he k ⟨d, hd, hk⟩
        cases hd with
        | head => exact hs.2.2.1 e (List.mem_append_right _ he) k hk
        | tail _ hd => exact i3 e he k ⟨d, hd, hk⟩
  exact key Γ1 h.sat
end
end Go.Proofs.Yteojpdijmnpmgaa
namespace Go.Proofs.Yteojpdijmnpmgaa
/-- A number in groups of seven bits, the lowest first. -/
def leb (u : Nat) : List Nat := if h : u < 128 then [u] else (u % 128 + 128) :: leb (u / 128)
termination_by u
decreasing_by omega
theorem leb_lo {u : Nat} (h : u < 128) : leb u = [u] := by rw [leb]; rw [dif_pos h]
theorem leb_hi {u : Nat} (h : 128 ≤ u) : leb u = (u % 128 + 128) :: leb (u / 128) := by rw [leb]; rw [dif_neg (by omega)]
theorem leb_bytes (u : Nat) : Bytes (leb u) := by
  induction u using Nat.strongRecOn with
  | _ u ih =>
    by_cases h : u < 128
    · rw [leb_lo h]; intro x hx; simp at hx; omega
    · rw [leb_hi (by omega)]
      intro x hx
      rcases List.mem_cons.1 hx with rfl | hx
      · omega
      · exact ih (u / 128) (by omega) x hx
theorem leb_pos (u : Nat) : 0 < (leb u).length := by
  by_cases h : u < 128
  · rw [leb_lo h]; simp
  · rw [leb_hi (by omega)]; simp
theorem leb_len : ∀ (k u : Nat), u < 128 ^ k → 0 < k → (leb u).length ≤ k
  | 0, u, _, h => by omega
  | k + 1, u, h, _ => by
    by_cases hu : u < 128
    · rw [leb_lo hu]; simp
    · rw [leb_hi (by omega), List.length_cons]
      rw [Nat.pow_succ] at h
      have h2 : u / 128 < 128 ^ k := Nat.div_lt_of_lt_mul (by omega)
      have hk : 0 < k := by
        rcases k with _ | k
        · simp at h2; omega
        · omega
      have := leb_len k (u / 128) h2 hk
      omega
theorem leb_len10 {u : Nat} (h : u < 18446744073709551616) : (leb u).length ≤ 10 := leb_len 10 u (by have : (128 : Nat) ^ 10 = 1180591620717411303424 := by decide
                                                                                                     omega) (by omega)
/-- What groups come to. -/
def lval : List Nat → Nat
  | [] => 0
  | x :: l => x % 128 + 128 * lval l
theorem lval_app : ∀ (p q : List Nat), lval (p ++ q) = lval p + 128 ^ p.length * lval q
  | [], q => by simp [lval]
  | x :: p, q => by
    show x % 128 + 128 * lval (p ++ q) = (x % 128 + 128 * lval p) + 128 ^ (p.length + 1) * lval q
    rw [lval_app p q, Nat.pow_succ, Nat.mul_add, ← Nat.mul_assoc, Nat.mul_comm (128 ^ p.length) 128]
    omega
theorem lval_lt : ∀ (p : List Nat), lval p < 128 ^ p.length
  | [] => by simp [lval]
  | x :: p => by
    have := lval_lt p
    show x % 128 + 128 * lval p < 128 ^ (p.length + 1)
    rw [Nat.pow_succ]; omega
/-- All groups but the last bear the mark. -/
theorem leb_of : ∀ (p : List Nat) (c : Nat), (∀ x ∈ p, 128 ≤ x ∧ x < 256) → c < 128 → (p = [] ∨ 0 < c) → leb (lval (p ++ [c])) = p ++ [c]
  | [], c, _, hc, _ => by
    show leb (c % 128 + 128 * 0) = [c]
    rw [leb_lo (by omega)]; congr 1; omega
  | x :: p, c, hp, hc, h0 => by
    have hx := hp x (.head _)
    have hc0 : 0 < c := by rcases h0 with h | h; cases h; exact h
    have ih := leb_of p c (fun y hy => hp y (.tail _ hy)) hc (.inr hc0)
    have h1 : 0 < lval (p ++ [c]) := by
      have : lval [c] = c := by show c % 128 + 128 * 0 = c; omega
      rw [lval_app, this]
      have h2 : 0 < 128 ^ p.length * c := Nat.mul_pos (Nat.pow_pos (by decide)) hc0
      omega
    show leb (x % 128 + 128 * lval (p ++ [c])) = x :: (p ++ [c])
    rw [leb_hi (by omega), show (x % 128 + 128 * lval (p ++ [c])) / 128 = lval (p ++ [c]) from by omega, ih]
    congr 1; omega
/-- The groups of a number: what stands ahead of each place. -/
theorem leb_split (u : Nat) : ∀ (p q : List Nat), leb u = p ++ q → q ≠ [] → q = leb (u / 128 ^ p.length) ∧ (∀ x ∈ p, 128 ≤ x ∧ x < 256) ∧ (p ≠ [] → 0 < u / 128 ^ p.length)
  | [], q, h, _ => ⟨by simpa using h.symm, by simp, fun h => absurd rfl h⟩
  | x :: p, q, h, hq => by
    by_cases hu : u < 128
    · rw [leb_lo hu] at h
      have := congrArg List.length h
      simp only [List.length_cons, List.length_nil, List.length_append, List.cons_append] at this
      exact absurd (List.eq_nil_of_length_eq_zero (by omega)) hq
    · rw [leb_hi (by omega)] at h
      obtain ⟨h1, h2⟩ := List.cons.inj h
      obtain ⟨i1, i2, i3⟩ := leb_split (u / 128) p q h2 hq
      have hd : u / 128 / 128 ^ p.length = u / 128 ^ (x :: p).length := by rw [Nat.div_div_eq_div_mul, List.length_cons, Nat.pow_succ, Nat.mul_comm]
      rw [hd] at i1 i3
      refine ⟨i1, ?_, fun _ => ?_⟩
      · intro y hy
        rcases List.mem_cons.1 hy with rfl | hy
        · omega
        · exact i2 y hy
      · by_cases hp : p = []
        · subst hp
          show 0 < u / 128 ^ 1
          rw [Nat.pow_one]; omega
        · exact i3 hp
/-- A prefix of marked groups is a prefix of the number's. -/
theorem leb_pre {u : Nat} : ∀ {p r rest : List Nat}, (∀ x ∈ p, 128 ≤ x) → leb u ++ r = p ++ rest → ∃ q, leb u = p ++ q ∧ q ≠ [] ∧ rest = q ++ r := by
  induction u using Nat.strongRecOn with
  | _ u ih =>
    intro p r rest hp h
    cases p with
    | nil => exact ⟨leb u, rfl, (fun e => by have := leb_pos u; rw [e] at this; cases this), h.symm⟩
    | cons x p =>
      by_cases hu : u < 128
      · rw [leb_lo hu] at h
        obtain ⟨h1, _⟩ := List.cons.inj h
        have := hp x (.head _)
        omega
      · rw [leb_hi (by omega)] at h ⊢
        obtain ⟨h1, h2⟩ := List.cons.inj h
        obtain ⟨q, e1, e2, e3⟩ := ih (u / 128) (by omega) (fun y hy => hp y (.tail _ hy)) h2
        exact ⟨q, by rw [h1, e1]; rfl, e2, e3⟩
theorem leb_inj {u v : Nat} {r s : List Nat} (h : leb u ++ r = leb v ++ s) : u = v ∧ r = s := by
  induction u using Nat.strongRecOn generalizing v with
  | _ u ih =>
    by_cases hu : u < 128 <;> by_cases hv : v < 128
    · rw [leb_lo hu, leb_lo hv] at h; exact List.cons.inj h
    · rw [leb_lo hu, leb_hi (u := v) (by omega)] at h; have := (List.cons.inj h).1; omega
    · rw [leb_hi (u := u) (by omega), leb_lo hv] at h; have := (List.cons.inj h).1; omega
    · rw [leb_hi (u := u) (by omega), leb_hi (u := v) (by omega)] at h
      obtain ⟨h1, h2⟩ := List.cons.inj h
      obtain ⟨i1, i2⟩ := ih (u / 128) (by omega) h2
      exact ⟨by omega, i2⟩
/-- A whole number, its sign the lowest bit. -/
def zig (n : Int) : Nat := if 0 ≤ n then (2 * n).toNat else (-2 * n - 1).toNat
def unzig (u : Nat) : Int := if u % 2 = 0 then ((u / 2 : Nat) : Int) else -((u / 2 : Nat) : Int) - 1
theorem unzig_zig (n : Int) : unzig (zig n) = n := by unfold unzig zig; split <;> split <;> omega
theorem zig_unzig (u : Nat) : zig (unzig u) = u := by unfold unzig zig; split <;> split <;> omega
theorem zig_inj {a b : Int} (h : zig a = zig b) : a = b := by rw [← unzig_zig a, h, unzig_zig]
theorem zig_lt {n : Int} (h1 : -9223372036854775808 ≤ n) (h2 : n ≤ 9223372036854775807) : zig n < 18446744073709551616 := by unfold zig; split <;> omega
theorem unzig_rng {u : Nat} (h : u < 18446744073709551616) : -9223372036854775808 ≤ unzig u ∧ unzig u ≤ 9223372036854775807 := by unfold unzig; split <;> omega
/-- A number's short bytes. -/
def short (n : Int) : List Nat := leb (zig n)
theorem short_bytes (n : Int) : Bytes (short n) := leb_bytes _
theorem short_len {n : Int} (h1 : -9223372036854775808 ≤ n) (h2 : n ≤ 9223372036854775807) : (short n).length ≤ 10 := leb_len10 (zig_lt h1 h2)
theorem short_inj {a b : Int} {r s : List Nat} (h : short a ++ r = short b ++ s) : a = b ∧ r = s := by
  obtain ⟨h1, h2⟩ := leb_inj h
  exact ⟨zig_inj h1, h2⟩
/-- No number's short bytes begin these. -/
def NoShort (b : List Nat) : Prop := ∀ n r, -9223372036854775808 ≤ n → n ≤ 9223372036854775807 → b ≠ short n ++ r
/-- What a reader of short numbers says of bytes. -/
def LongR (b : List Nat) (n : Int) (k : Nat) (ok : Bool) : Prop := (ok = true → (∃ r, b = short n ++ r) ∧ k = (short n).length ∧ -9223372036854775808 ≤ n ∧ n ≤ 9223372036854775807) ∧ (ok = false → n = 0 ∧ k = 0 ∧ NoShort b)
theorem noshort {b : List Nat} (h : ∀ u r, u < 18446744073709551616 → b = leb u ++ r → False) : NoShort b := fun n r h1 h2 e => h (zig n) r (zig_lt h1 h2) e
/-- A reader at place i: what stood ahead all bore the mark. -/
structure LongI (b : List Nat) (i : Nat) : Prop where
  le : i ≤ b.length
  mark : ∀ x ∈ b.take i, 128 ≤ x
theorem LongI.zero (b : List Nat) : LongI b 0 := ⟨Nat.zero_le _, by simp⟩
theorem LongI.next {b : List Nat} {i x : Nat} (h : LongI b i) (hx : b[i]? = some x) (h2 : 128 ≤ x) : LongI b (i + 1) := by
  have hlt : i < b.length := (List.getElem?_eq_some_iff.1 hx).1
  refine ⟨hlt, ?_⟩
  rw [List.take_add_one, hx]
  intro y hy
  rcases List.mem_append.1 hy with hy | hy
  · exact h.mark y hy
  · simp at hy; omega
theorem lval_next {b : List Nat} {i x : Nat} (hx : b[i]? = some x) : lval (b.take (i + 1)) = lval (b.take i) + 128 ^ i * (x % 128) := by
  have hlt : i < b.length := (List.getElem?_eq_some_iff.1 hx).1
  rw [List.take_add_one, hx, Option.toList, lval_app, List.length_take, Nat.min_eq_left (by omega)]
  show _ + 128 ^ i * (x % 128 + 128 * 0) = _
  rw [Nat.mul_zero, Nat.add_zero]
theorem lval_take {b : List Nat} {i : Nat} (h : i ≤ b.length) : lval (b.take i) < 128 ^ i := by
  have := lval_lt (b.take i)
  rwa [List.length_take, Nat.min_eq_left h] at this
/-- The number that begins them, seen at place i. -/
theorem LongI.see {b r : List Nat} {i u : Nat} (h : LongI b i) (e : b = leb u ++ r) : ∃ q, leb u = b.take i ++ q ∧ q = leb (u / 128 ^ i) ∧ q ≠ [] ∧ b.drop i = q ++ r ∧ (0 < i → 0 < u / 128 ^ i) ∧ i < b.length := by
  have hl : (b.take i).length = i := by rw [List.length_take]; have := h.le; omega
  obtain ⟨q, h1, h2, h3⟩ := leb_pre (p := b.take i) (rest := b.drop i) h.mark (by rw [List.take_append_drop]; exact e.symm)
  obtain ⟨s1, _, s3⟩ := leb_split u _ _ h1 h2
  rw [hl] at s1 s3
  refine ⟨q, h1, s1, h2, h3, fun hi => s3 fun e => by rw [e] at hl; simp at hl; omega, ?_⟩
  have := congrArg List.length h3
  rw [List.length_drop, List.length_append] at this
  have : 0 < q.length := by
    cases q with
    | nil => exact absurd rfl h2
    | cons a q => simp
  omega
theorem LongI.head {b r : List Nat} {i u x : Nat} (h : LongI b i) (hx : b[i]? = some x) (e : b = leb u ++ r) : (x < 128 ↔ u / 128 ^ i < 128) ∧ x % 128 = u / 128 ^ i % 128 ∧ (0 < i → 0 < u / 128 ^ i) := by
  obtain ⟨q, h1, h2, h3, h4, h5, h6⟩ := h.see e
  have hx2 : (b.drop i)[0]? = some x := by rw [List.getElem?_drop, Nat.add_zero]; exact hx
  rw [h4, h2] at hx2
  by_cases hu : u / 128 ^ i < 128
  · rw [leb_lo hu] at hx2; simp at hx2; refine ⟨by omega, by omega, h5⟩
  · rw [leb_hi (by omega)] at hx2; simp at hx2; refine ⟨by omega, by omega, h5⟩
theorem LongI.none {b : List Nat} (h : LongI b b.length) : NoShort b := noshort fun u r _ e => by
  obtain ⟨q, _, _, _, _, _, h6⟩ := h.see e
  omega
theorem LongI.zeroB {b : List Nat} {i x : Nat} (h : LongI b i) (hx : b[i]? = some x) (h0 : x = 0) (hi : 0 < i) : NoShort b := noshort fun u r _ e => by
  obtain ⟨h1, h2, h3⟩ := h.head hx e
  have := h3 hi
  have := h1.1 (by omega)
  omega
theorem pow9 : (128 : Nat) ^ 9 = 9223372036854775808 := by decide
theorem LongI.late {b : List Nat} {i x : Nat} (h : LongI b i) (hx : b[i]? = some x) (hi : i = 9) (h2 : 2 ≤ x % 128 ∨ 128 ≤ x) : NoShort b := noshort fun u r hu e => by
  obtain ⟨h1, h3, h4⟩ := h.head hx e
  subst hi
  rw [pow9] at h1 h3
  have : u / 9223372036854775808 < 2 := by omega
  omega
theorem LongI.yes {b : List Nat} {i x : Nat} (hB : Bytes b) (h : LongI b i) (hx : b[i]? = some x) (hl : x < 128) (h0 : x ≠ 0 ∨ i = 0) (hu : lval (b.take (i + 1)) < 18446744073709551616) : LongR b (unzig (lval (b.take (i + 1)))) (i + 1) true := by
  have hlt : i < b.length := (List.getElem?_eq_some_iff.1 hx).1
  have ht : b.take (i + 1) = b.take i ++ [x] := by rw [List.take_add_one, hx]; rfl
  have hs : short (unzig (lval (b.take (i + 1)))) = b.take (i + 1) := by
    unfold short
    rw [zig_unzig, ht, leb_of _ _ (fun y hy => ⟨h.mark y hy, hB y (List.mem_of_mem_take hy)⟩) hl]
    rcases h0 with h0 | h0
    · exact .inr (by omega)
    · subst h0; exact .inl rfl
  refine ⟨fun _ => ⟨⟨b.drop (i + 1), by rw [hs, List.take_append_drop]⟩, (by rw [hs, List.length_take]; omega), (unzig_rng hu).1, (unzig_rng hu).2⟩, fun h => (by cases h)⟩
theorem LongR.no {b : List Nat} (h : NoShort b) : LongR b 0 0 false := ⟨fun h => (by cases h), fun _ => ⟨rfl, rfl, h⟩⟩
theorem or_step {a c k : Nat} (h : a < 2 ^ k) : a ||| (c * 2 ^ k) = a + c * 2 ^ k := by
  have := Nat.two_pow_add_eq_or_of_lt h c
  rw [Nat.or_comm, Nat.mul_comm c, ← this, Nat.add_comm]
theorem or128 {c : Nat} (h : c < 256) : c ||| 128 = c % 128 + 128 := by
  have h1 : c ||| 128 = (c % 128) ||| 128 := by
    by_cases h2 : c < 128
    · rw [Nat.mod_eq_of_lt h2]
    · have e : c = 128 * 1 + c % 128 := by omega
      have h3 := Nat.two_pow_add_eq_or_of_lt (i := 7) (b := c % 128) (by omega) 1
      conv => lhs; rw [e]
      rw [show 128 * 1 + c % 128 = 2 ^ 7 * 1 + c % 128 from rfl, h3]
      rw [show (2 : Nat) ^ 7 * 1 = 128 from rfl, Nat.or_comm 128 (c % 128), Nat.or_assoc, Nat.or_self]
  rw [h1, show (128 : Nat) = 1 * 2 ^ 7 from rfl, or_step (by omega)]
end Go.Proofs.Yteojpdijmnpmgaa
namespace Go.Proofs.Yteojpdijmnpmgaa
open Go.RowKit
/-- Bytes as a string. -/
def bs (l : List Nat) : ByteArray := ⟨(l.map UInt8.ofNat).toArray⟩
theorem bs_size (l : List Nat) : (bs l).size = l.length := by simp [bs, ByteArray.size]
theorem bs_data (l : List Nat) : (bs l).data.toList = l.map UInt8.ofNat := rfl
theorem bs_nums (l : List Nat) : strOfNums (l.map fun (x : Nat) => ((x : Nat) : Int)) = bs l := by
  unfold strOfNums bs
  rw [List.map_map]
  congr 2
theorem u8_inj {a b : Nat} (ha : a < 256) (hb : b < 256) (h : UInt8.ofNat a = UInt8.ofNat b) : a = b := by
  have := congrArg UInt8.toNat h
  simp only [UInt8.toNat_ofNat'] at this
  omega
theorem bs_inj : ∀ {l m : List Nat}, Bytes l → Bytes m → bs l = bs m → l = m := by
  intro l m hl hm h
  have h2 : l.map UInt8.ofNat = m.map UInt8.ofNat := congrArg (fun z : ByteArray => z.data.toList) h
  induction l generalizing m with
  | nil => cases m with
    | nil => rfl
    | cons b m => cases h2
  | cons a l ih => cases m with
    | nil => cases h2
    | cons b m =>
      simp only [List.map_cons, List.cons.injEq] at h2
      rw [u8_inj (hl a (.head _)) (hm b (.head _)) h2.1, ih (fun x hx => hl x (.tail _ hx)) (fun x hx => hm x (.tail _ hx)) (by unfold bs; rw [h2.2]) h2.2]
/-- The order of bytes. -/
def bl : List Nat → List Nat → Bool
  | _, [] => false
  | [], _ :: _ => true
  | a :: x, b :: y => decide (a < b) || (decide (a = b) && bl x y)
section
variable {P : Program} {ops : Array Oper} {Q : Exit → Act → World → Prop} {n : Nat} {f : Nat → Value} {w w0 : World} {D : Nat → Prop} {Γ : List Ch} {K : Act → World → Prop}
variable {d : Option Tmp} {dd : Nat} {x y : Operand} {ty T T' Tx : TypeId} {pos : String} {aft : Array Edge} {g : Option (Nat × Bool)}
def u8B (P : Program) (t : TypeId) : Bool := match P.underlying t with
  | some (.slice e) => match P.underlying e with | some (.int .u8) => true | _ => false
  | _ => false
def stB (P : Program) (t : TypeId) : Bool := match P.underlying t with | some .string => true | _ => false
theorem u8B_und {t : TypeId} (h : u8B P t = true) : ∃ e, P.underlying t = some (.slice e) ∧ P.underlying e = some (.int .u8) := by
  unfold u8B at h
  cases hu : P.underlying t with
  | none => simp [hu] at h
  | some d =>
    cases d <;> simp [hu] at h
    rename_i e
    cases he : P.underlying e with
    | none => simp [he] at h
    | some d2 =>
      cases d2 <;> simp [he] at h
      rename_i k
      cases k <;> simp at h
      exact ⟨e, rfl, he⟩
theorem stB_und {t : TypeId} (h : stB P t = true) : P.underlying t = some .string := by
  unfold stB at h
  cases hu : P.underlying t with
  | none => simp [hu] at h
  | some d => cases d <;> simp [hu] at h; rfl
theorem q_convBS {ad : Option Addr} {len cap : Nat} {l : List Nat} (hx : ev n f x = .slice ad len cap) (hG : SlG (hw w) ad (bv l)) (hl : l.length = len) (h1 : u8B P T = true) (h2 : stB P T' = true) : Run P n f ⟨d, .convert T T' x, ty, pos, aft, g⟩ w (.string (bs l)) := by
  obtain ⟨e, hu, he⟩ := u8B_und h1
  have hd := stB_und h2
  have key : (convert T T' (.slice ad len cap)).run P w = .ok (.string (bs l)) w := by
    rcases hG with h0 | ⟨b, off, arr, T2, fz, rfl, hb, hxx⟩
    · have hl0 : l = [] := by cases l with | nil => rfl | cons a l => cases h0
      subst hl0; subst hl
      cases ad with
      | none => exact run_convert_bytes_nil w T e hu he _ cap T' hd
      | some a0 =>
        rw [run_convert_bytes_string w T T' e _ _ cap hu he hd, run_bytesToString w a0 _ cap [] rfl]
        rfl
    · have := run_convert_bytes_arg w T e hu he b off len cap (l.map fun (x : Nat) => ((x : Nat) : Int)) (by rw [List.length_map]; exact hl) (fun i hi => by
        have hil : i < l.length := by omega
        rw [cell_blk hb (hxx i _ (bv_at (List.getElem?_eq_getElem hil)))]
        simp [List.getD, List.getElem?_eq_getElem hil]) T' hd
      rw [bs_nums] at this; exact this
  simp [Run, execOp, hx, key, Sem.run]
theorem stringEq {l m : List Nat} (hl : Bytes l) (hm : Bytes m) : ((bs l).toList == (bs m).toList) = decide (l = m) := by
  rw [ByteArray.toList_eq, ByteArray.toList_eq, bs_data, bs_data, Bool.eq_iff_iff]
  simp only [beq_iff_eq, decide_eq_true_eq]
  exact ⟨fun h => bs_inj hl hm (by unfold bs; rw [h]), fun h => by rw [h]⟩
section
variable {l m : List Nat}
theorem q_str_eql (hx : ev n f x = .string (bs l)) (hy : ev n f y = .string (bs m)) (hl : Bytes l) (hm : Bytes m) : Run P n f ⟨d, .binOp .eql T x y T', ty, pos, aft, g⟩ w (.bool (decide (l = m))) := by
  simp [Run, execOp, hx, hy, eqGuard, binOp, Op.stringOp, Sem.run, stringEq hl hm]
theorem q_lenStrB {rest : List TypeId} (hx : ev n f x = .string (bs l)) (h : stB P T = true) : Run P n f ⟨d, .call ⟨.builtin .len, List.toArray [x], List.toArray (T :: rest)⟩, ty, pos, aft, g⟩ w (.int .i64 ((l.length : Nat) : Int)) := by
  have hu := stB_und h
  simp [Run, execOp, resolve, invoke, builtin, Builtin.len_, hx, run_und hu, goInt, Sem.run, bs_size]
end
end
end Go.Proofs.Yteojpdijmnpmgaa
namespace Go.Proofs.Yteojpdijmnpmgaa
open Go.RowKit
section
variable {P : Program} {n : Nat} {f : Nat → Value} {w : World} {x y : Operand} {T T' ty : TypeId} {d : Option Tmp} {pos : String} {aft : Array Edge} {g : Option (Nat × Bool)}
def boB (P : Program) (t : TypeId) : Bool := match P.underlying t with | some .bool => true | _ => false
theorem und_bo {t : TypeId} (h : boB P t = true) : P.underlying t = some .bool := by
  unfold boB at h
  cases hu : P.underlying t with
  | none => simp [hu] at h
  | some d => cases d <;> simp [hu] at h; rfl
theorem eq_bo {t : TypeId} {a b : Bool} (h : boB P t = true) : (Op.equal t (.bool a) (.bool b)).run P w = .ok (a == b) w := by
  have : ∀ q : Nat, (Op.equalIn (q + 1) t (.bool a) (.bool b)).run P w = .ok (a == b) w := fun q => by simp [Op.equalIn, run_und (und_bo h), Sem.run]
  exact this 9999
theorem q_bool_neq {a b : Bool} (hx : ev n f x = .bool a) (hy : ev n f y = .bool b) (ht : boB P T = true) : Run P n f ⟨d, .binOp .neq T x y T', ty, pos, aft, g⟩ w (.bool (!(a == b))) := by
  simp only [Run, execOp, hx, hy, binOp, eqGuard]; simp [eq_bo ht, Sem.run]
end
end Go.Proofs.Yteojpdijmnpmgaa
namespace Go.Proofs.Yteojpdijmnpmgaa
open Go Go.RowKit
section
variable {w0 w : World} {D : Nat → Prop} {Γ A B : List Ch} {c : Ch}
theorem St.pkTake (h : St w0 D (.pk (A ++ c :: B) :: Γ) w) : St w0 D (c :: .pk (A ++ B) :: Γ) w := by
  have h1 : St w0 D ((A ++ c :: B) ++ Γ) w := h.unpk
  have p : ((A ++ B) ++ (c :: Γ)).Perm ((A ++ c :: B) ++ Γ) := by
    simp only [List.append_assoc, List.cons_append]
    exact List.Perm.append_left A List.perm_middle
  have h2 : St w0 D ((A ++ B) ++ (c :: Γ)) w := h1.perm p.symm
  exact (h2.pk).perm (List.Perm.swap _ _ _)
theorem St.pkPut (h : St w0 D (c :: .pk (A ++ B) :: Γ) w) : St w0 D (.pk (A ++ c :: B) :: Γ) w := by
  have h1 : St w0 D (.pk (A ++ B) :: c :: Γ) w := h.perm (List.Perm.swap _ _ _)
  have h2 : St w0 D ((A ++ B) ++ (c :: Γ)) w := h1.unpk
  have p : ((A ++ c :: B) ++ Γ).Perm ((A ++ B) ++ (c :: Γ)) := by
    simp only [List.append_assoc, List.cons_append]
    exact List.Perm.append_left A List.perm_middle.symm
  exact (h2.perm p.symm).pk
end
end Go.Proofs.Yteojpdijmnpmgaa
namespace Go.Proofs.Yteojpdijmnpmgaa
open Go Go.RowKit
section
variable {P : Program} {n : Nat} {f : Nat → Value} {w : World}
theorem c_ret3 {fn : Func} {R : Ending → World → Prop} {t u x : Tmp} {v v' v'' : Value} (hr : fn.results = #[.tmp t, .tmp u, .tmp x]) (hv : ev n f (.tmp t) = v) (hu : ev n f (.tmp u) = v') (hx : ev n f (.tmp x) = v'') (h : R (.returned (.tuple #[v, v', v''])) w) : bodyPost P fn R .ret (E n f) w := by
  refine ⟨rfl, .tuple #[v, v', v''], ?_, h⟩
  rw [results_tmp3 hr, E_get, E_get, E_get]; subst hv hu hx; rfl
end
end Go.Proofs.Yteojpdijmnpmgaa
namespace Go.Proofs.Yteojpdijmnpmgaa
open Go.RowKit
abbrev pV (k : Nat) : Value := .pointer (some ⟨k, 0, none⟩)
/-- A value: its kind, its number, its text. -/
abbrev Vl := Int × Int × List Nat
def vl (v : Vl) : List Value := [.int .i64 v.1, .int .i64 v.2.1, .string (bs v.2.2)]
theorem vl_ones : ∀ v : Vl, AllOne (vl v) := fun _ => ⟨rfl, rfl, rfl, trivial⟩
def VOk (v : Vl) : Prop := Bytes v.2.2 ∧ (-9223372036854775808 ≤ v.1 ∧ v.1 ≤ 9223372036854775807) ∧ (-9223372036854775808 ≤ v.2.1 ∧ v.2.1 ≤ 9223372036854775807)
def VsOk (l : List Vl) : Prop := ∀ v ∈ l, VOk v
theorem VsOk.nil : VsOk [] := fun v h => by cases h
theorem VsOk.app {l m : List Vl} (h : VsOk l) (h' : VsOk m) : VsOk (l ++ m) := fun v hv => (List.mem_append.1 hv).elim (h v) (h' v)
theorem VsOk.one {v : Vl} (h : VOk v) : VsOk [v] := fun x hx => by rw [List.mem_singleton] at hx; subst hx; exact h
theorem VsOk.take {l : List Vl} {n : Nat} (h : VsOk l) : VsOk (l.take n) := fun v hv => h v (List.mem_of_mem_take hv)
theorem VsOk.cons {v : Vl} {l : List Vl} (h : VOk v) (h' : VsOk l) : VsOk (v :: l) := fun x hx => by
  cases hx with
  | head => exact h
  | tail _ hx => exact h' x hx
/-- Is a value right? -/
def rightB (v : Vl) : Bool :=
  if v.1 = 0 then decide (v.2.1 = 0) && decide (v.2.2 = [])
  else if v.1 = 1 then (decide (v.2.1 = 0) || decide (v.2.1 = 1)) && decide (v.2.2 = [])
  else if v.1 = 2 ∨ v.1 = 3 then decide (v.2.2 = [])
  else if v.1 = 4 ∨ v.1 = 5 then decide (v.2.1 = 0) && decide (v.2.2.length ≤ 200)
  else false
attribute [local irreducible] Oper.wp Sem.run Code.wp wpList wpAnyO callFunc execOp Calls
set_option maxRecDepth 100000 in
theorem right_ok (a : Vl) (hB : Bytes a.2.2) (w : World) : Calls Try.prog 69 #[.agg (vl a).toArray] w (PostR w fun v => v = .bool (rightB a)) := by
 have hS := St.start w
 refine c_enter Try.func69 rfl rfl rfl ?_
 refine wp_seq_k (fun K1 hK1 => ?_)
 refine wp_region_lit ?_
 refine l_e rfl (fun K hK => ?_)
 refine e_boxA hS rfl (fun b2 w2 (hS2 : St _ _ [.blk b2 (.cells #[.int .i64 a.1, .int .i64 a.2.1, .string (bs a.2.2)] 106)] _) => ?_)
 clear hS
 refine hK _ _ ?_; clear hK K
 refine l_q rfl rfl (q_assignB rfl) ?_
 refine l_nil ?_
 refine hK1 _ _ ?_
 refine wp_seq_k (fun K3 hK3 => ?_)
 refine wp_seq_k (fun K4 hK4 => ?_)
 refine wp_region_lit ?_
 refine l_q rfl rfl (q_fieldAddr (ft := 104) (o := 0) rfl (by kernel_rfl)) ?_
 refine l_q rfl rfl (q_load1 rfl (by kernel_rfl) (hS2.cell (i := 0) rfl rfl)) ?_
 refine l_nil ?_
 refine hK4 _ _ ?_
 refine wp_block ?_
 refine wp_seq_k (fun K5 hK5 => ?_)
 refine wp_block ?_
 refine wp_block ?_
 refine wp_seq_k (fun K6 hK6 => ?_)
 refine wp_block ?_
 refine wp_block ?_
 refine wp_seq_k (fun K7 hK7 => ?_)
 refine wp_block ?_
 refine wp_seq_k (fun K8 hK8 => ?_)
 refine wp_block ?_
 refine wp_seq_k (fun K9 hK9 => ?_)
 refine wp_seq_k (fun K10 hK10 => ?_)
 refine wp_seq_k (fun K11 hK11 => ?_)
 refine wp_region_lit ?_
 refine l_q rfl rfl (q_eql rfl rfl) ?_
 refine l_q rfl rfl (q_assignB rfl) ?_
 refine l_nil ?_
 refine hK11 _ _ ?_
 refine c_cond rfl (fun hc12 => ?_) (fun hc12 => ?_)
 have hc12b := hc12
 try simp only [zbb] at hc12
 refine wp_exit ?_
 refine hK8 _ _ ?_
 refine wp_seq_k (fun K13 hK13 => ?_)
 refine wp_region_lit ?_
 refine l_q rfl rfl (q_fieldAddr (ft := 2) (o := 1) rfl (by kernel_rfl)) ?_
 refine l_q rfl rfl (q_load1 rfl (by kernel_rfl) (hS2.cell (i := 0) rfl rfl)) ?_
 refine l_q rfl rfl (q_eql rfl rfl) ?_
 refine l_nil ?_
 refine hK13 _ _ ?_
 refine c_cond rfl (fun hc14 => ?_) (fun hc14 => ?_)
 have hc14b := hc14
 try simp only [zbb] at hc14
 refine wp_seq_k (fun K15 hK15 => ?_)
 refine wp_region_lit ?_
 refine l_q rfl rfl (q_fieldAddr (ft := 9) (o := 2) rfl (by kernel_rfl)) ?_
 refine l_q rfl rfl (q_load1 rfl (by kernel_rfl) (hS2.cell (i := 0) rfl rfl)) ?_
 refine l_q rfl rfl (q_str_eql (l := a.2.2) (m := []) rfl rfl hB Bytes.nil) ?_
 refine l_q rfl rfl (q_assignB rfl) ?_
 refine l_nil ?_
 refine hK15 _ _ ?_
 refine wp_ret ?_
 refine c_ret1 rfl rfl ?_
 exact ⟨_, rfl, congrArg Value.bool (by unfold rightB; simp [*] <;> omega), hS2.drop⟩
 have hc14b := hc14
 try simp only [zbb] at hc14
 refine wp_skip ?_
 refine hK7 _ _ ?_
 refine wp_seq_k (fun K16 hK16 => ?_)
 refine wp_seq_k (fun K17 hK17 => ?_)
 refine wp_region_lit ?_
 refine l_q rfl rfl (q_fieldAddr (ft := 2) (o := 1) rfl (by kernel_rfl)) ?_
 refine l_q rfl rfl (q_load1 rfl (by kernel_rfl) (hS2.cell (i := 0) rfl rfl)) ?_
 refine l_q rfl rfl (q_eql rfl rfl) ?_
 refine l_q rfl rfl (q_moveB rfl) ?_
 refine g_splitL (t := 26) rfl (fun hg18 => ?_) (fun hg18 => ?_)
 have hg18b := hg18
 try simp only [zbb] at hg18
 refine l_on rfl rfl hg18b ?_
 refine l_q rfl rfl (q_fieldAddr (ft := 9) (o := 2) rfl (by kernel_rfl)) ?_
 refine l_on rfl rfl hg18b ?_
 refine l_q rfl rfl (q_load1 rfl (by kernel_rfl) (hS2.cell (i := 0) rfl rfl)) ?_
 refine l_on rfl rfl hg18b ?_
 refine l_q rfl rfl (q_str_eql (l := a.2.2) (m := []) rfl rfl hB Bytes.nil) ?_
 refine l_q rfl rfl (q_pickT rfl hg18b rfl) ?_
 refine l_q rfl rfl (q_assignB rfl) ?_
 refine l_nil ?_
 refine hK17 _ _ ?_
 refine wp_ret ?_
 refine c_ret1 rfl rfl ?_
 exact ⟨_, rfl, congrArg Value.bool (by unfold rightB; simp [*] <;> omega), hS2.drop⟩
 have hg18b := hg18
 try simp only [zbb] at hg18
 refine l_off rfl rfl rfl hg18b ?_
 refine l_off rfl rfl rfl hg18b ?_
 refine l_off rfl rfl rfl hg18b ?_
 refine l_q rfl rfl (q_pickF rfl hg18b rfl) ?_
 refine l_q rfl rfl (q_assignB rfl) ?_
 refine l_nil ?_
 refine hK17 _ _ ?_
 refine wp_ret ?_
 refine c_ret1 rfl rfl ?_
 exact ⟨_, rfl, congrArg Value.bool (by unfold rightB; simp [*] <;> omega), hS2.drop⟩
 have hc12b := hc12
 try simp only [zbb] at hc12
 refine wp_skip ?_
 refine hK10 _ _ ?_
 refine wp_seq_k (fun K19 hK19 => ?_)
 refine wp_seq_k (fun K20 hK20 => ?_)
 refine wp_region_lit ?_
 refine l_q rfl rfl (q_eql rfl rfl) ?_
 refine l_q rfl rfl (q_assignB rfl) ?_
 refine l_nil ?_
 refine hK20 _ _ ?_
 refine c_cond rfl (fun hc21 => ?_) (fun hc21 => ?_)
 have hc21b := hc21
 try simp only [zbb] at hc21
 refine wp_exit ?_
 refine hK7 _ _ ?_
 refine wp_seq_k (fun K22 hK22 => ?_)
 refine wp_seq_k (fun K23 hK23 => ?_)
 refine wp_region_lit ?_
 refine l_q rfl rfl (q_fieldAddr (ft := 2) (o := 1) rfl (by kernel_rfl)) ?_
 refine l_q rfl rfl (q_load1 rfl (by kernel_rfl) (hS2.cell (i := 0) rfl rfl)) ?_
 refine l_q rfl rfl (q_eql rfl rfl) ?_
 refine l_q rfl rfl (q_moveB rfl) ?_
 refine g_splitL (t := 26) rfl (fun hg24 => ?_) (fun hg24 => ?_)
 have hg24b := hg24
 try simp only [zbb] at hg24
 refine l_on rfl rfl hg24b ?_
 refine l_q rfl rfl (q_fieldAddr (ft := 9) (o := 2) rfl (by kernel_rfl)) ?_
 refine l_on rfl rfl hg24b ?_
 refine l_q rfl rfl (q_load1 rfl (by kernel_rfl) (hS2.cell (i := 0) rfl rfl)) ?_
 refine l_on rfl rfl hg24b ?_
 refine l_q rfl rfl (q_str_eql (l := a.2.2) (m := []) rfl rfl hB Bytes.nil) ?_
 refine l_q rfl rfl (q_pickT rfl hg24b rfl) ?_
 refine l_q rfl rfl (q_assignB rfl) ?_
 refine l_nil ?_
 refine hK23 _ _ ?_
 refine wp_ret ?_
 refine c_ret1 rfl rfl ?_
 exact ⟨_, rfl, congrArg Value.bool (by unfold rightB; simp [*] <;> omega), hS2.drop⟩
 have hg24b := hg24
 try simp only [zbb] at hg24
 refine l_off rfl rfl rfl hg24b ?_
 refine l_off rfl rfl rfl hg24b ?_
 refine l_off rfl rfl rfl hg24b ?_
 refine l_q rfl rfl (q_pickF rfl hg24b rfl) ?_
 refine l_q rfl rfl (q_assignB rfl) ?_
 refine l_nil ?_
 refine hK23 _ _ ?_
 refine wp_ret ?_
 refine c_ret1 rfl rfl ?_
 exact ⟨_, rfl, congrArg Value.bool (by unfold rightB; simp [*] <;> omega), hS2.drop⟩
 have hc21b := hc21
 try simp only [zbb] at hc21
 refine wp_skip ?_
 refine hK19 _ _ ?_
 refine wp_seq_k (fun K25 hK25 => ?_)
 refine wp_seq_k (fun K26 hK26 => ?_)
 refine wp_region_lit ?_
 refine l_q rfl rfl (q_eql rfl rfl) ?_
 refine l_q rfl rfl (q_assignB rfl) ?_
 refine l_nil ?_
 refine hK26 _ _ ?_
 refine c_cond rfl (fun hc27 => ?_) (fun hc27 => ?_)
 have hc27b := hc27
 try simp only [zbb] at hc27
 refine wp_exit ?_
 refine hK6 _ _ ?_
 refine wp_seq_k (fun K28 hK28 => ?_)
 refine wp_seq_k (fun K29 hK29 => ?_)
 refine wp_region_lit ?_
 refine l_q rfl rfl (q_fieldAddr (ft := 9) (o := 2) rfl (by kernel_rfl)) ?_
 refine l_q rfl rfl (q_load1 rfl (by kernel_rfl) (hS2.cell (i := 0) rfl rfl)) ?_
 refine l_q rfl rfl (q_str_eql (l := a.2.2) (m := []) rfl rfl hB Bytes.nil) ?_
 refine l_q rfl rfl (q_assignB rfl) ?_
 refine l_nil ?_
 refine hK29 _ _ ?_
 refine wp_ret ?_
 refine c_ret1 rfl rfl ?_
 exact ⟨_, rfl, congrArg Value.bool (by unfold rightB; simp [*] <;> omega), hS2.drop⟩
 have hc27b := hc27
 try simp only [zbb] at hc27
 refine wp_skip ?_
 refine hK25 _ _ ?_
 refine wp_seq_k (fun K30 hK30 => ?_)
 refine wp_seq_k (fun K31 hK31 => ?_)
 refine wp_region_lit ?_
 refine l_q rfl rfl (q_eql rfl rfl) ?_
 refine l_q rfl rfl (q_assignB rfl) ?_
 refine l_nil ?_
 refine hK31 _ _ ?_
 refine c_cond rfl (fun hc32 => ?_) (fun hc32 => ?_)
 have hc32b := hc32
 try simp only [zbb] at hc32
 refine wp_exit ?_
 refine hK6 _ _ ?_
 refine wp_seq_k (fun K33 hK33 => ?_)
 refine wp_seq_k (fun K34 hK34 => ?_)
 refine wp_region_lit ?_
 refine l_q rfl rfl (q_fieldAddr (ft := 9) (o := 2) rfl (by kernel_rfl)) ?_
 refine l_q rfl rfl (q_load1 rfl (by kernel_rfl) (hS2.cell (i := 0) rfl rfl)) ?_
 refine l_q rfl rfl (q_str_eql (l := a.2.2) (m := []) rfl rfl hB Bytes.nil) ?_
 refine l_q rfl rfl (q_assignB rfl) ?_
 refine l_nil ?_
 refine hK34 _ _ ?_
 refine wp_ret ?_
 refine c_ret1 rfl rfl ?_
 exact ⟨_, rfl, congrArg Value.bool (by unfold rightB; simp [*] <;> omega), hS2.drop⟩
 have hc32b := hc32
 try simp only [zbb] at hc32
 refine wp_skip ?_
 refine hK30 _ _ ?_
 refine wp_seq_k (fun K35 hK35 => ?_)
 refine wp_seq_k (fun K36 hK36 => ?_)
 refine wp_region_lit ?_
 refine l_q rfl rfl (q_eql rfl rfl) ?_
 refine l_q rfl rfl (q_assignB rfl) ?_
 refine l_nil ?_
 refine hK36 _ _ ?_
 refine c_cond rfl (fun hc37 => ?_) (fun hc37 => ?_)
 have hc37b := hc37
 try simp only [zbb] at hc37
 refine wp_exit ?_
 refine hK5 _ _ ?_
 refine wp_seq_k (fun K38 hK38 => ?_)
 refine wp_seq_k (fun K39 hK39 => ?_)
 refine wp_region_lit ?_
 refine l_q rfl rfl (q_fieldAddr (ft := 2) (o := 1) rfl (by kernel_rfl)) ?_
 refine l_q rfl rfl (q_load1 rfl (by kernel_rfl) (hS2.cell (i := 0) rfl rfl)) ?_
 refine l_q rfl rfl (q_eql rfl rfl) ?_
 refine l_q rfl rfl (q_moveB rfl) ?_
 refine g_splitL (t := 37) rfl (fun hg40 => ?_) (fun hg40 => ?_)
 have hg40b := hg40
 try simp only [zbb] at hg40
 refine l_on rfl rfl hg40b ?_
 refine l_q rfl rfl (q_fieldAddr (ft := 9) (o := 2) rfl (by kernel_rfl)) ?_
 refine l_on rfl rfl hg40b ?_
 refine l_q rfl rfl (q_load1 rfl (by kernel_rfl) (hS2.cell (i := 0) rfl rfl)) ?_
 refine l_on rfl rfl hg40b ?_
 refine l_q rfl rfl (q_lenStrB (l := a.2.2) rfl (by kernel_rfl)) ?_
 refine l_on rfl rfl hg40b ?_
 refine l_q rfl rfl (q_leq rfl rfl) ?_
 refine l_q rfl rfl (q_pickT rfl hg40b rfl) ?_
 refine l_q rfl rfl (q_assignB rfl) ?_
 refine l_nil ?_
 refine hK39 _ _ ?_
 refine wp_ret ?_
 refine c_ret1 rfl rfl ?_
 exact ⟨_, rfl, congrArg Value.bool (by unfold rightB; simp [*] <;> omega), hS2.drop⟩
 have hg40b := hg40
 try simp only [zbb] at hg40
 refine l_off rfl rfl rfl hg40b ?_
 refine l_off rfl rfl rfl hg40b ?_
 refine l_off rfl rfl rfl hg40b ?_
 refine l_off rfl rfl rfl hg40b ?_
 refine l_q rfl rfl (q_pickF rfl hg40b rfl) ?_
 refine l_q rfl rfl (q_assignB rfl) ?_
 refine l_nil ?_
 refine hK39 _ _ ?_
 refine wp_ret ?_
 refine c_ret1 rfl rfl ?_
 exact ⟨_, rfl, congrArg Value.bool (by unfold rightB; simp [*] <;> omega), hS2.drop⟩
 have hc37b := hc37
 try simp only [zbb] at hc37
 refine wp_skip ?_
 refine hK35 _ _ ?_
 refine wp_seq_k (fun K41 hK41 => ?_)
 refine wp_region_lit ?_
 refine l_q rfl rfl (q_eql rfl rfl) ?_
 refine l_q rfl rfl (q_assignB rfl) ?_
 refine l_nil ?_
 refine hK41 _ _ ?_
 refine c_cond rfl (fun hc42 => ?_) (fun hc42 => ?_)
 have hc42b := hc42
 try simp only [zbb] at hc42
 refine wp_exit ?_
 refine hK5 _ _ ?_
 refine wp_seq_k (fun K43 hK43 => ?_)
 refine wp_seq_k (fun K44 hK44 => ?_)
 refine wp_region_lit ?_
 refine l_q rfl rfl (q_fieldAddr (ft := 2) (o := 1) rfl (by kernel_rfl)) ?_
 refine l_q rfl rfl (q_load1 rfl (by kernel_rfl) (hS2.cell (i := 0) rfl rfl)) ?_
 refine l_q rfl rfl (q_eql rfl rfl) ?_
 refine l_q rfl rfl (q_moveB rfl) ?_
 refine g_splitL (t := 37) rfl (fun hg45 => ?_) (fun hg45 => ?_)
 have hg45b := hg45
 try simp only [zbb] at hg45
 refine l_on rfl rfl hg45b ?_
 refine l_q rfl rfl (q_fieldAddr (ft := 9) (o := 2) rfl (by kernel_rfl)) ?_
 refine l_on rfl rfl hg45b ?_
 refine l_q rfl rfl (q_load1 rfl (by kernel_rfl) (hS2.cell (i := 0) rfl rfl)) ?_
 refine l_on rfl rfl hg45b ?_
 refine l_q rfl rfl (q_lenStrB (l := a.2.2) rfl (by kernel_rfl)) ?_
 refine l_on rfl rfl hg45b ?_
 refine l_q rfl rfl (q_leq rfl rfl) ?_
 refine l_q rfl rfl (q_pickT rfl hg45b rfl) ?_
 refine l_q rfl rfl (q_assignB rfl) ?_
 refine l_nil ?_
 refine hK44 _ _ ?_
 refine wp_ret ?_
 refine c_ret1 rfl rfl ?_
 exact ⟨_, rfl, congrArg Value.bool (by unfold rightB; simp [*] <;> omega), hS2.drop⟩
 have hg45b := hg45
 try simp only [zbb] at hg45
 refine l_off rfl rfl rfl hg45b ?_
 refine l_off rfl rfl rfl hg45b ?_
 refine l_off rfl rfl rfl hg45b ?_
 refine l_off rfl rfl rfl hg45b ?_
 refine l_q rfl rfl (q_pickF rfl hg45b rfl) ?_
 refine l_q rfl rfl (q_assignB rfl) ?_
 refine l_nil ?_
 refine hK44 _ _ ?_
 refine wp_ret ?_
 refine c_ret1 rfl rfl ?_
 exact ⟨_, rfl, congrArg Value.bool (by unfold rightB; simp [*] <;> omega), hS2.drop⟩
 have hc42b := hc42
 try simp only [zbb] at hc42
 refine wp_skip ?_
 refine hK9 _ _ ?_
 refine wp_exit ?_
 refine hK3 _ _ ?_
 refine wp_seq_k (fun K46 hK46 => ?_)
 refine wp_region_lit ?_
 refine l_q rfl rfl (q_assignB rfl) ?_
 refine l_nil ?_
 refine hK46 _ _ ?_
 refine wp_ret ?_
 refine c_ret1 rfl rfl ?_
 exact ⟨_, rfl, congrArg Value.bool (by unfold rightB; simp [*] <;> omega), hS2.drop⟩
end Go.Proofs.Yteojpdijmnpmgaa
namespace Go.Proofs.Yteojpdijmnpmgaa
/-- A value's bytes in a row, behind its kind. -/
def rencb (v : Vl) : List Nat := if v.1 = 1 then [v.2.1.toNat % 256] else if v.1 = 2 ∨ v.1 = 3 then short v.2.1 else if v.1 = 4 ∨ v.1 = 5 then short (v.2.2.length : Int) ++ v.2.2 else []
def renc (v : Vl) : List Nat := (v.1.toNat % 256) :: rencb v
def rencs (l : List Vl) : List Nat := l.flatMap renc
def encRow (l : List Vl) : List Nat := (l.length % 256) :: rencs l
theorem rencs_app (l m : List Vl) : rencs (l ++ m) = rencs l ++ rencs m := List.flatMap_append
theorem rencs_one (v : Vl) : rencs [v] = renc v := by unfold rencs; rw [List.flatMap_cons]; exact List.append_nil _
theorem rencs_cons (v : Vl) (l : List Vl) : rencs (v :: l) = renc v ++ rencs l := List.flatMap_cons
theorem renc_bytes {v : Vl} (h : Bytes v.2.2) : Bytes (renc v) := by
  intro x hx
  rcases List.mem_cons.1 hx with rfl | hx
  · omega
  · unfold rencb at hx
    split at hx
    · simp at hx; omega
    · split at hx
      · exact short_bytes _ x hx
      · split at hx
        · rcases List.mem_append.1 hx with hx | hx
          · exact short_bytes _ x hx
          · exact h x hx
        · cases hx
theorem rencs_bytes {l : List Vl} (h : VsOk l) : Bytes (rencs l) := by
  intro x hx
  obtain ⟨v, hv, hx⟩ := List.mem_flatMap.1 hx
  exact renc_bytes (h v hv).1 x hx
theorem encRow_bytes {l : List Vl} (h : VsOk l) : Bytes (encRow l) := by
  intro x hx
  rcases List.mem_cons.1 hx with rfl | hx
  · omega
  · exact rencs_bytes h x hx
theorem rightr {v : Vl} (h : rightB v = true) : 0 ≤ v.1 ∧ v.1 ≤ 5 ∧ (v.1 = 0 → v.2.1 = 0 ∧ v.2.2 = []) ∧ (v.1 = 1 → (v.2.1 = 0 ∨ v.2.1 = 1) ∧ v.2.2 = []) ∧ (v.1 = 2 ∨ v.1 = 3 → v.2.2 = []) ∧ (v.1 = 4 ∨ v.1 = 5 → v.2.1 = 0 ∧ v.2.2.length ≤ 200) := by
  unfold rightB at h
  split at h
  · simp only [Bool.and_eq_true, decide_eq_true_eq] at h
    refine ⟨by omega, by omega, fun _ => h, fun _ => by omega, fun _ => h.2, fun _ => by omega⟩
  · split at h
    · simp only [Bool.and_eq_true, Bool.or_eq_true, decide_eq_true_eq] at h
      exact ⟨by omega, by omega, fun _ => by omega, fun _ => h, fun _ => h.2, fun _ => by omega⟩
    · split at h
      · simp only [decide_eq_true_eq] at h
        exact ⟨by omega, by omega, fun _ => by omega, fun _ => by omega, fun _ => h, fun _ => by omega⟩
      · split at h
        · simp only [Bool.and_eq_true, decide_eq_true_eq] at h
          exact ⟨by omega, by omega, fun _ => by omega, fun _ => by omega, fun _ => by omega, fun _ => h⟩
        · cases h
theorem vr_ext {v w : Vl} (h1 : v.1 = w.1) (h2 : v.2.1 = w.2.1) (h3 : v.2.2 = w.2.2) : v = w := by
  obtain ⟨a, b, c⟩ := v; obtain ⟨a', b', c'⟩ := w
  simp only at h1 h2 h3; subst h1 h2 h3; rfl
theorem rencb1 {v : Vl} (h : v.1 = 1) : rencb v = [v.2.1.toNat % 256] := by unfold rencb; rw [if_pos h]
theorem rencb2 {v : Vl} (h : v.1 = 2 ∨ v.1 = 3) : rencb v = short v.2.1 := by unfold rencb; rw [if_neg (by omega), if_pos h]
theorem rencb4 {v : Vl} (h : v.1 = 4 ∨ v.1 = 5) : rencb v = short (v.2.2.length : Int) ++ v.2.2 := by unfold rencb; rw [if_neg (by omega), if_neg (by omega), if_pos h]
theorem rencb0 {v : Vl} (h : v.1 = 0) : rencb v = [] := by unfold rencb; rw [if_neg (by omega), if_neg (by omega), if_neg (by omega)]
theorem app_inj_len {α : Type} {a b r s : List α} (h : a ++ r = b ++ s) (hl : a.length = b.length) : a = b ∧ r = s := List.append_inj h hl
theorem renc_inj {v w : Vl} (rv : rightB v = true) (rw' : rightB w = true) {r r' : List Nat} (h : renc v ++ r = renc w ++ r') : v = w ∧ r = r' := by
  obtain ⟨a0, a5, a6, a7, a8, a9⟩ := rightr rv
  obtain ⟨b0, b5, b6, b7, b8, b9⟩ := rightr rw'
  have h' : (v.1.toNat % 256) :: (rencb v ++ r) = (w.1.toNat % 256) :: (rencb w ++ r') := h
  obtain ⟨h1, h2⟩ := List.cons.inj h'
  have hk : v.1 = w.1 := by omega
  rcases (by omega : v.1 = 0 ∨ v.1 = 1 ∨ (v.1 = 2 ∨ v.1 = 3) ∨ (v.1 = 4 ∨ v.1 = 5)) with k | k | k | k
  · rw [rencb0 k, rencb0 (by omega)] at h2
    exact ⟨vr_ext hk (by rw [(a6 k).1, (b6 (by omega)).1]) (by rw [(a6 k).2, (b6 (by omega)).2]), h2⟩
  · rw [rencb1 k, rencb1 (by omega)] at h2
    obtain ⟨h3, h4⟩ := List.cons.inj h2
    have := (a7 k).1; have := (b7 (by omega)).1
    exact ⟨vr_ext hk (by omega) (by rw [(a7 k).2, (b7 (by omega)).2]), h4⟩
  · rw [rencb2 k, rencb2 (by omega)] at h2
    obtain ⟨h3, h4⟩ := short_inj h2
    exact ⟨vr_ext hk h3 (by rw [a8 k, b8 (by omega)]), h4⟩
  · rw [rencb4 k, rencb4 (by omega), List.append_assoc, List.append_assoc] at h2
    obtain ⟨h3, h4⟩ := short_inj h2
    obtain ⟨h5, h6⟩ := app_inj_len h4 (by omega)
    exact ⟨vr_ext hk (by rw [(a9 k).1, (b9 (by omega)).1]) h5, h6⟩
def RrOk (l : List Vl) : Prop := VsOk l ∧ ∀ v ∈ l, rightB v = true
theorem RrOk.nil : RrOk [] := ⟨VsOk.nil, fun v h => by cases h⟩
theorem RrOk.app {l m : List Vl} (h : RrOk l) (h' : RrOk m) : RrOk (l ++ m) := ⟨h.1.app h'.1, fun v hv => (List.mem_append.1 hv).elim (h.2 v) (h'.2 v)⟩
theorem RrOk.one {v : Vl} (h : VOk v) (h' : rightB v = true) : RrOk [v] := ⟨VsOk.one h, fun x hx => by rw [List.mem_singleton] at hx; subst hx; exact h'⟩
theorem RrOk.tl {v : Vl} {l : List Vl} (h : RrOk (v :: l)) : RrOk l := ⟨fun x hx => h.1 x (.tail _ hx), fun x hx => h.2 x (.tail _ hx)⟩
theorem rencs_pre : ∀ {s l : List Vl} {r : List Nat}, RrOk s → RrOk l → rencs l = rencs s ++ r → s.length ≤ l.length → ∃ m, l = s ++ m ∧ r = rencs m
  | [], l, r, _, _, h, _ => ⟨l, rfl, by simpa [rencs] using h.symm⟩
  | v :: s, [], r, _, _, _, hl => by simp at hl
  | v :: s, w :: l, r, hs, hl, h, hn => by
    rw [rencs_cons, rencs_cons, List.append_assoc] at h
    obtain ⟨h1, h2⟩ := renc_inj (hl.2 w (.head _)) (hs.2 v (.head _)) h
    obtain ⟨m, h3, h4⟩ := rencs_pre hs.tl hl.tl h2 (by simp at hn; omega)
    exact ⟨m, by rw [h1, h3]; rfl, h4⟩
theorem encRow_inj {s l : List Vl} (hs : RrOk s) (hl : RrOk l) (h16 : s.length ≤ 16) (h16' : l.length ≤ 16) (h : encRow l = encRow s) : l = s := by
  obtain ⟨h1, h2⟩ := List.cons.inj h
  obtain ⟨m, h3, h4⟩ := rencs_pre (r := []) hs hl (by rw [h2, List.append_nil]) (by omega)
  have : m = [] := by
    cases m with
    | nil => rfl
    | cons v m => have h5 := congrArg List.length h4; rw [rencs_cons] at h5; simp [renc] at h5
  rw [h3, this, List.append_nil]
/-- No row's bytes. -/
def NoRow (b : List Nat) : Prop := ∀ L, RrOk L → L.length ≤ 16 → b ≠ encRow L
/-- The row that bytes are, or the error. -/
noncomputable def decRw (b : List Nat) : List Vl × Int := @dite _ (∃ L, RrOk L ∧ L.length ≤ 16 ∧ b = encRow L) (Classical.propDecidable _) (fun h => (h.choose, 0)) (fun _ => ([], 51))
theorem decRw_yes {L : List Vl} {b : List Nat} (hL : RrOk L) (h16 : L.length ≤ 16) (hb : b = encRow L) : decRw b = (L, 0) := by
  have h : ∃ L, RrOk L ∧ L.length ≤ 16 ∧ b = encRow L := ⟨L, hL, h16, hb⟩
  unfold decRw
  rw [dif_pos h]
  have h2 := h.choose_spec
  rw [encRow_inj hL h2.1 h16 h2.2.1 (by rw [← h2.2.2, hb])]
theorem decRw_no {b : List Nat} (h : NoRow b) : decRw b = ([], 51) := by
  unfold decRw
  rw [dif_neg]
  rintro ⟨L, h1, h2, h3⟩
  exact h L h1 h2 h3
theorem decRw_or (b : List Nat) : (∃ L, RrOk L ∧ L.length ≤ 16 ∧ b = encRow L ∧ decRw b = (L, 0)) ∨ (NoRow b ∧ decRw b = ([], 51)) := by
  rcases Classical.em (∃ L, RrOk L ∧ L.length ≤ 16 ∧ b = encRow L) with ⟨L, h1, h2, h3⟩ | h
  · exact .inl ⟨L, h1, h2, h3, decRw_yes h1 h2 h3⟩
  · have h' : NoRow b := fun L h1 h2 h3 => h ⟨L, h1, h2, h3⟩
    exact .inr ⟨h', decRw_no h'⟩
theorem decRw_ok (b : List Nat) : RrOk (decRw b).1 ∧ (decRw b).1.length ≤ 16 := by
  rcases decRw_or b with ⟨L, h1, h2, _, h4⟩ | ⟨_, h4⟩
  · rw [h4]; exact ⟨h1, h2⟩
  · rw [h4]; exact ⟨RrOk.nil, Nat.zero_le _⟩
/-- No value's bytes in a row begin these. -/
def NoVal (b : List Nat) : Prop := ∀ a r, VOk a → rightB a = true → b ≠ renc a ++ r
theorem norow_nil : NoRow [] := fun L _ _ h => by cases h
theorem cons_at {b : List Nat} {x : Nat} (hx : b[0]? = some x) : b = x :: b.drop 1 := by
  match b, hx with
  | y :: b, hx => simp at hx; subst hx; rfl
theorem val_head {b r : List Nat} {x : Nat} {a : Vl} (hx : b[0]? = some x) (hr : rightB a = true) (h : b = renc a ++ r) : a.1 = (x : Int) ∧ b.drop 1 = rencb a ++ r := by
  obtain ⟨k0, k5, _⟩ := rightr hr
  have h2 := cons_at hx
  rw [h] at h2
  have h3 : a.1.toNat % 256 = x ∧ rencb a ++ r = (renc a ++ r).drop 1 := List.cons.inj h2
  exact ⟨by omega, by rw [h3.2, ← h]⟩
theorem renc_of {x : Nat} {z : Int} {s b r : List Nat} (hx : b[0]? = some x) (hB : x < 256) (h : b.drop 1 = rencb ((x : Int), z, s) ++ r) : b = renc ((x : Int), z, s) ++ r := by
  rw [cons_at hx]
  show x :: b.drop 1 = ((x : Int).toNat % 256) :: (rencb ((x : Int), z, s) ++ r)
  rw [h, Int.toNat_natCast, Nat.mod_eq_of_lt hB]
/-- A value was taken off, or none can be. -/
def TkR (b : List Nat) (a : Vl) (r : List Nat) (ok : Bool) : Prop := (ok = true → rightB a = true ∧ b = renc a ++ r) ∧ (ok = false → NoVal b)
theorem tkr_yes {b r : List Nat} {a : Vl} (h : b = renc a ++ r) (hno : rightB a = false → NoVal b) : TkR b a r (rightB a) := ⟨fun h' => ⟨h', h⟩, hno⟩
theorem tkr_no {b r : List Nat} {a : Vl} (h : NoVal b) : TkR b a r false := ⟨fun h' => (by cases h'), fun _ => h⟩
theorem noval_nil : NoVal [] := fun a r _ _ h => by cases h
theorem noval_kind {b : List Nat} {x : Nat} (hx : b[0]? = some x) (h : 5 < x) : NoVal b := fun a r _ hr e => by
  obtain ⟨k, _⟩ := val_head hx hr e
  obtain ⟨k0, k5, _⟩ := rightr hr
  omega
theorem noval_bool {b : List Nat} {x : Nat} (hx : b[0]? = some x) (h : x = 1) (h2 : ∀ c, (b.drop 1)[0]? = some c → c ≠ 0 ∧ c ≠ 1) : NoVal b := fun a r _ hr e => by
  obtain ⟨k, h3⟩ := val_head hx hr e
  obtain ⟨_, _, _, k1, _⟩ := rightr hr
  rw [rencb1 (by omega)] at h3
  have := h2 _ (by rw [h3]; rfl)
  have := (k1 (by omega)).1
  omega
theorem noval_num {b : List Nat} {x : Nat} (hx : b[0]? = some x) (h : x = 2 ∨ x = 3) (h2 : NoShort (b.drop 1)) : NoVal b := fun a r ha hr e => by
  obtain ⟨k, h3⟩ := val_head hx hr e
  rw [rencb2 (by omega)] at h3
  exact h2 _ _ ha.2.2.1 ha.2.2.2 h3
theorem noval_text {b : List Nat} {x : Nat} (hx : b[0]? = some x) (h : x = 4 ∨ x = 5) (h2 : NoShort (b.drop 1)) : NoVal b := fun a r ha hr e => by
  obtain ⟨k, h3⟩ := val_head hx hr e
  obtain ⟨_, _, _, _, _, k4⟩ := rightr hr
  rw [rencb4 (by omega), List.append_assoc] at h3
  have := (k4 (by omega)).2
  exact h2 _ _ (by omega) (by omega) h3
theorem noval_long {b r : List Nat} {x : Nat} {n : Int} (hx : b[0]? = some x) (h : x = 4 ∨ x = 5) (h2 : b.drop 1 = short n ++ r) (h3 : n < 0 ∨ (r.length : Int) < n ∨ 200 < n) : NoVal b := fun a r' ha hr e => by
  obtain ⟨k, h4⟩ := val_head hx hr e
  obtain ⟨_, _, _, _, _, k4⟩ := rightr hr
  rw [rencb4 (by omega), List.append_assoc, h2] at h4
  obtain ⟨h5, h6⟩ := short_inj h4
  have := (k4 (by omega)).2
  have := congrArg List.length h6
  rw [List.length_append] at this
  omega
theorem val_null {b : List Nat} {x : Nat} (hx : b[0]? = some x) (h : x = 0) : b = renc ((x : Int), 0, []) ++ b.drop 1 := renc_of hx (by omega) (by rw [rencb0 (by simpa using h)]; rfl)
theorem val_bool {b : List Nat} {x c : Nat} (hx : b[0]? = some x) (h : x = 1) (hc : (b.drop 1)[0]? = some c) (hB : c < 256) : b = renc ((x : Int), (c : Int), []) ++ (b.drop 1).drop 1 := by
  refine renc_of hx (by omega) ?_
  rw [rencb1 (by simp; omega)]
  show b.drop 1 = ((c : Int).toNat % 256) :: (b.drop 1).drop 1
  rw [Int.toNat_natCast, Nat.mod_eq_of_lt hB]; exact cons_at hc
theorem val_num {b r : List Nat} {x : Nat} {n : Int} (hx : b[0]? = some x) (h : x = 2 ∨ x = 3) (h2 : b.drop 1 = short n ++ r) : b = renc ((x : Int), n, []) ++ r :=
  renc_of hx (by omega) (by rw [rencb2 (by simp; omega)]; exact h2)
theorem val_text {b r s : List Nat} {x : Nat} {n : Int} (hx : b[0]? = some x) (h : x = 4 ∨ x = 5) (h2 : b.drop 1 = short n ++ r) (h3 : (s.length : Int) = n) (h4 : ∃ q, r = s ++ q) : b = renc ((x : Int), 0, s) ++ r.drop s.length := by
  obtain ⟨q, rfl⟩ := h4
  refine renc_of hx (by omega) ?_
  rw [rencb4 (by simp; omega), h2, List.append_assoc]
  simp only
  rw [h3, List.drop_left]
theorem row_next {b rest r : List Nat} {l : List Vl} {a : Vl} {x : Nat} (he : b = x :: (rencs l ++ rest)) (h : rest = renc a ++ r) : b = x :: (rencs (l ++ [a]) ++ r) := by
  rw [rencs_app, rencs_one, he, h, List.append_assoc]
theorem row_fail {b rest : List Nat} {l : List Vl} {x : Nat} (he : b = x :: (rencs l ++ rest)) (hR : RrOk l) (hx : l.length < x) (hB : x < 256) (h : NoVal rest ∨ 16 ≤ l.length) : NoRow b := fun L hL h16 e => by
  rw [e] at he
  obtain ⟨h1, h2⟩ := List.cons.inj he
  obtain ⟨m, rfl, h3⟩ := rencs_pre hR hL h2 (by omega)
  rw [List.length_append] at h1 h16
  match m with
  | [] => simp at h1; omega
  | v :: m =>
    rcases h with h | h
    · exact h v (rencs m) (hL.1 v (List.mem_append_right _ (.head _))) (hL.2 v (List.mem_append_right _ (.head _))) (by rw [h3, rencs_cons])
    · simp at h16; omega
theorem row_more {b rest : List Nat} {l : List Vl} {x : Nat} (he : b = x :: (rencs l ++ rest)) (hR : RrOk l) (hx : l.length = x) (h16 : l.length ≤ 16) (hp : 0 < rest.length) : NoRow b := fun L hL h16' e => by
  rw [e] at he
  obtain ⟨h1, h2⟩ := List.cons.inj he
  obtain ⟨m, rfl, h3⟩ := rencs_pre hR hL h2 (by omega)
  rw [List.length_append] at h1 h16'
  match m with
  | [] => rw [h3] at hp; simp [rencs] at hp
  | v :: m => simp at h1 h16'; omega
theorem row_yes {b rest : List Nat} {l : List Vl} {x : Nat} (he : b = x :: (rencs l ++ rest)) (hR : RrOk l) (hx : l.length = x) (h16 : l.length ≤ 16) (hp : rest.length = 0) : decRw b = (l, 0) := by
  have : rest = [] := List.eq_nil_of_length_eq_zero hp
  subst this
  refine decRw_yes hR h16 ?_
  rw [he, List.append_nil, ← hx]
  show _ = (l.length % 256) :: rencs l
  rw [Nat.mod_eq_of_lt (by omega)]
end Go.Proofs.Yteojpdijmnpmgaa
namespace Go.Proofs.Yteojpdijmnpmgaa
open Go Go.RowKit
section
variable {P : Program} {n : Nat} {f : Nat → Value} {w : World}
section
variable {d : Option Tmp} {x y : Operand} {ty T T' : TypeId} {pos : String} {aft : Array Edge} {g : Option (Nat × Bool)}
theorem q_or {k : IntKind} {a b : Int} (hx : ev n f x = .int k a) (hy : ev n f y = .int k b) :
    Run P n f ⟨d, .binOp .or T x y T', ty, pos, aft, g⟩ w (.int k (k.wrap ((BitVec.ofInt k.bits a ||| BitVec.ofInt k.bits b).toNat : Int))) := by
  simp [Run, execOp, hx, hy, binOp, eqGuard, Op.intBits, Sem.run]
theorem bv_or {m a b : Nat} (ha : a < 2 ^ m) (hb : b < 2 ^ m) : (BitVec.ofInt m (a : Int) ||| BitVec.ofInt m (b : Int)).toNat = a ||| b := by
  rw [BitVec.toNat_or]
  simp [Nat.mod_eq_of_lt ha, Nat.mod_eq_of_lt hb]
end
end
end Go.Proofs.Yteojpdijmnpmgaa
namespace Go.Proofs.Yteojpdijmnpmgaa
open Go Go.RowKit
/-- A number of whatever sign as one of 64 bits. -/
def toU (z : Int) : Nat := (z % 18446744073709551616).toNat
theorem toU_lt (z : Int) : toU z < 18446744073709551616 := by unfold toU; omega
theorem wrapU (z : Int) : IntKind.u64.wrap z = ((toU z : Nat) : Int) := by
  have h : IntKind.u64.wrap z = z % 18446744073709551616 := by simp [IntKind.wrap, IntKind.signed, IntKind.bits]
  rw [h]; unfold toU; omega
section
variable {P : Program} {ops : Array Oper} {Q : Exit → Act → World → Prop} {n : Nat} {f : Nat → Value} {w w0 : World} {D : Nat → Prop} {Γ : List Ch} {K : Act → World → Prop}
variable {d : Option Tmp} {dd : Nat} {x y : Operand} {ty T T' Tx : TypeId} {pos : String} {aft : Array Edge} {g : Option (Nat × Bool)}
theorem q_convU {k : IntKind} {z : Int} (hx : ev n f x = .int k z) (h : P.underlying T' = some (.int .u64)) (h2 : (P.underlying T).isSome = true) : Run P n f ⟨d, .convert T T' x, ty, pos, aft, g⟩ w (.int .u64 ((toU z : Nat) : Int)) := by
  have := q_conv (w := w) (d := d) (ty := ty) (pos := pos) (aft := aft) (g := g) hx h h2
  rwa [wrapU] at this
end
section
variable {P : Program} {n : Nat} {f : Nat → Value} {w : World}
variable {d : Option Tmp} {x y : Operand} {ty T : TypeId} {pos : String} {aft : Array Edge} {g : Option (Nat × Bool)}
/-- A byte of a string. -/
theorem q_strAt {k : IntKind} {l : List Nat} {i b : Nat} {z : Int} (hx : ev n f x = .string (bs l)) (hy : ev n f y = .int k z) (ht : stB P T = true) (hz : z = ((i : Nat) : Int)) (hb : l[i]? = some b) (hl : b < 256) : Run P n f ⟨d, .index T x y, ty, pos, aft, g⟩ w (.int .u8 ((b : Nat) : Int)) := by
  subst hz
  have hu := stB_und ht
  have h1 : (bs l)[i]? = some (UInt8.ofNat b) := by
    obtain ⟨hi, rfl⟩ := List.getElem?_eq_some_iff.1 hb
    have hs : i < (bs l).size := by rw [bs_size]; exact hi
    rw [getElem?_pos (bs l) i hs]
    show some ((bs l).data[i]'_) = _
    simp [bs]
  have h2 : (Instr.index T (.string (bs l)) (.int k ((i : Nat) : Int))).run P w = .ok (.int .u8 ((b : Nat) : Int)) w := by
    have h3 : (UInt8.ofNat b).toNat = b := by simp only [UInt8.toNat_ofNat']; omega
    simp [Instr.index, asIntOf, run_underlying hu, h1, h3, Sem.run]
  simp only [Run, execOp, hx, hy, Sem.run_bind, h2, Result.andThen_ok]
  rfl
end
end Go.Proofs.Yteojpdijmnpmgaa
namespace Go.Proofs.Yteojpdijmnpmgaa
open Go Go.RowKit
section
variable {P : Program} {n : Nat} {f : Nat → Value} {w : World}
variable {d : Option Tmp} {x y : Operand} {ty T T' : TypeId} {pos : String} {aft : Array Edge} {g : Option (Nat × Bool)}
theorem q_and {k : IntKind} {a b : Int} (hx : ev n f x = .int k a) (hy : ev n f y = .int k b) :
    Run P n f ⟨d, .binOp .and T x y T', ty, pos, aft, g⟩ w (.int k (k.wrap ((BitVec.ofInt k.bits a &&& BitVec.ofInt k.bits b).toNat : Int))) := by
  simp [Run, execOp, hx, hy, binOp, eqGuard, Op.intBits, Sem.run]
theorem q_andNot {k : IntKind} {a b : Int} (hx : ev n f x = .int k a) (hy : ev n f y = .int k b) :
    Run P n f ⟨d, .binOp .andNot T x y T', ty, pos, aft, g⟩ w (.int k (k.wrap ((BitVec.ofInt k.bits a &&& ~~~BitVec.ofInt k.bits b).toNat : Int))) := by
  simp [Run, execOp, hx, hy, binOp, eqGuard, Op.intBits, Sem.run]
/-- A number that its kind can hold, as a natural number. -/
theorem wrap_small {k : IntKind} {a m : Nat} (h : a < 2 ^ m) (hm : (k.signed = false ∧ m = k.bits) ∨ m ≤ k.bits - 1) : k.wrap (a : Int) = (a : Int) := by
  rcases hm with ⟨h1, h2⟩ | hm
  · subst h2; rw [wrap_u h1, Nat.mod_eq_of_lt h]
  · exact wrap_nat k (Nat.lt_of_lt_of_le h (Nat.pow_le_pow_right (by omega) hm))
theorem bits_le {k : IntKind} {m : Nat} (hm : (k.signed = false ∧ m = k.bits) ∨ m ≤ k.bits - 1) : m ≤ k.bits := by rcases hm with ⟨_, h⟩ | h <;> omega
theorem q_andN {k : IntKind} {a b : Nat} (m : Nat) (hx : ev n f x = .int k (a : Int)) (hy : ev n f y = .int k (b : Int)) (ha : a < 2 ^ m) (hb : b < 2 ^ m) (hm : (k.signed = false ∧ m = k.bits) ∨ m ≤ k.bits - 1) :
    Run P n f ⟨d, .binOp .and T x y T', ty, pos, aft, g⟩ w (.int k ((a &&& b : Nat) : Int)) := by
  have h := q_and (P := P) (w := w) (d := d) (T := T) (T' := T') (ty := ty) (pos := pos) (aft := aft) (g := g) hx hy
  have hl := Nat.pow_le_pow_right (n := 2) (by omega) (bits_le hm)
  have e : (BitVec.ofInt k.bits (a : Int) &&& BitVec.ofInt k.bits (b : Int)).toNat = a &&& b := by
    rw [BitVec.toNat_and]
    simp [Nat.mod_eq_of_lt (Nat.lt_of_lt_of_le ha hl), Nat.mod_eq_of_lt (Nat.lt_of_lt_of_le hb hl)]
  rw [e, wrap_small (Nat.lt_of_le_of_lt Nat.and_le_left ha) hm] at h
  exact h
/-- and with 2^j - 1. -/
theorem q_andP {k : IntKind} {a j M : Nat} (m : Nat) {c : Int} (hx : ev n f x = .int k (a : Int)) (hy : ev n f y = .int k c) (hc : c = ((M - 1 : Nat) : Int)) (hM : 2 ^ j = M) (hj : M - 1 < 2 ^ m) (ha : a < 2 ^ m) (hm : (k.signed = false ∧ m = k.bits) ∨ m ≤ k.bits - 1) :
    Run P n f ⟨d, .binOp .and T x y T', ty, pos, aft, g⟩ w (.int k ((a % M : Nat) : Int)) := by
  subst hc hM
  have h := q_andN (P := P) (w := w) (d := d) (T := T) (T' := T') (ty := ty) (pos := pos) (aft := aft) (g := g) m hx hy ha hj hm
  rwa [Nat.and_two_pow_sub_one_eq_mod] at h
theorem q_orS {k : IntKind} {a b : Nat} (m : Nat) (hx : ev n f x = .int k (a : Int)) (hy : ev n f y = .int k (b : Int)) (ha : a < 2 ^ m) (hb : b < 2 ^ m) (hm : (k.signed = false ∧ m = k.bits) ∨ m ≤ k.bits - 1) :
    Run P n f ⟨d, .binOp .or T x y T', ty, pos, aft, g⟩ w (.int k ((a ||| b : Nat) : Int)) := by
  have h := q_or (P := P) (w := w) (d := d) (T := T) (T' := T') (ty := ty) (pos := pos) (aft := aft) (g := g) hx hy
  have hl := Nat.pow_le_pow_right (n := 2) (by omega) (bits_le hm)
  rw [bv_or (Nat.lt_of_lt_of_le ha hl) (Nat.lt_of_lt_of_le hb hl), wrap_small (Nat.or_lt_two_pow ha hb) hm] at h
  exact h
theorem q_andNotN {k : IntKind} {a b : Nat} (m : Nat) (hx : ev n f x = .int k (a : Int)) (hy : ev n f y = .int k (b : Int)) (ha : a < 2 ^ m) (hb : b < 2 ^ m) (hm : (k.signed = false ∧ m = k.bits) ∨ m ≤ k.bits - 1) :
    Run P n f ⟨d, .binOp .andNot T x y T', ty, pos, aft, g⟩ w (.int k ((a ^^^ (a &&& b) : Nat) : Int)) := by
  have h := q_andNot (P := P) (w := w) (d := d) (T := T) (T' := T') (ty := ty) (pos := pos) (aft := aft) (g := g) hx hy
  have hl := Nat.pow_le_pow_right (n := 2) (by omega) (bits_le hm)
  have e1 : ∀ (A B : BitVec k.bits), A &&& ~~~B = A ^^^ (A &&& B) := by
    intro A B
    apply BitVec.eq_of_getElem_eq
    intro i hi
    simp only [BitVec.getElem_and, BitVec.getElem_not, BitVec.getElem_xor]
    cases A[i] <;> cases B[i] <;> rfl
  have e : (BitVec.ofInt k.bits (a : Int) &&& ~~~BitVec.ofInt k.bits (b : Int)).toNat = a ^^^ (a &&& b) := by
    rw [e1, BitVec.toNat_xor, BitVec.toNat_and]
    simp [Nat.mod_eq_of_lt (Nat.lt_of_lt_of_le ha hl), Nat.mod_eq_of_lt (Nat.lt_of_lt_of_le hb hl)]
  rw [e, wrap_small (Nat.xor_lt_two_pow ha (Nat.lt_of_le_of_lt Nat.and_le_left ha)) hm] at h
  exact h
theorem u_sub {k : IntKind} {a b : Nat} (hk : k.signed = false) (hx : ev n f x = .int k (a : Int)) (hy : ev n f y = .int k (b : Int)) (h : b ≤ a) (ha : a < 2 ^ k.bits) : Run P n f ⟨d, .binOp .sub T x y T', ty, pos, aft, g⟩ w (.int k ((a - b : Nat) : Int)) := by
  have := q_sub (P := P) (w := w) (d := d) (T := T) (T' := T') (ty := ty) (pos := pos) (aft := aft) (g := g) hx hy
  rwa [show (a : Int) - (b : Int) = ((a - b : Nat) : Int) from by omega, wrap_u hk, Nat.mod_eq_of_lt (by omega)] at this
/-- The sign, of 64 bits. -/
theorem q_sar63 {a : Int} (hx : ev n f x = .int .i64 a) (h1 : -9223372036854775808 ≤ a) (h2 : a ≤ 9223372036854775807) {yk : IntKind} (hy : ev n f y = .int yk 63) :
    Run P n f ⟨d, .binOp .shr T x y T', ty, pos, aft, g⟩ w (.int .i64 (if a < 0 then -1 else 0)) := by
  have h := q_shr (P := P) (w := w) (d := d) (T := T) (T' := T') (ty := ty) (pos := pos) (aft := aft) (g := g) hx hy (by decide)
  have e : a.fdiv (2 ^ min (63 : Int).toNat IntKind.i64.bits) = if a < 0 then -1 else 0 := by
    have : (2 : Int) ^ min (63 : Int).toNat IntKind.i64.bits = 9223372036854775808 := by decide
    rw [this, Int.fdiv_eq_ediv_of_nonneg _ (by decide)]
    split <;> omega
  rwa [e] at h
theorem xor_ones {a : Nat} (h : a < 2 ^ 64) : a ^^^ (2 ^ 64 - 1) = 2 ^ 64 - 1 - a := by
  apply Nat.eq_of_testBit_eq
  intro i
  rw [Nat.testBit_xor, Nat.testBit_two_pow_sub_one, show 2 ^ 64 - 1 - a = 2 ^ 64 - (a + 1) from by omega, Nat.testBit_two_pow_sub_succ h]
  by_cases hi : i < 64
  · simp [hi]
  · have : a.testBit i = false := Nat.testBit_lt_two_pow (Nat.lt_of_lt_of_le h (Nat.pow_le_pow_right (by omega) (by omega)))
    simp [hi, this]
theorem toU_sign (z : Int) : toU (if z < 0 then -1 else 0) = if z < 0 then 2 ^ 64 - 1 else 0 := by unfold toU; split <;> rfl
/-- The xor of a number below 2^63 with 0 or all bits. -/
theorem q_xorSign {a b : Nat} (hx : ev n f x = .int .i64 (a : Int)) {z : Int} (hy : ev n f y = .int .i64 z) (hz : z = if b = 1 then -1 else 0) (ha : a < 9223372036854775808) :
    Run P n f ⟨d, .binOp .xor T x y T', ty, pos, aft, g⟩ w (.int .i64 (if b = 1 then -(a : Int) - 1 else (a : Int))) := by
  have h := q_xor (P := P) (w := w) (d := d) (T := T) (T' := T') (ty := ty) (pos := pos) (aft := aft) (g := g) hx hy
  have hb : IntKind.i64.bits = 64 := rfl
  have ea : (BitVec.ofInt 64 (a : Int)).toNat = a := by simp; omega
  subst hz
  by_cases h1 : b = 1
  · rw [if_pos h1] at h ⊢
    have e1 : (BitVec.ofInt 64 (-1)).toNat = 2 ^ 64 - 1 := by decide
    have e : (BitVec.ofInt 64 (a : Int) ^^^ BitVec.ofInt 64 (-1)).toNat = 2 ^ 64 - 1 - a := by
      rw [BitVec.toNat_xor, ea, e1, xor_ones (by omega)]
    have e2 : IntKind.i64.wrap ((2 ^ 64 - 1 - a : Nat) : Int) = -(a : Int) - 1 := by
      rw [IntKind.wrap_i64]
      try unfold wrap64
      omega
    have h' : Run P n f ⟨d, .binOp .xor T x y T', ty, pos, aft, g⟩ w (.int .i64 (IntKind.i64.wrap ((BitVec.ofInt 64 (a : Int) ^^^ BitVec.ofInt 64 (-1)).toNat : Int))) := h
    rwa [e, e2] at h'
  · rw [if_neg h1] at h ⊢
    have e : (BitVec.ofInt 64 (a : Int) ^^^ BitVec.ofInt 64 0).toNat = a := by
      rw [BitVec.toNat_xor, ea]; simp
    have h' : Run P n f ⟨d, .binOp .xor T x y T', ty, pos, aft, g⟩ w (.int .i64 (IntKind.i64.wrap ((BitVec.ofInt 64 (a : Int) ^^^ BitVec.ofInt 64 0).toNat : Int))) := h
    rwa [e, wrap_in (by omega) (by omega)] at h'
end
theorem bytes_cells {l : List Nat} (h : Bytes l) : Go.byteCells (bs l) = bv l := by
  unfold Go.byteCells
  rw [bs_data, List.map_map]
  unfold bv
  refine List.map_congr_left fun x hx => ?_
  have := h x hx
  show Value.int .u8 (((UInt8.ofNat x).toNat : Nat) : Int) = _
  rw [UInt8.toNat_ofNat', Nat.mod_eq_of_lt (by omega)]
/-- A string's bytes, as what is appended. -/
theorem src_str {P : Program} {Tx : TypeId} {w : World} {l : List Nat} (ht : stB P Tx = true) (h : Bytes l) : Src P 1 Tx (.string (bs l)) l.length (bv l) w := by
  have := Src.ofString (P := P) w (stB_und ht) (bs l)
  rwa [bytes_cells h, bs_size] at this
end Go.Proofs.Yteojpdijmnpmgaa
namespace Go.Proofs.Yteojpdijmnpmgaa
open Go.RowKit
def blen (n : Nat) : Nat := ((List.range 8).filter fun i => decide (2 ^ i ≤ n)).length
theorem blen_facts : ∀ n, n < 128 → blen n ≤ 7 ∧ (1 < blen n ↔ 2 ≤ n) := by decide
section
variable {P : Program} {n : Nat} {f : Nat → Value} {w : World}
variable {d : Option Tmp} {x y : Operand} {ty T T' : TypeId} {pos : String} {aft : Array Edge} {g : Option (Nat × Bool)}
theorem zig_xor {z : Int} (h1 : -9223372036854775808 ≤ z) (h2 : z ≤ 9223372036854775807) : (toU z * 2 ^ 1 % 18446744073709551616) ^^^ (toU (if z < 0 then -1 else 0)) = zig z := by
  rw [toU_sign]
  by_cases h : z < 0
  · rw [if_pos h, xor_ones (by omega)]
    unfold toU zig; rw [if_neg (by omega)]; omega
  · rw [if_neg h, Nat.xor_zero]
    unfold toU zig; rw [if_pos (by omega)]; omega
theorem q_zig {z : Int} (hx : ev n f x = .int .u64 ((toU z * 2 ^ 1 % 18446744073709551616 : Nat) : Int)) (hy : ev n f y = .int .u64 ((toU (if z < 0 then -1 else 0) : Nat) : Int)) (h1 : -9223372036854775808 ≤ z) (h2 : z ≤ 9223372036854775807) :
    Run P n f ⟨d, .binOp .xor T x y T', ty, pos, aft, g⟩ w (.int .u64 ((zig z : Nat) : Int)) := by
  rw [← zig_xor h1 h2]
  exact q_xorN 64 hx hy (by show _ < 18446744073709551616; omega) (toU_lt _) (.inl ⟨rfl, rfl⟩)
theorem q_or128 {a : Nat} (hx : ev n f x = .int .u8 (a : Int)) (hy : ev n f y = .int .u8 128) (ha : a < 256) :
    Run P n f ⟨d, .binOp .or T x y T', ty, pos, aft, g⟩ w (.int .u8 ((a % 128 + 128 : Nat) : Int)) := by
  rw [← or128 ha]
  exact q_orS 8 hx (b := 128) hy (by show _ < 256; omega) (by decide) (.inl ⟨rfl, rfl⟩)
theorem q_unzig {u : Nat} {z : Int} (hx : ev n f x = .int .i64 ((u / 2 ^ 1 : Nat) : Int)) (hy : ev n f y = .int .i64 z) (hz : z = IntKind.i64.wrap (0 - ((u % 2 : Nat) : Int))) (hu : u < 18446744073709551616) :
    Run P n f ⟨d, .binOp .xor T x y T', ty, pos, aft, g⟩ w (.int .i64 (unzig u)) := by
  have h := q_xorSign (P := P) (w := w) (d := d) (T := T) (T' := T') (ty := ty) (pos := pos) (aft := aft) (g := g) (b := u % 2) hx hy (by
    rw [hz]
    rcases (by omega : u % 2 = 0 ∨ u % 2 = 1) with h | h <;> rw [h] <;> rfl) (by omega)
  have e : (if u % 2 = 1 then -((u / 2 ^ 1 : Nat) : Int) - 1 else ((u / 2 ^ 1 : Nat) : Int)) = unzig u := by
    unfold unzig
    rw [Nat.pow_one]
    rcases (by omega : u % 2 = 0 ∨ u % 2 = 1) with h | h
    · rw [if_neg (by omega), if_pos h]
    · rw [if_pos h, if_neg (by omega)]
  rwa [e] at h
end
theorem short_step {p : List Nat} {u v : Nat} (h : p ++ leb u = leb v) (hu : 127 < u) : (p ++ [u % 256 % 128 + 128]) ++ leb (u / 2 ^ 7) = leb v := by
  rw [← h, leb_hi (u := u) (by omega), List.append_assoc]
  have : u % 256 % 128 = u % 128 := by omega
  rw [this]; rfl
theorem short_end {p : List Nat} {u v : Nat} (h : p ++ leb u = leb v) (hu : u ≤ 127) : p ++ [u % 256] = leb v := by
  rw [← h, leb_lo (by omega), Nat.mod_eq_of_lt (by omega)]
/-- What a reader of short numbers hands back. -/
def LongP (b : List Nat) (v : Value) : Prop := ∃ z k ok, v = .tuple #[.int .i64 z, .int .i64 ((k : Nat) : Int), .bool ok] ∧ (ok = true → (∃ r, b = short z ++ r) ∧ k = (short z).length ∧ -9223372036854775808 ≤ z ∧ z ≤ 9223372036854775807) ∧ (ok = false → z = 0 ∧ k = 0 ∧ NoShort b)
theorem LongP.mk {b : List Nat} {z : Int} {k : Nat} {ok : Bool} (h : LongR b z k ok) : LongP b (.tuple #[.int .i64 z, .int .i64 ((k : Nat) : Int), .bool ok]) := ⟨z, k, ok, rfl, h.1, h.2⟩
theorem p7 (i : Nat) : (2 : Nat) ^ (7 * i) = 128 ^ i := by rw [Nat.pow_mul]
theorem p7le {i : Nat} (h : i ≤ 8) : (128 : Nat) ^ i ≤ 72057594037927936 := by
  have := Nat.pow_le_pow_right (n := 128) (by omega) h
  rwa [show (128 : Nat) ^ 8 = 72057594037927936 from by decide] at this
theorem long_acc {b : List Nat} {i x : Nat} (h : i ≤ b.length) (hx : b[i]? = some x) (hi : i ≤ 8 ∨ i = 9 ∧ x % 128 < 2) : lval (b.take i) ||| (x % 128 * 2 ^ (7 * i) % 18446744073709551616) = lval (b.take (i + 1)) ∧ lval (b.take (i + 1)) < 18446744073709551616 := by
  have h1 := lval_take h
  have h4 : x % 128 < 128 := by omega
  rw [lval_next hx]
  have key : x % 128 * 128 ^ i < 18446744073709551616 ∧ lval (b.take i) + 128 ^ i * (x % 128) < 18446744073709551616 := by
    rw [Nat.mul_comm (128 ^ i)]
    rcases hi with hi | ⟨rfl, hi⟩
    · have h2 := p7le hi
      have h3 : x % 128 * 128 ^ i ≤ 127 * 128 ^ i := Nat.mul_le_mul_right _ (by omega)
      omega
    · rw [pow9] at h1 ⊢
      omega
  refine ⟨?_, key.2⟩
  rw [p7, Nat.mod_eq_of_lt key.1, ← p7, or_step (by rw [p7]; exact h1), p7, Nat.mul_comm (128 ^ i)]
attribute [local irreducible] Oper.wp Sem.run Code.wp wpList wpAnyO callFunc execOp Calls
attribute [local irreducible] toU zig unzig short blen lval
set_option maxRecDepth 100000 in
theorem short_ok (z : Int) (hz1 : -9223372036854775808 ≤ z) (hz2 : z ≤ 9223372036854775807) (w : World) : Calls Try.prog 71 #[.int .i64 z] w (PostN w fun v G => ∃ ad cap, v = .slice ad (short z).length cap ∧ G = [.ow 5 1 ad (short z).length cap (bv (short z))]) := by
 have hS := St.start w
 have hsd : short z = leb (zig z) := by unfold short; rfl
 rw [hsd]
 refine c_enter Try.func71 rfl rfl rfl ?_
 refine wp_seq_k (fun K1 hK1 => ?_)
 refine wp_region_lit ?_
 refine l_q rfl rfl (q_assignS rfl) ?_
 refine l_nil ?_
 refine hK1 _ _ ?_
 refine wp_seq_k (fun K2 hK2 => ?_)
 refine wp_region_lit ?_
 refine l_q rfl rfl (q_moveI rfl) ?_
 refine l_q rfl rfl (q_convU (z := z) rfl (by kernel_rfl) rfl) ?_
 refine l_q rfl rfl (u_shl (a := (toU z)) (b := 1) (M := 18446744073709551616) rfl rfl rfl (by decide) (by decide)) ?_
 refine l_q rfl rfl (q_moveI rfl) ?_
 refine l_q rfl rfl (q_sar63 rfl hz1 hz2 rfl) ?_
 refine l_q rfl rfl (q_convU (z := (if z < 0 then -1 else 0)) rfl (by kernel_rfl) rfl) ?_
 refine l_q rfl rfl (q_zig rfl rfl hz1 hz2) ?_
 refine l_q rfl rfl (q_assignI rfl) ?_
 refine l_nil ?_
 refine hK2 _ _ ?_
 refine wp_seq_k (fun K3 hK3 => ?_)
 refine wp_region_lit ?_
 refine l_q rfl rfl (q_assignS rfl) ?_
 refine l_nil ?_
 refine hK3 _ _ ?_
 refine wp_seq_k (fun K4 hK4 => ?_)
 refine wp_block ?_
 have hS5 := hS.ow_nil 5 1; clear hS
 refine c_loop (τ := (List Nat) × Nat × (Option Addr) × Nat) [(3, 4), (12, 21)] (fun x => (fun (p : List Nat) (u : Nat) (ad : Option Addr) (cap : Nat) => [(3, .int .u64 (u : Int)), (4, .slice ad p.length cap)]) x.1 x.2.1 x.2.2.1 x.2.2.2) (fun x w' => (fun (p : List Nat) (u : Nat) (ad : Option Addr) (cap : Nat) => St w (fun _ => False) [.ow 5 1 ad p.length cap (bv p)] w' ∧ p ++ leb u = leb (zig z) ∧ Bytes p ∧ u < 18446744073709551616 ∧ p.length ≤ 10) x.1 x.2.1 x.2.2.1 x.2.2.2) (fun x => (fun (p : List Nat) (u : Nat) (ad : Option Addr) (cap : Nat) => u) x.1 x.2.1 x.2.2.1 x.2.2.2) (⟨[], (zig z), none, 0⟩) ?_ (by refine ⟨rfl, ⟨rfl, trivial⟩⟩) (fun x6 j6 w6 hJ6 K6 hK6 => ?_)
 exact ⟨hS5, rfl, Bytes.nil, zig_lt hz1 hz2, Nat.zero_le _⟩
 obtain ⟨p, u, ad, cap⟩ := x6
 obtain ⟨hS6, he, hp, hu, hpl⟩ := hJ6
 try dsimp only at hS6 he hp hu hpl ⊢
 have hl10 := short_len hz1 hz2
 have hle := congrArg List.length he
 rw [List.length_append] at hle
 have hlp := leb_pos u
 have hl10' : (leb (zig z)).length ≤ 10 := leb_len10 (zig_lt hz1 hz2)
 refine wp_seq_k (fun K7 hK7 => ?_)
 refine wp_seq_k (fun K8 hK8 => ?_)
 refine wp_region_lit ?_
 refine l_q rfl rfl (q_moveI rfl) ?_
 refine l_q rfl rfl (q_gtr rfl rfl) ?_
 refine l_nil ?_
 refine hK8 _ _ ?_
 refine c_cond rfl (fun hc9 => ?_) (fun hc9 => ?_)
 have hc9b := hc9
 try simp only [zbb] at hc9
 refine wp_skip ?_
 refine hK7 _ _ ?_
 refine wp_seq_k (fun K10 hK10 => ?_)
 refine wp_block ?_
 refine wp_region_lit ?_
 refine l_q rfl rfl (q_moveS rfl) ?_
 refine l_q rfl rfl (q_moveI rfl) ?_
 refine l_q rfl rfl (u_conv (a := u) (k' := .u8) (M := 256) rfl (by kernel_rfl) (by kernel_rfl) rfl (by decide)) ?_
 refine l_q rfl rfl (q_or128 rfl rfl (by omega)) ?_
 refine l_e rfl (fun K hK => ?_)
 refine e_buildSlice1 (e := 5) (zv := .int .u8 0) (xs := [.tmp 19]) hS6 (by kernel_rfl) (by kernel_rfl) (by kernel_rfl) rfl rfl rfl rfl (allone (by repeat' (first | exact trivial | refine ⟨by first | rfl | assumption, ?_⟩))) rfl (fun b11 w11 (hS11 : St _ _ [.blk b11 (.cells #[.int .u8 (((u % 256 % 128 + 128) : Nat) : Int)] 5), .ow 5 1 ad p.length cap (bv p)] _) => ?_)
 clear hS6
 have hB11 : Bytes [(u % 256 % 128 + 128)] := by intro q hq; simp only [List.mem_cons, List.not_mem_nil, or_false] at hq; omega
 have hS11o : St _ _ [.ow 5 1 (some ⟨b11, 0, none⟩) 1 1 (bv [(u % 256 % 128 + 128)]), _] _ := hS11.blkOw' (i := 0) (m := 1) (size := 1) (xs := bv [(u % 256 % 128 + 128)]) rfl rfl rfl (by decide); clear hS11
 refine hK _ _ ?_; clear hK K
 refine l_e rfl (fun K hK => ?_)
 have hB12 : Bytes (p ++ [(u % 256 % 128 + 128)]) := Bytes.app hp hB11
 refine e_app (e := 5) (size := 1) (bytes := 1) (i := 1) (m' := (p ++ [(u % 256 % 128 + 128)]).length) (by kernel_rfl) hS11o rfl rfl rfl (SlG.src (e := 5) (by kernel_rfl) (hS11o.owG (i := 0) rfl) (by first | (simp only [zll, Nat.mul_one]; done) | (simp only [zll]; omega) | rfl | (simp; done)) (by decide) (bv_one _)) (by first | omega | (simp only [zll] <;> omega) | (simp; done)) bv_app (by first | omega | (simp only [maxLen, zll] <;> omega) | (simp only [maxLen]; omega)) (by first | omega | (simp only [zll] <;> omega)) (fun ad12 cp12 w12 (hS12 : St _ _ [_, .ow 5 1 ad12 ((p ++ [(u % 256 % 128 + 128)]).length) cp12 (bv (p ++ [(u % 256 % 128 + 128)]))] _) => ?_)
 clear hS11o
 refine hK _ _ ?_; clear hK K
 refine l_q rfl rfl (q_assignS rfl) ?_
 refine l_nil ?_
 refine hK10 _ _ ?_
 refine wp_region_lit ?_
 refine l_q rfl rfl (q_moveI rfl) ?_
 refine l_q rfl rfl (q_shrN (k := .u64) (a := u) (b := 7) rfl rfl (by decide)) ?_
 refine l_q rfl rfl (q_assignI rfl) ?_
 refine l_nil ?_
 have hS13 := hS12.fr1; clear hS12
 have hS14 : St _ _ [_] _ := hS13.only 1; clear hS13
 refine hK6 _ _ (came (⟨(p ++ [(u % 256 % 128 + 128)]), (u / 2 ^ 7), ad12, cp12⟩) (by repeat' (first | exact Agree.refl _ _ | refine Agree.up ?_ rfl | refine Agree.hav2 ?_ rfl | refine Agree.ups2 ?_ rfl)) (by repeat' (first | exact trivial | refine ⟨by first | rfl | exact int_succ _ | assumption, ?_⟩)) ?_)
 have hs := short_step he (by omega)
 have hls := congrArg List.length hs
 rw [List.length_append] at hls
 exact ⟨⟨hS14, hs, hB12, by (show u / 2 ^ 7 < 18446744073709551616); omega, by (show (p ++ [u % 256 % 128 + 128]).length ≤ 10); omega⟩, by (show u / 2 ^ 7 < u); omega⟩
 have hc9b := hc9
 try simp only [zbb] at hc9
 refine wp_exit ?_
 refine hK4 _ _ ?_
 refine wp_seq_k (fun K15 hK15 => ?_)
 refine wp_region_lit ?_
 refine l_q rfl rfl (q_moveS rfl) ?_
 refine l_q rfl rfl (q_moveI rfl) ?_
 refine l_q rfl rfl (u_conv (a := u) (k' := .u8) (M := 256) rfl (by kernel_rfl) (by kernel_rfl) rfl (by decide)) ?_
 refine l_e rfl (fun K hK => ?_)
 refine e_buildSlice1 (e := 5) (zv := .int .u8 0) (xs := [.tmp 24]) hS6 (by kernel_rfl) (by kernel_rfl) (by kernel_rfl) rfl rfl rfl rfl (allone (by repeat' (first | exact trivial | refine ⟨by first | rfl | assumption, ?_⟩))) rfl (fun b16 w16 (hS16 : St _ _ [.blk b16 (.cells #[.int .u8 (((u % 256) : Nat) : Int)] 5), _] _) => ?_)
 clear hS6
 have hB16 : Bytes [(u % 256)] := by intro q hq; simp only [List.mem_cons, List.not_mem_nil, or_false] at hq; omega
 have hS16o : St _ _ [.ow 5 1 (some ⟨b16, 0, none⟩) 1 1 (bv [(u % 256)]), _] _ := hS16.blkOw' (i := 0) (m := 1) (size := 1) (xs := bv [(u % 256)]) rfl rfl rfl (by decide); clear hS16
 refine hK _ _ ?_; clear hK K
 refine l_e rfl (fun K hK => ?_)
 have hB17 : Bytes (p ++ [(u % 256)]) := Bytes.app hp hB16
 refine e_app (e := 5) (size := 1) (bytes := 1) (i := 1) (m' := (p ++ [(u % 256)]).length) (by kernel_rfl) hS16o rfl rfl rfl (SlG.src (e := 5) (by kernel_rfl) (hS16o.owG (i := 0) rfl) (by first | (simp only [zll, Nat.mul_one]; done) | (simp only [zll]; omega) | rfl | (simp; done)) (by decide) (bv_one _)) (by first | omega | (simp only [zll] <;> omega) | (simp; done)) bv_app (by first | omega | (simp only [maxLen, zll] <;> omega) | (simp only [maxLen]; omega)) (by first | omega | (simp only [zll] <;> omega)) (fun ad17 cp17 w17 (hS17 : St _ _ [_, .ow 5 1 ad17 ((p ++ [(u % 256)]).length) cp17 (bv (p ++ [(u % 256)]))] _) => ?_)
 clear hS16o
 refine hK _ _ ?_; clear hK K
 refine l_q rfl rfl (q_assignS rfl) ?_
 refine l_nil ?_
 refine hK15 _ _ ?_
 refine wp_ret ?_
 refine c_ret1 rfl rfl ?_
 have hS18 := hS17.fr1; clear hS17
 have hS19 : St _ _ [_] _ := hS18.only 1; clear hS18
 have hfe := short_end he (by omega)
 exact ⟨_, _, rfl, ⟨ad17, cp17, congrArg (fun q : List Nat => Value.slice _ q.length _) hfe, congrArg (fun q : List Nat => [Ch.ow 5 1 _ q.length _ (bv q)]) hfe⟩, hS19⟩
set_option maxRecDepth 100000 in
theorem tbl_blen0 : ∀ n, n < 128 → ([0, 1, 2, 2, 3, 3, 3, 3, 4, 4, 4, 4, 4, 4, 4, 4, 5, 5, 5, 5, 5, 5, 5, 5, 5, 5, 5, 5, 5, 5, 5, 5, 6, 6, 6, 6, 6, 6, 6, 6, 6, 6, 6, 6, 6, 6, 6, 6, 6, 6, 6, 6, 6, 6, 6, 6, 6, 6, 6, 6, 6, 6, 6, 6, 7, 7, 7, 7, 7, 7, 7, 7, 7, 7, 7, 7, 7, 7, 7, 7, 7, 7, 7, 7, 7, 7, 7, 7, 7, 7, 7, 7, 7, 7, 7, 7, 7, 7, 7, 7, 7, 7, 7, 7, 7, 7, 7, 7, 7, 7, 7, 7, 7, 7, 7, 7, 7, 7, 7, 7, 7, 7, 7, 7, 7, 7, 7, 7, 8, 8, 8, 8, 8, 8, 8, 8, 8, 8, 8, 8, 8, 8, 8, 8, 8, 8, 8, 8, 8, 8, 8, 8, 8, 8, 8, 8, 8, 8, 8, 8, 8, 8, 8, 8, 8, 8, 8, 8, 8, 8, 8, 8, 8, 8, 8, 8, 8, 8, 8, 8, 8, 8, 8, 8, 8, 8, 8, 8, 8, 8, 8, 8, 8, 8, 8, 8, 8, 8, 8, 8, 8, 8, 8, 8, 8, 8, 8, 8, 8, 8, 8, 8, 8, 8, 8, 8, 8, 8, 8, 8, 8, 8, 8, 8, 8, 8, 8, 8, 8, 8, 8, 8, 8, 8, 8, 8, 8, 8, 8, 8, 8, 8, 8, 8, 8, 8, 8, 8, 8, 8, 8, 8, 8, 8, 8, 8])[n % 256]? = some (blen n) := by unfold blen; decide +kernel
theorem tbl_blen (n : Nat) (h : n < 128) (x : Nat) (hx : ([0, 1, 2, 2, 3, 3, 3, 3, 4, 4, 4, 4, 4, 4, 4, 4, 5, 5, 5, 5, 5, 5, 5, 5, 5, 5, 5, 5, 5, 5, 5, 5, 6, 6, 6, 6, 6, 6, 6, 6, 6, 6, 6, 6, 6, 6, 6, 6, 6, 6, 6, 6, 6, 6, 6, 6, 6, 6, 6, 6, 6, 6, 6, 6, 7, 7, 7, 7, 7, 7, 7, 7, 7, 7, 7, 7, 7, 7, 7, 7, 7, 7, 7, 7, 7, 7, 7, 7, 7, 7, 7, 7, 7, 7, 7, 7, 7, 7, 7, 7, 7, 7, 7, 7, 7, 7, 7, 7, 7, 7, 7, 7, 7, 7, 7, 7, 7, 7, 7, 7, 7, 7, 7, 7, 7, 7, 7, 7, 8, 8, 8, 8, 8, 8, 8, 8, 8, 8, 8, 8, 8, 8, 8, 8, 8, 8, 8, 8, 8, 8, 8, 8, 8, 8, 8, 8, 8, 8, 8, 8, 8, 8, 8, 8, 8, 8, 8, 8, 8, 8, 8, 8, 8, 8, 8, 8, 8, 8, 8, 8, 8, 8, 8, 8, 8, 8, 8, 8, 8, 8, 8, 8, 8, 8, 8, 8, 8, 8, 8, 8, 8, 8, 8, 8, 8, 8, 8, 8, 8, 8, 8, 8, 8, 8, 8, 8, 8, 8, 8, 8, 8, 8, 8, 8, 8, 8, 8, 8, 8, 8, 8, 8, 8, 8, 8, 8, 8, 8, 8, 8, 8, 8, 8, 8, 8, 8, 8, 8, 8, 8, 8, 8, 8, 8, 8, 8])[n % 256]? = some x) : x = blen n := by rw [tbl_blen0 n h] at hx; exact (Option.some.inj hx).symm
set_option maxRecDepth 100000 in
theorem len64_ok (n : Nat) (hn : n < 128) (w : World) : Calls Try.prog 77 #[.int .u64 (n : Int)] w (PostR w fun v => v = .int .i64 ((blen n : Nat) : Int)) := by
 have hS := St.start w
 refine c_enter Try.func77 rfl rfl rfl ?_
 refine wp_seq_k (fun K1 hK1 => ?_)
 refine wp_region_lit ?_
 refine l_q rfl rfl (q_assignI rfl) ?_
 refine l_nil ?_
 refine hK1 _ _ ?_
 refine wp_seq_k (fun K2 hK2 => ?_)
 refine wp_seq_k (fun K3 hK3 => ?_)
 refine wp_region_lit ?_
 refine l_q rfl rfl (q_moveI rfl) ?_
 refine l_q rfl rfl (q_geq rfl rfl) ?_
 refine l_nil ?_
 refine hK3 _ _ ?_
 refine c_condF rfl (decide_eq_false (by omega)) ?_
 refine wp_skip ?_
 refine hK2 _ _ ?_
 refine wp_seq_k (fun K5 hK5 => ?_)
 refine wp_seq_k (fun K6 hK6 => ?_)
 refine wp_region_lit ?_
 refine l_q rfl rfl (q_moveI rfl) ?_
 refine l_q rfl rfl (q_geq rfl rfl) ?_
 refine l_nil ?_
 refine hK6 _ _ ?_
 refine c_condF rfl (decide_eq_false (by omega)) ?_
 refine wp_skip ?_
 refine hK5 _ _ ?_
 refine wp_seq_k (fun K8 hK8 => ?_)
 refine wp_seq_k (fun K9 hK9 => ?_)
 refine wp_region_lit ?_
 refine l_q rfl rfl (q_moveI rfl) ?_
 refine l_q rfl rfl (q_geq rfl rfl) ?_
 refine l_nil ?_
 refine hK9 _ _ ?_
 refine c_condF rfl (decide_eq_false (by omega)) ?_
 refine wp_skip ?_
 refine hK8 _ _ ?_
 refine wp_seq_k (fun K11 hK11 => ?_)
 refine wp_region_lit ?_
 refine l_q rfl rfl (q_moveI rfl) ?_
 refine l_q rfl rfl (q_moveI rfl) ?_
 refine l_q rfl rfl (u_conv (a := n) (k' := .u8) (M := 256) rfl (by kernel_rfl) (by kernel_rfl) rfl (by decide)) ?_
 obtain ⟨x12, hx12⟩ : ∃ x, ([0, 1, 2, 2, 3, 3, 3, 3, 4, 4, 4, 4, 4, 4, 4, 4, 5, 5, 5, 5, 5, 5, 5, 5, 5, 5, 5, 5, 5, 5, 5, 5, 6, 6, 6, 6, 6, 6, 6, 6, 6, 6, 6, 6, 6, 6, 6, 6, 6, 6, 6, 6, 6, 6, 6, 6, 6, 6, 6, 6, 6, 6, 6, 6, 7, 7, 7, 7, 7, 7, 7, 7, 7, 7, 7, 7, 7, 7, 7, 7, 7, 7, 7, 7, 7, 7, 7, 7, 7, 7, 7, 7, 7, 7, 7, 7, 7, 7, 7, 7, 7, 7, 7, 7, 7, 7, 7, 7, 7, 7, 7, 7, 7, 7, 7, 7, 7, 7, 7, 7, 7, 7, 7, 7, 7, 7, 7, 7, 8, 8, 8, 8, 8, 8, 8, 8, 8, 8, 8, 8, 8, 8, 8, 8, 8, 8, 8, 8, 8, 8, 8, 8, 8, 8, 8, 8, 8, 8, 8, 8, 8, 8, 8, 8, 8, 8, 8, 8, 8, 8, 8, 8, 8, 8, 8, 8, 8, 8, 8, 8, 8, 8, 8, 8, 8, 8, 8, 8, 8, 8, 8, 8, 8, 8, 8, 8, 8, 8, 8, 8, 8, 8, 8, 8, 8, 8, 8, 8, 8, 8, 8, 8, 8, 8, 8, 8, 8, 8, 8, 8, 8, 8, 8, 8, 8, 8, 8, 8, 8, 8, 8, 8, 8, 8, 8, 8, 8, 8, 8, 8, 8, 8, 8, 8, 8, 8, 8, 8, 8, 8, 8, 8, 8, 8, 8, 8])[(n % 256)]? = some x := ⟨_, List.getElem?_eq_getElem (by first | omega | (simp only [zll] <;> omega) | (simp <;> omega))⟩
 have hb12 : x12 < 256 := (by decide : Bytes [0, 1, 2, 2, 3, 3, 3, 3, 4, 4, 4, 4, 4, 4, 4, 4, 5, 5, 5, 5, 5, 5, 5, 5, 5, 5, 5, 5, 5, 5, 5, 5, 6, 6, 6, 6, 6, 6, 6, 6, 6, 6, 6, 6, 6, 6, 6, 6, 6, 6, 6, 6, 6, 6, 6, 6, 6, 6, 6, 6, 6, 6, 6, 6, 7, 7, 7, 7, 7, 7, 7, 7, 7, 7, 7, 7, 7, 7, 7, 7, 7, 7, 7, 7, 7, 7, 7, 7, 7, 7, 7, 7, 7, 7, 7, 7, 7, 7, 7, 7, 7, 7, 7, 7, 7, 7, 7, 7, 7, 7, 7, 7, 7, 7, 7, 7, 7, 7, 7, 7, 7, 7, 7, 7, 7, 7, 7, 7, 8, 8, 8, 8, 8, 8, 8, 8, 8, 8, 8, 8, 8, 8, 8, 8, 8, 8, 8, 8, 8, 8, 8, 8, 8, 8, 8, 8, 8, 8, 8, 8, 8, 8, 8, 8, 8, 8, 8, 8, 8, 8, 8, 8, 8, 8, 8, 8, 8, 8, 8, 8, 8, 8, 8, 8, 8, 8, 8, 8, 8, 8, 8, 8, 8, 8, 8, 8, 8, 8, 8, 8, 8, 8, 8, 8, 8, 8, 8, 8, 8, 8, 8, 8, 8, 8, 8, 8, 8, 8, 8, 8, 8, 8, 8, 8, 8, 8, 8, 8, 8, 8, 8, 8, 8, 8, 8, 8, 8, 8, 8, 8, 8, 8, 8, 8, 8, 8, 8, 8, 8, 8, 8, 8, 8, 8, 8, 8]) x12 (List.mem_of_getElem? hx12)
 refine l_q rfl rfl (q_strAt (l := [0, 1, 2, 2, 3, 3, 3, 3, 4, 4, 4, 4, 4, 4, 4, 4, 5, 5, 5, 5, 5, 5, 5, 5, 5, 5, 5, 5, 5, 5, 5, 5, 6, 6, 6, 6, 6, 6, 6, 6, 6, 6, 6, 6, 6, 6, 6, 6, 6, 6, 6, 6, 6, 6, 6, 6, 6, 6, 6, 6, 6, 6, 6, 6, 7, 7, 7, 7, 7, 7, 7, 7, 7, 7, 7, 7, 7, 7, 7, 7, 7, 7, 7, 7, 7, 7, 7, 7, 7, 7, 7, 7, 7, 7, 7, 7, 7, 7, 7, 7, 7, 7, 7, 7, 7, 7, 7, 7, 7, 7, 7, 7, 7, 7, 7, 7, 7, 7, 7, 7, 7, 7, 7, 7, 7, 7, 7, 7, 8, 8, 8, 8, 8, 8, 8, 8, 8, 8, 8, 8, 8, 8, 8, 8, 8, 8, 8, 8, 8, 8, 8, 8, 8, 8, 8, 8, 8, 8, 8, 8, 8, 8, 8, 8, 8, 8, 8, 8, 8, 8, 8, 8, 8, 8, 8, 8, 8, 8, 8, 8, 8, 8, 8, 8, 8, 8, 8, 8, 8, 8, 8, 8, 8, 8, 8, 8, 8, 8, 8, 8, 8, 8, 8, 8, 8, 8, 8, 8, 8, 8, 8, 8, 8, 8, 8, 8, 8, 8, 8, 8, 8, 8, 8, 8, 8, 8, 8, 8, 8, 8, 8, 8, 8, 8, 8, 8, 8, 8, 8, 8, 8, 8, 8, 8, 8, 8, 8, 8, 8, 8, 8, 8, 8, 8, 8, 8]) (i := (n % 256)) (b := x12) rfl rfl (by kernel_rfl) (by first | rfl | omega) (hx12) (by omega)) ?_
 refine l_q rfl rfl (q_convN (a := x12) rfl (by kernel_rfl) (by kernel_rfl) (wrap_fit_i64 (by omega))) ?_
 refine l_q rfl rfl (q_addx rfl rfl (by first | decide | omega) (by first | decide | omega)) ?_
 refine l_q rfl rfl (q_assignI rfl) ?_
 refine l_nil ?_
 refine hK11 _ _ ?_
 refine wp_ret ?_
 refine c_ret1 rfl rfl ?_
 have hbl := tbl_blen n hn _ hx12
 exact ⟨_, rfl, congrArg (Value.int .i64) (by rw [← hbl]; exact Int.zero_add _), hS.drop⟩
theorem q_orV {P : Program} {n : Nat} {f : Nat → Value} {o : Oper} {w : World} {a b : Nat} (h : a = b) (hr : Run P n f o w (.int .u64 ((a : Nat) : Int))) : Run P n f o w (.int .u64 ((b : Nat) : Int)) := by rw [← h]; exact hr

set_option maxRecDepth 100000 in
theorem long_ok (b : List Nat) (hb : Bytes b) (n : Nat) (hn : b.length = n) (ab : Option Addr) (cb : Nat) (hcb : n ≤ cb) (hm : n ≤ 2000000) (w : World) (g : Gh) (hg : Gle g (hw w)) (hG : SlG g ab (bv b)) : Calls Try.prog 68 #[.slice ab n cb] w (PostR w fun v => LongP b v) := by
 have hS := St.start w
 subst hn
 refine c_enter Try.func68 rfl rfl rfl ?_
 refine wp_seq_k (fun K1 hK1 => ?_)
 refine wp_region_lit ?_
 refine l_q rfl rfl (q_assignI rfl) ?_
 refine l_q rfl rfl (q_assignI rfl) ?_
 refine l_q rfl rfl (q_assignB rfl) ?_
 refine l_nil ?_
 refine hK1 _ _ ?_
 refine wp_seq_k (fun K2 hK2 => ?_)
 refine wp_region_lit ?_
 refine l_q rfl rfl (q_assignI rfl) ?_
 refine l_nil ?_
 refine hK2 _ _ ?_
 refine wp_seq_k (fun K3 hK3 => ?_)
 refine wp_seq_k (fun K4 hK4 => ?_)
 refine wp_region_lit ?_
 refine l_q rfl rfl (q_moveS rfl) ?_
 refine l_q rfl rfl (q_lenSl (e := 5) rfl (by kernel_rfl)) ?_
 refine l_q rfl rfl (q_moveI rfl) ?_
 refine l_nil ?_
 refine hK4 _ _ ?_
 refine wp_block ?_
 refine c_loop (τ := Nat) [(2, 8), (11, 51)] (fun x => (fun (i : Nat) => [(5, .int .u64 (((lval (b.take i)) : Nat) : Int)), (11, .int .i64 (i : Int))]) x) (fun x w' => (fun (i : Nat) => St w (fun _ => False) [] w' ∧ LongI b i ∧ i ≤ 9) x) (fun x => (fun (i : Nat) => b.length - i) x) (0) ?_ (by refine ⟨by show _ = Value.int .u64 ((lval [] : Nat) : Int); unfold lval; rfl, ⟨rfl, trivial⟩⟩) (fun i j5 w5 hJ5 K5 hK5 => ?_)
 exact ⟨hS, LongI.zero b, by omega⟩
 obtain ⟨hS5, hI, hi9⟩ := hJ5
 try dsimp only at hS5 hI hi9 ⊢
 have hib := hI.le
 have hlv := lval_take hI.le
 have hp9 : (128 : Nat) ^ i ≤ 9223372036854775808 := by rw [← pow9]; exact Nat.pow_le_pow_right (by omega) hi9
 refine wp_seq_k (fun K6 hK6 => ?_)
 refine wp_region_lit ?_
 refine l_q rfl rfl (q_lss rfl rfl) ?_
 refine l_nil ?_
 refine hK6 _ _ ?_
 refine wp_seq_k (fun K7 hK7 => ?_)
 refine c_cond rfl (fun hc8 => ?_) (fun hc8 => ?_)
 have hc8b := hc8
 try simp only [zbb] at hc8
 refine wp_skip ?_
 refine hK7 _ _ ?_
 refine wp_seq_k (fun K9 hK9 => ?_)
 refine wp_block ?_
 refine wp_seq_k (fun K10 hK10 => ?_)
 refine wp_region_lit ?_
 refine l_q rfl rfl (q_moveI rfl) ?_
 refine l_q rfl rfl (q_ixG (e := 5) (m := 1) (j := i) rfl rfl (by kernel_rfl) (by kernel_rfl) (by first | rfl | omega) (by omega) hG (by rw [bv_len]; first | omega | (simp only [zll] <;> omega))) ?_
 obtain ⟨x11, hx11⟩ : ∃ x, (b)[i]? = some x := ⟨_, List.getElem?_eq_getElem (by first | omega | (simp only [zll] <;> omega) | (simp <;> omega))⟩
 have hb11 : x11 < 256 := hb x11 (List.mem_of_getElem? hx11)
 refine l_q rfl rfl (q_load1 rfl (by kernel_rfl) (SlG.cell (hG.mono (hg.trans hS5.base)) (Gle.refl _) (at1 (bv_at hx11)))) ?_
 refine l_q rfl rfl (q_assignI rfl) ?_
 refine l_q rfl rfl (q_assignI rfl) ?_
 refine l_nil ?_
 refine hK10 _ _ ?_
 refine wp_seq_k (fun K12 hK12 => ?_)
 refine wp_region_lit ?_
 refine l_q rfl rfl (q_moveI rfl) ?_
 refine l_q rfl rfl (q_andP (a := x11) (j := 7) (M := 128) 8 rfl rfl (by decide) (by decide) (by decide) (by show _ < 256; omega) (.inl ⟨rfl, rfl⟩)) ?_
 refine l_q rfl rfl (q_convN (a := (x11 % 128)) rfl (by kernel_rfl) (by kernel_rfl) (wrap_fit_u64 (by omega))) ?_
 refine l_q rfl rfl (q_assignI rfl) ?_
 refine l_nil ?_
 refine hK12 _ _ ?_
 refine wp_seq_k (fun K13 hK13 => ?_)
 refine wp_seq_k (fun K14 hK14 => ?_)
 have hbf := blen_facts (x11 % 128) (by omega)
 refine wp_region_lit ?_
 refine l_q rfl rfl (q_moveI rfl) ?_
 refine l_e rfl (fun K hK => ?_)
 refine e_call (by kernel_rfl) (len64_ok (x11 % 128) (by omega) _) rfl (after_R hS5 (fun v15 w15 hv15 hS15 => ?_))
 clear hS5
 obtain rfl := hv15
 refine hK _ _ ?_; clear hK K
 refine l_q rfl rfl (q_moveI rfl) ?_
 refine l_q rfl rfl (q_mulx rfl rfl (by first | decide | omega) (by first | decide | omega)) ?_
 refine l_q rfl rfl (q_addx rfl rfl (by first | decide | omega) (by first | decide | omega)) ?_
 refine l_q rfl rfl (q_gtr rfl rfl) ?_
 refine l_nil ?_
 refine hK14 _ _ ?_
 refine c_cond rfl (fun hc16 => ?_) (fun hc16 => ?_)
 have hc16b := hc16
 try simp only [zbb] at hc16
 refine wp_seq_k (fun K17 hK17 => ?_)
 refine wp_region_lit ?_
 refine l_q rfl rfl (q_assignI rfl) ?_
 refine l_q rfl rfl (q_assignI rfl) ?_
 refine l_q rfl rfl (q_assignB rfl) ?_
 refine l_nil ?_
 refine hK17 _ _ ?_
 refine wp_ret ?_
 refine c_ret3 rfl rfl rfl rfl ?_
 have hno : NoShort b := by
   first
     | exact hI.late hx11 (by omega) (by omega)
     | exact hI.zeroB hx11 (by omega) (by omega)
     | (rw [show i = b.length from by omega] at hI; exact hI.none)
 exact ⟨_, rfl, LongP.mk (LongR.no hno), hS15.drop⟩
 have hc16b := hc16
 try simp only [zbb] at hc16
 refine wp_skip ?_
 refine hK13 _ _ ?_
 refine wp_seq_k (fun K18 hK18 => ?_)
 have hacc := long_acc hI.le hx11 (by omega)
 refine wp_region_lit ?_
 refine l_q rfl rfl (q_moveI rfl) ?_
 refine l_q rfl rfl (q_moveI rfl) ?_
 refine l_q rfl rfl (q_moveI rfl) ?_
 refine l_q rfl rfl (q_mulx rfl rfl (by first | decide | omega) (by first | decide | omega)) ?_
 refine l_q rfl rfl (u_shl (a := (x11 % 128)) (b := (7 * i)) (M := 18446744073709551616) rfl rfl (int_nat (by omega) rfl) (by show _ ≤ 64; omega) (by decide)) ?_
 refine l_q rfl rfl (q_orV hacc.1 (q_orS 64 rfl rfl (by show _ < 18446744073709551616; omega) (by show _ < 18446744073709551616; omega) (.inl ⟨rfl, rfl⟩))) ?_
 refine l_q rfl rfl (q_assignI rfl) ?_
 refine l_nil ?_
 refine hK18 _ _ ?_
 refine wp_seq_k (fun K19 hK19 => ?_)
 refine wp_seq_k (fun K20 hK20 => ?_)
 refine wp_region_lit ?_
 refine l_q rfl rfl (q_moveI rfl) ?_
 refine l_q rfl rfl (q_lss rfl rfl) ?_
 refine l_nil ?_
 refine hK20 _ _ ?_
 refine c_cond rfl (fun hc21 => ?_) (fun hc21 => ?_)
 have hc21b := hc21
 try simp only [zbb] at hc21
 refine wp_seq_k (fun K22 hK22 => ?_)
 refine wp_seq_k (fun K23 hK23 => ?_)
 refine wp_region_lit ?_
 refine l_q rfl rfl (q_moveI rfl) ?_
 refine l_q rfl rfl (q_eql rfl rfl) ?_
 refine l_q rfl rfl (q_moveB rfl) ?_
 refine g_splitL (t := 35) rfl (fun hg24 => ?_) (fun hg24 => ?_)
 have hg24b := hg24
 try simp only [zbb] at hg24
 refine l_on rfl rfl hg24b ?_
 refine l_q rfl rfl (q_moveI rfl) ?_
 refine l_on rfl rfl hg24b ?_
 refine l_q rfl rfl (q_gtr rfl rfl) ?_
 refine l_q rfl rfl (q_pickT rfl hg24b rfl) ?_
 refine l_nil ?_
 refine hK23 _ _ ?_
 refine c_cond rfl (fun hc25 => ?_) (fun hc25 => ?_)
 have hc25b := hc25
 try simp only [zbb] at hc25
 refine wp_exit ?_
 refine hK3 _ _ ?_
 refine wp_seq_k (fun K26 hK26 => ?_)
 refine wp_region_lit ?_
 refine l_q rfl rfl (q_assignI rfl) ?_
 refine l_q rfl rfl (q_assignI rfl) ?_
 refine l_q rfl rfl (q_assignB rfl) ?_
 refine l_nil ?_
 refine hK26 _ _ ?_
 refine wp_ret ?_
 refine c_ret3 rfl rfl rfl rfl ?_
 have hno : NoShort b := by
   first
     | exact hI.late hx11 (by omega) (by omega)
     | exact hI.zeroB hx11 (by omega) (by omega)
     | (rw [show i = b.length from by omega] at hI; exact hI.none)
 exact ⟨_, rfl, LongP.mk (LongR.no hno), hS15.drop⟩
 have hc25b := hc25
 try simp only [zbb] at hc25
 refine wp_skip ?_
 refine hK22 _ _ ?_
 refine wp_seq_k (fun K27 hK27 => ?_)
 refine wp_region_lit ?_
 refine l_q rfl rfl (q_moveI rfl) ?_
 refine l_q rfl rfl (q_shrN (k := .u64) (a := (lval (b.take (i + 1)))) (b := 1) rfl rfl (by decide)) ?_
 refine l_q rfl rfl (q_convN (a := ((lval (b.take (i + 1))) / 2 ^ 1)) rfl (by kernel_rfl) (by kernel_rfl) (wrap_fit_i64 (by omega))) ?_
 refine l_q rfl rfl (q_moveI rfl) ?_
 refine l_q rfl rfl (q_andP (a := (lval (b.take (i + 1)))) (j := 1) (M := 2) 64 rfl rfl (by decide) (by decide) (by decide) (by show _ < 18446744073709551616; omega) (.inl ⟨rfl, rfl⟩)) ?_
 refine l_q rfl rfl (q_convN (a := ((lval (b.take (i + 1))) % 2)) rfl (by kernel_rfl) (by kernel_rfl) (wrap_fit_i64 (by omega))) ?_
 refine l_q rfl rfl (q_neg rfl) ?_
 refine l_q rfl rfl (q_unzig rfl rfl rfl hacc.2) ?_
 refine l_q rfl rfl (q_moveI rfl) ?_
 refine l_q rfl rfl (q_addx rfl rfl (by first | decide | omega) (by first | decide | omega)) ?_
 refine l_q rfl rfl (q_assignI rfl) ?_
 refine l_q rfl rfl (q_assignI rfl) ?_
 refine l_q rfl rfl (q_assignB rfl) ?_
 refine l_nil ?_
 refine hK27 _ _ ?_
 refine wp_ret ?_
 refine c_ret3 rfl rfl rfl rfl ?_
 exact ⟨_, rfl, LongP.mk (hI.yes hb hx11 (by omega) (by omega) hacc.2), hS15.drop⟩
 have hg24b := hg24
 try simp only [zbb] at hg24
 refine l_off rfl rfl rfl hg24b ?_
 refine l_off rfl rfl rfl hg24b ?_
 refine l_q rfl rfl (q_pickF rfl hg24b rfl) ?_
 refine l_nil ?_
 refine hK23 _ _ ?_
 refine c_condF rfl rfl ?_
 refine wp_skip ?_
 refine hK22 _ _ ?_
 refine wp_seq_k (fun K29 hK29 => ?_)
 refine wp_region_lit ?_
 refine l_q rfl rfl (q_moveI rfl) ?_
 refine l_q rfl rfl (q_shrN (k := .u64) (a := (lval (b.take (i + 1)))) (b := 1) rfl rfl (by decide)) ?_
 refine l_q rfl rfl (q_convN (a := ((lval (b.take (i + 1))) / 2 ^ 1)) rfl (by kernel_rfl) (by kernel_rfl) (wrap_fit_i64 (by omega))) ?_
 refine l_q rfl rfl (q_moveI rfl) ?_
 refine l_q rfl rfl (q_andP (a := (lval (b.take (i + 1)))) (j := 1) (M := 2) 64 rfl rfl (by decide) (by decide) (by decide) (by show _ < 18446744073709551616; omega) (.inl ⟨rfl, rfl⟩)) ?_
 refine l_q rfl rfl (q_convN (a := ((lval (b.take (i + 1))) % 2)) rfl (by kernel_rfl) (by kernel_rfl) (wrap_fit_i64 (by omega))) ?_
 refine l_q rfl rfl (q_neg rfl) ?_
 refine l_q rfl rfl (q_unzig rfl rfl rfl hacc.2) ?_
 refine l_q rfl rfl (q_moveI rfl) ?_
 refine l_q rfl rfl (q_addx rfl rfl (by first | decide | omega) (by first | decide | omega)) ?_
 refine l_q rfl rfl (q_assignI rfl) ?_
 refine l_q rfl rfl (q_assignI rfl) ?_
 refine l_q rfl rfl (q_assignB rfl) ?_
 refine l_nil ?_
 refine hK29 _ _ ?_
 refine wp_ret ?_
 refine c_ret3 rfl rfl rfl rfl ?_
 exact ⟨_, rfl, LongP.mk (hI.yes hb hx11 (by omega) (by omega) hacc.2), hS15.drop⟩
 have hc21b := hc21
 try simp only [zbb] at hc21
 refine wp_skip ?_
 refine hK19 _ _ ?_
 refine wp_seq_k (fun K30 hK30 => ?_)
 refine wp_region_lit ?_
 refine l_q rfl rfl (q_moveI rfl) ?_
 refine l_q rfl rfl (q_eql rfl rfl) ?_
 refine l_nil ?_
 refine hK30 _ _ ?_
 refine c_cond rfl (fun hc31 => ?_) (fun hc31 => ?_)
 have hc31b := hc31
 try simp only [zbb] at hc31
 refine wp_exit ?_
 refine hK3 _ _ ?_
 refine wp_seq_k (fun K32 hK32 => ?_)
 refine wp_region_lit ?_
 refine l_q rfl rfl (q_assignI rfl) ?_
 refine l_q rfl rfl (q_assignI rfl) ?_
 refine l_q rfl rfl (q_assignB rfl) ?_
 refine l_nil ?_
 refine hK32 _ _ ?_
 refine wp_ret ?_
 refine c_ret3 rfl rfl rfl rfl ?_
 have hno : NoShort b := by
   first
     | exact hI.late hx11 (by omega) (by omega)
     | exact hI.zeroB hx11 (by omega) (by omega)
     | (rw [show i = b.length from by omega] at hI; exact hI.none)
 exact ⟨_, rfl, LongP.mk (LongR.no hno), hS15.drop⟩
 have hc31b := hc31
 try simp only [zbb] at hc31
 refine wp_skip ?_
 refine hK9 _ _ ?_
 refine wp_region_lit ?_
 refine l_q rfl rfl (q_addx rfl rfl (by first | decide | omega) (by first | decide | omega)) ?_
 refine l_q rfl rfl (q_moveI rfl) ?_
 refine l_nil ?_
 refine hK5 _ _ (came ((i + 1)) (by repeat' (first | exact Agree.refl _ _ | refine Agree.up ?_ rfl | refine Agree.hav2 ?_ rfl | refine Agree.ups2 ?_ rfl)) (by repeat' (first | exact trivial | refine ⟨by first | rfl | exact int_succ _ | assumption, ?_⟩)) ?_)
 have hlt : i < b.length := (List.getElem?_eq_some_iff.1 hx11).1
 exact ⟨⟨hS15, hI.next hx11 (by omega), (by show i + 1 ≤ 9; omega)⟩, by (show b.length - (i + 1) < b.length - i); omega⟩
 have hc8b := hc8
 try simp only [zbb] at hc8
 refine wp_exit ?_
 refine hK3 _ _ ?_
 refine wp_seq_k (fun K33 hK33 => ?_)
 refine wp_region_lit ?_
 refine l_q rfl rfl (q_assignI rfl) ?_
 refine l_q rfl rfl (q_assignI rfl) ?_
 refine l_q rfl rfl (q_assignB rfl) ?_
 refine l_nil ?_
 refine hK33 _ _ ?_
 refine wp_ret ?_
 refine c_ret3 rfl rfl rfl rfl ?_
 have hno : NoShort b := by
   first
     | exact hI.late hx0 (by omega) (by omega)
     | exact hI.zeroB hx0 (by omega) (by omega)
     | (rw [show i = b.length from by omega] at hI; exact hI.none)
 exact ⟨_, rfl, LongP.mk (LongR.no hno), hS5.drop⟩
end Go.Proofs.Yteojpdijmnpmgaa
