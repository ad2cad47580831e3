/- A small logic for walks: the frame as a function, the memory as a list of pieces. Its rules are theorems over any program. -/
import Derived.WalkKit
import Derived.Below
import Derived.OrdersHeld
set_option linter.unusedVariables false
set_option linter.unusedSimpArgs false
namespace Go.Proofs.YtdlmcgflgdmjgaaDoor
open Go.RowKit

/-! ### the frame -/
def up (f : Nat → Value) (d : Nat) (v : Value) : Nat → Value := fun t => bif Nat.beq t d then v else f t
def E (n : Nat) (f : Nat → Value) : Act := ⟨((List.range n).map f).toArray, []⟩
def ev (n : Nat) (f : Nat → Value) : Operand → Value
  | .tmp t => bif Nat.blt t n then f t else undef
  | .const v => v
  | .global g => .pointer (some ⟨g, 0, none⟩)
  | .func g => .func (.func g) #[] #[]
def evl (n : Nat) (f : Nat → Value) : List Operand → List Value
  | [] => []
  | x :: l => ev n f x :: evl n f l
theorem evl_eq (n : Nat) (f : Nat → Value) (l : List Operand) : evl n f l = l.map (ev n f) := by
  induction l with
  | nil => rfl
  | cons a l ih => simp [evl, ih]
theorem blt_iff (t n : Nat) : Nat.blt t n = decide (t < n) := by
  rw [Bool.eq_iff_iff, decide_eq_true_iff, Nat.blt, Nat.ble_eq]; omega
theorem E_get (n : Nat) (f : Nat → Value) (t : Nat) : (E n f).tmps.getD t undef = bif Nat.blt t n then f t else undef := by
  rw [blt_iff]
  by_cases h : t < n <;> simp [E, h]
theorem E_eval (n : Nat) (f : Nat → Value) : (E n f).eval = ev n f := by
  funext x
  cases x with
  | tmp t => exact E_get n f t
  | _ => rfl
theorem E_put (n : Nat) (f : Nat → Value) (d : Nat) (v : Value) : (E n f).put (some d) v = E n (up f d v) := by
  unfold Act.put E
  simp only [Act.mk.injEq, and_true]
  apply Array.ext
  · simp
  · intro i h1 h2
    have hi : i < n := by simpa using h2
    rw [Array.getElem_setIfInBounds (by simpa using hi)]
    simp only [List.getElem_toArray, List.getElem_map, List.getElem_range, up]
    by_cases h : d = i
    · subst h; simp
    · rw [if_neg h]
      have : Nat.beq i d = false := by
        cases hb : Nat.beq i d
        · rfl
        · exact absurd (Nat.eq_of_beq_eq_true hb).symm h
      rw [this]; rfl
theorem E_congr {n : Nat} {f g : Nat → Value} (h : ∀ t, f t = g t) : E n f = E n g := by
  have : f = g := funext h
  rw [this]
def argsF (l : List Value) (t : Nat) : Value := l.getD t undef
theorem enter_E (l : List Value) (n : Nat) (h : l.length ≤ n) : ({ tmps := l.toArray ++ Array.replicate (n - l.toArray.size) undef, defers := [] } : Act) = E n (argsF l) := by
  unfold E
  simp only [Act.mk.injEq, and_true]
  apply Array.ext
  · simp; omega
  · intro i h1 h2
    have hi : i < n := by simpa using h2
    simp only [Array.getElem_append, List.getElem_toArray, List.getElem_map, List.getElem_range, argsF, List.size_toArray, Array.getElem_replicate]
    by_cases hl : i < l.length
    · simp [hl]
    · simp [hl, Nat.le_of_not_lt hl]

/-! ### the memory -/
inductive Ch where
  | blk (b : Nat) (o : Obj)
  | gen (own : Nat → Prop) (sat : World → Prop) (loc : ∀ w w' : World, (∀ k, own k → w'.heap[k]? = w.heap[k]?) → sat w → sat w')
def Ch.own : Ch → Nat → Prop
  | .blk b _ => fun k => k = b
  | .gen own _ _ => own
def Ch.sat : Ch → World → Prop
  | .blk b o => fun w => w.heap[b]? = some o
  | .gen _ sat _ => sat
theorem Ch.loc (c : Ch) {w w' : World} (h : ∀ k, c.own k → w'.heap[k]? = w.heap[k]?) (hs : c.sat w) : c.sat w' := by
  cases c with
  | blk b o => exact (h b rfl).trans hs
  | gen own sat loc => exact loc w w' h hs

/-- All pieces hold, each within D or behind B; no two meet. -/
def Sat (B : Nat) (D : Nat → Prop) : List Ch → World → Prop
  | [], w => True
  | c :: Γ, w => c.sat w ∧ (∀ k, c.own k → (D k ∨ B ≤ k) ∧ k < w.heap.size) ∧ (∀ d ∈ Γ, ∀ k, c.own k → ¬ d.own k) ∧ Sat B D Γ w

structure St (w0 : World) (D : Nat → Prop) (Γ : List Ch) (w : World) : Prop where
  os : w.os = w0.os
  tape : w.tape = w0.tape
  output : w.output = w0.output
  size : w0.heap.size ≤ w.heap.size
  keep : ∀ k, k < w0.heap.size → ¬ D k → w.heap[k]? = w0.heap[k]?
  sat : Sat w0.heap.size D Γ w

theorem Sat.mem {B : Nat} {D : Nat → Prop} {w : World} : ∀ {Γ : List Ch}, Sat B D Γ w → ∀ c ∈ Γ, c.sat w ∧ ∀ k, c.own k → (D k ∨ B ≤ k) ∧ k < w.heap.size
  | [], _, c, hc => by cases hc
  | d :: Γ, h, c, hc => by
    cases hc with
    | head => exact ⟨h.1, h.2.1⟩
    | tail _ hc => exact Sat.mem h.2.2.2 c hc
theorem Sat.get {B : Nat} {D : Nat → Prop} {w : World} {Γ : List Ch} (h : Sat B D Γ w) {i : Nat} {c : Ch} (hi : Γ[i]? = some c) : c.sat w ∧ ∀ k, c.own k → (D k ∨ B ≤ k) ∧ k < w.heap.size :=
  h.mem c (List.mem_of_getElem? hi)
/-- What the pieces do not own may turn. -/
theorem Sat.move {B : Nat} {D : Nat → Prop} {w w' : World} (hs : w.heap.size ≤ w'.heap.size) : ∀ {Γ : List Ch}, Sat B D Γ w → (∀ c ∈ Γ, ∀ k, c.own k → w'.heap[k]? = w.heap[k]?) → Sat B D Γ w'
  | [], _, _ => trivial
  | d :: Γ, h, hk => ⟨d.loc (hk d (.head _)) h.1, fun k hk' => ⟨(h.2.1 k hk').1, Nat.lt_of_lt_of_le (h.2.1 k hk').2 hs⟩, h.2.2.1, Sat.move hs h.2.2.2 fun c hc => hk c (.tail _ hc)⟩
theorem Sat.disj {B : Nat} {D : Nat → Prop} {w : World} : ∀ {Γ : List Ch} {i j : Nat} {c d : Ch}, Sat B D Γ w → Γ[i]? = some c → Γ[j]? = some d → i ≠ j → ∀ k, c.own k → ¬ d.own k
  | [], i, j, c, d, _, hi, _, _ => by simp at hi
  | x :: Γ, 0, 0, c, d, h, hi, hj, hn => absurd rfl hn
  | x :: Γ, 0, j + 1, c, d, h, hi, hj, hn => by
    simp at hi hj; subst hi
    exact h.2.2.1 d (List.mem_of_getElem? hj)
  | x :: Γ, i + 1, 0, c, d, h, hi, hj, hn => by
    simp at hi hj; subst hj
    intro k hc hd
    exact h.2.2.1 c (List.mem_of_getElem? hi) k hd hc
  | x :: Γ, i + 1, j + 1, c, d, h, hi, hj, hn => by
    simp at hi hj
    exact Sat.disj h.2.2.2 hi hj (by omega)
/-- One piece is put in another's place, that owns no more than it (or new blocks). -/
theorem Sat.put {B : Nat} {D : Nat → Prop} {w w' : World} (hs : w.heap.size ≤ w'.heap.size) {c' : Ch} : ∀ {Γ : List Ch} {i : Nat} {c : Ch}, Sat B D Γ w → Γ[i]? = some c →
    (∀ k, ¬ c.own k → k < w.heap.size → w'.heap[k]? = w.heap[k]?) → c'.sat w' → (∀ k, c'.own k → (c.own k ∨ (B ≤ k ∧ w.heap.size ≤ k)) ∧ k < w'.heap.size) → Sat B D (Γ.set i c') w'
  | [], i, c, _, hi, _, _, _ => by simp at hi
  | x :: Γ, 0, c, h, hi, hk, hc, ho => by
    simp at hi; subst hi
    refine ⟨hc, fun k hk' => ⟨?_, (ho k hk').2⟩, ?_, ?_⟩
    · rcases (ho k hk').1 with h1 | h1
      · exact (h.2.1 k h1).1
      · exact .inr h1.1
    · intro d hd k hk' hdk
      rcases (ho k hk').1 with h1 | h1
      · exact h.2.2.1 d hd k h1 hdk
      · have := ((h.2.2.2.mem d hd).2 k hdk).2; omega
    · refine h.2.2.2.move hs fun d hd k hdk => hk k (fun h1 => h.2.2.1 d hd k h1 hdk) ((h.2.2.2.mem d hd).2 k hdk).2
  | x :: Γ, i + 1, c, h, hi, hk, hc, ho => by
    simp at hi
    have hcm := List.mem_of_getElem? hi
    refine ⟨x.loc (fun k hk' => hk k (fun h1 => h.2.2.1 c hcm k hk' h1) (h.2.1 k hk').2) h.1, fun k hk' => ⟨(h.2.1 k hk').1, Nat.lt_of_lt_of_le (h.2.1 k hk').2 hs⟩, ?_, Sat.put hs h.2.2.2 hi hk hc ho⟩
    intro d hd k hk' hdk
    rcases List.mem_or_eq_of_mem_set hd with hd | rfl
    · exact h.2.2.1 d hd k hk' hdk
    · rcases (ho k hdk).1 with h1 | h1
      · exact h.2.2.1 c hcm k hk' h1
      · have := (h.2.1 k hk').2; omega

theorem St.refl (w : World) (D : Nat → Prop) : St w D [] w := ⟨rfl, rfl, rfl, Nat.le_refl _, fun _ _ _ => rfl, trivial⟩
theorem St.below {w0 : World} {Γ : List Ch} {w : World} (h : St w0 (fun _ => False) Γ w) : Below w0.heap.size w0 w := ⟨h.os, h.tape, h.output, h.size, fun k hk => h.keep k hk id⟩
theorem St.ro {w0 : World} {D : Nat → Prop} {Γ : List Ch} {w : World} (h : St w0 D Γ w) {k : Nat} (hk : k < w0.heap.size) (hD : ¬ D k) : w.heap[k]? = w0.heap[k]? := h.keep k hk hD
theorem St.drop {w0 : World} {D : Nat → Prop} {Γ : List Ch} {w : World} (h : St w0 D Γ w) : St w0 D [] w := ⟨h.os, h.tape, h.output, h.size, h.keep, trivial⟩
/-- A new block. -/
theorem St.alloc {w0 : World} {D : Nat → Prop} {Γ : List Ch} {w : World} (h : St w0 D Γ w) (o : Obj) : St w0 D (.blk w.heap.size o :: Γ) (w.alloc o) := by
  have hk : ∀ k, k < w.heap.size → (w.alloc o).heap[k]? = w.heap[k]? := fun k hk => Below.heap_alloc w o k hk
  refine ⟨h.os, h.tape, h.output, Nat.le_trans h.size (by simp), fun k hk' hD => (hk k (Nat.lt_of_lt_of_le hk' h.size)).trans (h.keep k hk' hD), ?_, ?_, ?_, ?_⟩
  · show (w.heap.push o)[w.heap.size]? = some o; simp
  · rintro k rfl; exact ⟨.inr h.size, by simp⟩
  · rintro d hd k rfl hdk; exact Nat.lt_irrefl _ ((h.sat.mem d hd).2 _ hdk).2
  · exact h.sat.move (by simp) fun c hc k hck => hk k ((h.sat.mem c hc).2 k hck).2
/-- A world that differs in draws alone. -/
theorem St.of_heap {w0 : World} {D : Nat → Prop} {Γ : List Ch} {w w' : World} (h : St w0 D Γ w) (ho : w'.os = w.os) (ht : w'.tape = w.tape) (hu : w'.output = w.output) (hh : w'.heap = w.heap) : St w0 D Γ w' :=
  ⟨ho.trans h.os, ht.trans h.tape, hu.trans h.output, by rw [hh]; exact h.size, fun k hk hD => by rw [hh]; exact h.keep k hk hD, h.sat.move (by rw [hh]; exact Nat.le_refl _) fun c hc k hck => by rw [hh]⟩
theorem St.drawn {w0 : World} {D : Nat → Prop} {Γ : List Ch} {w : World} (h : St w0 D Γ w) (m : Nat) : St w0 D Γ { w with drawn := m } := h.of_heap rfl rfl rfl rfl
/-- A block of the pieces is written anew. -/
theorem St.setBlk {w0 : World} {D : Nat → Prop} {Γ : List Ch} {w w' : World} (h : St w0 D Γ w) {i b : Nat} {o o' : Obj} (hi : Γ[i]? = some (.blk b o)) (ho : w'.os = w.os) (ht : w'.tape = w.tape) (hu : w'.output = w.output) (hz : w'.heap.size = w.heap.size)
    (hb : w'.heap[b]? = some o') (hk : ∀ k, k ≠ b → w'.heap[k]? = w.heap[k]?) : St w0 D (Γ.set i (.blk b o')) w' := by
  have hc := h.sat.get hi
  refine ⟨ho.trans h.os, ht.trans h.tape, hu.trans h.output, by rw [hz]; exact h.size, fun k hk' hD => (hk k ?_).trans (h.keep k hk' hD), ?_⟩
  · rintro rfl
    rcases (hc.2 k rfl).1 with h1 | h1
    · exact hD h1
    · omega
  · exact h.sat.put (by rw [hz]; exact Nat.le_refl _) hi (fun k hn _ => hk k hn) hb (fun k hk' => ⟨.inl hk', by rw [hz]; exact (hc.2 k hk').2⟩)
theorem St.perm_head {w0 : World} {D : Nat → Prop} {w : World} {c d : Ch} {Γ : List Ch} (h : St w0 D (c :: d :: Γ) w) : St w0 D (d :: c :: Γ) w := by
  obtain ⟨h1, h2, h3, h4⟩ := h.sat
  obtain ⟨k1, k2, k3, k4⟩ := h4
  refine ⟨h.os, h.tape, h.output, h.size, h.keep, k1, k2, ?_, h1, h2, fun e he => h3 e (.tail _ he), k4⟩
  intro e he k hd hek
  cases he with
  | head => exact h3 d (.head _) k hek hd
  | tail _ he => exact k3 e he k hd hek
theorem Sat.perm {B : Nat} {D : Nat → Prop} {w : World} {Γ Γ' : List Ch} (p : Γ.Perm Γ') (h : Sat B D Γ w) : Sat B D Γ' w := by
  induction p with
  | nil => exact h
  | cons x p ih => exact ⟨h.1, h.2.1, fun d hd => h.2.2.1 d (p.mem_iff.2 hd), ih h.2.2.2⟩
  | swap x y l =>
    obtain ⟨h1, h2, h3, k1, k2, k3, k4⟩ := h
    refine ⟨k1, k2, ?_, h1, h2, fun e he => h3 e (.tail _ he), k4⟩
    intro e he k hd hek
    cases he with
    | head => exact h3 _ (.head _) k hek hd
    | tail _ he => exact k3 e he k hd hek
  | trans _ _ ih1 ih2 => exact ih2 (ih1 h)
theorem St.perm {w0 : World} {D : Nat → Prop} {w : World} {Γ Γ' : List Ch} (h : St w0 D Γ w) (p : Γ.Perm Γ') : St w0 D Γ' w := ⟨h.os, h.tape, h.output, h.size, h.keep, h.sat.perm p⟩
theorem Sat.sub {B : Nat} {D : Nat → Prop} {w : World} {Γ Γ' : List Ch} (p : Γ'.Sublist Γ) (h : Sat B D Γ w) : Sat B D Γ' w := by
  induction p with
  | slnil => trivial
  | cons x p ih => exact ih h.2.2.2
  | cons_cons x p ih => exact ⟨h.1, h.2.1, fun d hd => h.2.2.1 d (p.subset hd), ih h.2.2.2⟩
theorem St.sub {w0 : World} {D : Nat → Prop} {w : World} {Γ Γ' : List Ch} (h : St w0 D Γ w) (p : Γ'.Sublist Γ) : St w0 D Γ' w := ⟨h.os, h.tape, h.output, h.size, h.keep, h.sat.sub p⟩

/-- What a call owns of what it is handed. -/
def owns (Γ : List Ch) (k : Nat) : Prop := ∃ c ∈ Γ, c.own k
/-- Its pieces alone, as they lie when it begins. -/
theorem St.begin {w0 : World} {D : Nat → Prop} {Γ F : List Ch} {w : World} (h : St w0 D (Γ ++ F) w) : St w (owns Γ) Γ w := by
  refine ⟨rfl, rfl, rfl, Nat.le_refl _, fun _ _ _ => rfl, ?_⟩
  have key : ∀ (Δ : List Ch), (∀ c ∈ Δ, c ∈ Γ) → Sat w0.heap.size D Δ w → Sat w.heap.size (owns Γ) Δ w := by
    intro Δ
    induction Δ with
    | nil => intro _ _; trivial
    | cons c Δ ih => intro hm hs; exact ⟨hs.1, fun k hk => ⟨.inl ⟨c, hm c (.head _), hk⟩, (hs.2.1 k hk).2⟩, hs.2.2.1, ih (fun d hd => hm d (.tail _ hd)) hs.2.2.2⟩
  exact key Γ (fun _ h => h) (h.sat.sub (List.sublist_append_left _ _))
/-- Behind a call the rest lies as it lay. -/
theorem St.frame {w0 : World} {D : Nat → Prop} {Γ F Γ' : List Ch} {w w' : World} (h : St w0 D (Γ ++ F) w) (hc : St w (owns Γ) Γ' w') : St w0 D (Γ' ++ F) w' := by
  have hΓ : Sat w0.heap.size D Γ w := h.sat.sub (List.sublist_append_left _ _)
  have hF : Sat w0.heap.size D F w := h.sat.sub (List.sublist_append_right _ _)
  have hdis : ∀ k, owns Γ k → ∀ d ∈ F, ¬ d.own k := by
    have key : ∀ (Δ : List Ch), Sat w0.heap.size D (Δ ++ F) w → ∀ c ∈ Δ, ∀ d ∈ F, ∀ k, c.own k → ¬ d.own k := by
      intro Δ
      induction Δ with
      | nil => intro _ c hc; cases hc
      | cons x Δ ih =>
        intro hs c hc d hd k hck
        cases hc with
        | head => exact hs.2.2.1 d (List.mem_append_right _ hd) k hck
        | tail _ hc => exact ih hs.2.2.2 c hc d hd k hck
    rintro k ⟨c, hc, hck⟩ d hd
    exact key Γ h.sat c hc d hd k hck
  have hFk : ∀ d ∈ F, ∀ k, d.own k → w'.heap[k]? = w.heap[k]? := fun d hd k hdk => hc.keep k ((hF.mem d hd).2 k hdk).2 fun ho => hdis k ho d hd hdk
  refine ⟨hc.os.trans h.os, hc.tape.trans h.tape, hc.output.trans h.output, Nat.le_trans h.size hc.size, fun k hk hD => ?_, ?_⟩
  · refine (hc.keep k (Nat.lt_of_lt_of_le hk h.size) ?_).trans (h.keep k hk hD)
    rintro ⟨c, hcm, hck⟩
    rcases ((hΓ.mem c hcm).2 k hck).1 with h1 | h1
    · exact hD h1
    · omega
  · have key : ∀ (Δ : List Ch), Sat w.heap.size (owns Γ) Δ w' → Sat w0.heap.size D (Δ ++ F) w' := by
      intro Δ
      induction Δ with
      | nil => intro _; exact hF.move hc.size hFk
      | cons x Δ ih =>
        intro hs
        refine ⟨hs.1, fun k hk => ⟨?_, (hs.2.1 k hk).2⟩, ?_, ih hs.2.2.2⟩
        · rcases (hs.2.1 k hk).1 with ⟨c, hcm, hck⟩ | h1
          · exact ((hΓ.mem c hcm).2 k hck).1
          · exact .inr (Nat.le_trans h.size h1)
        · intro d hd k hxk hdk
          rcases List.mem_append.1 hd with hd | hd
          · exact hs.2.2.1 d hd k hxk hdk
          · rcases (hs.2.1 k hxk).1 with h1 | h1
            · exact hdis k h1 d hd hdk
            · have := ((hF.mem d hd).2 k hdk).2; omega
    exact key Γ' hc.sat

/-- The post of a contract: it comes back with a value and pieces; of what was there, it has turned its own alone. -/
def Post (w : World) (Γ : List Ch) (φ : Value → List Ch → Prop) : Ending → World → Prop := fun e w' => ∃ v Γ', e = .returned v ∧ φ v Γ' ∧ St w (owns Γ) Γ' w'
/-- A call that only reads, and makes what is forgotten. -/
def PostR (w : World) (φ : Value → Prop) : Ending → World → Prop := fun e w' => ∃ v, e = .returned v ∧ φ v ∧ St w (fun _ => False) [] w'
theorem owns_nil : owns [] = fun _ => False := by funext k; simp [owns]
theorem St.frameR {w0 : World} {D : Nat → Prop} {F : List Ch} {w w' : World} (h : St w0 D F w) (hc : St w (fun _ => False) [] w') : St w0 D F w' :=
  St.frame (Γ := []) (Γ' := []) h (by rw [owns_nil]; exact hc)
/-- A call that makes pieces of its own. -/
theorem St.frameN {w0 : World} {D : Nat → Prop} {F Γ' : List Ch} {w w' : World} (h : St w0 D F w) (hc : St w (fun _ => False) Γ' w') : St w0 D (Γ' ++ F) w' :=
  St.frame (Γ := []) h (by rw [owns_nil]; exact hc)
/-! ### what a call only reads -/
/-- A block that was there and may not be written. -/
def Ro (w0 : World) (D : Nat → Prop) (k : Nat) : Prop := k < w0.heap.size ∧ ¬ D k
theorem Ro.same {w0 : World} {D : Nat → Prop} {Γ : List Ch} {w : World} (h : St w0 D Γ w) {k : Nat} (hk : Ro w0 D k) : w.heap[k]? = w0.heap[k]? := h.keep k hk.1 hk.2
theorem Ro.next {w0 : World} {D : Nat → Prop} {Γ F : List Ch} {w : World} (h : St w0 D (Γ ++ F) w) {k : Nat} (hk : Ro w0 D k) : Ro w (owns Γ) k := by
  refine ⟨Nat.lt_of_lt_of_le hk.1 h.size, ?_⟩
  rintro ⟨c, hc, hck⟩
  rcases ((h.sat.mem c (List.mem_append_left _ hc)).2 k hck).1 with h1 | h1
  · exact hk.2 h1
  · have := hk.1; omega
theorem Ro.nextR {w0 : World} {D : Nat → Prop} {Γ : List Ch} {w : World} (h : St w0 D Γ w) {k : Nat} (hk : Ro w0 D k) : Ro w (fun _ => False) k := ⟨Nat.lt_of_lt_of_le hk.1 h.size, id⟩
theorem Ro.ofR {w0 : World} {D : Nat → Prop} {Γ : List Ch} {w : World} (h : St w0 D Γ w) {i : Nat} {c : Ch} (hi : Γ[i]? = some c) {k : Nat} (hk : c.own k) : Ro w (fun _ => False) k := ⟨((h.sat.get hi).2 k hk).2, id⟩
/-- A piece of the frame is not written by a call that is handed other ones. -/
theorem Ro.ofF {w0 : World} {D : Nat → Prop} {Γ F : List Ch} {w : World} (h : St w0 D (Γ ++ F) w) {c : Ch} (hc : c ∈ F) {k : Nat} (hk : c.own k) : Ro w (owns Γ) k := by
  refine ⟨((h.sat.mem c (List.mem_append_right _ hc)).2 k hk).2, ?_⟩
  rintro ⟨d, hd, hdk⟩
  have key : ∀ (Δ : List Ch), Sat w0.heap.size D (Δ ++ F) w → d ∈ Δ → False := by
    intro Δ
    induction Δ with
    | nil => intro _ h; cases h
    | cons x Δ ih =>
      intro hs hm
      cases hm with
      | head => exact hs.2.2.1 c (List.mem_append_right _ hc) k hdk hk
      | tail _ hm => exact ih hs.2.2.2 hm
  exact key Γ h.sat hd
end Go.Proofs.YtdlmcgflgdmjgaaDoor
