/- Errors as trees; how they lie in memory. -/
import Derived.Test.YtdlmcgflgdmjgaaDoorSe
import Derived.Test.YtdlmcgflgdmjgaaDoorProg
set_option linter.unusedVariables false
set_option linter.unusedSimpArgs false
namespace Go.Proofs.YtdlmcgflgdmjgaaDoor
open Go.RowKit
abbrev fV (b : Nat) : Value := .iface 85 (.pointer (some ⟨b, 0, none⟩))
abbrev jV (b : Nat) : Value := .iface 89 (.pointer (some ⟨b, 0, none⟩))
abbrev fO (c a : Int) (u : Value) : Obj := .cells #[.int .i64 c, .int .i64 a, u] 87
abbrev jO (x y : Value) : Obj := .cells #[x, y] 91
inductive Er where
  | nil
  | flt (c a : Int) (u : Er)
  | jn (x y : Er)
namespace Er
def isNil : Er → Bool | nil => true | _ => false
def list : Er → List (Int × Int)
  | nil => []
  | flt c a u => (c, a) :: u.list
  | jn x y => x.list ++ y.list
def deep : Er → Nat
  | nil => 0
  | flt _ _ u => 1 + u.deep
  | jn x y => max x.deep y.deep
def first : Er → Option (Int × Int)
  | nil => none
  | flt c a _ => some (c, a)
  | jn x y => x.first.or y.first
def wrap (e : Er) (c a : Int) : Er := if e.isNil = true ∨ c = 0 then e else flt c a e
def new (c a : Int) : Er := if c = 0 then nil else flt c a nil
def join (x y : Er) : Er := if x.isNil then y else if y.isNil then x else jn x y
/-- No code is OK; what is joined is something. -/
def Good : Er → Prop
  | nil => True
  | flt c _ u => c ≠ 0 ∧ u.Good
  | jn x y => x.isNil = false ∧ y.isNil = false ∧ x.Good ∧ y.Good
theorem first_eq (e : Er) : e.first = e.list.head? := by
  induction e with
  | nil => rfl
  | flt c a u _ => rfl
  | jn x y h1 h2 => simp [first, list, h1, h2, List.head?_append]
theorem list_nil {e : Er} (h : e.Good) : e.list = [] ↔ e.isNil = true := by
  induction e with
  | nil => simp [list, isNil]
  | flt c a u _ => simp [list, isNil]
  | jn x y h1 h2 =>
    refine ⟨fun h3 => ?_, fun h3 => (by cases h3)⟩
    have h4 := (h1 h.2.2.1).1 (List.append_eq_nil_iff.1 h3).1
    rw [h.1] at h4; cases h4
theorem good_wrap {e : Er} (h : e.Good) (c a : Int) : (e.wrap c a).Good := by
  unfold wrap; split
  · exact h
  · rename_i hc; exact ⟨fun h0 => hc (.inr h0), h⟩
theorem good_new (c a : Int) : (new c a).Good := by
  unfold new; split
  · trivial
  · exact ⟨by assumption, trivial⟩
theorem good_join {x y : Er} (hx : x.Good) (hy : y.Good) : (join x y).Good := by
  unfold join
  cases h1 : x.isNil
  · cases h2 : y.isNil
    · exact ⟨h1, h2, hx, hy⟩
    · exact hx
  · exact hy
theorem list_ne {e : Er} (h : e.Good) : ∀ q ∈ e.list, q.1 ≠ 0 := by
  induction e with
  | nil => intro q hq; cases hq
  | flt c a u ih =>
    intro q hq
    cases hq with
    | head => exact h.1
    | tail _ hq => exact ih h.2 q hq
  | jn x y h1 h2 =>
    intro q hq
    rcases List.mem_append.1 hq with hq | hq
    · exact h1 h.2.2.1 q hq
    · exact h2 h.2.2.2 q hq
end Er
/-- A value is an error, all of whose blocks are such. -/
def ErIn (S : Nat → Prop) (w : World) : Er → Value → Prop
  | .nil, v => v = .nilIface
  | .flt c a u, v => ∃ b uv, v = fV b ∧ S b ∧ w.heap[b]? = some (fO c a uv) ∧ ErIn S w u uv
  | .jn x y, v => ∃ b xv yv, v = jV b ∧ S b ∧ w.heap[b]? = some (jO xv yv) ∧ ErIn S w x xv ∧ ErIn S w y yv
theorem ErIn.isIf {S : Nat → Prop} {w : World} : ∀ {e : Er} {v : Value}, ErIn S w e v → IsIf v
  | .nil, v, h => .inl h
  | .flt _ _ _, v, ⟨b, uv, h, _⟩ => .inr ⟨_, _, h⟩
  | .jn _ _, v, ⟨b, xv, yv, h, _⟩ => .inr ⟨_, _, h⟩
theorem ErIn.isNil {S : Nat → Prop} {w : World} : ∀ {e : Er} {v : Value}, ErIn S w e v → isNilB v = e.isNil
  | .nil, v, h => by subst h; rfl
  | .flt _ _ _, v, ⟨b, uv, h, _⟩ => by subst h; rfl
  | .jn _ _, v, ⟨b, xv, yv, h, _⟩ => by subst h; rfl
theorem ErIn.mono {S S' : Nat → Prop} {w w' : World} (hs : ∀ k, S k → S' k ∧ w'.heap[k]? = w.heap[k]?) : ∀ {e : Er} {v : Value}, ErIn S w e v → ErIn S' w' e v
  | .nil, v, h => h
  | .flt _ _ _, v, ⟨b, uv, h, hb, hh, hu⟩ => ⟨b, uv, h, (hs b hb).1, (hs b hb).2.trans hh, hu.mono hs⟩
  | .jn _ _, v, ⟨b, xv, yv, h, hb, hh, hx, hy⟩ => ⟨b, xv, yv, h, (hs b hb).1, (hs b hb).2.trans hh, hx.mono hs, hy.mono hs⟩
theorem ErIn.ro {w0 w : World} {D : Nat → Prop} {Γ : List Ch} (h : St w0 D Γ w) {e : Er} {v : Value} (hE : ErIn (Ro w0 D) w0 e v) : ErIn (Ro w0 D) w e v := hE.mono fun _ hk => ⟨hk, hk.same h⟩
theorem ErIn.next {w0 w : World} {D : Nat → Prop} {Γ F : List Ch} (h : St w0 D (Γ ++ F) w) {e : Er} {v : Value} (hE : ErIn (Ro w0 D) w0 e v) : ErIn (Ro w (owns Γ)) w e v := hE.mono fun _ hk => ⟨hk.next h, hk.same h⟩
theorem ErIn.nextR {w0 w : World} {D : Nat → Prop} {Γ : List Ch} (h : St w0 D Γ w) {e : Er} {v : Value} (hE : ErIn (Ro w0 D) w0 e v) : ErIn (Ro w (fun _ => False)) w e v := hE.mono fun _ hk => ⟨hk.nextR h, hk.same h⟩
end Go.Proofs.YtdlmcgflgdmjgaaDoor
