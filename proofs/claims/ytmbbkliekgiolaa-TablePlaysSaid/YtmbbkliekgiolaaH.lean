/- What the rows of this seat share: their arguments, opened. -/
import Derived.Test.YtmbbkliekgiolaaProg
import Derived.Test.YtmbbkliekgiolaaSo
set_option linter.unusedVariables false
set_option linter.unusedSimpArgs false
namespace Go.Proofs.Ytmbbkliekgiolaa
open Go.RowKit Go.ChangeShapes Go.WideShapes
theorem own7 : ownKnob Try.prog.godebug = none := by kernel_rfl
theorem laidOut7 : laidOutB Try.prog = true := by kernel_rfl
/-- An act of law07's scripts. -/
structure Ac7 where
  k : Int
  i : Int
  n : Int
  ad : Option Addr
  cap : Nat
  b : List Nat
def ac7 (a : Ac7) : List Value := [.int .i64 a.k, .int .i64 a.i, .int .i64 a.n, .slice a.ad a.b.length a.cap]
def Ac7Ok (W : World) (a : Ac7) : Prop := (-9223372036854775808 ≤ a.k ∧ a.k ≤ 9223372036854775807) ∧ (-9223372036854775808 ≤ a.i ∧ a.i ≤ 9223372036854775807) ∧ (-9223372036854775808 ≤ a.n ∧ a.n ≤ 9223372036854775807) ∧ SlG (hw W) a.ad (bv a.b) ∧ Bytes a.b ∧ a.b.length ≤ a.cap
section
variable {H : Type} {enc : TypeId × Value → H} {W : World} {base : Nat} {spare : Nat → Bool} {held : Bool}
theorem opn_ac7 {n : Nat} {c : List Value} {y : DataW H × List MemPlace} (h : DataW.trod enc Try.prog W base spare held n 78 c = some y) : ∃ a, c = ac7 a ∧ Ac7Ok W a := by
  obtain ⟨hl, n', hf⟩ := opn_fields (fs := _) Try.underlying78 (by kernel_rfl) (by kernel_rfl) h
  match c, hl with
  | [v0, v1, v2, v3], _ =>
    obtain ⟨z0, t0⟩ := hf 0 _ _ rfl rfl
    obtain ⟨z1, t1⟩ := hf 1 _ _ rfl rfl
    obtain ⟨z2, t2⟩ := hf 2 _ _ rfl rfl
    obtain ⟨z3, t3⟩ := hf 3 _ _ rfl rfl
    obtain ⟨k0, e0, _, w0⟩ := DataW.trod_int Try.underlying3 t0
    obtain ⟨k1, e1, _, w1⟩ := DataW.trod_int Try.underlying3 t1
    obtain ⟨k2, e2, _, w2⟩ := DataW.trod_int Try.underlying3 t2
    injection e0 with e0 _; injection e1 with e1 _; injection e2 with e2 _
    subst e0 e1 e2
    obtain ⟨ad, len, cap, rfl⟩ : ∃ ad len cap, v3 = .slice ad len cap := by
      rcases Go.Deep.open_slice Try.underlying23 t3 with ⟨h0, _⟩ | ⟨a, len, cap, _, _, _, _, h0, _⟩
      · injection h0 with h0 _; exact ⟨_, _, _, h0⟩
      · injection h0 with h0 _; exact ⟨_, _, _, h0⟩
    obtain ⟨l, rfl, hG, hB, hc, _⟩ := opn_bytes Try.underlying23 Try.underlying5 (by kernel_rfl) t3
    exact ⟨⟨k0, k1, k2, ad, cap, l⟩, rfl, bnd_i64 w0, bnd_i64 w1, bnd_i64 w2, hG, hB, hc⟩
/-- A script of law07 that is handed in. -/
theorem opn_script7 {sa : Option Addr} {sl sc : Nat} {d : DataW H} {p : List MemPlace} (h : DataW.Trod enc Try.prog W base spare held 75 (.slice sa sl sc) d p) :
    ∃ l : List Ac7, l.length = sl ∧ SlG (hw W) sa (List.flatMap ac7 l) ∧ (∀ a ∈ l, Ac7Ok W a) ∧ sl ≤ sc := by
  obtain ⟨fu, h⟩ := h
  obtain ⟨l, h1, h2, h3, h4, _⟩ := opn_rows (C := 4) (f := ac7) (Q := Ac7Ok W) Try.underlying75 (by kernel_rfl) (by decide) (fun _ => rfl) (fun n c y hy => opn_ac7 hy) h
  exact ⟨l, h1, h2, h3, h4⟩
set_option maxRecDepth 100000 in
theorem act7_agg {r : Reach} {b0 : Nat} {v : Value} (hv : Value.okWide Try.prog W r b0 78 v) : ∃ cs : Array Value, v = .agg cs := by
  obtain ⟨cs, h, _⟩ := okWide_struct (fs := _) Try.underlying78 hv
  exact ⟨cs, h⟩
set_option maxRecDepth 100000 in
/-- An act by value. -/
theorem opn_act7 {r : Reach} {b0 : Nat} {v : Value} {d : DataW H} {p : List MemPlace} (hv : Value.okWide Try.prog W r b0 78 v) (h : DataW.Trod enc Try.prog W base spare held 78 v d p) : ∃ a, v = .agg (ac7 a).toArray ∧ Ac7Ok W a := by
  obtain ⟨cs, rfl⟩ := act7_agg hv
  obtain ⟨fu, h⟩ := h
  obtain ⟨a, ha, hok⟩ := opn_ac7 h
  refine ⟨a, ?_, hok⟩
  rw [← ha]; rfl
end
end Go.Proofs.Ytmbbkliekgiolaa
