/- More openings: rows of bytes; two numbers by value. -/
import Derived.Test.YtmbbkliekgiolaaH
set_option linter.unusedVariables false
set_option linter.unusedSimpArgs false
namespace Go.Proofs.Ytmbbkliekgiolaa
open Go.RowKit Go.ChangeShapes Go.WideShapes
set_option maxRecDepth 100000
/-- Bytes in a row of such. -/
structure Sb where
  ad : Option Addr
  cap : Nat
  b : List Nat
def sb (a : Sb) : List Value := [.slice a.ad a.b.length a.cap]
theorem sb_ones : ∀ a : Sb, AllOne (sb a) := fun _ => ⟨rfl, trivial⟩
def SbG (g : Gh) (a : Sb) : Prop := SlG g a.ad (bv a.b) ∧ Bytes a.b
theorem SbG.all {g g' : Gh} {aa : List Sb} (h : ∀ a ∈ aa, SbG g a) (hg : Gle g g') : ∀ a ∈ aa, SbG g' a := fun a ha => ⟨(h a ha).1.mono hg, (h a ha).2⟩
section
variable {H : Type} {enc : TypeId × Value → H} {W : World} {base : Nat} {spare : Nat → Bool} {held : Bool}
theorem opn_sb {n : Nat} {c : List Value} {y : DataW H × List MemPlace} (h : DataW.trod enc Try.prog W base spare held n 23 c = some y) : ∃ a, c = sb a ∧ SbG (hw W) a := by
  obtain ⟨ad, len, cap, rfl⟩ : ∃ ad len cap, c = [.slice ad len cap] := by
    rcases Go.Deep.open_slice Try.underlying23 h with ⟨h0, _⟩ | ⟨a, len, cap, _, _, _, _, h0, _⟩
    · exact ⟨_, _, _, h0⟩
    · exact ⟨_, _, _, h0⟩
  obtain ⟨l, rfl, hG, hB, hc, _⟩ := opn_bytes Try.underlying23 Try.underlying5 (by kernel_rfl) h
  exact ⟨⟨ad, cap, l⟩, rfl, hG, hB⟩
/-- Rows of bytes that are handed in. -/
theorem opn_sbs {sa : Option Addr} {sl sc : Nat} {d : DataW H} {p : List MemPlace} (h : DataW.Trod enc Try.prog W base spare held 50 (.slice sa sl sc) d p) :
    ∃ l : List Sb, l.length = sl ∧ SlG (hw W) sa (List.flatMap sb l) ∧ (∀ a ∈ l, SbG (hw W) a) ∧ sl ≤ sc := by
  obtain ⟨fu, h⟩ := h
  obtain ⟨l, h1, h2, h3, h4, _⟩ := opn_rows (C := 1) (f := sb) (Q := SbG (hw W)) Try.underlying50 (by kernel_rfl) (by decide) (fun _ => rfl) (fun n c y hy => opn_sb hy) h
  exact ⟨l, h1, h2, h3, h4⟩
theorem okWide_arr2 {r : Reach} {b0 : Nat} {v : Value} (h : Value.okWide Try.prog W r b0 98 v) : ∃ c0 c1, v = .agg #[c0, c1] := by
  unfold Value.okWide at h
  rw [Try.underlying98] at h
  obtain ⟨cs, rfl, hs, _⟩ := h
  have hc : Try.prog.cellsOf 98 = 2 := by kernel_rfl
  rw [hc] at hs
  obtain ⟨l⟩ := cs
  match l, hs with
  | [c0, c1], _ => exact ⟨c0, c1, rfl⟩
theorem trod_arr2 {fuel : Nat} {c0 c1 : Value} {x : DataW H × List MemPlace} (h : DataW.trod enc Try.prog W base spare held fuel 98 [c0, c1] = some x) :
    ∃ y0 y1 n, DataW.trod enc Try.prog W base spare held n 3 [c0] = some y0 ∧ DataW.trod enc Try.prog W base spare held n 3 [c1] = some y1 := by
  have hce : Try.prog.cellsOf 3 = 1 := by kernel_rfl
  cases fuel with
  | zero => simp [DataW.trod] at h
  | succ n =>
    unfold DataW.trod at h
    rw [Try.underlying98] at h
    have r2 : List.range 2 = [0, 1] := rfl
    simp [r2, hce] at h
    obtain ⟨_, h⟩ := h
    cases h0 : DataW.trod enc Try.prog W base spare held n 3 [c0] with
    | none => simp [h0] at h
    | some y0 =>
      cases h1 : DataW.trod enc Try.prog W base spare held n 3 [c1] with
      | none => simp [h0, h1] at h
      | some y1 => exact ⟨y0, y1, n, h0, h1⟩
/-- Two numbers by value. -/
theorem opn_int2 {r : Reach} {b0 : Nat} {v : Value} {d : DataW H} {p : List MemPlace} (hv : Value.okWide Try.prog W r b0 98 v) (h : DataW.Trod enc Try.prog W base spare held 98 v d p) :
    ∃ n0 n1 : Int, v = .agg #[.int .i64 n0, .int .i64 n1] ∧ (-9223372036854775808 ≤ n0 ∧ n0 ≤ 9223372036854775807) ∧ (-9223372036854775808 ≤ n1 ∧ n1 ≤ 9223372036854775807) := by
  obtain ⟨c0, c1, rfl⟩ := okWide_arr2 hv
  obtain ⟨fu, h⟩ := h
  obtain ⟨y0, y1, n, h0, h1⟩ := trod_arr2 h
  obtain ⟨k0, e0, _, w0⟩ := DataW.trod_int Try.underlying3 h0
  obtain ⟨k1, e1, _, w1⟩ := DataW.trod_int Try.underlying3 h1
  injection e0 with e0 _; injection e1 with e1 _
  subst e0 e1
  exact ⟨k0, k1, rfl, bnd_i64 w0, bnd_i64 w1⟩
end
end Go.Proofs.Ytmbbkliekgiolaa
