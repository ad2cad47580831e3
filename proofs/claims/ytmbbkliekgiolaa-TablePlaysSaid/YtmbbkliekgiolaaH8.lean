/- What law08's rows share: their arguments, opened. -/
import Derived.Test.YtmbbkliekgiolaaH
import Derived.Test.YtmbbkliekgiolaaTg
set_option linter.unusedVariables false
set_option linter.unusedSimpArgs false
namespace Go.Proofs.Ytmbbkliekgiolaa
open Go.RowKit Go.ChangeShapes Go.WideShapes
section
variable {H : Type} {enc : TypeId × Value → H} {W : World} {base : Nat} {spare : Nat → Bool} {held : Bool}
theorem opn_ac8 {n : Nat} {c : List Value} {y : DataW H × List MemPlace} (h : DataW.trod enc Try.prog W base spare held n 67 c = some y) : ∃ a, c = ac8 a ∧ Ac8Ok (hw W) a := by
  obtain ⟨hl, n', hf⟩ := opn_fields (fs := _) Try.underlying67 (by kernel_rfl) (by kernel_rfl) h
  match c, hl with
  | [v0, v1, v2], _ =>
    obtain ⟨z0, t0⟩ := hf 0 _ _ rfl rfl
    obtain ⟨z1, t1⟩ := hf 1 _ _ rfl rfl
    obtain ⟨z2, t2⟩ := hf 2 _ _ rfl rfl
    obtain ⟨k0, e0, _, w0⟩ := DataW.trod_int Try.underlying3 t0
    injection e0 with e0 _
    subst e0
    obtain ⟨ad1, len1, cap1, rfl⟩ : ∃ ad len cap, v1 = .slice ad len cap := by
      rcases Go.Deep.open_slice Try.underlying23 t1 with ⟨h0, _⟩ | ⟨a, len, cap, _, _, _, _, h0, _⟩
      · injection h0 with h0 _; exact ⟨_, _, _, h0⟩
      · injection h0 with h0 _; exact ⟨_, _, _, h0⟩
    obtain ⟨l1, rfl, hG1, hB1, hc1, _⟩ := opn_bytes Try.underlying23 Try.underlying5 (by kernel_rfl) t1
    obtain ⟨ad2, len2, cap2, rfl⟩ : ∃ ad len cap, v2 = .slice ad len cap := by
      rcases Go.Deep.open_slice Try.underlying23 t2 with ⟨h0, _⟩ | ⟨a, len, cap, _, _, _, _, h0, _⟩
      · injection h0 with h0 _; exact ⟨_, _, _, h0⟩
      · injection h0 with h0 _; exact ⟨_, _, _, h0⟩
    obtain ⟨l2, rfl, hG2, hB2, hc2, _⟩ := opn_bytes Try.underlying23 Try.underlying5 (by kernel_rfl) t2
    exact ⟨⟨k0, ad1, cap1, l1, ad2, cap2, l2⟩, rfl, bnd_i64 w0, ⟨hG1, hB1⟩, ⟨hG2, hB2⟩⟩
theorem opn_script8 {sa : Option Addr} {sl sc : Nat} {d : DataW H} {p : List MemPlace} (h : DataW.Trod enc Try.prog W base spare held 22 (.slice sa sl sc) d p) :
    ∃ l : List Ac8, l.length = sl ∧ SlG (hw W) sa (List.flatMap ac8 l) ∧ (∀ a ∈ l, Ac8Ok (hw W) a) ∧ sl ≤ sc := by
  obtain ⟨fu, h⟩ := h
  obtain ⟨l, h1, h2, h3, h4, _⟩ := opn_rows (C := 3) (f := ac8) (Q := Ac8Ok (hw W)) Try.underlying22 (by kernel_rfl) (by decide) (fun _ => rfl) (fun n c y hy => opn_ac8 hy) h
  exact ⟨l, h1, h2, h3, h4⟩
set_option maxRecDepth 100000 in
theorem agg8 {T : TypeId} {fs : Array Field} (hu : Try.prog.underlying T = some (.struct fs)) {r : Reach} {b0 : Nat} {v : Value} (hv : Value.okWide Try.prog W r b0 T v) : ∃ cs : Array Value, v = .agg cs := by
  obtain ⟨cs, h, _⟩ := okWide_struct (fs := fs) hu hv
  exact ⟨cs, h⟩
set_option maxRecDepth 100000 in
/-- An act by value. -/
theorem opn_act8 {r : Reach} {b0 : Nat} {v : Value} {d : DataW H} {p : List MemPlace} (hv : Value.okWide Try.prog W r b0 67 v) (h : DataW.Trod enc Try.prog W base spare held 67 v d p) : ∃ a, v = .agg (ac8 a).toArray ∧ Ac8Ok (hw W) a := by
  obtain ⟨cs, rfl⟩ := agg8 Try.underlying67 hv
  obtain ⟨fu, h⟩ := h
  obtain ⟨a, ha, hok⟩ := opn_ac8 h
  refine ⟨a, ?_, hok⟩
  rw [← ha]; rfl
/-- A range that is handed in. -/
structure Of8 where
  fa : Option Addr
  fc : Nat
  fb : List Nat
  ta : Option Addr
  tc : Nat
  tb : List Nat
  most : Int
def of8 (a : Of8) : List Value := [.slice a.fa a.fb.length a.fc, .slice a.ta a.tb.length a.tc, .int .i64 a.most]
def Of8Ok (g : Gh) (a : Of8) : Prop := (SlG g a.fa (bv a.fb) ∧ Bytes a.fb) ∧ (SlG g a.ta (bv a.tb) ∧ Bytes a.tb) ∧ (-9223372036854775808 ≤ a.most ∧ a.most ≤ 9223372036854775807)
set_option maxRecDepth 100000 in
theorem opn_of8 {r : Reach} {b0 : Nat} {v : Value} {d : DataW H} {p : List MemPlace} (hv : Value.okWide Try.prog W r b0 65 v) (h : DataW.Trod enc Try.prog W base spare held 65 v d p) : ∃ a, v = .agg (of8 a).toArray ∧ Of8Ok (hw W) a := by
  obtain ⟨cs, rfl⟩ := agg8 Try.underlying65 hv
  obtain ⟨fu, h⟩ := h
  obtain ⟨hl, n', hf⟩ := opn_fields (fs := _) Try.underlying65 (by kernel_rfl) (by kernel_rfl) h
  obtain ⟨c, rfl⟩ : ∃ c : List Value, cs = c.toArray := ⟨cs.toList, rfl⟩
  match c, hl with
  | [v1, v2, v0], _ =>
    obtain ⟨z1, t1⟩ := hf 0 _ _ rfl rfl
    obtain ⟨z2, t2⟩ := hf 1 _ _ rfl rfl
    obtain ⟨z0, t0⟩ := hf 2 _ _ rfl rfl
    obtain ⟨k0, e0, _, w0⟩ := DataW.trod_int Try.underlying3 t0
    injection e0 with e0 _
    subst e0
    obtain ⟨ad1, len1, cap1, rfl⟩ : ∃ ad len cap, v1 = .slice ad len cap := by
      rcases Go.Deep.open_slice Try.underlying23 t1 with ⟨h0, _⟩ | ⟨a, len, cap, _, _, _, _, h0, _⟩
      · injection h0 with h0 _; exact ⟨_, _, _, h0⟩
      · injection h0 with h0 _; exact ⟨_, _, _, h0⟩
    obtain ⟨l1, rfl, hG1, hB1, hc1, _⟩ := opn_bytes Try.underlying23 Try.underlying5 (by kernel_rfl) t1
    obtain ⟨ad2, len2, cap2, rfl⟩ : ∃ ad len cap, v2 = .slice ad len cap := by
      rcases Go.Deep.open_slice Try.underlying23 t2 with ⟨h0, _⟩ | ⟨a, len, cap, _, _, _, _, h0, _⟩
      · injection h0 with h0 _; exact ⟨_, _, _, h0⟩
      · injection h0 with h0 _; exact ⟨_, _, _, h0⟩
    obtain ⟨l2, rfl, hG2, hB2, hc2, _⟩ := opn_bytes Try.underlying23 Try.underlying5 (by kernel_rfl) t2
    exact ⟨⟨ad1, cap1, l1, ad2, cap2, l2, k0⟩, rfl, ⟨hG1, hB1⟩, ⟨hG2, hB2⟩, bnd_i64 w0⟩
end
end Go.Proofs.Ytmbbkliekgiolaa
