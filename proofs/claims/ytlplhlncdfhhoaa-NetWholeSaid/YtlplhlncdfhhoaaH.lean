/- What Net's rows share: their arguments, opened. -/
import Derived.Test.YtlplhlncdfhhoaaProg
import Derived.Test.YtlplhlncdfhhoaaSo
import Derived.Test.YtlplhlncdfhhoaaRg
set_option linter.unusedVariables false
set_option linter.unusedSimpArgs false
namespace Go.Proofs.Ytlplhlncdfhhoaa
open Go.RowKit Go.ChangeShapes Go.WideShapes
theorem own7 : ownKnob Try.prog.godebug = none := by kernel_rfl
theorem laidOut7 : laidOutB Try.prog = true := by kernel_rfl
/-- An act of law12's scripts. -/
structure A12 where
  k : Int
  n : Int
  ad : Option Addr
  cap : Nat
  l : Lr
def ac12 (a : A12) : List Value := [.int .i64 a.k, .int .i64 a.n, .int .i64 a.l.k, .int .i64 a.l.f, .int .i64 a.l.t, .int .i64 a.l.x, .slice a.ad a.l.nd.length a.cap]
theorem ac12_ones : ∀ q : A12, AllOne (ac12 q) := fun q => ⟨rfl, rfl, rfl, rfl, rfl, rfl, rfl, trivial⟩
section
variable {H : Type} {enc : TypeId × Value → H} {W : World} {base : Nat} {spare : Nat → Bool} {held : Bool}
theorem opn_ints {fuel : Nat} {ad : Option Addr} {len cap : Nat} {x : DataW H × List MemPlace} (h : DataW.trod enc Try.prog W base spare held fuel 23 [.slice ad len cap] = some x) : ∃ l : List Int, l.length = len ∧ SlG (hw W) ad (iv l) := by
  obtain ⟨l, h1, h2, h3, h4, h5⟩ := opn_rows (α := Int) (f := fun x => [Value.int .i64 x]) (Q := fun _ => True) Try.underlying23 (by kernel_rfl) (by decide) (fun _ => rfl) (fun n c y hy => by
    obtain ⟨k, rfl, _, hw⟩ := DataW.trod_int Try.underlying3 hy
    exact ⟨k, rfl, trivial⟩) h
  rw [iv_rows] at h2
  exact ⟨l, h1, h2⟩
theorem opn_lr {n : Nat} {c : List Value} {y : DataW H × List MemPlace} (h : DataW.trod enc Try.prog W base spare held n 25 c = some y) : ∃ l an cn, c = LV l an cn ∧ SlG (hw W) an (iv l.nd) := by
  obtain ⟨hl, n', hf⟩ := opn_fields (fs := _) Try.underlying25 (by kernel_rfl) (by kernel_rfl) h
  match c, hl with
  | [v0, v1, v2, v3, v4], _ =>
    obtain ⟨z0, t0⟩ := hf 0 _ _ rfl rfl
    obtain ⟨z1, t1⟩ := hf 1 _ _ rfl rfl
    obtain ⟨z2, t2⟩ := hf 2 _ _ rfl rfl
    obtain ⟨z3, t3⟩ := hf 3 _ _ rfl rfl
    obtain ⟨z4, t4⟩ := hf 4 _ _ rfl rfl
    obtain ⟨k0, e0, _, _⟩ := DataW.trod_int Try.underlying22 t0
    obtain ⟨k1, e1, _, _⟩ := DataW.trod_int Try.underlying3 t1
    obtain ⟨k2, e2, _, _⟩ := DataW.trod_int Try.underlying3 t2
    obtain ⟨k3, e3, _, _⟩ := DataW.trod_int Try.underlying3 t3
    injection e0 with e0 _; injection e1 with e1 _; injection e2 with e2 _; injection e3 with e3 _
    subst e0 e1 e2 e3
    obtain ⟨ad, len, cap, rfl⟩ : ∃ ad len cap, v4 = .slice ad len cap := by
      rcases Go.Deep.open_slice Try.underlying23 t4 with ⟨h0, _⟩ | ⟨a, len, cap, _, _, _, _, h0, _⟩
      · injection h0 with h0 _; exact ⟨_, _, _, h0⟩
      · injection h0 with h0 _; exact ⟨_, _, _, h0⟩
    obtain ⟨l, rfl, hG⟩ := opn_ints t4
    exact ⟨⟨k0, k1, k2, k3, l⟩, ad, cap, rfl, hG⟩
set_option maxRecDepth 100000 in
theorem lr_agg {r : Reach} {b0 : Nat} {v : Value} (hv : Value.okWide Try.prog W r b0 25 v) : ∃ cs : Array Value, v = .agg cs := by
  obtain ⟨cs, h, _⟩ := okWide_struct (fs := _) Try.underlying25 hv
  exact ⟨cs, h⟩
set_option maxRecDepth 100000 in
/-- A letter by value. -/
theorem opn_letter {r : Reach} {b0 : Nat} {v : Value} {d : DataW H} {p : List MemPlace} (hv : Value.okWide Try.prog W r b0 25 v) (h : DataW.Trod enc Try.prog W base spare held 25 v d p) : ∃ l an cn, v = .agg (LV l an cn).toArray ∧ SlG (hw W) an (iv l.nd) := by
  obtain ⟨cs, rfl⟩ := lr_agg hv
  obtain ⟨fu, h⟩ := h
  obtain ⟨l, an, cn, ha, hok⟩ := opn_lr h
  refine ⟨l, an, cn, ?_, hok⟩
  rw [← ha]; rfl
set_option maxRecDepth 100000 in
theorem opn_ac12 {n : Nat} {c : List Value} {y : DataW H × List MemPlace} (h : DataW.trod enc Try.prog W base spare held n 43 c = some y) : ∃ a, c = ac12 a ∧ SlG (hw W) a.ad (iv a.l.nd) := by
  obtain ⟨xs, n', _, _, hl, hxl, hf⟩ := DataW.trod_struct Try.underlying43 h
  have hl7 : c.length = 7 := hl.trans (by kernel_rfl)
  have hx3 : xs.length = 3 := hxl
  match c, hl7, xs, hx3 with
  | [v0, v1, v2, v3, v4, v5, v6], _, [x0, x1, x2], _ =>
    have t0 : DataW.trod enc Try.prog W base spare held n' 3 [v0] = some x0 := hf 0 _ rfl
    have t1 : DataW.trod enc Try.prog W base spare held n' 3 [v1] = some x1 := hf 1 _ rfl
    have t2 : DataW.trod enc Try.prog W base spare held n' 25 [v2, v3, v4, v5, v6] = some x2 := hf 2 _ rfl
    obtain ⟨k0, e0, _, _⟩ := DataW.trod_int Try.underlying3 t0
    obtain ⟨k1, e1, _, _⟩ := DataW.trod_int Try.underlying3 t1
    injection e0 with e0 _; injection e1 with e1 _
    subst e0 e1
    obtain ⟨l, an, cn, e2, hG⟩ := opn_lr t2
    injection e2 with f0 e2; injection e2 with f1 e2; injection e2 with f2 e2; injection e2 with f3 e2; injection e2 with f4 e2
    subst f0 f1 f2 f3 f4
    exact ⟨⟨k0, k1, an, cn, l⟩, rfl, hG⟩
/-- A script of law12 that is handed in. -/
theorem opn_script12 {sa : Option Addr} {sl sc : Nat} {d : DataW H} {p : List MemPlace} (h : DataW.Trod enc Try.prog W base spare held 40 (.slice sa sl sc) d p) :
    ∃ l : List A12, l.length = sl ∧ SlG (hw W) sa (List.flatMap ac12 l) ∧ (∀ a ∈ l, SlG (hw W) a.ad (iv a.l.nd)) ∧ sl ≤ sc := by
  obtain ⟨fu, h⟩ := h
  obtain ⟨l, h1, h2, h3, h4, _⟩ := opn_rows (C := 7) (f := ac12) (Q := fun a => SlG (hw W) a.ad (iv a.l.nd)) Try.underlying40 (by kernel_rfl) (by decide) (fun _ => rfl) (fun n c y hy => opn_ac12 hy) h
  exact ⟨l, h1, h2, h3, h4⟩
end
end Go.Proofs.Ytlplhlncdfhhoaa
