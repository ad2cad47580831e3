/- A map's keys, sorted: what the kit's contracts ask of a map, out of the piece; what they hand back, as a piece. Over any program. -/
import Derived.Test.YtlplhlncdfhhoaaMa
import Derived.WalkArith
import Derived.Shelf.SlIterI.Nil
import Derived.Shelf.SortM.Plain
import Derived.Shelf.SortM.SortNone
set_option linter.unusedVariables false
set_option linter.unusedSimpArgs false
namespace Go.Proofs.Ytlplhlncdfhhoaa
open Go Go.RowKit Go.MapKept Go.Maps Go.Sort Go.Shelf
/-- Every element reads as nothing of note. -/
def R0 (_ : Value) : Option (DataW Unit × List MemPlace) := some (.lit (.bool true), [])
theorem keyOf_i {P : Program} {k : TypeId} (hk : P.underlying k = some (.int .i64)) {z : Int} (h1 : -9223372036854775808 ≤ z) (h2 : z ≤ 9223372036854775807) : keyOf P k (.int .i64 z) = some (.int .i64 z) := by
  have hw : (Lit.int .i64 z).wf = true := WalkArith.wf_i64 ⟨h1, h2⟩
  simp [keyOf, hk, mapKey, hw]
/-- The map's keys, by the kit's words. -/
theorem MapSat.owns {P : Program} {k : TypeId} (hk : P.underlying k = some (.int .i64)) {κ : Type} {L : List κ} {key : κ → Int} {c : κ → Value × Value} (hc : ∀ q, (c q).1 = .int .i64 (key q)) {b : Nat} {w : World} (h : MapSat (.int .i64) b (L.map c) w)
    (hr : ∀ q ∈ L, -9223372036854775808 ≤ key q ∧ key q ≤ 9223372036854775807) (hl : L.length ≤ maxLen) : ∃ D : DataW Unit, w.ownsMap P k R0 b L.length D ∧ (intKeys D).Perm (L.map key) ∧ Maps.size D = L.length := by
  obtain ⟨es, clk, h1, h2, h3, h4⟩ := h
  have hsz : es.size = L.length := by have := h3.length_eq; simpa using this
  have hkey : ∀ x ∈ es.toList, ∃ q ∈ L, x.key = .int .i64 (key q) := fun x hx => by
    obtain ⟨q, hq, e⟩ := List.mem_map.1 (h3.mem_iff.1 (List.mem_map.2 ⟨x, hx, rfl⟩))
    exact ⟨q, hq, by have := congrArg Prod.fst e; rw [hc] at this; exact this.symm⟩
  have hrd : ∀ x ∈ es.toList, WideElems.rd P k R0 x = some (.int .i64 (match x.key with | .int _ a => a | _ => 0), .lit (.bool true)) := fun x hx => by
    obtain ⟨q, hq, e⟩ := hkey x hx
    obtain ⟨r1, r2⟩ := hr q hq
    unfold WideElems.rd
    rw [e, keyOf_i hk r1 r2]; rfl
  have hF : WideElems.Fit P k R0 es clk := ⟨by omega, h2, fun x hx => ⟨_, hrd x hx⟩⟩
  refine ⟨_, ⟨es, clk, h1, hF, by omega, rfl⟩, ?_, ?_⟩
  · have p1 := (WideShapes.sorted_perm (es.toList.map (WideElems.rg P k R0))).map (fun p : Lit × DataW Unit => _root_.Go.intOf p.1)
    refine p1.trans ?_
    rw [List.map_map]
    have e1 : es.toList.map ((fun p : Lit × DataW Unit => _root_.Go.intOf p.1) ∘ WideElems.rg P k R0) = (es.toList.map fun e => (e.key, e.val)).map (fun q => match q.1 with | .int _ a => a | _ => 0) := by
      rw [List.map_map]
      refine List.map_congr_left fun x hx => ?_
      show _root_.Go.intOf (WideElems.rg P k R0 x).1 = _
      rw [WideElems.rg_of (hrd x hx)]; rfl
    rw [e1]
    have p2 := h3.map (fun q : Value × Value => match q.1 with | .int _ a => a | _ => (0 : Int))
    refine p2.trans ?_
    rw [List.map_map]
    have e2 : L.map ((fun q : Value × Value => match q.1 with | .int _ a => a | _ => (0 : Int)) ∘ c) = L.map key := List.map_congr_left fun q _ => by
      show (match (c q).1 with | .int _ a => a | _ => (0 : Int)) = key q
      rw [hc]
    rw [e2]
  · rw [Maps.size_eq, (WideShapes.sorted_perm _).length_eq, List.length_map]; simpa using hsz
/-- A new slice of the kit's, as a piece. -/
theorem St.ofRow {w w' : World} {e : TypeId} {size m : Nat} {v : Value} {xs : List Value} (hb : Below w.heap.size w w') (hr : w'.ownsRow w.heap.size e size v m xs) (hs : 0 < size) : ∃ ad cap, v = .slice ad m cap ∧ St w (fun _ => False) [.ow e size ad m cap xs] w' := by
  have h0 : St w (fun _ => False) [] w' := ⟨hb.os, hb.tape, hb.output, hb.size, fun k hk _ => hb.block k hk, trivial⟩
  obtain ⟨h1, h2⟩ := hr
  rcases h2 with ⟨rfl, h2⟩ | ⟨g, cap, cur, rfl, hg, hh, hm, hc, hz, ht⟩
  · subst h2
    have hx : xs = [] := List.eq_nil_of_length_eq_zero (by simpa using h1)
    subst hx
    exact ⟨Option.none, 0, rfl, h0.ow_nil _ _⟩
  · refine ⟨some ⟨g, 0, Option.none⟩, cap, rfl, h0.os, h0.tape, h0.output, h0.size, h0.keep, ⟨h1, hm, hc, .inr ⟨g, 0, cur, rfl, hh, by omega, by simpa using ht⟩⟩, fun k hk => ?_, (fun _ hd => by cases hd), trivial⟩
    obtain ⟨a, ha, rfl⟩ := hk
    injection ha with ha; subst ha
    exact ⟨.inr hg, (Array.getElem?_eq_some_iff.1 hh).1⟩
theorem encZ_iv (l : List Int) : l.map encZ = iv l := rfl
/-- Rising numbers are sorted. -/
theorem sort_rise {l ss : List Int} (hp : ss.Perm l) (hl : l.Pairwise (· < ·)) : ss.mergeSort (fun x y => decide (x ≤ y)) = l := by
  rw [show (fun x y : Int => decide (x ≤ y)) = leI from rfl, mergeSort_of_perm_i hp]
  exact List.mergeSort_of_pairwise (hl.imp fun h => by simp only [leI, decide_eq_true_eq]; omega)
end Go.Proofs.Ytlplhlncdfhhoaa
