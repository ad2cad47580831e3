/- Package table: a table that is read; the last one. -/
import Derived.Test.YtmbbkliekgiolaaT9
set_option linter.unusedVariables false
set_option linter.unusedSimpArgs false
namespace Go.Proofs.Ytmbbkliekgiolaa
open Go.RowKit
/-- A table stands in a ghost heap. -/
structure TR (g : Gh) (k : Nat) (ad : Option Addr) (cap : Nat) (ps : List Pg) : Prop where
  blk : g k = some (tO ad ps.length cap (flat ps).length)
  rows : SlG g ad (List.flatMap pg ps)
  pgs : ∀ p ∈ ps, PgG g p
  ok : TOk g ps
theorem TR.mono {g g' : Gh} {k cap : Nat} {ad : Option Addr} {ps : List Pg} (h : TR g k ad cap ps) (hg : Gle g g') : TR g' k ad cap ps := ⟨hg _ _ h.blk, h.rows.mono hg, fun p hp => (h.pgs p hp).mono hg, h.ok.mono hg⟩
section
variable {w0 w : World} {D : Nat → Prop} {Γ : List Ch} {k cap i j : Nat} {ad : Option Addr} {ps : List Pg} {g : Gh}
theorem St.tr (h : St w0 D Γ w) (hi : Γ[i]? = some (tb k ad cap ps)) (hj : Γ[j]? = some (.fz g)) (hT : TOk g ps) : TR (hw w) k ad cap ps := by
  have h1 : Sat 0 (fun _ => True) [.blk k (tO ad ps.length cap (flat ps).length), .ow 111 1 ad ps.length cap (List.flatMap pg ps), .pk (ps.map pgc)] w := (h.sat.get hi).1
  have h2 : St w (fun _ => True) [.blk k (tO ad ps.length cap (flat ps).length), .ow 111 1 ad ps.length cap (List.flatMap pg ps), .pk (ps.map pgc)] w := by
    obtain ⟨a1, a2, a3, b1, b2, b3, c1, c2, c3, c4⟩ := h1
    exact ⟨rfl, rfl, rfl, Nat.le_refl _, fun _ _ _ => rfl, a1, fun k hk => ⟨.inl trivial, (a2 k hk).2⟩, a3, b1, fun k hk => ⟨.inl trivial, (b2 k hk).2⟩, b3, c1, fun k hk => ⟨.inl trivial, (c2 k hk).2⟩, c3, trivial⟩
  have hg := h.fz hj
  exact ⟨h2.blk (i := 0) rfl, h2.owG (i := 1) rfl, h2.pages (i := 2) rfl hg hT, hT.mono hg⟩
end
theorem St.pk_nil {w0 w : World} {D : Nat → Prop} {Γ : List Ch} (h : St w0 D Γ w) : St w0 D (.pk [] :: Γ) w := St.pk (Γ1 := []) h
/-- A call that makes pieces, at a caller that has others. -/
theorem calls_frameN {f : FuncId} {args : Array Value} {w : World} {Γ : List Ch} {φ : Value → List Ch → Prop} {P : Program} (h : Calls P f args w (PostN w φ)) (hS : St w (owns Γ) Γ w) : Calls P f args w (Post w Γ fun v G => ∃ G', φ v G' ∧ G = G' ++ Γ) := by
  refine h.mono ?_
  rintro e w' ⟨v, G', rfl, h1, h2⟩
  exact ⟨v, _, rfl, ⟨G', h1, rfl⟩, hS.frameN h2⟩
/-- The last one below a key; of all. -/
def lastB (L : List KV) (to : List Nat) : Option KV := if to = [] then L.getLast? else (L.filter fun a => bl a.1 to).getLast?
theorem last_at {α : Type} {l : List α} (h : 0 < l.length) : ∃ z, l[l.length - 1]? = some z ∧ l.getLast? = some z := by
  refine ⟨l[l.length - 1], List.getElem?_eq_getElem (by omega), ?_⟩
  rw [List.getLast?_eq_getElem?, List.getElem?_eq_getElem (by omega)]
theorem last_page {A : List Pg} (hA : 0 < A.length) (hf : ∀ p ∈ A, 0 < p.es.length) : ∃ q z, A[A.length - 1]? = some q ∧ 0 < q.es.length ∧ q.es[q.es.length - 1]? = some z ∧ (ab A).getLast? = some z.kv := by
  obtain ⟨q, hq, hq2⟩ := last_at hA
  have hqm := List.mem_of_getElem? hq
  obtain ⟨z, hz, hz2⟩ := last_at (hf q hqm)
  refine ⟨q, z, hq, hf q hqm, hz, ?_⟩
  obtain ⟨A', rfl⟩ : ∃ A', A = A' ++ [q] := by
    obtain ⟨ys, hys⟩ := List.getLast?_eq_some_iff.1 hq2
    exact ⟨ys, hys⟩
  rw [ab_app, show ab [q] = q.es.map En.kv from by simp [ab, flat], List.getLast?_append, List.getLast?_map, hz2]
  rfl
theorem Where.last {ps : List Pg} {key : List Nat} {i k : Nat} {fd : Bool} (h : Where ps key i k fd) (hf : ∀ p ∈ ps, 0 < p.es.length) (hk : key ≠ []) :
    (k = 0 ∧ i = 0 ∧ lastB (ab ps) key = Option.none) ∨ (k = 0 ∧ 0 < i ∧ ∃ q z, ps[i - 1]? = some q ∧ 0 < q.es.length ∧ q.es[q.es.length - 1]? = some z ∧ lastB (ab ps) key = some z.kv) ∨
    (0 < k ∧ ∃ q z, ps[i]? = some q ∧ k - 1 < q.es.length ∧ q.es[k - 1]? = some z ∧ lastB (ab ps) key = some z.kv) := by
  rcases h with ⟨rfl, rfl, rfl, rfl⟩ | ⟨A, p, B, E1, E2, rfl, hA, hp, hE, hc, _⟩
  · exact .inl ⟨rfl, rfl, by unfold lastB; rw [if_neg hk]; rfl⟩
  · have hl : lastB (ab (A ++ p :: B)) key = (ab A ++ E1.map En.kv).getLast? := by
      unfold lastB
      rw [if_neg hk, ab_app, ab_cons, hp, List.map_append, List.append_assoc (E1.map En.kv), ← List.append_assoc (ab A), List.filter_append, List.filter_eq_self.2 hc.lo, List.filter_eq_nil_iff.2 (fun a ha => by rw [hc.hi a ha]; simp), List.append_nil]
    by_cases hk0 : k = 0
    · obtain rfl : E1 = [] := List.eq_nil_of_length_eq_zero (by omega)
      rw [List.map_nil, List.append_nil] at hl
      by_cases hi0 : i = 0
      · obtain rfl : A = [] := List.eq_nil_of_length_eq_zero (by omega)
        exact .inl ⟨hk0, hi0, by rw [hl]; rfl⟩
      · obtain ⟨q, z, h1, h2, h3, h4⟩ := last_page (A := A) (by omega) (fun q hq => hf q (List.mem_append_left _ hq))
        refine .inr (.inl ⟨hk0, by omega, q, z, ?_, h2, h3, by rw [hl]; exact h4⟩)
        rw [List.getElem?_append_left (by omega), ← hA]; exact h1
    · obtain ⟨z, hz, hz2⟩ := last_at (l := E1) (by omega)
      refine .inr (.inr ⟨by omega, p, z, at_mid hA, by rw [hp, List.length_append]; omega, ?_, ?_⟩)
      · rw [hp, List.getElem?_append_left (by omega), ← hE]; exact hz
      · rw [hl, List.getLast?_append, List.getLast?_map, hz2]; rfl
theorem Where.yes' {ps : List Pg} {key : List Nat} {i k : Nat} (h : Where ps key i k true) : ∃ p a, ps[i]? = some p ∧ p.es[k]? = some a ∧ getA (ab ps) key = some a.rb := by
  obtain ⟨A, ad, cap, B, E1, a, E2, rfl, hA, hE, ha, hc⟩ := h.yes
  refine ⟨_, a, at_mid hA, at_mid hE, ?_⟩
  have := (put_yes (ps := A ++ Pg.mk ad cap (E1 ++ a :: E2) :: B) (ps' := A ++ Pg.mk ad cap (E1 ++ ⟨a.ka, a.kc, key, a.ra, a.rc, []⟩ :: E2) :: B) (r := []) flat_mid flat_mid hc ha rfl).2
  exact this
theorem ent_at {g : Gh} {ps : List Pg} {p : Pg} {a : En} {i k : Nat} (hT : TOk g ps) (hp : ps[i]? = some p) (ha : p.es[k]? = some a) : EOk g a :=
  hT.ent a (List.mem_flatMap.2 ⟨p, List.mem_of_getElem? hp, List.mem_of_getElem? ha⟩)
theorem lt_of_at {α : Type} {l : List α} {i : Nat} {x : α} (h : l[i]? = some x) : i < l.length := (List.getElem?_eq_some_iff.1 h).1
end Go.Proofs.Ytmbbkliekgiolaa
