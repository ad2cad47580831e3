/- What law01's built comes to: words. -/
import Derived.Test.YtdlmcgflgdmjgaaDoorF7
set_option linter.unusedVariables false
set_option linter.unusedSimpArgs false
namespace Go.Proofs.YtdlmcgflgdmjgaaDoor
open Go.RowKit
structure Row where
  v : Value
  e : Er
  ca : Option Addr
  pa : Option Addr
  cc : Nat
  pc : Nat
def Row.cells (r : Row) : List Value := [.slice r.ca r.e.list.length r.cc, .slice r.pa r.e.list.length r.pc, .int .i64 (r.e.deep : Int)]
structure BS where
  k : Nat
  m : Nat
  ga : Nat
  ac : Nat
  gt : Nat
  tc : Nat
  bs : List Nat
  es : List (Value × Er)
  ss : List (Option Addr × List Value)
  vs : List Value
  ts : List Value
  rows : List Row
def RowOk (es : List (Value × Er)) (ss : List (Option Addr × List Value)) (k : Nat) (r : Row) : Prop := (r.v, r.e) ∈ es ∧ (r.ca, iv r.e.codes) ∈ ss ∧ (r.pa, iv r.e.places) ∈ ss ∧ r.e.Good ∧ r.e.list.length ≤ 2 ^ k ∧ r.e.deep ≤ k
structure BOk (x : BS) : Prop where
  pos : 0 < x.m
  le : x.m ≤ x.k + 1
  len : x.rows.length = x.m
  vs : x.vs = x.rows.map (·.v)
  ts : x.ts = x.rows.flatMap Row.cells
  ok : ∀ r ∈ x.rows, RowOk x.es x.ss x.k r
def bG (x : BS) : List Ch := [.pool x.bs x.es x.ss, .sl 29 1 (.slice (some ⟨x.ga, 0, none⟩) x.m x.ac) x.m x.vs, .sl 46 3 (.slice (some ⟨x.gt, 0, none⟩) x.m x.tc) x.m x.ts]
theorem cells3_get : ∀ (l : List Row) (i j : Nat) (r : Row) (u : Value), l[i]? = some r → r.cells[j]? = some u → (l.flatMap Row.cells)[i * 3 + j]? = some u
  | [], i, j, r, u, h, _ => by simp at h
  | a :: l, 0, j, r, u, h, hu => by
    simp at h; subst h
    have hj : j < a.cells.length := (List.getElem?_eq_some_iff.1 hu).1
    simp only [List.flatMap_cons, Nat.zero_mul, Nat.zero_add]
    rw [List.getElem?_append_left hj]; exact hu
  | a :: l, i + 1, j, r, u, h, hu => by
    have hl : a.cells.length = 3 := rfl
    simp only [List.flatMap_cons]
    rw [List.getElem?_append_right (by rw [hl]; omega), hl, show (i + 1) * 3 + j - 3 = i * 3 + j by omega]
    exact cells3_get l i j r u (by simpa using h) hu
theorem BOk.at {x : BS} (h : BOk x) {i : Nat} (hi : (i : Int) < x.m) : ∃ r, r ∈ x.rows ∧ RowOk x.es x.ss x.k r ∧ x.vs[(i : Int).toNat]? = some r.v ∧ ∀ j u, r.cells[j]? = some u → x.ts[0 + (i : Int).toNat * 3 + j]? = some u := by
  have hi' : i < x.rows.length := by have := h.len; omega
  have hg : x.rows[i]? = some x.rows[i] := List.getElem?_eq_getElem hi'
  refine ⟨x.rows[i], List.getElem_mem hi', h.ok _ (List.getElem_mem hi'), ?_, fun j u hu => ?_⟩
  · rw [h.vs, List.getElem?_map]; simp only [Int.toNat_natCast, hg]; rfl
  · rw [h.ts, Nat.zero_add]; exact cells3_get _ _ _ _ _ (by rw [Int.toNat_natCast]; exact hg) hu
/-- One more. -/
theorem BOk.snoc {x : BS} (h : BOk x) {ga ac gt tc : Nat} {bs : List Nat} {es : List (Value × Er)} {ss : List (Option Addr × List Value)} {vs ts : List Value} {r : Row} (he : ∀ q ∈ x.es, q ∈ es) (hs : ∀ q ∈ x.ss, q ∈ ss) (hv : vs = x.vs ++ [r.v]) (ht : ts = x.ts ++ r.cells) (hr : RowOk es ss (x.k + 1) r) :
    BOk ⟨x.k + 1, x.m + 1, ga, ac, gt, tc, bs, es, ss, vs, ts, x.rows ++ [r]⟩ := by
  refine ⟨Nat.succ_pos _, by have := h.le; show x.m + 1 ≤ x.k + 1 + 1; omega, by simp [h.len], by rw [hv, h.vs]; simp, by rw [ht, h.ts]; simp, fun q hq => ?_⟩
  rcases List.mem_append.1 hq with hq | hq
  · obtain ⟨h1, h2, h3, h4, h5, h6⟩ := h.ok q hq
    exact ⟨he _ h1, hs _ h2, hs _ h3, h4, Nat.le_trans h5 (Nat.pow_le_pow_right (by decide) (Nat.le_succ _)), Nat.le_succ_of_le h6⟩
  · rw [List.mem_singleton] at hq; subst hq; exact hr
theorem BOk.step {x : BS} (h : BOk x) : BOk { x with k := x.k + 1 } :=
  ⟨h.pos, Nat.le_succ_of_le h.le, h.len, h.vs, h.ts, fun r hr => by
    obtain ⟨h1, h2, h3, h4, h5, h6⟩ := h.ok r hr
    exact ⟨h1, h2, h3, h4, Nat.le_trans h5 (Nat.pow_le_pow_right (by decide) (Nat.le_succ _)), Nat.le_succ_of_le h6⟩⟩
theorem RowOk.wrap {es es' : List (Value × Er)} {ss ss' : List (Option Addr × List Value)} {k : Nat} {r : Row} (h : RowOk es ss k r) (c a : Int) {v : Value} {ca pa : Option Addr} {cc pc : Nat} (h1 : (v, r.e.wrap c a) ∈ es') (h2 : (ca, iv (r.e.wrap c a).codes) ∈ ss') (h3 : (pa, iv (r.e.wrap c a).places) ∈ ss') : RowOk es' ss' (k + 1) ⟨v, r.e.wrap c a, ca, pa, cc, pc⟩ := by
  obtain ⟨_, _, _, h4, h5, h6⟩ := h
  have hp : 1 ≤ 2 ^ k := Nat.one_le_two_pow
  refine ⟨h1, h2, h3, Er.good_wrap h4 c a, ?_, ?_⟩
  · show (r.e.wrap c a).list.length ≤ 2 ^ (k + 1)
    unfold Er.wrap; split
    · rw [Nat.pow_succ]; omega
    · simp only [Er.list, List.length_cons]; rw [Nat.pow_succ]; omega
  · show (r.e.wrap c a).deep ≤ k + 1
    unfold Er.wrap; split
    · omega
    · simp only [Er.deep]; omega
theorem RowOk.new {es' : List (Value × Er)} {ss' : List (Option Addr × List Value)} (k : Nat) (c a : Int) {v : Value} {ca pa : Option Addr} {cc pc : Nat} (h1 : (v, Er.new c a) ∈ es') (h2 : (ca, iv (Er.new c a).codes) ∈ ss') (h3 : (pa, iv (Er.new c a).places) ∈ ss') : RowOk es' ss' (k + 1) ⟨v, Er.new c a, ca, pa, cc, pc⟩ := by
  have hp : 1 ≤ 2 ^ k := Nat.one_le_two_pow
  refine ⟨h1, h2, h3, Er.good_new c a, ?_, ?_⟩
  · show (Er.new c a).list.length ≤ 2 ^ (k + 1)
    rw [Nat.pow_succ]; unfold Er.new; split <;> simp [Er.list]; omega
  · show (Er.new c a).deep ≤ k + 1
    unfold Er.new; split <;> simp [Er.deep]
theorem RowOk.join {es es' : List (Value × Er)} {ss ss' : List (Option Addr × List Value)} {k : Nat} {r s : Row} (h : RowOk es ss k r) (hs : RowOk es ss k s) {v : Value} {ca pa : Option Addr} {cc pc : Nat} (h1 : (v, Er.join r.e s.e) ∈ es') (h2 : (ca, iv (Er.join r.e s.e).codes) ∈ ss') (h3 : (pa, iv (Er.join r.e s.e).places) ∈ ss') : RowOk es' ss' (k + 1) ⟨v, Er.join r.e s.e, ca, pa, cc, pc⟩ := by
  obtain ⟨_, _, _, h4, h5, h6⟩ := h
  obtain ⟨_, _, _, k4, k5, k6⟩ := hs
  refine ⟨h1, h2, h3, Er.good_join h4 k4, ?_, ?_⟩
  · show (Er.join r.e s.e).list.length ≤ 2 ^ (k + 1)
    rw [Er.list_join, List.length_append, Nat.pow_succ]; omega
  · show (Er.join r.e s.e).deep ≤ k + 1
    rw [Er.deep_join]; omega
/-- The script's acts, as they are read. -/
def ActsR (w : World) (sa : Option Addr) (n : Nat) : Prop := ∀ i : Nat, i < n → ∃ (sb so : Nat) (ak ap aq c a : Int), sa = some ⟨sb, so, none⟩ ∧ Ro w (fun _ => False) sb ∧ -9223372036854775808 ≤ ap ∧ -9223372036854775808 ≤ aq ∧
  ∀ (j : Nat) (u : Value), ([.int .i64 ak, .int .i64 ap, .int .i64 aq, .int .i64 c, .int .i64 a] : List Value)[j]? = some u → w.cell? ⟨sb, so + (i : Int).toNat * 5 + j, none⟩ = some u
theorem pool_start {w0 w : World} {D : Nat → Prop} {c d : Ch} (h : St w0 D [c, d] w) : St w0 D [.pool [] [(.nilIface, .nil)] [(none, [])], d, c] w := by
  have h1 : St w0 D [.pool [] [(.nilIface, .nil)] [(none, [])], c, d] w :=
    ⟨h.os, h.tape, h.output, h.size, h.keep, ⟨fun q hq => by rw [List.mem_singleton] at hq; subst hq; rfl, fun q hq => by rw [List.mem_singleton] at hq; subst hq; exact .inl rfl⟩, fun k hk => (by cases hk), fun c _ k hk => (by cases hk), h.sat⟩
  exact h1.perm (.cons _ (.swap _ _ _))
theorem bok_start (ga ac gt tc : Nat) : BOk ⟨0, 1, ga, ac, gt, tc, [], [(.nilIface, .nil)], [(none, [])], [.nilIface], [.slice none 0 0, .slice none 0 0, .int .i64 0], [⟨.nilIface, .nil, none, none, 0, 0⟩]⟩ :=
  ⟨Nat.le_refl 1, Nat.le_refl 1, rfl, rfl, rfl, fun r hr => by
    rw [List.mem_singleton] at hr; subst hr
    exact ⟨.head _, .head _, .head _, trivial, Nat.zero_le _, Nat.le_refl 0⟩⟩
theorem pow14 {k : Nat} (h : k ≤ 14) : 2 ^ k ≤ 16384 := Nat.le_trans (Nat.pow_le_pow_right (by decide) h) (by decide)
theorem St.cast {w0 w : World} {D : Nat → Prop} {Γ Γ' : List Ch} (h : St w0 D Γ w) (e : Γ = Γ') : St w0 D Γ' w := e ▸ h
end Go.Proofs.YtdlmcgflgdmjgaaDoor
