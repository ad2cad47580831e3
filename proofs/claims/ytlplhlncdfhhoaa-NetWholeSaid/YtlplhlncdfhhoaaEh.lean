/- Net: each call, whether or not there is such a letter. -/
import Derived.Test.YtlplhlncdfhhoaaEg
set_option linter.unusedVariables false
set_option linter.unusedSimpArgs false
namespace Go.Proofs.Ytlplhlncdfhhoaa
open Go.RowKit
def lz : Lr := ⟨0, 0, 0, 0, []⟩
/-- The letter of a number, and 0; or nothing, and 121. -/
def tkv (A : List (Int × Lr)) (n : Int) : Lr × Int := match A.find? (fun q => decide (q.1 = n)) with | some q => (q.2, 0) | none => (lz, 121)
/-- How many are gone when this number is. -/
def ls (A : List (Int × Lr)) (n : Int) : Nat := A.length - (mdel A n).length
def twN (A : List (Int × Lr)) (s : Nat) (n : Int) : (Int × Int) × List (Int × Lr) × Nat := match A.find? (fun q => decide (q.1 = n)) with | some q => snd A s q.2 | none => ((0, 121), A, s)
theorem find_mem {A : List (Int × Lr)} {n : Int} {l : Lr} (h : A.Pairwise fun p q => p.1 < q.1) (hm : (n, l) ∈ A) : A.find? (fun q => decide (q.1 = n)) = some (n, l) := by
  induction h with
  | nil => cases hm
  | cons hh hp ih =>
    rw [List.find?_cons]
    rcases List.mem_cons.1 hm with e | hm
    · rw [← e]; simp
    · have := hh _ hm
      rw [decide_eq_false (by simp only at this; omega)]; exact ih hm
theorem find_no {A : List (Int × Lr)} {n : Int} (h : ∀ q ∈ A, q.1 ≠ n) : A.find? (fun q => decide (q.1 = n)) = none := List.find?_eq_none.2 fun q hq => by simpa using h q hq
theorem mdel_no {A : List (Int × Lr)} {n : Int} (h : ∀ q ∈ A, q.1 ≠ n) : mdel A n = A := List.filter_eq_self.2 fun q hq => by simpa using h q hq
theorem mdel_one {A : List (Int × Lr)} {n : Int} {l : Lr} (h : A.Pairwise fun p q => p.1 < q.1) (hm : (n, l) ∈ A) : (mdel A n).length + 1 = A.length := by
  induction h with
  | nil => cases hm
  | @cons a A hh hp ih =>
    rcases List.mem_cons.1 hm with e | hm
    · have h1 : mdel A n = A := mdel_no fun q hq => by
        have := hh q hq
        rw [← e] at this; simp only at this; omega
      unfold mdel at h1 ⊢
      rw [List.filter_cons_of_neg (by rw [← e]; simp), h1, List.length_cons]
    · have h2 := ih hm
      have := hh _ hm
      unfold mdel at h2 ⊢
      rw [List.filter_cons_of_pos (by simp only at this; simp; omega), List.length_cons, List.length_cons, h2]
theorem mdel_le (A : List (Int × Lr)) (n : Int) : (mdel A n).length ≤ A.length := List.length_filter_le _ _
theorem ls_add (A : List (Int × Lr)) (n : Int) : ls A n + (mdel A n).length = A.length := by have := mdel_le A n; unfold ls; omega
theorem NumOk.tkv {A : List (Int × Lr)} {s : Nat} {n : Int} {l : Lr} (h : NumOk A s) (hm : (n, l) ∈ A) : Go.Proofs.Ytlplhlncdfhhoaa.tkv A n = (l, 0) := by unfold Go.Proofs.Ytlplhlncdfhhoaa.tkv; rw [find_mem h.1 hm]
theorem tkv_no {A : List (Int × Lr)} {n : Int} (h : ∀ q ∈ A, q.1 ≠ n) : tkv A n = (lz, 121) := by unfold tkv; rw [find_no h]
theorem NumOk.ls {A : List (Int × Lr)} {s : Nat} {n : Int} {l : Lr} (h : NumOk A s) (hm : (n, l) ∈ A) : Go.Proofs.Ytlplhlncdfhhoaa.ls A n = 1 := by have := mdel_one h.1 hm; unfold Go.Proofs.Ytlplhlncdfhhoaa.ls; omega
theorem ls_no {A : List (Int × Lr)} {n : Int} (h : ∀ q ∈ A, q.1 ≠ n) : ls A n = 0 := by unfold ls; rw [mdel_no h]; omega
theorem NumOk.twN {A : List (Int × Lr)} {s : Nat} {n : Int} {l : Lr} (h : NumOk A s) (hm : (n, l) ∈ A) : Go.Proofs.Ytlplhlncdfhhoaa.twN A s n = Go.Proofs.Ytlplhlncdfhhoaa.snd A s l := by unfold Go.Proofs.Ytlplhlncdfhhoaa.twN; rw [find_mem h.1 hm]
theorem twN_no {A : List (Int × Lr)} {s : Nat} {n : Int} (h : ∀ q ∈ A, q.1 ≠ n) : twN A s n = ((0, 121), A, s) := by unfold twN; rw [find_no h]
theorem mem_absN {L : List (Int × Ent)} {n : Int} {e : Ent} (h : (n, e) ∈ L) : (n, e.l) ∈ absN L := List.mem_map.2 ⟨_, h, rfl⟩
theorem no_absN {L : List (Int × Ent)} {n : Int} (h : ∀ q ∈ L, q.1 ≠ n) : ∀ q ∈ absN L, q.1 ≠ n := fun q hq => by
  obtain ⟨x, hx, rfl⟩ := List.mem_map.1 hq; exact h x hx
theorem no_absW {W : List Wy} {n : Int} (h : ∀ q ∈ W, q.n ≠ n) : ∀ q ∈ absW W, q.1 ≠ n := fun q hq => by
  obtain ⟨x, hx, rfl⟩ := List.mem_map.1 hq; exact h x hx
theorem wy_or (W : List Wy) (n : Int) : (∃ l, (n, l) ∈ absW W) ∨ ∀ q ∈ W, q.n ≠ n := by
  by_cases h : ∃ l, (n, l) ∈ absW W
  · exact .inl h
  · exact .inr fun q hq e => h ⟨q.l, List.mem_map.2 ⟨q, hq, by rw [e]⟩⟩
/-- Send that sends, that does not. -/
theorem snd_or (A : List (Int × Lr)) (s : Nat) (l : Lr) : snd A s l = (((s : Int), 0), A ++ [((s : Int), l)], s + 1) ∧ rightL l = true ∧ A.length < 1024 ∨ snd A s l = ((0, 62), A, s) ∧ rightL l = true ∧ 1024 ≤ A.length ∨ snd A s l = ((0, 111), A, s) ∧ rightL l = false := by
  cases h : rightL l with
  | false => exact .inr (.inr ⟨snd_no h, rfl⟩)
  | true =>
    by_cases hf : A.length < 1024
    · exact .inl ⟨snd_ok h hf, rfl, hf⟩
    · exact .inr (.inl ⟨snd_full h (by omega), rfl, by omega⟩)
theorem snd_yes {A A' : List (Int × Lr)} {s s' : Nat} {l : Lr} {a b : Int} (h : snd A s l = ((a, b), A', s')) (hb : b = 0) : a = ((s : Nat) : Int) ∧ s' = s + 1 ∧ A' = A ++ [(((s : Nat) : Int), l)] ∧ rightL l = true ∧ A'.length = A.length + 1 := by
  rcases snd_or A s l with ⟨e, h1, _⟩ | ⟨e, _⟩ | ⟨e, _⟩ <;> rw [e] at h <;> injection h with h2 h3 <;> injection h2 with h4 h5 <;> injection h3 with h6 h7
  · exact ⟨h4.symm, h7.symm, h6.symm, h1, by rw [← h6, List.length_append]; rfl⟩
  · omega
  · omega
theorem snd_non {A A' : List (Int × Lr)} {s s' : Nat} {l : Lr} {a b : Int} (h : snd A s l = ((a, b), A', s')) (hb : ¬b = 0) : A' = A ∧ s' = s := by
  rcases snd_or A s l with ⟨e, h1, _⟩ | ⟨e, _⟩ | ⟨e, _⟩ <;> rw [e] at h <;> injection h with h2 h3 <;> injection h2 with h4 h5 <;> injection h3 with h6 h7
  · omega
  · exact ⟨h6.symm, h7.symm⟩
  · exact ⟨h6.symm, h7.symm⟩
theorem snd_grow {A A' : List (Int × Lr)} {s s' : Nat} {l : Lr} {c : Int × Int} (h : snd A s l = (c, A', s')) : s' ≤ s + 1 ∧ s' + A.length = s + A'.length ∧ ∀ q ∈ A', q ∈ A ∨ q = (((s : Nat) : Int), l) := by
  rcases snd_or A s l with ⟨e, h1, _⟩ | ⟨e, _⟩ | ⟨e, _⟩ <;> rw [e] at h <;> injection h with h2 h3 <;> injection h3 with h6 h7 <;> subst h6 h7
  · exact ⟨by omega, by rw [List.length_append]; show s + 1 + A.length = s + (A.length + 1); omega, fun q hq => (List.mem_append.1 hq).imp id fun h => List.mem_singleton.1 h⟩
  · exact ⟨by omega, rfl, fun q hq => .inl hq⟩
  · exact ⟨by omega, rfl, fun q hq => .inl hq⟩
theorem NumOk.snd' {A A' : List (Int × Lr)} {s s' : Nat} {l : Lr} {c : Int × Int} (hn : NumOk A s) (h : Go.Proofs.Ytlplhlncdfhhoaa.snd A s l = (c, A', s')) : NumOk A' s' := by have := hn.snd l; rw [h] at this; exact this
theorem twN_or {A : List (Int × Lr)} {s : Nat} (hn : NumOk A s) (n : Int) : (∃ l, (n, l) ∈ A ∧ twN A s n = snd A s l) ∨ (∀ q ∈ A, q.1 ≠ n) ∧ twN A s n = ((0, 121), A, s) := by
  by_cases h : ∃ l, (n, l) ∈ A
  · obtain ⟨l, hl⟩ := h; exact .inl ⟨l, hl, hn.twN hl⟩
  · have hq : ∀ q ∈ A, q.1 ≠ n := fun q hq e => h ⟨q.2, by rw [← e]; exact hq⟩
    exact .inr ⟨hq, twN_no hq⟩
theorem tw_yes {A A' : List (Int × Lr)} {s s' : Nat} {n : Int} {a b : Int} (hn : NumOk A s) (h : twN A s n = ((a, b), A', s')) (hb : b = 0) : ∃ l, (n, l) ∈ A ∧ a = ((s : Nat) : Int) ∧ s' = s + 1 ∧ A' = A ++ [(((s : Nat) : Int), l)] ∧ A'.length = A.length + 1 := by
  rcases twN_or hn n with ⟨l, hl, e⟩ | ⟨_, e⟩ <;> rw [e] at h
  · obtain ⟨h1, h2, h3, _, h5⟩ := snd_yes h hb; exact ⟨l, hl, h1, h2, h3, h5⟩
  · injection h with h _; injection h with _ h; omega
theorem tw_non {A A' : List (Int × Lr)} {s s' : Nat} {n : Int} {a b : Int} (hn : NumOk A s) (h : twN A s n = ((a, b), A', s')) (hb : ¬b = 0) : A' = A ∧ s' = s := by
  rcases twN_or hn n with ⟨l, hl, e⟩ | ⟨_, e⟩ <;> rw [e] at h
  · exact snd_non h hb
  · injection h with _ h; injection h with h1 h2; exact ⟨h1.symm, h2.symm⟩
theorem tw_grow {A A' : List (Int × Lr)} {s s' : Nat} {n : Int} {c : Int × Int} (hn : NumOk A s) (h : twN A s n = (c, A', s')) : s' ≤ s + 1 ∧ s' + A.length = s + A'.length ∧ NumOk A' s' := by
  rcases twN_or hn n with ⟨l, hl, e⟩ | ⟨_, e⟩ <;> rw [e] at h
  · obtain ⟨h1, h2, _⟩ := snd_grow h; exact ⟨h1, h2, hn.snd' h⟩
  · injection h with _ h; injection h with h1 h2; subst h1 h2; exact ⟨by omega, rfl, hn⟩
abbrev NG (k mb s t o : Nat) (L : List (Int × Ent)) (g : Gh) : List Ch := [.blk k (ntO mb s t o), .mp (.int .i64) mb (List.map nc L), .fz g]
abbrev RGG (r : Nat) (ad : Option Addr) (cap s t o : Nat) (W : List Wy) (g : Gh) : List Ch := [.blk r (rtO ad W.length cap s t o), .ow 54 6 ad W.length cap (List.flatMap wc W), .fz g]
theorem absN_no {L : List (Int × Ent)} {n : Int} (h : ∀ q ∈ L, q.1 ≠ n) : mdel L n = L := List.filter_eq_self.2 fun q hq => by simpa using h q hq
section
variable (k mb s t o : Nat) (L : List (Int × Ent)) (g : Gh) (hE : EOk g L) (hn : NumOk (absN L) s)
include hE hn
theorem send_any (hs1 : s ≤ 1000000) (l : Lr) (n : Nat) (hnl : l.nd.length = n) (hm : n ≤ 2000000) (an : Option Addr) (cn : Nat) (w : World) (g2 : Gh) (hg2 : Rog (NG k mb s t o L g) w g2) (hG : SlG g2 an (iv l.nd)) (hS : St w (owns (NG k mb s t o L g)) (NG k mb s t o L g) w) :
    Calls Try.prog 10 #[pV k, .agg #[.int .i64 l.k, .int .i64 l.f, .int .i64 l.t, .int .i64 l.x, .slice an n cn]] w (Post w (NG k mb s t o L g) fun v G => ∃ a b L' s' g', v = .tuple #[.int .i64 a, .int .i64 b] ∧ G = NG k mb s' t o L' g' ∧ Gle g g' ∧ EOk g' L' ∧ snd (absN L) s l = ((a, b), absN L', s')) :=
  (send_ok k mb s t o L g hE hn hs1 l n hnl hm an cn w g2 hg2 hG hS).mono fun _ w' ⟨v, G, he, ⟨L', s', g', h1, h2, h3, h4, h5⟩, hS⟩ => ⟨v, G, he, ⟨_, _, L', s', g', h1, h2, h3, h4, by rw [← h5]⟩, hS⟩
theorem twice_any (hs1 : s ≤ 1000000) (n : Int) (w : World) (hS : St w (owns (NG k mb s t o L g)) (NG k mb s t o L g) w) :
    Calls Try.prog 12 #[pV k, .int .i64 n] w (Post w (NG k mb s t o L g) fun v G => ∃ a b L' s' g', v = .tuple #[.int .i64 a, .int .i64 b] ∧ G = NG k mb s' t o L' g' ∧ Gle g g' ∧ EOk g' L' ∧ twN (absN L) s n = ((a, b), absN L', s')) := by
  rcases key_or L n with ⟨e, he⟩ | hno
  · refine (twice_hit k mb s t o L g hE hn hs1 n e he w hS).mono ?_
    rintro _ w' ⟨v, G, hv, ⟨L', s', g', h1, h2, h3, h4, h5⟩, hS⟩
    exact ⟨v, G, hv, ⟨_, _, L', s', g', h1, h2, h3, h4, by rw [hn.twN (mem_absN he), ← h5]⟩, hS⟩
  · refine (twice_miss k mb s t o L g hE n hno w hS).mono ?_
    rintro _ w' ⟨v, G, hv, ⟨h1, h2⟩, hS⟩
    exact ⟨v, G, hv, ⟨_, _, L, s, g, h1, h2, Gle.refl _, hE, twN_no (no_absN hno)⟩, hS⟩
theorem take_any (ht : t ≤ 1000000) (n : Int) (w : World) (hS : St w (owns (NG k mb s t o L g)) (NG k mb s t o L g) w) :
    Calls Try.prog 14 #[pV k, .int .i64 n] w (Post w (NG k mb s t o L g) fun v G => ∃ l b an cn, v = .tuple #[.agg (LV l an cn).toArray, .int .i64 b] ∧ G = NG k mb s (t + ls (absN L) n) o (mdel L n) g ++ [.ow 3 1 an l.nd.length cn (iv l.nd)] ∧ tkv (absN L) n = (l, b)) := by
  rcases key_or L n with ⟨e, he⟩ | hno
  · refine (take_hit k mb s t o L g hE ht n e he w hS).mono ?_
    rintro _ w' ⟨v, G, hv, ⟨an, cn, h1, h2⟩, hS⟩
    exact ⟨v, G, hv, ⟨e.l, 0, an, cn, h1, by rw [h2, hn.ls (mem_absN he)]; rfl, hn.tkv (mem_absN he)⟩, hS⟩
  · refine (take_miss k mb s t o L g hE n hno w hS).mono ?_
    rintro _ w' ⟨v, G, hv, ⟨h1, h2⟩, hS⟩
    subst h2
    have hS2 := (hS.ow_nil 3 1).fr3.fr3.fr3
    exact ⟨v, _, hv, ⟨lz, 121, none, 0, h1, by rw [ls_no (no_absN hno), absN_no hno]; rfl, tkv_no (no_absN hno)⟩, hS2⟩
theorem lose_any (ho : o ≤ 1000000) (n : Int) (w : World) (hS : St w (owns (NG k mb s t o L g)) (NG k mb s t o L g) w) :
    Calls Try.prog 13 #[pV k, .int .i64 n] w (Post w (NG k mb s t o L g) fun v G => ∃ b, v = .int .i64 b ∧ G = NG k mb s t (o + ls (absN L) n) (mdel L n) g ∧ (tkv (absN L) n).2 = b) := by
  rcases key_or L n with ⟨e, he⟩ | hno
  · refine (lose_hit k mb s t o L g hE ho n e he w hS).mono ?_
    rintro _ w' ⟨v, G, hv, ⟨h1, h2⟩, hS⟩
    exact ⟨v, G, hv, ⟨0, h1, by rw [h2, hn.ls (mem_absN he)], by rw [hn.tkv (mem_absN he)]⟩, hS⟩
  · refine (lose_miss k mb s t o L g hE n hno w hS).mono ?_
    rintro _ w' ⟨v, G, hv, ⟨h1, h2⟩, hS⟩
    exact ⟨v, G, hv, ⟨121, h1, by rw [h2, ls_no (no_absN hno), absN_no hno]; rfl, by rw [tkv_no (no_absN hno)]⟩, hS⟩
end
theorem look_any (k mb s t o : Nat) (L : List (Int × Ent)) (hn : NumOk (absN L) s) (n : Int) (w : World) (hk : w.heap[k]? = some (ntO mb s t o)) (hM : MapSat (.int .i64) mb (List.map nc L) w) (hE : EOk (hw w) L) :
    Calls Try.prog 16 #[pV k, .int .i64 n] w (PostN w fun v G => ∃ l b an cn, v = .tuple #[.agg (LV l an cn).toArray, .int .i64 b] ∧ G = [.ow 3 1 an l.nd.length cn (iv l.nd)] ∧ tkv (absN L) n = (l, b)) := by
  rcases key_or L n with ⟨e, he⟩ | hno
  · refine (look_hit_ok k mb s t o L n e he w hk hM hE).mono ?_
    rintro _ w' ⟨v, G, hv, ⟨an, cn, h1, h2⟩, hS⟩
    exact ⟨v, G, hv, ⟨e.l, 0, an, cn, h1, h2, hn.tkv (mem_absN he)⟩, hS⟩
  · refine (look_miss_ok k mb s t o L n hno w hk hM hE).mono ?_
    rintro _ w' ⟨v, hv, h1, hS⟩
    exact ⟨v, _, hv, ⟨lz, 121, none, 0, h1, rfl, tkv_no (no_absN hno)⟩, hS.ow_nil 3 1⟩
section
variable (r : Nat) (ad : Option Addr) (cap s t o : Nat) (W : List Wy) (g : Gh) (hW : WOk g W) (hwl : W.length ≤ 2000000) (hn : NumOk (absW W) s)
include hW hwl
theorem rsend_any (hs1 : s ≤ 1000000) (l : Lr) (n : Nat) (hnl : l.nd.length = n) (hm : n ≤ 2000000) (an : Option Addr) (cn : Nat) (w : World) (g2 : Gh) (hg2 : Rog (RGG r ad cap s t o W g) w g2) (hG : SlG g2 an (iv l.nd)) (hS : St w (owns (RGG r ad cap s t o W g)) (RGG r ad cap s t o W g) w) :
    Calls Try.prog 20 #[pV r, .agg #[.int .i64 l.k, .int .i64 l.f, .int .i64 l.t, .int .i64 l.x, .slice an n cn]] w (Post w (RGG r ad cap s t o W g) fun v G => ∃ a b W' s' g' ad' cap', v = .tuple #[.int .i64 a, .int .i64 b] ∧ G = RGG r ad' cap' s' t o W' g' ∧ Gle g g' ∧ WOk g' W' ∧ snd (absW W) s l = ((a, b), absW W', s')) :=
  (rsend_ok r ad cap s t o W g hW hwl hs1 l n hnl hm an cn w g2 hg2 hG hS).mono fun _ w' ⟨v, G, he, ⟨W', s', g', ad', cap', h1, h2, h3, h4, h5⟩, hS⟩ => ⟨v, G, he, ⟨_, _, W', s', g', ad', cap', h1, h2, h3, h4, by rw [← h5]⟩, hS⟩
include hn
theorem rtwice_any (hs1 : s ≤ 1000000) (n : Int) (w : World) (hS : St w (owns (RGG r ad cap s t o W g)) (RGG r ad cap s t o W g) w) :
    Calls Try.prog 23 #[pV r, .int .i64 n] w (Post w (RGG r ad cap s t o W g) fun v G => ∃ a b W' s' g' ad' cap', v = .tuple #[.int .i64 a, .int .i64 b] ∧ G = RGG r ad' cap' s' t o W' g' ∧ Gle g g' ∧ WOk g' W' ∧ twN (absW W) s n = ((a, b), absW W', s')) := by
  rcases wy_or W n with ⟨l, hl⟩ | hno
  · obtain ⟨A, q, B, rfl, h1, h2, h3⟩ := mid_num hn hl
    refine (rtwice_hit r ad cap s t o n A q B h1 h3 g hW hwl hs1 w hS).mono ?_
    rintro _ w' ⟨v, G, hv, ⟨W', s', g', ad', cap', e1, e2, e3, e4, e5⟩, hS⟩
    exact ⟨v, G, hv, ⟨_, _, W', s', g', ad', cap', e1, e2, e3, e4, by rw [hn.twN hl, ← h2, ← e5]⟩, hS⟩
  · refine (rtwice_miss r ad cap s t o W g hwl n hno w hS).mono ?_
    rintro _ w' ⟨v, G, hv, ⟨h1, h2⟩, hS⟩
    exact ⟨v, G, hv, ⟨_, _, W, s, g, ad, cap, h1, h2, Gle.refl _, hW, twN_no (no_absW hno)⟩, hS⟩
theorem rtake_any (ht : t ≤ 1000000) (n : Int) (w : World) (hS : St w (owns (RGG r ad cap s t o W g)) (RGG r ad cap s t o W g) w) :
    Calls Try.prog 22 #[pV r, .int .i64 n] w (Post w (RGG r ad cap s t o W g) fun v G => ∃ W' ad' cap', G = RGG r ad' cap' s (t + ls (absW W) n) o W' g ∧ WOk g W' ∧ absW W' = mdel (absW W) n) := by
  rcases wy_or W n with ⟨l, hl⟩ | hno
  · obtain ⟨A, q, B, rfl, h1, h2, h3⟩ := mid_num hn hl
    refine (rtake_hit r ad cap s t o n A q B h1 h3 g hW hwl ht w hS).mono ?_
    rintro _ w' ⟨v, G, hv, ⟨ad', cap', _, e2⟩, hS⟩
    exact ⟨v, G, hv, ⟨A ++ B, ad', cap', by rw [e2, hn.ls hl], hW.sub fun x hx => by (rcases List.mem_append.1 hx with h | h <;> simp [h]), by rw [← h1, mdel_mid hn]⟩, hS⟩
  · refine (rtake_miss r ad cap s t o W g hwl n hno w hS).mono ?_
    rintro _ w' ⟨v, G, hv, ⟨h1, h2⟩, hS⟩
    exact ⟨v, G, hv, ⟨W, ad, cap, by rw [h2, ls_no (no_absW hno)]; rfl, hW, (mdel_no (no_absW hno)).symm⟩, hS⟩
theorem rlose_any (ho : o ≤ 1000000) (n : Int) (w : World) (hS : St w (owns (RGG r ad cap s t o W g)) (RGG r ad cap s t o W g) w) :
    Calls Try.prog 24 #[pV r, .int .i64 n] w (Post w (RGG r ad cap s t o W g) fun v G => ∃ b W' ad' cap', v = .int .i64 b ∧ G = RGG r ad' cap' s t (o + ls (absW W) n) W' g ∧ WOk g W' ∧ absW W' = mdel (absW W) n ∧ (tkv (absW W) n).2 = b) := by
  rcases wy_or W n with ⟨l, hl⟩ | hno
  · obtain ⟨A, q, B, rfl, h1, h2, h3⟩ := mid_num hn hl
    refine (rlose_hit r ad cap s t o n A q B h1 h3 g hW hwl ho w hS).mono ?_
    rintro _ w' ⟨v, G, hv, ⟨ad', cap', e1, e2⟩, hS⟩
    exact ⟨v, G, hv, ⟨0, A ++ B, ad', cap', e1, by rw [e2, hn.ls hl], hW.sub fun x hx => by (rcases List.mem_append.1 hx with h | h <;> simp [h]), by rw [← h1, mdel_mid hn], by rw [hn.tkv hl]⟩, hS⟩
  · refine (rlose_miss r ad cap s t o W g hwl n hno w hS).mono ?_
    rintro _ w' ⟨v, G, hv, ⟨h1, h2⟩, hS⟩
    exact ⟨v, G, hv, ⟨121, W, ad, cap, h1, by rw [h2, ls_no (no_absW hno)]; rfl, hW, (mdel_no (no_absW hno)).symm, by rw [tkv_no (no_absW hno)]⟩, hS⟩
end

end Go.Proofs.Ytlplhlncdfhhoaa
