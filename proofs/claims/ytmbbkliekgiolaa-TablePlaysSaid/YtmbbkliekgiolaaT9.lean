/- Package table: pages taken out and put back; inserts and deletes at a place; the plain law of Put and Drop. -/
import Derived.Test.YtmbbkliekgiolaaT6
import Derived.Test.YtmbbkliekgiolaaT7
import Derived.Test.YtmbbkliekgiolaaT8
set_option linter.unusedVariables false
set_option linter.unusedSimpArgs false
namespace Go.Proofs.Ytmbbkliekgiolaa
open Go.RowKit
section
variable {w0 w : World} {D : Nat → Prop} {Γ : List Ch} {k cap m sz : Nat} {ad : Option Addr} {ps A B : List Pg} {p : Pg} {es : List En} {xs : List Value} {Δ : List Ch}
theorem tb_take {pad : Option Addr} {pcap : Nat} (h : St w0 D (.pk ((A ++ Pg.mk pad pcap es :: B).map pgc) :: Γ) w) : St w0 D (.ow 41 2 pad es.length pcap (List.flatMap en es) :: .pk (A.map pgc ++ B.map pgc) :: Γ) w := by
  rw [List.map_append, List.map_cons] at h
  exact h.pkTake
theorem tb_put (h : St w0 D (.ow 41 2 ad m cap xs :: .pk (A.map pgc ++ B.map pgc) :: Γ) w) (hm : m = es.length) (hx : xs = List.flatMap en es) : St w0 D (.pk (A.map pgc ++ (Pg.mk ad cap es :: B).map pgc) :: Γ) w := by
  subst hm hx
  rw [List.map_cons]
  exact h.pkPut
theorem tb_shut (h : St w0 D (.blk k (tO ad m cap sz) :: .ow 111 1 ad m cap xs :: .pk Δ :: Γ) w) (hm : m = ps.length) (hs : sz = (flat ps).length) (hr : xs = List.flatMap pg ps) (hd : Δ = ps.map pgc) : St w0 D (tb k ad cap ps :: Γ) w := by
  subst hm hs hr hd; exact tb_close h
end
section
variable {E1 E2 : List En} {A B : List Pg} {n i cap c2 : Nat} {ad ad2 : Option Addr} {w : World}
theorem insE1 (e : En) (hn : (E1 ++ E2).length = n) (hi : E1.length = i) (hnm : n ≤ 100000) (g : Gh) (hZ : SlP g ad2 (List.flatMap en [e])) (hg : Rog [.ow 41 2 ad n cap (List.flatMap en (E1 ++ E2))] w g) (hS : St w (owns [.ow 41 2 ad n cap (List.flatMap en (E1 ++ E2))]) [.ow 41 2 ad n cap (List.flatMap en (E1 ++ E2))] w) :
    Calls Try.prog 64 #[.slice ad n cap, .int .i64 ((i : Nat) : Int), .slice ad2 1 c2] w (Post w [.ow 41 2 ad n cap (List.flatMap en (E1 ++ E2))] fun v G => ∃ ad' cap', v = .slice ad' (E1 ++ e :: E2).length cap' ∧ G = [.ow 41 2 ad' (E1 ++ e :: E2).length cap' (List.flatMap en (E1 ++ e :: E2))]) := by
  have h := insE n i 1 cap c2 ad ad2 _ _ (rows_one en_ones) (rows_one en_ones) (by rw [← hn, ← hi, List.length_append]; omega) rfl (by omega) g hZ w hg hS
  have h1 : (List.flatMap en (E1 ++ E2)).take (i * 2) ++ List.flatMap en [e] ++ (List.flatMap en (E1 ++ E2)).drop (i * 2) = List.flatMap en (E1 ++ e :: E2) := by
    rw [rows_take (c := en) (m := 2) (fun _ => rfl), rows_drop (c := en) (m := 2) (fun _ => rfl), ← hi, List.take_left' rfl, List.drop_left' rfl, rows_app, rows_app, List.append_assoc]; rfl
  have h2 : (E1 ++ e :: E2).length = n + 1 := by rw [← hn]; simp; omega
  rw [h1, ← h2] at h
  exact h
theorem delE1 (a : En) (hn : (E1 ++ a :: E2).length = n) (hi : E1.length = i) (hnm : n ≤ 100000) (hS : St w (owns [.ow 41 2 ad n cap (List.flatMap en (E1 ++ a :: E2))]) [.ow 41 2 ad n cap (List.flatMap en (E1 ++ a :: E2))] w) :
    Calls Try.prog 67 #[.slice ad n cap, .int .i64 ((i : Nat) : Int), .int .i64 (((i : Nat) : Int) + 1)] w (Post w [.ow 41 2 ad n cap (List.flatMap en (E1 ++ a :: E2))] fun v G => v = .slice ad (E1 ++ E2).length cap ∧ G = [.ow 41 2 ad (E1 ++ E2).length cap (List.flatMap en (E1 ++ E2))]) := by
  have h := delE n i cap ad _ (rows_one en_ones) (by rw [← hn, ← hi, List.length_append, List.length_cons]; omega) (by omega) w hS
  have h1 : (List.flatMap en (E1 ++ a :: E2)).take (i * 2) ++ (List.flatMap en (E1 ++ a :: E2)).drop ((i + 1) * 2) = List.flatMap en (E1 ++ E2) := by
    rw [rows_take (c := en) (m := 2) (fun _ => rfl), rows_drop (c := en) (m := 2) (fun _ => rfl), ← hi, List.take_left' rfl, ← List.drop_drop, List.drop_left' rfl, List.drop_one, List.tail_cons, rows_app]
  have h2 : (E1 ++ E2).length = n - 1 := by rw [← hn]; simp
  rw [h1, ← h2] at h
  exact h
theorem insP1 (p : Pg) (hn : (A ++ B).length = n) (hi : A.length = i) (hnm : n ≤ 1000000) (g : Gh) (hZ : SlP g ad2 (List.flatMap pg [p])) (hg : Rog [.ow 111 1 ad n cap (List.flatMap pg (A ++ B))] w g) (hS : St w (owns [.ow 111 1 ad n cap (List.flatMap pg (A ++ B))]) [.ow 111 1 ad n cap (List.flatMap pg (A ++ B))] w) :
    Calls Try.prog 65 #[.slice ad n cap, .int .i64 ((i : Nat) : Int), .slice ad2 1 c2] w (Post w [.ow 111 1 ad n cap (List.flatMap pg (A ++ B))] fun v G => ∃ ad' cap', v = .slice ad' (A ++ p :: B).length cap' ∧ G = [.ow 111 1 ad' (A ++ p :: B).length cap' (List.flatMap pg (A ++ p :: B))]) := by
  have h := insP n i 1 cap c2 ad ad2 _ _ (rows_one pg_ones) (rows_one pg_ones) (by rw [← hn, ← hi, List.length_append]; omega) rfl (by omega) g hZ w hg hS
  have h1 : (List.flatMap pg (A ++ B)).take (i * 1) ++ List.flatMap pg [p] ++ (List.flatMap pg (A ++ B)).drop (i * 1) = List.flatMap pg (A ++ p :: B) := by
    rw [rows_take (c := pg) (m := 1) (fun _ => rfl), rows_drop (c := pg) (m := 1) (fun _ => rfl), ← hi, List.take_left' rfl, List.drop_left' rfl, rows_app, rows_app, List.append_assoc]; rfl
  have h2 : (A ++ p :: B).length = n + 1 := by rw [← hn]; simp; omega
  rw [h1, ← h2] at h
  exact h
theorem delP1 (p : Pg) (hn : (A ++ p :: B).length = n) (hi : A.length = i) (hnm : n ≤ 1000000) (hS : St w (owns [.ow 111 1 ad n cap (List.flatMap pg (A ++ p :: B))]) [.ow 111 1 ad n cap (List.flatMap pg (A ++ p :: B))] w) :
    Calls Try.prog 68 #[.slice ad n cap, .int .i64 ((i : Nat) : Int), .int .i64 (((i : Nat) : Int) + 1)] w (Post w [.ow 111 1 ad n cap (List.flatMap pg (A ++ p :: B))] fun v G => v = .slice ad (A ++ B).length cap ∧ G = [.ow 111 1 ad (A ++ B).length cap (List.flatMap pg (A ++ B))]) := by
  have h := delP n i cap ad _ (rows_one pg_ones) (by rw [← hn, ← hi, List.length_append, List.length_cons]; omega) (by omega) w hS
  have h1 : (List.flatMap pg (A ++ p :: B)).take (i * 1) ++ (List.flatMap pg (A ++ p :: B)).drop ((i + 1) * 1) = List.flatMap pg (A ++ B) := by
    rw [rows_take (c := pg) (m := 1) (fun _ => rfl), rows_drop (c := pg) (m := 1) (fun _ => rfl), ← hi, List.take_left' rfl, ← List.drop_drop, List.drop_left' rfl, List.drop_one, List.tail_cons, rows_app]
  have h2 : (A ++ B).length = n - 1 := by rw [← hn]; simp
  rw [h1, ← h2] at h
  exact h
end
/-! ### the plain law -/
theorem ab_flat {ps : List Pg} {A B : List Pg} {L : List En} (h : flat ps = flat A ++ L ++ flat B) : ab ps = (ab A ++ L.map En.kv) ++ ab B := by
  unfold ab; rw [h, List.map_append, List.map_append]
section
variable {g : Gh} {ps ps' A B : List Pg} {E1 E2 : List En} {a e : En} {key r : List Nat}
theorem put_yes (h : flat ps = flat A ++ (E1 ++ a :: E2) ++ flat B) (h' : flat ps' = flat A ++ (E1 ++ e :: E2) ++ flat B) (hc : Cut (ab A ++ E1.map En.kv) (a.kv :: (E2.map En.kv ++ ab B)) key) (ha : a.kb = key) (he : e.kv = (key, r)) :
    ab ps' = putA (ab ps) key r ∧ getA (ab ps) key = some a.rb := by
  rw [ab_flat h, ab_flat h', List.map_append, List.map_append, List.map_cons, List.map_cons, he]
  have e1 : a.kv = (key, a.rb) := by rw [← ha]; rfl
  rw [e1] at hc ⊢
  have h1 := hc.put_old (r := r)
  have h2 := hc.get_yes
  simp only [List.append_assoc, List.cons_append] at h1 h2 ⊢
  exact ⟨h1.symm, h2⟩
theorem put_no (h : flat ps = flat A ++ (E1 ++ E2) ++ flat B) (h' : flat ps' = flat A ++ (E1 ++ e :: E2) ++ flat B) (hc : Cut (ab A ++ E1.map En.kv) (E2.map En.kv ++ ab B) key) (hn : ∀ c ∈ (E2.map En.kv ++ ab B).head?, c.1 ≠ key) (he : e.kv = (key, r)) :
    ab ps' = putA (ab ps) key r := by
  rw [ab_flat h, ab_flat h', List.map_append, List.map_append, List.map_cons, he]
  have h1 := hc.put_new (r := r) hn
  simp only [List.append_assoc, List.cons_append] at h1 ⊢
  exact h1.symm
theorem drop_yes (h : flat ps = flat A ++ (E1 ++ a :: E2) ++ flat B) (h' : flat ps' = flat A ++ (E1 ++ E2) ++ flat B) (hc : Cut (ab A ++ E1.map En.kv) (a.kv :: (E2.map En.kv ++ ab B)) key) (ha : a.kb = key) :
    ab ps' = dropA (ab ps) key ∧ getA (ab ps) key = some a.rb := by
  rw [ab_flat h, ab_flat h', List.map_append, List.map_append, List.map_cons]
  have e1 : a.kv = (key, a.rb) := by rw [← ha]; rfl
  rw [e1] at hc ⊢
  have h1 := hc.drop_yes
  have h2 := hc.get_yes
  simp only [List.append_assoc, List.cons_append] at h1 h2 ⊢
  exact ⟨h1.symm, h2⟩
theorem ent_in (h : ∀ x ∈ flat A ++ (E1 ++ E2) ++ flat B, EOk g x) (he : EOk g e) : ∀ x ∈ flat A ++ (E1 ++ e :: E2) ++ flat B, EOk g x := by
  intro x hx
  simp only [List.mem_append, List.mem_cons] at hx h
  rcases hx with (hx | hx | rfl | hx) | hx
  · exact h x (.inl (.inl hx))
  · exact h x (.inl (.inr (.inl hx)))
  · exact he
  · exact h x (.inl (.inr (.inr hx)))
  · exact h x (.inr hx)
theorem ent_out (h : ∀ x ∈ flat A ++ (E1 ++ a :: E2) ++ flat B, EOk g x) : ∀ x ∈ flat A ++ (E1 ++ E2) ++ flat B, EOk g x := by
  intro x hx
  refine h x ?_
  simp only [List.mem_append, List.mem_cons] at hx ⊢
  rcases hx with (hx | hx | hx) | hx
  · exact .inl (.inl hx)
  · exact .inl (.inr (.inl hx))
  · exact .inl (.inr (.inr (.inr hx)))
  · exact .inr hx
theorem flat_mid {ad : Option Addr} {cap : Nat} {es : List En} : flat (A ++ Pg.mk ad cap es :: B) = flat A ++ es ++ flat B := by rw [flat_app, flat_cons, List.append_assoc]
theorem few_mid {ad ad' : Option Addr} {cap cap' : Nat} {es es' : List En} (h : ∀ p ∈ A ++ Pg.mk ad cap es :: B, 0 < p.es.length ∧ p.es.length ≤ 16) (he : 0 < es'.length ∧ es'.length ≤ 16) : ∀ p ∈ A ++ Pg.mk ad' cap' es' :: B, 0 < p.es.length ∧ p.es.length ≤ 16 := by
  intro p hp
  rcases List.mem_append.1 hp with hp | hp
  · exact h p (List.mem_append_left _ hp)
  · cases hp with
    | head => exact he
    | tail _ hp => exact h p (List.mem_append_right _ (.tail _ hp))
theorem few_mid2 {ad ad' ad2 : Option Addr} {cap cap' cap2 : Nat} {es es' es2 : List En} (h : ∀ p ∈ A ++ Pg.mk ad cap es :: B, 0 < p.es.length ∧ p.es.length ≤ 16) (he : 0 < es'.length ∧ es'.length ≤ 16) (he2 : 0 < es2.length ∧ es2.length ≤ 16) : ∀ p ∈ A ++ Pg.mk ad' cap' es' :: Pg.mk ad2 cap2 es2 :: B, 0 < p.es.length ∧ p.es.length ≤ 16 := by
  intro p hp
  rcases List.mem_append.1 hp with hp | hp
  · exact h p (List.mem_append_left _ hp)
  · cases hp with
    | head => exact he
    | tail _ hp =>
      cases hp with
      | head => exact he2
      | tail _ hp => exact h p (List.mem_append_right _ (.tail _ hp))
theorem few_no {ad : Option Addr} {cap : Nat} {es : List En} (h : ∀ p ∈ A ++ Pg.mk ad cap es :: B, 0 < p.es.length ∧ p.es.length ≤ 16) : ∀ p ∈ A ++ B, 0 < p.es.length ∧ p.es.length ≤ 16 := by
  intro p hp
  rcases List.mem_append.1 hp with hp | hp
  · exact h p (List.mem_append_left _ hp)
  · exact h p (List.mem_append_right _ (.tail _ hp))
theorem TOk.put (hT : TOk g ps) (hab : ab ps' = putA (ab ps) key r) (hf : ∀ p ∈ ps', 0 < p.es.length ∧ p.es.length ≤ 16) (he : ∀ x ∈ flat ps', EOk g x) : TOk g ps' := ⟨⟨hf, by rw [hab]; exact hT.pok.srt.put _ _⟩, he⟩
theorem TOk.drop (hT : TOk g ps) (hab : ab ps' = dropA (ab ps) key) (hf : ∀ p ∈ ps', 0 < p.es.length ∧ p.es.length ≤ 16) (he : ∀ x ∈ flat ps', EOk g x) : TOk g ps' := ⟨⟨hf, by rw [hab]; exact hT.pok.srt.drop _⟩, he⟩
end
theorem getA_nil {key : List Nat} : getA (ab []) key = none := rfl
theorem putA_nil {key row : List Nat} : putA (ab []) key row = [(key, row)] := rfl
/-- What an old row is. -/
def OldR (g : Gh) (L : List KV) (key : List Nat) (oa : Option Addr) (on : Nat) : Prop := on = ((getA L key).getD []).length ∧ SlG g oa (bv ((getA L key).getD [])) ∧ Bytes ((getA L key).getD []) ∧ on ≤ 1000000
theorem OldR.no {g : Gh} {L : List KV} {key : List Nat} (h : getA L key = none) : OldR g L key none 0 := by
  unfold OldR; rw [h]; exact ⟨rfl, SlG.nil, Bytes.nil, by decide⟩
theorem OldR.yes {g : Gh} {L : List KV} {a : En} (h : getA L a.kb = some a.rb) (ha : EOk g a) : OldR g L a.kb a.ra a.rb.length := by
  unfold OldR; rw [h]; exact ⟨rfl, ha.1.2.2.1, ha.1.2.2.2, ha.2.2⟩
end Go.Proofs.Ytmbbkliekgiolaa
