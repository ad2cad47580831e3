/- The catalog's plain law: names, tables that are right, parts. -/
import Derived.Test.YtmemgpcgjephmaaGreatDoorK8
set_option linter.unusedVariables false
set_option linter.unusedSimpArgs false
namespace Go.Proofs.YtmemgpcgjephmaaGreatDoor
open Go.RowKit
/-- A column: its name, its kind, whether it must be there. -/
structure Co where
  nm : List Nat
  k : Int
  m : Bool
def cc (c : Co) : List Value := [.string (bs c.nm), .int .i64 c.k, .bool c.m]
theorem cc_ones : ∀ c : Co, AllOne (cc c) := fun _ => ⟨rfl, rfl, rfl, trivial⟩
def COk (c : Co) : Prop := Bytes c.nm ∧ (-9223372036854775808 ≤ c.k ∧ c.k ≤ 9223372036854775807)
def CsOk (l : List Co) : Prop := ∀ c ∈ l, COk c
theorem CsOk.nil : CsOk [] := fun v h => by cases h
theorem CsOk.app {l m : List Co} (h : CsOk l) (h' : CsOk m) : CsOk (l ++ m) := fun v hv => (List.mem_append.1 hv).elim (h v) (h' v)
theorem CsOk.one {v : Co} (h : COk v) : CsOk [v] := fun x hx => by rw [List.mem_singleton] at hx; subst hx; exact h
theorem CsOk.take {l : List Co} {n : Nat} (h : CsOk l) : CsOk (l.take n) := fun v hv => h v (List.mem_of_mem_take hv)
/-- A sign that a name may have behind its first one. -/
def okc (c : Nat) : Prop := (97 ≤ c ∧ c ≤ 122) ∨ (48 ≤ c ∧ c ≤ 57) ∨ c = 95
def NameP (s : List Nat) : Prop := 1 ≤ s.length ∧ s.length ≤ 20 ∧ (∀ c, s[0]? = some c → 97 ≤ c ∧ c ≤ 122) ∧ ∀ (i c : Nat), s[i]? = some c → okc c
noncomputable def pB (p : Prop) : Bool := @decide p (Classical.propDecidable p)
theorem pB_t {p : Prop} (h : p) : pB p = true := by exact @decide_eq_true p (Classical.propDecidable p) h
theorem pB_f {p : Prop} (h : ¬p) : pB p = false := by exact @decide_eq_false p (Classical.propDecidable p) h
theorem pB_iff {p : Prop} : pB p = true ↔ p := by exact @decide_eq_true_iff p (Classical.propDecidable p)
theorem pB_no {p : Prop} : pB p = false ↔ ¬p := by exact @decide_eq_false_iff_not p (Classical.propDecidable p)
theorem nm_0 {s : List Nat} (h : ¬(1 ≤ s.length ∧ s.length ≤ 20)) : false = pB (NameP s) := (pB_f fun h' => h ⟨h'.1, h'.2.1⟩).symm
theorem nm_1 {s : List Nat} {c : Nat} (hc : s[0]? = some c) (h : ¬(97 ≤ c ∧ c ≤ 122)) : false = pB (NameP s) := (pB_f fun h' => h (h'.2.2.1 c hc)).symm
theorem nm_2 {s : List Nat} {i c : Nat} (hc : s[i]? = some c) (h : ¬okc c) : false = pB (NameP s) := (pB_f fun h' => h (h'.2.2.2 i c hc)).symm
theorem nm_3 {s : List Nat} {c : Nat} (hl : 1 ≤ s.length ∧ s.length ≤ 20) (hc : s[0]? = some c) (h : 97 ≤ c ∧ c ≤ 122) (ha : ∀ j, j < s.length → ∀ x, s[j]? = some x → okc x) : true = pB (NameP s) :=
  (pB_t ⟨hl.1, hl.2, fun d hd => by rw [hc] at hd; injection hd with hd; subst hd; exact h, fun i d hd => ha i (List.getElem?_eq_some_iff.1 hd).1 d hd⟩).symm
/-- Bounds that may be: right, of the first column's kind, rising. -/
def BdTo (k : Int) (l : List Vl) (n : Nat) : Prop := ∀ i, i < n → ∀ v, l[i]? = some v → rightB v = true ∧ v.1 = k ∧ ∀ u, 0 < i → l[i - 1]? = some u → vcmp u v < 0
def BdP (k : Int) (l : List Vl) : Prop := BdTo k l l.length
theorem BdTo.zero (k : Int) (l : List Vl) : BdTo k l 0 := fun i h => by omega
theorem BdTo.next {k : Int} {l : List Vl} {i : Nat} {v : Vl} (h : BdTo k l i) (hv : l[i]? = some v) (h1 : rightB v = true) (h2 : v.1 = k) (h3 : ∀ u, 0 < i → l[i - 1]? = some u → vcmp u v < 0) : BdTo k l (i + 1) := fun j hj x hx => by
  by_cases e : j = i
  · subst e; rw [hv] at hx; injection hx with hx; subst hx; exact ⟨h1, h2, h3⟩
  · exact h j (by omega) x hx
theorem bd_no {k : Int} {l : List Vl} {i : Nat} {v : Vl} (hv : l[i]? = some v) (h : ¬(rightB v = true ∧ v.1 = k ∧ ∀ u, 0 < i → l[i - 1]? = some u → vcmp u v < 0)) : ¬BdP k l := fun h' => h (h' i (List.getElem?_eq_some_iff.1 hv).1 v hv)
/-- The kind of the first column. -/
def k0 (l : List Co) : Int := match l with | [] => 0 | c :: _ => c.k
theorem k0_at {l : List Co} {c : Co} (h : l[0]? = some c) : k0 l = c.k := by
  match l, h with
  | d :: l, h => simp at h; subst h; rfl
structure Tb where
  nm : List Nat
  cs : List Co
  key : Int
  pt : Int
  bd : List Vl
def HeadP (t : Tb) : Prop := NameP t.nm ∧ 1 ≤ t.cs.length ∧ t.cs.length ≤ 16 ∧ 1 ≤ t.key ∧ t.key ≤ t.cs.length ∧ 0 ≤ t.pt ∧ t.pt ≤ 64 ∧ t.bd.length ≤ 63 ∧ (0 < t.pt → t.bd.length = 0) ∧ BdP (k0 t.cs) t.bd
def ColP (t : Tb) (i : Nat) (c : Co) : Prop := NameP c.nm ∧ (∀ j, j < i → ∀ d, t.cs[j]? = some d → d.nm ≠ c.nm) ∧ 1 ≤ c.k ∧ c.k ≤ 5 ∧ ((i : Int) < t.key → c.m = true)
def ColsTo (t : Tb) (n : Nat) : Prop := ∀ i, i < n → ∀ c, t.cs[i]? = some c → ColP t i c
theorem ColsTo.zero (t : Tb) : ColsTo t 0 := fun i h => by omega
theorem ColsTo.next {t : Tb} {i : Nat} {c : Co} (h : ColsTo t i) (hc : t.cs[i]? = some c) (hp : ColP t i c) : ColsTo t (i + 1) := fun j hj x hx => by
  by_cases e : j = i
  · subst e; rw [hc] at hx; injection hx with hx; subst hx; exact hp
  · exact h j (by omega) x hx
/-- A table is right. -/
def RtP (t : Tb) : Prop := HeadP t ∧ ColsTo t t.cs.length
/-- What is wrong with it: a code and a place. -/
def RtA (t : Tb) (c a : Int) : Prop := (¬HeadP t ∧ c = 182 ∧ a = -1) ∨ (HeadP t ∧ ∃ i d, t.cs[i]? = some d ∧ ColsTo t i ∧ ¬ColP t i d ∧ c = 182 ∧ a = (i : Int)) ∨ (RtP t ∧ c = 0 ∧ a = -1)
theorem RtA.fun' {t : Tb} {c a c' a' : Int} (h : RtA t c a) (h' : RtA t c' a') : c = c' ∧ a = a' := by
  rcases h with ⟨h1, h2, h3⟩ | ⟨h1, i, d, h2, h3, h4, h5, h6⟩ | ⟨h1, h2, h3⟩ <;> rcases h' with ⟨g1, g2, g3⟩ | ⟨g1, j, e, g2, g3, g4, g5, g6⟩ | ⟨g1, g2, g3⟩
  · exact ⟨h2.trans g2.symm, h3.trans g3.symm⟩
  · exact absurd g1 h1
  · exact absurd g1.1 h1
  · exact absurd h1 g1
  · rcases Nat.lt_trichotomy i j with hl | hl | hl
    · exact absurd (g3 i hl d h2) h4
    · subst hl; exact ⟨h5.trans g5.symm, h6.trans g6.symm⟩
    · exact absurd (h3 j hl e g2) g4
  · exact absurd (g1.2 i (List.getElem?_eq_some_iff.1 h2).1 d h2) h4
  · exact absurd h1.1 g1
  · exact absurd (h1.2 j (List.getElem?_eq_some_iff.1 g2).1 e g2) g4
  · exact ⟨h2.trans g2.symm, h3.trans g3.symm⟩
theorem RtA.yes {t : Tb} {c a : Int} (h : RtA t c a) (hp : RtP t) : c = 0 ∧ a = -1 := h.fun' (.inr (.inr ⟨hp, rfl, rfl⟩))
theorem RtA.no {t : Tb} {c a : Int} (h : RtA t c a) (hp : ¬RtP t) : c = 182 := by
  rcases h with ⟨_, h, _⟩ | ⟨_, i, d, _, _, _, h, _⟩ | ⟨h, _⟩
  · exact h
  · exact h
  · exact absurd h hp
/-- The hash of bytes. -/
def hashF (h : Nat) : List Nat → Nat
  | [] => h
  | c :: l => hashF ((h ^^^ c) * 16777619 % 4294967296) l
def hashB (l : List Nat) : Nat := hashF 2166136261 l
theorem hashF_app : ∀ (l m : List Nat) (h : Nat), hashF h (l ++ m) = hashF (hashF h l) m
  | [], _, _ => rfl
  | c :: l, m, h => hashF_app l m _
theorem hashB_take {l : List Nat} {i c : Nat} (hc : l[i]? = some c) : hashB (l.take (i + 1)) = (hashB (l.take i) ^^^ c) * 16777619 % 4294967296 := by
  unfold hashB
  rw [List.take_add_one, hc, hashF_app]; rfl
theorem hashF_lt : ∀ (l : List Nat) (h : Nat), h < 4294967296 → hashF h l < 4294967296
  | [], h, hh => hh
  | c :: l, h, hh => hashF_lt l _ (Nat.mod_lt _ (by decide))
theorem hashB_lt (l : List Nat) : hashB l < 4294967296 := hashF_lt l _ (by decide)
/-- How many parts. -/
def partsN (t : Tb) : Int := if 0 < t.pt then t.pt else (t.bd.length : Int) + 1
/-- The place of the first bound above a value. -/
def overN (l : List Vl) (v : Vl) : Nat := l.findIdx fun b => decide (0 < vcmp b v)
theorem overN_le (l : List Vl) (v : Vl) : overN l v ≤ l.length := List.findIdx_le_length
theorem overN_at {l : List Vl} {v x : Vl} {i : Nat} (hx : l[i]? = some x) (h : 0 < vcmp x v) (hb : ∀ j, j < i → ∀ y, l[j]? = some y → ¬0 < vcmp y v) : overN l v = i := by
  obtain ⟨hi, rfl⟩ := List.getElem?_eq_some_iff.1 hx
  unfold overN
  refine (List.findIdx_eq hi).2 ⟨decide_eq_true h, fun j hj => ?_⟩
  exact decide_eq_false (hb j hj _ (List.getElem?_eq_getElem (by omega)))
theorem overN_no {l : List Vl} {v : Vl} (hb : ∀ j, j < l.length → ∀ y, l[j]? = some y → ¬0 < vcmp y v) : overN l v = l.length := by
  unfold overN
  refine List.findIdx_eq_length.2 fun y hy => ?_
  obtain ⟨j, hj, rfl⟩ := List.getElem_of_mem hy
  exact decide_eq_false (hb j hj _ (List.getElem?_eq_getElem hj))
/-- What a key's part is: the part, or a code and a place. -/
def PtP (t : Tb) (l : List Vl) : Prop := (l.length : Int) = t.key ∧ l.length ≤ 16 ∧ (∀ v ∈ l, rightB v = true)
def KdTo (t : Tb) (l : List Vl) (n : Nat) : Prop := ∀ i, i < n → ∀ v, l[i]? = some v → ∀ c, t.cs[i]? = some c → v.1 = c.k
def partN (t : Tb) (l : List Vl) : Nat := if 0 < t.pt then hashB (enc l) % t.pt.toNat else overN t.bd (l.getD 0 (0, 0, []))
def PtA (t : Tb) (l : List Vl) (n c a : Int) : Prop := (¬PtP t l ∧ n = 0 ∧ c = 41 ∧ a = -1) ∨ (PtP t l ∧ ∃ i v d, l[i]? = some v ∧ t.cs[i]? = some d ∧ KdTo t l i ∧ v.1 ≠ d.k ∧ n = 0 ∧ c = 41 ∧ a = (i : Int)) ∨ (PtP t l ∧ KdTo t l l.length ∧ n = (partN t l : Int) ∧ c = 0 ∧ a = -1)
theorem PtA.fun' {t : Tb} {l : List Vl} {n c a n' c' a' : Int} (h : PtA t l n c a) (h' : PtA t l n' c' a') : n = n' ∧ c = c' ∧ a = a' := by
  rcases h with ⟨h1, h0, h2, h3⟩ | ⟨h1, i, v, d, h2, h2', h3, h4, h0, h5, h6⟩ | ⟨h1, h1', h0, h2, h3⟩ <;> rcases h' with ⟨g1, g0, g2, g3⟩ | ⟨g1, j, v', e, g2, g2', g3, g4, g0, g5, g6⟩ | ⟨g1, g1', g0, g2, g3⟩
  · exact ⟨h0.trans g0.symm, h2.trans g2.symm, h3.trans g3.symm⟩
  · exact absurd g1 h1
  · exact absurd g1 h1
  · exact absurd h1 g1
  · rcases Nat.lt_trichotomy i j with hl | hl | hl
    · exact absurd (g3 i hl v h2 d h2') h4
    · subst hl; exact ⟨h0.trans g0.symm, h5.trans g5.symm, h6.trans g6.symm⟩
    · exact absurd (h3 j hl v' g2 e g2') g4
  · exact absurd (g1' i (List.getElem?_eq_some_iff.1 h2).1 v h2 d h2') h4
  · exact absurd h1 g1
  · exact absurd (h1' j (List.getElem?_eq_some_iff.1 g2).1 v' g2 e g2') g4
  · exact ⟨h0.trans g0.symm, h2.trans g2.symm, h3.trans g3.symm⟩
/-- Values that a row may have. -/
def TyP (v : Vl) (c : Co) : Prop := rightB v = true ∧ (v.1 = 0 ∨ v.1 = c.k)
def TyTo (t : Tb) (l : List Vl) (n : Nat) : Prop := ∀ i, i < n → ∀ v, l[i]? = some v → ∀ c, t.cs[i]? = some c → TyP v c
def MuTo (t : Tb) (l : List Vl) (n : Nat) : Prop := ∀ i, i < n → ∀ v, l[i]? = some v → ∀ c, t.cs[i]? = some c → ¬(v.1 = 0 ∧ c.m = true)
def RwP (t : Tb) (l : List Vl) : Prop := l.length = t.cs.length ∧ TyTo t l l.length ∧ MuTo t l l.length
def RwA (t : Tb) (l : List Vl) (c a : Int) : Prop := (l.length ≠ t.cs.length ∧ c = 51 ∧ a = -1) ∨
  (l.length = t.cs.length ∧ ∃ i v d, l[i]? = some v ∧ t.cs[i]? = some d ∧ TyTo t l i ∧ ¬TyP v d ∧ c = 22 ∧ a = (i : Int)) ∨
  (l.length = t.cs.length ∧ TyTo t l l.length ∧ ∃ i v d, l[i]? = some v ∧ t.cs[i]? = some d ∧ MuTo t l i ∧ (v.1 = 0 ∧ d.m = true) ∧ c = 201 ∧ a = (i : Int)) ∨ (RwP t l ∧ c = 0 ∧ a = -1)
theorem RwA.fun' {t : Tb} {l : List Vl} {c a c' a' : Int} (h : RwA t l c a) (h' : RwA t l c' a') : c = c' ∧ a = a' := by
  have lt : ∀ {i : Nat} {v : Vl}, l[i]? = some v → i < l.length := fun h => (List.getElem?_eq_some_iff.1 h).1
  rcases h with ⟨h1, h2, h3⟩ | ⟨h1, i, v, d, h2, h2', h3, h4, h5, h6⟩ | ⟨h1, hT, i, v, d, h2, h2', h3, h4, h5, h6⟩ | ⟨h1, h2, h3⟩ <;> rcases h' with ⟨g1, g2, g3⟩ | ⟨g1, j, u, e, g2, g2', g3, g4, g5, g6⟩ | ⟨g1, gT, j, u, e, g2, g2', g3, g4, g5, g6⟩ | ⟨g1, g2, g3⟩
  · exact ⟨h2.trans g2.symm, h3.trans g3.symm⟩
  · exact absurd g1 h1
  · exact absurd g1 h1
  · exact absurd g1.1 h1
  · exact absurd h1 g1
  · rcases Nat.lt_trichotomy i j with hl | hl | hl
    · exact absurd (g3 i hl v h2 d h2') h4
    · subst hl; exact ⟨h5.trans g5.symm, h6.trans g6.symm⟩
    · exact absurd (h3 j hl u g2 e g2') g4
  · exact absurd (gT i (lt h2) v h2 d h2') h4
  · exact absurd (g1.2.1 i (lt h2) v h2 d h2') h4
  · exact absurd h1 g1
  · exact absurd (hT j (lt g2) u g2 e g2') g4
  · rcases Nat.lt_trichotomy i j with hl | hl | hl
    · exact absurd h4 (g3 i hl v h2 d h2')
    · subst hl; exact ⟨h5.trans g5.symm, h6.trans g6.symm⟩
    · exact absurd g4 (h3 j hl u g2 e g2')
  · exact absurd h4 (g1.2.2 i (lt h2) v h2 d h2')
  · exact absurd h1.1 g1
  · exact absurd (h1.2.1 j (lt g2) u g2 e g2') g4
  · exact absurd g4 (h1.2.2 j (lt g2) u g2 e g2')
  · exact ⟨h2.trans g2.symm, h3.trans g3.symm⟩
theorem RwA.yes {t : Tb} {l : List Vl} {c a : Int} (h : RwA t l c a) (hp : RwP t l) : c = 0 ∧ a = -1 := h.fun' (.inr (.inr (.inr ⟨hp, rfl, rfl⟩)))
theorem RwA.no {t : Tb} {l : List Vl} {c a : Int} (h : RwA t l c a) (hp : ¬RwP t l) : c ≠ 0 := by
  rcases h with ⟨_, h, _⟩ | ⟨_, i, v, d, _, _, _, _, h, _⟩ | ⟨_, _, i, v, d, _, _, _, _, h, _⟩ | ⟨h, _⟩
  · omega
  · omega
  · omega
  · exact absurd h hp
end Go.Proofs.YtmemgpcgjephmaaGreatDoor
