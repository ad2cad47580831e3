/- The catalog: faults, names, bounds. -/
import Derived.Test.YtmemgpcgjephmaaGreatDoorCt
import Derived.Test.YtmemgpcgjephmaaGreatDoorF0
import Derived.Test.YtmemgpcgjephmaaGreatDoorSp
set_option linter.unusedVariables false
set_option linter.unusedSimpArgs false
namespace Go.Proofs.YtmemgpcgjephmaaGreatDoor
open Go.RowKit
def AllOk (s : List Nat) : Prop := ∀ (i c : Nat), s[i]? = some c → okc c
theorem all_no {s : List Nat} {i c : Nat} (h : s[i]? = some c) (hc : pB (¬okc c) = true) : pB (¬AllOk s) = true := pB_t fun h' => pB_iff.1 hc (h' i c h)
theorem all_yes {s : List Nat} (h : ∀ j, j < s.length → ∀ x, s[j]? = some x → okc x) : pB (¬AllOk s) = false := pB_f fun h' => h' fun i c hc => h i (List.getElem?_eq_some_iff.1 hc).1 c hc
theorem ok_step {s : List Nat} {i c : Nat} (h : ∀ j, j < i → ∀ x, s[j]? = some x → okc x) (hc : s[i]? = some c) (ho : pB (¬okc c) = false) : ∀ j, j < i + 1 → ∀ x, s[j]? = some x → okc x := fun j hj x hx => by
  by_cases e : j = i
  · subst e; rw [hc] at hx; injection hx with hx; subst hx; exact Classical.byContradiction (pB_no.1 ho)
  · exact h j (by omega) x hx
theorem nm_4 {s : List Nat} {c : Nat} (hl : 1 ≤ s.length ∧ s.length ≤ 20) (hc : s[0]? = some c) (h : 97 ≤ c ∧ c ≤ 122) : (!pB (¬AllOk s)) = pB (NameP s) := by
  rw [Bool.eq_iff_iff, Bool.not_eq_true', pB_no, pB_iff]
  constructor
  · intro h1
    exact ⟨hl.1, hl.2, fun d hd => by rw [hc] at hd; injection hd with hd; subst hd; exact h, Classical.byContradiction h1⟩
  · rintro ⟨_, _, _, h1⟩ h2; exact h2 h1
def FstTo (s : List Nat) (n : Nat) : Prop := ∀ j, j < n → ∀ x, s[j]? = some x → okc x ∧ (j = 0 → 97 ≤ x ∧ x ≤ 122)
theorem FstTo.zero (s : List Nat) : FstTo s 0 := fun j h => by omega
theorem FstTo.next {s : List Nat} {i c : Nat} (h : FstTo s i) (hc : s[i]? = some c) (h1 : okc c ∧ (i = 0 → 97 ≤ c ∧ c ≤ 122)) : FstTo s (i + 1) := fun j hj x hx => by
  by_cases e : j = i
  · subst e; rw [hc] at hx; injection hx with hx; subst hx; exact h1
  · exact h j (by omega) x hx
theorem nm_5 {s : List Nat} {i c : Nat} (hc : s[i]? = some c) (h : ¬(okc c ∧ (i = 0 → 97 ≤ c ∧ c ≤ 122))) : false = pB (NameP s) := (pB_f fun h' => h ⟨h'.2.2.2 i c hc, fun e => by subst e; exact h'.2.2.1 c hc⟩).symm
theorem nm_6 {s : List Nat} (h : FstTo s s.length) : NameP s ↔ 1 ≤ s.length ∧ s.length ≤ 20 :=
  ⟨fun h' => ⟨h'.1, h'.2.1⟩, fun h' => ⟨h'.1, h'.2, fun c hc => (h 0 (by omega) c hc).2 rfl, fun i c hc => (h i (List.getElem?_eq_some_iff.1 hc).1 c hc).1⟩⟩
/-- An error: a code and a place; no code: none. -/
def ErV (c a : Int) (v : Value) (G : List Ch) : Prop := (c = 0 ∧ v = .nilIface ∧ G = []) ∨ (c ≠ 0 ∧ ∃ b, v = fV b ∧ G = [.blk b (fO c a .nilIface)])
theorem ErV.no (a : Int) : ErV 0 a .nilIface [] := .inl ⟨rfl, rfl, rfl⟩
theorem ErV.yes {c a : Int} {b : Nat} (h : c ≠ 0) : ErV c a (fV b) [.blk b (fO c a .nilIface)] := .inr ⟨h, b, rfl, rfl⟩
theorem head_no {t : Tb} (h : ¬HeadP t) : RtA t 182 (-1) := .inl ⟨h, rfl, rfl⟩
/-- A column's name stands ahead of it. -/
def DupP (l : List Co) (s : List Nat) : Prop := ∃ (j : Nat) (d : Co), l[j]? = some d ∧ d.nm = s
theorem dup_yes {l : List Co} {s : List Nat} {j : Nat} {d : Co} (h : l[j]? = some d) (h1 : d.nm = s) : pB (DupP l s) = true := pB_t ⟨j, d, h, h1⟩
theorem dup_no {l : List Co} {s : List Nat} (h : ∀ j, j < l.length → ∀ d, l[j]? = some d → d.nm ≠ s) : pB (DupP l s) = false := pB_f fun ⟨j, d, h1, h2⟩ => h j (List.getElem?_eq_some_iff.1 h1).1 d h1 h2
theorem dup_step {l : List Co} {s : List Nat} {i : Nat} {d : Co} (h : ∀ j, j < i → ∀ d, l[j]? = some d → d.nm ≠ s) (hd : l[i]? = some d) (hn : d.nm ≠ s) : ∀ j, j < i + 1 → ∀ d, l[j]? = some d → d.nm ≠ s := fun j hj x hx => by
  by_cases e : j = i
  · subst e; rw [hd] at hx; injection hx with hx; subst hx; exact hn
  · exact h j (by omega) x hx
theorem dup_iff {t : Tb} {i : Nat} {c : Co} : ¬DupP (t.cs.take i) c.nm ↔ ∀ j, j < i → ∀ d, t.cs[j]? = some d → d.nm ≠ c.nm := by
  constructor
  · intro h j hj d hd e
    exact h ⟨j, d, by rw [List.getElem?_take, if_pos hj]; exact hd, e⟩
  · rintro h ⟨j, d, hd, e⟩
    rw [List.getElem?_take] at hd
    split at hd
    · exact h j (by assumption) d hd e
    · cases hd
theorem col_y1 {t : Tb} {i : Nat} {c : Co} (h : pB (DupP (t.cs.take i) c.nm) = true) : true = pB (¬ColP t i c) := (pB_t fun h' => dup_iff.2 h'.2.1 (pB_iff.1 h)).symm
theorem col_y2 {t : Tb} {i : Nat} {c : Co} (h : pB (NameP c.nm) = false) : true = pB (¬ColP t i c) := (pB_t fun h' => pB_no.1 h h'.1).symm
theorem col_y3 {t : Tb} {i : Nat} {c : Co} (h : c.k < 1 ∨ 5 < c.k) : true = pB (¬ColP t i c) := (pB_t fun h' => by have := h'.2.2; omega).symm
theorem col_n {t : Tb} {i : Nat} {c : Co} (hd : pB (DupP (t.cs.take i) c.nm) = false) (hn : pB (NameP c.nm) = true) (hk : 1 ≤ c.k ∧ c.k ≤ 5) (h : ¬(i : Int) < t.key) : false = pB (¬ColP t i c) :=
  (pB_f fun h' => h' ⟨pB_iff.1 hn, dup_iff.1 (pB_no.1 hd), hk.1, hk.2, fun e => absurd e h⟩).symm
theorem col_m {t : Tb} {i : Nat} {c : Co} (hd : pB (DupP (t.cs.take i) c.nm) = false) (hn : pB (NameP c.nm) = true) (hk : 1 ≤ c.k ∧ c.k ≤ 5) (h : (i : Int) < t.key) : (!c.m) = pB (¬ColP t i c) := by
  rw [Bool.eq_iff_iff, pB_iff, Bool.not_eq_true']
  constructor
  · intro h1 h2; rw [h2.2.2.2.2 h] at h1; cases h1
  · intro h1
    cases h2 : c.m with
    | false => rfl
    | true => exact absurd ⟨pB_iff.1 hn, dup_iff.1 (pB_no.1 hd), hk.1, hk.2, fun _ => h2⟩ h1
/-- Which column is wrong. -/
def ColI (t : Tb) (r : Int) : Prop := (r < 0 ∧ ColsTo t t.cs.length) ∨ ∃ (i : Nat) (d : Co), r = ((i : Nat) : Int) ∧ t.cs[i]? = some d ∧ ColsTo t i ∧ ¬ColP t i d
attribute [local irreducible] Oper.wp Sem.run Code.wp wpList wpAnyO callFunc execOp Calls
attribute [local irreducible] toU enc encR rightB vcmp pB okc BdP hashB hashF overN

set_option maxRecDepth 100000 in
theorem fnew_ok (c a : Int) (hc : decide (c = 0) = false) (w : World) : Calls Tryz.prog 16 #[.int .i64 c, .int .i64 a] w (PostN w fun v G => ∃ b, v = fV b ∧ G = [.blk b (fO c a .nilIface)]) := by
 have hS := St.start w
 refine c_enter Tryz.func16 rfl rfl rfl ?_
 refine wp_seq_k (fun K1 hK1 => ?_)
 refine wp_region_lit ?_
 refine l_q rfl rfl (q_assign rfl) ?_
 refine l_nil ?_
 refine hK1 _ _ ?_
 refine wp_seq_k (fun K2 hK2 => ?_)
 refine wp_seq_k (fun K3 hK3 => ?_)
 refine wp_region_lit ?_
 refine l_q rfl rfl (q_moveI rfl) ?_
 refine l_q rfl rfl (q_eql rfl rfl) ?_
 refine l_nil ?_
 refine hK3 _ _ ?_
 refine c_condF rfl hc ?_
 refine wp_skip ?_
 refine hK2 _ _ ?_
 refine wp_seq_k (fun K5 hK5 => ?_)
 refine wp_region_lit ?_
 refine l_q rfl rfl (q_moveI rfl) ?_
 refine l_q rfl rfl (q_moveI rfl) ?_
 refine l_q rfl rfl (q_build (ps := [(0, 1), (1, 1), (2, 1)]) (zv := .agg #[.int .i64 0, .int .i64 0, .nilIface]) (by kernel_rfl) (by kernel_rfl) rfl (by repeat' (first | exact trivial | refine ⟨fun _ => by first | rfl | assumption | exact one_if (by assumption), ?_⟩ | refine ⟨fun ⟨_, h⟩ => by simp at h, ?_⟩)) rfl) ?_
 refine l_e rfl (fun K hK => ?_)
 refine e_boxA hS rfl (fun b6 w6 (hS6 : St _ _ [.blk b6 (.cells #[.int .i64 c, .int .i64 a, _] 69)] _) => ?_)
 clear hS
 refine hK _ _ ?_; clear hK K
 refine l_q rfl rfl (q_makeInterface rfl (by kernel_rfl)) ?_
 refine l_q rfl rfl (q_assign rfl) ?_
 refine l_nil ?_
 refine hK5 _ _ ?_
 refine wp_ret ?_
 refine c_ret1 rfl rfl ?_
 exact ⟨_, _, rfl, ⟨_, rfl, rfl⟩, hS6⟩

set_option maxRecDepth 100000 in
theorem nmc_ok (c : Nat) (hc : c < 256) (w : World) : Calls Tryz.prog 54 #[.int .u8 (c : Int)] w (PostR w fun v => v = .bool (pB (¬okc c))) := by
 have hS := St.start w
 refine c_enter Tryz.func54 rfl rfl rfl ?_
 refine wp_seq_k (fun K1 hK1 => ?_)
 refine wp_region_lit ?_
 refine l_q rfl rfl (q_assignB rfl) ?_
 refine l_nil ?_
 refine hK1 _ _ ?_
 refine wp_seq_k (fun K2 hK2 => ?_)
 refine wp_region_lit ?_
 refine l_q rfl rfl (q_moveI rfl) ?_
 refine l_q rfl rfl (q_lss rfl rfl) ?_
 refine l_q rfl rfl (q_moveB rfl) ?_
 refine g_splitL (t := 5) rfl (fun hg3 => ?_) (fun hg3 => ?_)
 ·
  have hg3b := hg3
  try simp only [decide_eq_true_eq, decide_eq_false_iff_not, Bool.not_eq_true', Bool.not_eq_false', Bool.and_eq_true, Bool.or_eq_true, Int.not_lt, Int.not_le, ne_eq, Decidable.not_not] at hg3
  refine l_off rfl rfl rfl hg3b ?_
  refine l_off rfl rfl rfl hg3b ?_
  refine l_q rfl rfl (q_pickT rfl hg3b rfl) ?_
  refine l_q rfl rfl (q_moveB rfl) ?_
  refine l_on rfl rfl rfl ?_
  refine l_q rfl rfl (q_moveI rfl) ?_
  refine l_on rfl rfl rfl ?_
  refine l_q rfl rfl (q_lss rfl rfl) ?_
  refine l_on rfl rfl rfl ?_
  refine l_q rfl rfl (q_moveB rfl) ?_
  refine g_splitL (t := 12) rfl (fun hg4 => ?_) (fun hg4 => ?_)
  ·
   have hg4b := hg4
   try simp only [decide_eq_true_eq, decide_eq_false_iff_not, Bool.not_eq_true', Bool.not_eq_false', Bool.and_eq_true, Bool.or_eq_true, Int.not_lt, Int.not_le, ne_eq, Decidable.not_not] at hg4
   refine l_off rfl rfl rfl hg4b ?_
   refine l_off rfl rfl rfl hg4b ?_
   refine l_on rfl rfl rfl ?_
   refine l_q rfl rfl (q_pickT rfl hg4b rfl) ?_
   refine l_q rfl rfl (q_pickT rfl rfl rfl) ?_
   refine l_q rfl rfl (q_moveB rfl) ?_
   refine l_on rfl rfl rfl ?_
   refine l_q rfl rfl (q_moveI rfl) ?_
   refine l_on rfl rfl rfl ?_
   refine l_q rfl rfl (q_neq rfl rfl) ?_
   refine l_q rfl rfl (q_pickT rfl rfl rfl) ?_
   refine l_q rfl rfl (q_assignB rfl) ?_
   refine l_nil ?_
   refine hK2 _ _ ?_
   refine wp_ret ?_
   refine c_ret1 rfl rfl ?_
   exact ⟨_, rfl, congrArg Value.bool (Bool.eq_iff_iff.2 (by rw [pB_iff]; unfold okc; simp <;> omega)), hS.drop⟩
  ·
   have hg4b := hg4
   try simp only [decide_eq_true_eq, decide_eq_false_iff_not, Bool.not_eq_true', Bool.not_eq_false', Bool.and_eq_true, Bool.or_eq_true, Int.not_lt, Int.not_le, ne_eq, Decidable.not_not] at hg4
   refine l_on rfl rfl hg4b ?_
   refine l_q rfl rfl (q_moveI rfl) ?_
   refine l_on rfl rfl hg4b ?_
   refine l_q rfl rfl (q_gtr rfl rfl) ?_
   refine l_on rfl rfl rfl ?_
   refine l_q rfl rfl (q_pickF rfl hg4b rfl) ?_
   refine l_q rfl rfl (q_pickT rfl rfl rfl) ?_
   refine l_q rfl rfl (q_moveB rfl) ?_
   refine g_splitL (t := 17) rfl (fun hg5 => ?_) (fun hg5 => ?_)
   ·
    have hg5b := hg5
    try simp only [decide_eq_true_eq, decide_eq_false_iff_not, Bool.not_eq_true', Bool.not_eq_false', Bool.and_eq_true, Bool.or_eq_true, Int.not_lt, Int.not_le, ne_eq, Decidable.not_not] at hg5
    refine l_on rfl rfl hg5b ?_
    refine l_q rfl rfl (q_moveI rfl) ?_
    refine l_on rfl rfl hg5b ?_
    refine l_q rfl rfl (q_neq rfl rfl) ?_
    refine l_q rfl rfl (q_pickT rfl hg5b rfl) ?_
    refine l_q rfl rfl (q_assignB rfl) ?_
    refine l_nil ?_
    refine hK2 _ _ ?_
    refine wp_ret ?_
    refine c_ret1 rfl rfl ?_
    exact ⟨_, rfl, congrArg Value.bool (Bool.eq_iff_iff.2 (by rw [pB_iff]; unfold okc; simp <;> omega)), hS.drop⟩
   ·
    have hg5b := hg5
    try simp only [decide_eq_true_eq, decide_eq_false_iff_not, Bool.not_eq_true', Bool.not_eq_false', Bool.and_eq_true, Bool.or_eq_true, Int.not_lt, Int.not_le, ne_eq, Decidable.not_not] at hg5
    refine l_off rfl rfl rfl hg5b ?_
    refine l_off rfl rfl rfl hg5b ?_
    refine l_q rfl rfl (q_pickF rfl hg5b rfl) ?_
    refine l_q rfl rfl (q_assignB rfl) ?_
    refine l_nil ?_
    refine hK2 _ _ ?_
    refine wp_ret ?_
    refine c_ret1 rfl rfl ?_
    exact ⟨_, rfl, congrArg Value.bool (Bool.eq_iff_iff.2 (by rw [pB_iff]; unfold okc; simp <;> omega)), hS.drop⟩
 ·
  have hg3b := hg3
  try simp only [decide_eq_true_eq, decide_eq_false_iff_not, Bool.not_eq_true', Bool.not_eq_false', Bool.and_eq_true, Bool.or_eq_true, Int.not_lt, Int.not_le, ne_eq, Decidable.not_not] at hg3
  refine l_on rfl rfl hg3b ?_
  refine l_q rfl rfl (q_moveI rfl) ?_
  refine l_on rfl rfl hg3b ?_
  refine l_q rfl rfl (q_gtr rfl rfl) ?_
  refine l_q rfl rfl (q_pickF rfl hg3b rfl) ?_
  refine l_q rfl rfl (q_moveB rfl) ?_
  refine g_splitL (t := 9) rfl (fun hg6 => ?_) (fun hg6 => ?_)
  ·
   have hg6b := hg6
   try simp only [decide_eq_true_eq, decide_eq_false_iff_not, Bool.not_eq_true', Bool.not_eq_false', Bool.and_eq_true, Bool.or_eq_true, Int.not_lt, Int.not_le, ne_eq, Decidable.not_not] at hg6
   refine l_on rfl rfl hg6b ?_
   refine l_q rfl rfl (q_moveI rfl) ?_
   refine l_on rfl rfl hg6b ?_
   refine l_q rfl rfl (q_lss rfl rfl) ?_
   refine l_on rfl rfl hg6b ?_
   refine l_q rfl rfl (q_moveB rfl) ?_
   refine g_splitL (t := 12) rfl (fun hg7 => ?_) (fun hg7 => ?_)
   ·
    have hg7b := hg7
    try simp only [decide_eq_true_eq, decide_eq_false_iff_not, Bool.not_eq_true', Bool.not_eq_false', Bool.and_eq_true, Bool.or_eq_true, Int.not_lt, Int.not_le, ne_eq, Decidable.not_not] at hg7
    refine l_off rfl rfl rfl hg7b ?_
    refine l_off rfl rfl rfl hg7b ?_
    refine l_on rfl rfl hg6b ?_
    refine l_q rfl rfl (q_pickT rfl hg7b rfl) ?_
    refine l_q rfl rfl (q_pickT rfl hg6b rfl) ?_
    refine l_q rfl rfl (q_moveB rfl) ?_
    refine l_on rfl rfl rfl ?_
    refine l_q rfl rfl (q_moveI rfl) ?_
    refine l_on rfl rfl rfl ?_
    refine l_q rfl rfl (q_neq rfl rfl) ?_
    refine l_q rfl rfl (q_pickT rfl rfl rfl) ?_
    refine l_q rfl rfl (q_assignB rfl) ?_
    refine l_nil ?_
    refine hK2 _ _ ?_
    refine wp_ret ?_
    refine c_ret1 rfl rfl ?_
    exact ⟨_, rfl, congrArg Value.bool (Bool.eq_iff_iff.2 (by rw [pB_iff]; unfold okc; simp <;> omega)), hS.drop⟩
   ·
    have hg7b := hg7
    try simp only [decide_eq_true_eq, decide_eq_false_iff_not, Bool.not_eq_true', Bool.not_eq_false', Bool.and_eq_true, Bool.or_eq_true, Int.not_lt, Int.not_le, ne_eq, Decidable.not_not] at hg7
    refine l_on rfl rfl hg7b ?_
    refine l_q rfl rfl (q_moveI rfl) ?_
    refine l_on rfl rfl hg7b ?_
    refine l_q rfl rfl (q_gtr rfl rfl) ?_
    refine l_on rfl rfl hg6b ?_
    refine l_q rfl rfl (q_pickF rfl hg7b rfl) ?_
    refine l_q rfl rfl (q_pickT rfl hg6b rfl) ?_
    refine l_q rfl rfl (q_moveB rfl) ?_
    refine g_splitL (t := 17) rfl (fun hg8 => ?_) (fun hg8 => ?_)
    ·
     have hg8b := hg8
     try simp only [decide_eq_true_eq, decide_eq_false_iff_not, Bool.not_eq_true', Bool.not_eq_false', Bool.and_eq_true, Bool.or_eq_true, Int.not_lt, Int.not_le, ne_eq, Decidable.not_not] at hg8
     refine l_on rfl rfl hg8b ?_
     refine l_q rfl rfl (q_moveI rfl) ?_
     refine l_on rfl rfl hg8b ?_
     refine l_q rfl rfl (q_neq rfl rfl) ?_
     refine l_q rfl rfl (q_pickT rfl hg8b rfl) ?_
     refine l_q rfl rfl (q_assignB rfl) ?_
     refine l_nil ?_
     refine hK2 _ _ ?_
     refine wp_ret ?_
     refine c_ret1 rfl rfl ?_
     exact ⟨_, rfl, congrArg Value.bool (Bool.eq_iff_iff.2 (by rw [pB_iff]; unfold okc; simp <;> omega)), hS.drop⟩
    ·
     have hg8b := hg8
     try simp only [decide_eq_true_eq, decide_eq_false_iff_not, Bool.not_eq_true', Bool.not_eq_false', Bool.and_eq_true, Bool.or_eq_true, Int.not_lt, Int.not_le, ne_eq, Decidable.not_not] at hg8
     refine l_off rfl rfl rfl hg8b ?_
     refine l_off rfl rfl rfl hg8b ?_
     refine l_q rfl rfl (q_pickF rfl hg8b rfl) ?_
     refine l_q rfl rfl (q_assignB rfl) ?_
     refine l_nil ?_
     refine hK2 _ _ ?_
     refine wp_ret ?_
     refine c_ret1 rfl rfl ?_
     exact ⟨_, rfl, congrArg Value.bool (Bool.eq_iff_iff.2 (by rw [pB_iff]; unfold okc; simp <;> omega)), hS.drop⟩
  ·
   have hg6b := hg6
   try simp only [decide_eq_true_eq, decide_eq_false_iff_not, Bool.not_eq_true', Bool.not_eq_false', Bool.and_eq_true, Bool.or_eq_true, Int.not_lt, Int.not_le, ne_eq, Decidable.not_not] at hg6
   refine l_off rfl rfl rfl hg6b ?_
   refine l_off rfl rfl rfl hg6b ?_
   refine l_off rfl rfl rfl hg6b ?_
   refine l_offN rfl rfl rfl ?_
   refine l_offN rfl rfl rfl ?_
   refine l_off rfl rfl rfl hg6b ?_
   refine l_q rfl rfl (q_pickF rfl hg6b rfl) ?_
   refine l_q rfl rfl (q_moveB rfl) ?_
   refine l_off rfl rfl rfl rfl ?_
   refine l_off rfl rfl rfl rfl ?_
   refine l_q rfl rfl (q_pickF rfl rfl rfl) ?_
   refine l_q rfl rfl (q_assignB rfl) ?_
   refine l_nil ?_
   refine hK2 _ _ ?_
   refine wp_ret ?_
   refine c_ret1 rfl rfl ?_
   exact ⟨_, rfl, congrArg Value.bool (Bool.eq_iff_iff.2 (by rw [pB_iff]; unfold okc; simp <;> omega)), hS.drop⟩

set_option maxRecDepth 100000 in
theorem bidx_ok (l : List Nat) (hl : Bytes l) (n : Nat) (hn : l.length = n) (hm : n ≤ 2000000) (al : Option Addr) (cl : Nat) (w : World) (hG : SlG (hw w) al (bv l)) : Calls Tryz.prog 68 #[.slice al n cl, .func (.func 54) #[] #[]] w (PostR w fun v => ∃ r : Int, v = .int .i64 r ∧ decide (0 ≤ r) = pB (¬AllOk l)) := by
 have hS := St.start w
 subst hn
 refine c_enter Tryz.func68 rfl rfl rfl ?_
 refine wp_seq_k (fun K1 hK1 => ?_)
 refine wp_region_lit ?_
 refine l_q rfl rfl (q_assignI rfl) ?_
 refine l_nil ?_
 refine hK1 _ _ ?_
 refine wp_seq_k (fun K2 hK2 => ?_)
 refine wp_seq_k (fun K3 hK3 => ?_)
 refine wp_region_lit ?_
 refine l_q rfl rfl (q_moveS rfl) ?_
 refine l_q rfl rfl (q_lenSl (e := 5) rfl (by kernel_rfl)) ?_
 refine l_q rfl rfl (q_moveI rfl) ?_
 refine l_nil ?_
 refine hK3 _ _ ?_
 refine wp_block ?_
 refine c_loop (τ := Nat) [(4, 5), (8, 18)] (fun x => (fun (i : Nat) => [(8, .int .i64 (i : Int))]) x) (fun x w' => (fun (i : Nat) => St w (fun _ => False) [] w' ∧ i ≤ l.length ∧ (∀ j, j < i → ∀ x, l[j]? = some x → okc x)) x) (fun x => (fun (i : Nat) => l.length - i) x) (0) ?_ (by repeat' (first | exact trivial | refine ⟨by first | rfl | exact int_succ _ | assumption, ?_⟩)) (fun i j4 w4 hJ4 K4 hK4 => ?_)
 ·
  exact ⟨hS, Nat.zero_le _, fun j hj => by omega⟩
 ·
  obtain ⟨hS4, hi, hj⟩ := hJ4
  try dsimp only at hS4 hi hj ⊢
  refine wp_seq_k (fun K5 hK5 => ?_)
  refine wp_region_lit ?_
  refine l_q rfl rfl (q_lss rfl rfl) ?_
  refine l_nil ?_
  refine hK5 _ _ ?_
  refine wp_seq_k (fun K6 hK6 => ?_)
  refine c_cond rfl (fun hc7 => ?_) (fun hc7 => ?_)
  ·
   have hc7b := hc7
   try simp only [decide_eq_true_eq, decide_eq_false_iff_not, Bool.not_eq_true', Bool.not_eq_false', Bool.and_eq_true, Bool.or_eq_true, Int.not_lt, Int.not_le, ne_eq, Decidable.not_not] at hc7
   refine wp_skip ?_
   refine hK6 _ _ ?_
   refine wp_seq_k (fun K8 hK8 => ?_)
   refine wp_block ?_
   refine wp_seq_k (fun K9 hK9 => ?_)
   refine wp_region_lit ?_
   refine l_q rfl rfl (q_moveI rfl) ?_
   refine l_q rfl rfl (q_assignI rfl) ?_
   refine l_nil ?_
   refine hK9 _ _ ?_
   refine wp_seq_k (fun K10 hK10 => ?_)
   refine wp_region_lit ?_
   refine l_q rfl rfl (q_move rfl) ?_
   refine l_q rfl rfl (q_moveS rfl) ?_
   refine l_q rfl rfl (q_moveI rfl) ?_
   refine l_q rfl rfl (q_ixG (e := 5) (m := 1) (j := i) rfl rfl (by kernel_rfl) (by kernel_rfl) (by first | rfl | omega) (by omega) hG (by rw [bv_len]; first | omega | (simp only [lls] <;> omega))) ?_
   obtain ⟨x11, hx11⟩ : ∃ x, (l)[i]? = some x := ⟨_, List.getElem?_eq_getElem (by first | omega | (simp only [lls] <;> omega) | (simp <;> omega))⟩
   have hb11 : x11 < 256 := hl x11 (List.mem_of_getElem? hx11)
   refine l_q rfl rfl (q_load1 rfl (by kernel_rfl) (SlG.cell (hG.mono hS4.base) (Gle.refl _) (at1 (bv_at hx11)))) ?_
   refine l_e rfl (fun K hK => ?_)
   refine e_callV (by kernel_rfl) rfl (nmc_ok x11 (by omega) _) rfl (after_R hS4 (fun v12 w12 hv12 hS12 => ?_))
   clear hS4
   obtain rfl := hv12
   refine hK _ _ ?_; clear hK K
   refine l_nil ?_
   refine hK10 _ _ ?_
   refine c_cond rfl (fun hc13 => ?_) (fun hc13 => ?_)
   ·
    have hc13b := hc13
    try simp only [decide_eq_true_eq, decide_eq_false_iff_not, Bool.not_eq_true', Bool.not_eq_false', Bool.and_eq_true, Bool.or_eq_true, Int.not_lt, Int.not_le, ne_eq, Decidable.not_not] at hc13
    refine wp_seq_k (fun K14 hK14 => ?_)
    refine wp_region_lit ?_
    refine l_q rfl rfl (q_moveI rfl) ?_
    refine l_q rfl rfl (q_assignI rfl) ?_
    refine l_nil ?_
    refine hK14 _ _ ?_
    refine wp_ret ?_
    refine c_ret1 rfl rfl ?_
    exact ⟨_, rfl, ⟨_, rfl, by rw [all_no hx11 hc13b]; exact decide_eq_true (by omega)⟩, hS12.drop⟩
   ·
    have hc13b := hc13
    try simp only [decide_eq_true_eq, decide_eq_false_iff_not, Bool.not_eq_true', Bool.not_eq_false', Bool.and_eq_true, Bool.or_eq_true, Int.not_lt, Int.not_le, ne_eq, Decidable.not_not] at hc13
    refine wp_skip ?_
    refine hK8 _ _ ?_
    refine wp_region_lit ?_
    refine l_q rfl rfl (q_addx rfl rfl (by first | decide | omega) (by first | decide | omega)) ?_
    refine l_q rfl rfl (q_moveI rfl) ?_
    refine l_nil ?_
    refine hK4 _ _ (came ((i + 1)) (by repeat' (first | exact Agree.refl _ _ | refine Agree.up ?_ rfl | refine Agree.hav2 ?_ rfl | refine Agree.ups2 ?_ rfl)) (by repeat' (first | exact trivial | refine ⟨by first | rfl | exact int_succ _ | assumption, ?_⟩)) ?_)
    exact ⟨⟨hS12, (by show i + 1 ≤ l.length; omega), ok_step hj hx11 hc13b⟩, by (show l.length - (i + 1) < l.length - i); omega⟩
  ·
   have hc7b := hc7
   try simp only [decide_eq_true_eq, decide_eq_false_iff_not, Bool.not_eq_true', Bool.not_eq_false', Bool.and_eq_true, Bool.or_eq_true, Int.not_lt, Int.not_le, ne_eq, Decidable.not_not] at hc7
   refine wp_exit ?_
   refine hK2 _ _ ?_
   refine wp_seq_k (fun K15 hK15 => ?_)
   refine wp_region_lit ?_
   refine l_q rfl rfl (q_assignI rfl) ?_
   refine l_nil ?_
   refine hK15 _ _ ?_
   refine wp_ret ?_
   refine c_ret1 rfl rfl ?_
   exact ⟨_, rfl, ⟨_, rfl, by rw [all_yes (fun j hj' x hx => hj j (by omega) x hx)]; rfl⟩, hS4.drop⟩

set_option maxRecDepth 100000 in
theorem bcon_ok (l : List Nat) (hl : Bytes l) (n : Nat) (hn : l.length = n) (hm : n ≤ 2000000) (al : Option Addr) (cl : Nat) (w : World) (hG : SlG (hw w) al (bv l)) : Calls Tryz.prog 53 #[.slice al n cl, .func (.func 54) #[] #[]] w (PostR w fun v => v = .bool (pB (¬AllOk l))) := by
 have hS := St.start w
 subst hn
 refine c_enter Tryz.func53 rfl rfl rfl ?_
 refine wp_seq_k (fun K1 hK1 => ?_)
 refine wp_region_lit ?_
 refine l_q rfl rfl (q_assignB rfl) ?_
 refine l_nil ?_
 refine hK1 _ _ ?_
 refine wp_seq_k (fun K2 hK2 => ?_)
 refine wp_region_lit ?_
 refine l_q rfl rfl (q_moveS rfl) ?_
 refine l_q rfl rfl (q_move rfl) ?_
 refine l_e rfl (fun K hK => ?_)
 refine e_call (by kernel_rfl) (bidx_ok l hl l.length rfl hm _ _ _ (hG.mono hS.base)) rfl (after_R hS (fun v3 w3 hv3 hS3 => ?_))
 clear hS
 obtain ⟨r3, rfl, hr3⟩ := hv3
 refine hK _ _ ?_; clear hK K
 refine l_q rfl rfl (q_geq rfl rfl) ?_
 refine l_q rfl rfl (q_assignB rfl) ?_
 refine l_nil ?_
 refine hK2 _ _ ?_
 refine wp_ret ?_
 refine c_ret1 rfl rfl ?_
 exact ⟨_, rfl, congrArg Value.bool hr3, hS3.drop⟩

set_option maxRecDepth 100000 in
theorem name_ok (l : List Nat) (hl : Bytes l) (w : World) : Calls Tryz.prog 34 #[.string (bs l)] w (PostR w fun v => v = .bool (pB (NameP l))) := by
 have hS := St.start w
 refine c_enter Tryz.func34 rfl rfl rfl ?_
 refine wp_seq_k (fun K1 hK1 => ?_)
 refine wp_region_lit ?_
 refine l_q rfl rfl (q_assignB rfl) ?_
 refine l_nil ?_
 refine hK1 _ _ ?_
 refine wp_seq_k (fun K2 hK2 => ?_)
 refine wp_seq_k (fun K3 hK3 => ?_)
 refine wp_region_lit ?_
 refine l_q rfl rfl (q_move rfl) ?_
 refine l_q rfl rfl (q_str_eql (l := l) (m := []) rfl rfl hl Bytes.nil) ?_
 refine l_q rfl rfl (q_moveB rfl) ?_
 refine g_splitL (t := 5) rfl (fun hg4 => ?_) (fun hg4 => ?_)
 ·
  have hg4b := hg4
  try simp only [decide_eq_true_eq, decide_eq_false_iff_not, Bool.not_eq_true', Bool.not_eq_false', Bool.and_eq_true, Bool.or_eq_true, Int.not_lt, Int.not_le, ne_eq, Decidable.not_not] at hg4
  refine l_off rfl rfl rfl hg4b ?_
  refine l_off rfl rfl rfl hg4b ?_
  refine l_off rfl rfl rfl hg4b ?_
  refine l_q rfl rfl (q_pickT rfl hg4b rfl) ?_
  refine l_q rfl rfl (q_moveB rfl) ?_
  refine l_off rfl rfl rfl rfl ?_
  refine l_off rfl rfl rfl rfl ?_
  refine l_off rfl rfl rfl rfl ?_
  refine l_q rfl rfl (q_pickT rfl rfl rfl) ?_
  refine l_q rfl rfl (q_moveB rfl) ?_
  refine l_off rfl rfl rfl rfl ?_
  refine l_off rfl rfl rfl rfl ?_
  refine l_off rfl rfl rfl rfl ?_
  refine l_q rfl rfl (q_pickT rfl rfl rfl) ?_
  refine l_nil ?_
  refine hK3 _ _ ?_
  refine c_condT rfl rfl ?_
  refine wp_seq_k (fun K6 hK6 => ?_)
  refine wp_region_lit ?_
  refine l_q rfl rfl (q_assignB rfl) ?_
  refine l_nil ?_
  refine hK6 _ _ ?_
  refine wp_ret ?_
  refine c_ret1 rfl rfl ?_
  exact ⟨_, rfl, congrArg Value.bool (nm_0 (by first | omega | (intro h; simp_all))), hS.drop⟩
 ·
  have hg4b := hg4
  try simp only [decide_eq_true_eq, decide_eq_false_iff_not, Bool.not_eq_true', Bool.not_eq_false', Bool.and_eq_true, Bool.or_eq_true, Int.not_lt, Int.not_le, ne_eq, Decidable.not_not] at hg4
  have hl0 : 0 < l.length := List.length_pos_iff.2 hg4
  refine l_on rfl rfl hg4b ?_
  refine l_q rfl rfl (q_move rfl) ?_
  refine l_on rfl rfl hg4b ?_
  refine l_q rfl rfl (q_lenStrB (l := l) rfl (by kernel_rfl)) ?_
  refine l_on rfl rfl hg4b ?_
  refine l_q rfl rfl (q_gtr rfl rfl) ?_
  refine l_q rfl rfl (q_pickF rfl hg4b rfl) ?_
  refine l_q rfl rfl (q_moveB rfl) ?_
  refine g_splitL (t := 10) rfl (fun hg7 => ?_) (fun hg7 => ?_)
  ·
   have hg7b := hg7
   try simp only [decide_eq_true_eq, decide_eq_false_iff_not, Bool.not_eq_true', Bool.not_eq_false', Bool.and_eq_true, Bool.or_eq_true, Int.not_lt, Int.not_le, ne_eq, Decidable.not_not] at hg7
   refine l_off rfl rfl rfl hg7b ?_
   refine l_off rfl rfl rfl hg7b ?_
   refine l_off rfl rfl rfl hg7b ?_
   refine l_q rfl rfl (q_pickT rfl hg7b rfl) ?_
   refine l_q rfl rfl (q_moveB rfl) ?_
   refine l_off rfl rfl rfl rfl ?_
   refine l_off rfl rfl rfl rfl ?_
   refine l_off rfl rfl rfl rfl ?_
   refine l_q rfl rfl (q_pickT rfl rfl rfl) ?_
   refine l_nil ?_
   refine hK3 _ _ ?_
   refine c_condT rfl rfl ?_
   refine wp_seq_k (fun K9 hK9 => ?_)
   refine wp_region_lit ?_
   refine l_q rfl rfl (q_assignB rfl) ?_
   refine l_nil ?_
   refine hK9 _ _ ?_
   refine wp_ret ?_
   refine c_ret1 rfl rfl ?_
   exact ⟨_, rfl, congrArg Value.bool (nm_0 (by first | omega | (intro h; simp_all))), hS.drop⟩
  ·
   have hg7b := hg7
   try simp only [decide_eq_true_eq, decide_eq_false_iff_not, Bool.not_eq_true', Bool.not_eq_false', Bool.and_eq_true, Bool.or_eq_true, Int.not_lt, Int.not_le, ne_eq, Decidable.not_not] at hg7
   refine l_on rfl rfl hg7b ?_
   refine l_q rfl rfl (q_move rfl) ?_
   refine l_on rfl rfl hg7b ?_
   obtain ⟨x10, hx10⟩ : ∃ x, (l)[0]? = some x := ⟨_, List.getElem?_eq_getElem (by first | omega | (simp only [lls] <;> omega) | (simp <;> omega))⟩
   have hb10 : x10 < 256 := hl x10 (List.mem_of_getElem? hx10)
   refine l_q rfl rfl (q_strAt (l := l) (i := 0) (b := x10) rfl rfl (by kernel_rfl) (by first | rfl | omega) (hx10) (by omega)) ?_
   refine l_on rfl rfl hg7b ?_
   refine l_q rfl rfl (q_lss rfl rfl) ?_
   refine l_q rfl rfl (q_pickF rfl hg7b rfl) ?_
   refine l_q rfl rfl (q_moveB rfl) ?_
   refine g_splitL (t := 15) rfl (fun hg11 => ?_) (fun hg11 => ?_)
   ·
    have hg11b := hg11
    try simp only [decide_eq_true_eq, decide_eq_false_iff_not, Bool.not_eq_true', Bool.not_eq_false', Bool.and_eq_true, Bool.or_eq_true, Int.not_lt, Int.not_le, ne_eq, Decidable.not_not] at hg11
    refine l_off rfl rfl rfl hg11b ?_
    refine l_off rfl rfl rfl hg11b ?_
    refine l_off rfl rfl rfl hg11b ?_
    refine l_q rfl rfl (q_pickT rfl hg11b rfl) ?_
    refine l_nil ?_
    refine hK3 _ _ ?_
    refine c_condT rfl rfl ?_
    refine wp_seq_k (fun K13 hK13 => ?_)
    refine wp_region_lit ?_
    refine l_q rfl rfl (q_assignB rfl) ?_
    refine l_nil ?_
    refine hK13 _ _ ?_
    refine wp_ret ?_
    refine c_ret1 rfl rfl ?_
    exact ⟨_, rfl, congrArg Value.bool (nm_1 hx10 (by omega)), hS.drop⟩
   ·
    have hg11b := hg11
    try simp only [decide_eq_true_eq, decide_eq_false_iff_not, Bool.not_eq_true', Bool.not_eq_false', Bool.and_eq_true, Bool.or_eq_true, Int.not_lt, Int.not_le, ne_eq, Decidable.not_not] at hg11
    refine l_on rfl rfl hg11b ?_
    refine l_q rfl rfl (q_move rfl) ?_
    refine l_on rfl rfl hg11b ?_
    refine l_q rfl rfl (q_strAt (l := l) (i := 0) (b := x10) rfl rfl (by kernel_rfl) (by first | rfl | omega) (hx10) (by omega)) ?_
    refine l_on rfl rfl hg11b ?_
    refine l_q rfl rfl (q_gtr rfl rfl) ?_
    refine l_q rfl rfl (q_pickF rfl hg11b rfl) ?_
    refine l_nil ?_
    refine hK3 _ _ ?_
    refine c_cond rfl (fun hc14 => ?_) (fun hc14 => ?_)
    ·
     have hc14b := hc14
     try simp only [decide_eq_true_eq, decide_eq_false_iff_not, Bool.not_eq_true', Bool.not_eq_false', Bool.and_eq_true, Bool.or_eq_true, Int.not_lt, Int.not_le, ne_eq, Decidable.not_not] at hc14
     refine wp_seq_k (fun K15 hK15 => ?_)
     refine wp_region_lit ?_
     refine l_q rfl rfl (q_assignB rfl) ?_
     refine l_nil ?_
     refine hK15 _ _ ?_
     refine wp_ret ?_
     refine c_ret1 rfl rfl ?_
     exact ⟨_, rfl, congrArg Value.bool (nm_1 hx10 (by omega)), hS.drop⟩
    ·
     have hc14b := hc14
     try simp only [decide_eq_true_eq, decide_eq_false_iff_not, Bool.not_eq_true', Bool.not_eq_false', Bool.and_eq_true, Bool.or_eq_true, Int.not_lt, Int.not_le, ne_eq, Decidable.not_not] at hc14
     refine wp_skip ?_
     refine hK2 _ _ ?_
     refine wp_seq_k (fun K16 hK16 => ?_)
     refine wp_region_lit ?_
     refine l_q rfl rfl (q_move rfl) ?_
     refine l_e rfl (fun K hK => ?_)
     refine e_convSB (e := 5) (l := l) hS rfl (by kernel_rfl) (by kernel_rfl) (by kernel_rfl) hl (by first | omega | (simp only [maxLen, lls] <;> omega) | (simp only [maxLen]; omega)) (fun ad17 cp17 g17 w17 hsb17 hcp17 (hS17 : St _ _ [.fz g17] _) => ?_)
     clear hS
     refine hK _ _ ?_; clear hK K
     refine l_e rfl (fun K hK => ?_)
     refine e_call (by kernel_rfl) (bcon_ok l hl l.length rfl (by omega) _ _ _ (hsb17.mono (hS17.fz (i := 0) rfl))) rfl (after_R hS17 (fun v18 w18 hv18 hS18 => ?_))
     clear hS17
     obtain rfl := hv18
     refine hK _ _ ?_; clear hK K
     refine l_q rfl rfl (q_not rfl) ?_
     refine l_q rfl rfl (q_assignB rfl) ?_
     refine l_nil ?_
     refine hK16 _ _ ?_
     refine wp_ret ?_
     refine c_ret1 rfl rfl ?_
     exact ⟨_, rfl, congrArg Value.bool (nm_4 (by omega) hx10 (by omega)), hS18.drop⟩

set_option maxHeartbeats 2000000 in
set_option maxRecDepth 100000 in
theorem rname_ok (l : List Nat) (hl : Bytes l) (hlm : l.length ≤ 9223372036854775807) (w : World) : Calls Tryz.prog 27 #[.string (bs l)] w (PostR w fun v => v = .bool (pB (NameP l))) := by
 have hS := St.start w
 refine c_enter Tryz.func27 rfl rfl rfl ?_
 refine wp_seq_k (fun K1 hK1 => ?_)
 refine wp_region_lit ?_
 refine l_q rfl rfl (q_assignB rfl) ?_
 refine l_nil ?_
 refine hK1 _ _ ?_
 refine wp_seq_k (fun K2 hK2 => ?_)
 refine wp_seq_k (fun K3 hK3 => ?_)
 refine wp_region_lit ?_
 refine l_q rfl rfl (q_assignI rfl) ?_
 refine l_nil ?_
 refine hK3 _ _ ?_
 refine wp_block ?_
 refine c_loop (τ := Nat) [(2, 35)] (fun x => (fun (i : Nat) => [(3, .int .i64 (i : Int))]) x) (fun x w' => (fun (i : Nat) => St w (fun _ => False) [] w' ∧ i ≤ l.length ∧ FstTo l i) x) (fun x => (fun (i : Nat) => l.length - i) x) (0) ?_ (by repeat' (first | exact trivial | refine ⟨by first | rfl | exact int_succ _ | assumption, ?_⟩)) (fun i j4 w4 hJ4 K4 hK4 => ?_)
 ·
  exact ⟨hS, Nat.zero_le _, FstTo.zero _⟩
 ·
  obtain ⟨hS4, hi, hj⟩ := hJ4
  try dsimp only at hS4 hi hj ⊢
  refine wp_seq_k (fun K5 hK5 => ?_)
  refine wp_seq_k (fun K6 hK6 => ?_)
  refine wp_region_lit ?_
  refine l_q rfl rfl (q_moveI rfl) ?_
  refine l_q rfl rfl (q_move rfl) ?_
  refine l_q rfl rfl (q_lenStrB (l := l) rfl (by kernel_rfl)) ?_
  refine l_q rfl rfl (q_lss rfl rfl) ?_
  refine l_nil ?_
  refine hK6 _ _ ?_
  refine c_cond rfl (fun hc7 => ?_) (fun hc7 => ?_)
  ·
   have hc7b := hc7
   try simp only [decide_eq_true_eq, decide_eq_false_iff_not, Bool.not_eq_true', Bool.not_eq_false', Bool.and_eq_true, Bool.or_eq_true, Int.not_lt, Int.not_le, ne_eq, Decidable.not_not] at hc7
   refine wp_skip ?_
   refine hK5 _ _ ?_
   refine wp_seq_k (fun K8 hK8 => ?_)
   refine wp_block ?_
   refine wp_seq_k (fun K9 hK9 => ?_)
   refine wp_region_lit ?_
   refine l_q rfl rfl (q_move rfl) ?_
   refine l_q rfl rfl (q_moveI rfl) ?_
   obtain ⟨x10, hx10⟩ : ∃ x, (l)[i]? = some x := ⟨_, List.getElem?_eq_getElem (by first | omega | (simp only [lls] <;> omega) | (simp <;> omega))⟩
   have hb10 : x10 < 256 := hl x10 (List.mem_of_getElem? hx10)
   refine l_q rfl rfl (q_strAt (l := l) (i := i) (b := x10) rfl rfl (by kernel_rfl) (by first | rfl | omega) (hx10) (by omega)) ?_
   refine l_q rfl rfl (q_assignI rfl) ?_
   refine l_nil ?_
   refine hK9 _ _ ?_
   refine wp_seq_k (fun K11 hK11 => ?_)
   refine wp_region_lit ?_
   refine l_q rfl rfl (q_moveI rfl) ?_
   refine l_q rfl rfl (q_lss rfl rfl) ?_
   refine l_q rfl rfl (q_moveB rfl) ?_
   refine g_splitL (t := 16) rfl (fun hg12 => ?_) (fun hg12 => ?_)
   ·
    have hg12b := hg12
    try simp only [decide_eq_true_eq, decide_eq_false_iff_not, Bool.not_eq_true', Bool.not_eq_false', Bool.and_eq_true, Bool.or_eq_true, Int.not_lt, Int.not_le, ne_eq, Decidable.not_not] at hg12
    refine l_off rfl rfl rfl hg12b ?_
    refine l_off rfl rfl rfl hg12b ?_
    refine l_q rfl rfl (q_pickT rfl hg12b rfl) ?_
    refine l_q rfl rfl (q_moveB rfl) ?_
    refine l_on rfl rfl rfl ?_
    refine l_q rfl rfl (q_moveI rfl) ?_
    refine l_on rfl rfl rfl ?_
    refine l_q rfl rfl (q_eql rfl rfl) ?_
    refine l_on rfl rfl rfl ?_
    refine l_q rfl rfl (q_moveB rfl) ?_
    refine g_splitL (t := 23) rfl (fun hg13 => ?_) (fun hg13 => ?_)
    ·
     have hg13b := hg13
     try simp only [decide_eq_true_eq, decide_eq_false_iff_not, Bool.not_eq_true', Bool.not_eq_false', Bool.and_eq_true, Bool.or_eq_true, Int.not_lt, Int.not_le, ne_eq, Decidable.not_not] at hg13
     refine l_off rfl rfl rfl hg13b ?_
     refine l_off rfl rfl rfl hg13b ?_
     refine l_off rfl rfl rfl hg13b ?_
     refine l_offN rfl rfl rfl ?_
     refine l_offN rfl rfl rfl ?_
     refine l_off rfl rfl rfl hg13b ?_
     refine l_off rfl rfl rfl hg13b ?_
     refine l_offN rfl rfl rfl ?_
     refine l_offN rfl rfl rfl ?_
     refine l_off rfl rfl rfl hg13b ?_
     refine l_on rfl rfl rfl ?_
     refine l_q rfl rfl (q_pickT rfl hg13b rfl) ?_
     refine l_q rfl rfl (q_pickT rfl rfl rfl) ?_
     refine l_nil ?_
     refine hK11 _ _ ?_
     refine c_condT rfl rfl ?_
     refine wp_seq_k (fun K15 hK15 => ?_)
     refine wp_region_lit ?_
     refine l_q rfl rfl (q_assignB rfl) ?_
     refine l_nil ?_
     refine hK15 _ _ ?_
     refine wp_ret ?_
     refine c_ret1 rfl rfl ?_
     exact ⟨_, rfl, congrArg Value.bool (nm_5 hx10 (by unfold okc; omega)), hS4.drop⟩
    ·
     have hg13b := hg13
     try simp only [decide_eq_true_eq, decide_eq_false_iff_not, Bool.not_eq_true', Bool.not_eq_false', Bool.and_eq_true, Bool.or_eq_true, Int.not_lt, Int.not_le, ne_eq, Decidable.not_not] at hg13
     refine l_on rfl rfl hg13b ?_
     refine l_q rfl rfl (q_moveI rfl) ?_
     refine l_on rfl rfl hg13b ?_
     refine l_q rfl rfl (q_lss rfl rfl) ?_
     refine l_on rfl rfl hg13b ?_
     refine l_q rfl rfl (q_moveB rfl) ?_
     refine g_splitL (t := 26) rfl (fun hg16 => ?_) (fun hg16 => ?_)
     ·
      have hg16b := hg16
      try simp only [decide_eq_true_eq, decide_eq_false_iff_not, Bool.not_eq_true', Bool.not_eq_false', Bool.and_eq_true, Bool.or_eq_true, Int.not_lt, Int.not_le, ne_eq, Decidable.not_not] at hg16
      refine l_off rfl rfl rfl hg16b ?_
      refine l_off rfl rfl rfl hg16b ?_
      refine l_on rfl rfl hg13b ?_
      refine l_q rfl rfl (q_pickT rfl hg16b rfl) ?_
      refine l_on rfl rfl hg13b ?_
      refine l_q rfl rfl (q_moveB rfl) ?_
      refine l_on rfl rfl rfl ?_
      refine l_q rfl rfl (q_moveI rfl) ?_
      refine l_on rfl rfl rfl ?_
      refine l_q rfl rfl (q_neq rfl rfl) ?_
      refine l_on rfl rfl hg13b ?_
      refine l_q rfl rfl (q_pickT rfl rfl rfl) ?_
      refine l_on rfl rfl rfl ?_
      refine l_q rfl rfl (q_pickF rfl hg13b rfl) ?_
      refine l_q rfl rfl (q_pickT rfl rfl rfl) ?_
      refine l_nil ?_
      refine hK11 _ _ ?_
      refine c_cond rfl (fun hc17 => ?_) (fun hc17 => ?_)
      ·
       have hc17b := hc17
       try simp only [decide_eq_true_eq, decide_eq_false_iff_not, Bool.not_eq_true', Bool.not_eq_false', Bool.and_eq_true, Bool.or_eq_true, Int.not_lt, Int.not_le, ne_eq, Decidable.not_not] at hc17
       refine wp_seq_k (fun K18 hK18 => ?_)
       refine wp_region_lit ?_
       refine l_q rfl rfl (q_assignB rfl) ?_
       refine l_nil ?_
       refine hK18 _ _ ?_
       refine wp_ret ?_
       refine c_ret1 rfl rfl ?_
       exact ⟨_, rfl, congrArg Value.bool (nm_5 hx10 (by unfold okc; omega)), hS4.drop⟩
      ·
       have hc17b := hc17
       try simp only [decide_eq_true_eq, decide_eq_false_iff_not, Bool.not_eq_true', Bool.not_eq_false', Bool.and_eq_true, Bool.or_eq_true, Int.not_lt, Int.not_le, ne_eq, Decidable.not_not] at hc17
       refine wp_skip ?_
       refine hK8 _ _ ?_
       refine wp_region_lit ?_
       refine l_q rfl rfl (q_moveI rfl) ?_
       refine l_q rfl rfl (q_addx rfl rfl (by first | decide | omega) (by first | decide | omega)) ?_
       refine l_q rfl rfl (q_assignI rfl) ?_
       refine l_nil ?_
       refine hK4 _ _ (came ((i + 1)) (by repeat' (first | exact Agree.refl _ _ | refine Agree.up ?_ rfl | refine Agree.hav2 ?_ rfl | refine Agree.ups2 ?_ rfl)) (by repeat' (first | exact trivial | refine ⟨by first | rfl | exact int_succ _ | assumption, ?_⟩)) ?_)
       exact ⟨⟨hS4, (by show i + 1 ≤ l.length; omega), hj.next hx10 (by unfold okc; omega)⟩, by (show l.length - (i + 1) < l.length - i); omega⟩
     ·
      have hg16b := hg16
      try simp only [decide_eq_true_eq, decide_eq_false_iff_not, Bool.not_eq_true', Bool.not_eq_false', Bool.and_eq_true, Bool.or_eq_true, Int.not_lt, Int.not_le, ne_eq, Decidable.not_not] at hg16
      refine l_on rfl rfl hg16b ?_
      refine l_q rfl rfl (q_moveI rfl) ?_
      refine l_on rfl rfl hg16b ?_
      refine l_q rfl rfl (q_gtr rfl rfl) ?_
      refine l_on rfl rfl hg13b ?_
      refine l_q rfl rfl (q_pickF rfl hg16b rfl) ?_
      refine l_on rfl rfl hg13b ?_
      refine l_q rfl rfl (q_moveB rfl) ?_
      refine g_splitL (t := 30) rfl (fun hg19 => ?_) (fun hg19 => ?_)
      ·
       have hg19b := hg19
       try simp only [decide_eq_true_eq, decide_eq_false_iff_not, Bool.not_eq_true', Bool.not_eq_false', Bool.and_eq_true, Bool.or_eq_true, Int.not_lt, Int.not_le, ne_eq, Decidable.not_not] at hg19
       refine l_on rfl rfl hg19b ?_
       refine l_q rfl rfl (q_moveI rfl) ?_
       refine l_on rfl rfl hg19b ?_
       refine l_q rfl rfl (q_neq rfl rfl) ?_
       refine l_on rfl rfl hg13b ?_
       refine l_q rfl rfl (q_pickT rfl hg19b rfl) ?_
       refine l_on rfl rfl rfl ?_
       refine l_q rfl rfl (q_pickF rfl hg13b rfl) ?_
       refine l_q rfl rfl (q_pickT rfl rfl rfl) ?_
       refine l_nil ?_
       refine hK11 _ _ ?_
       refine c_cond rfl (fun hc20 => ?_) (fun hc20 => ?_)
       ·
        have hc20b := hc20
        try simp only [decide_eq_true_eq, decide_eq_false_iff_not, Bool.not_eq_true', Bool.not_eq_false', Bool.and_eq_true, Bool.or_eq_true, Int.not_lt, Int.not_le, ne_eq, Decidable.not_not] at hc20
        refine wp_seq_k (fun K21 hK21 => ?_)
        refine wp_region_lit ?_
        refine l_q rfl rfl (q_assignB rfl) ?_
        refine l_nil ?_
        refine hK21 _ _ ?_
        refine wp_ret ?_
        refine c_ret1 rfl rfl ?_
        exact ⟨_, rfl, congrArg Value.bool (nm_5 hx10 (by unfold okc; omega)), hS4.drop⟩
       ·
        have hc20b := hc20
        try simp only [decide_eq_true_eq, decide_eq_false_iff_not, Bool.not_eq_true', Bool.not_eq_false', Bool.and_eq_true, Bool.or_eq_true, Int.not_lt, Int.not_le, ne_eq, Decidable.not_not] at hc20
        refine wp_skip ?_
        refine hK8 _ _ ?_
        refine wp_region_lit ?_
        refine l_q rfl rfl (q_moveI rfl) ?_
        refine l_q rfl rfl (q_addx rfl rfl (by first | decide | omega) (by first | decide | omega)) ?_
        refine l_q rfl rfl (q_assignI rfl) ?_
        refine l_nil ?_
        refine hK4 _ _ (came ((i + 1)) (by repeat' (first | exact Agree.refl _ _ | refine Agree.up ?_ rfl | refine Agree.hav2 ?_ rfl | refine Agree.ups2 ?_ rfl)) (by repeat' (first | exact trivial | refine ⟨by first | rfl | exact int_succ _ | assumption, ?_⟩)) ?_)
        exact ⟨⟨hS4, (by show i + 1 ≤ l.length; omega), hj.next hx10 (by unfold okc; omega)⟩, by (show l.length - (i + 1) < l.length - i); omega⟩
      ·
       have hg19b := hg19
       try simp only [decide_eq_true_eq, decide_eq_false_iff_not, Bool.not_eq_true', Bool.not_eq_false', Bool.and_eq_true, Bool.or_eq_true, Int.not_lt, Int.not_le, ne_eq, Decidable.not_not] at hg19
       refine l_off rfl rfl rfl hg19b ?_
       refine l_off rfl rfl rfl hg19b ?_
       refine l_on rfl rfl hg13b ?_
       refine l_q rfl rfl (q_pickF rfl hg19b rfl) ?_
       refine l_on rfl rfl rfl ?_
       refine l_q rfl rfl (q_pickF rfl hg13b rfl) ?_
       refine l_q rfl rfl (q_pickT rfl rfl rfl) ?_
       refine l_nil ?_
       refine hK11 _ _ ?_
       refine c_condF rfl rfl ?_
       refine wp_skip ?_
       refine hK8 _ _ ?_
       refine wp_region_lit ?_
       refine l_q rfl rfl (q_moveI rfl) ?_
       refine l_q rfl rfl (q_addx rfl rfl (by first | decide | omega) (by first | decide | omega)) ?_
       refine l_q rfl rfl (q_assignI rfl) ?_
       refine l_nil ?_
       refine hK4 _ _ (came ((i + 1)) (by repeat' (first | exact Agree.refl _ _ | refine Agree.up ?_ rfl | refine Agree.hav2 ?_ rfl | refine Agree.ups2 ?_ rfl)) (by repeat' (first | exact trivial | refine ⟨by first | rfl | exact int_succ _ | assumption, ?_⟩)) ?_)
       exact ⟨⟨hS4, (by show i + 1 ≤ l.length; omega), hj.next hx10 (by unfold okc; omega)⟩, by (show l.length - (i + 1) < l.length - i); omega⟩
   ·
    have hg12b := hg12
    try simp only [decide_eq_true_eq, decide_eq_false_iff_not, Bool.not_eq_true', Bool.not_eq_false', Bool.and_eq_true, Bool.or_eq_true, Int.not_lt, Int.not_le, ne_eq, Decidable.not_not] at hg12
    refine l_on rfl rfl hg12b ?_
    refine l_q rfl rfl (q_moveI rfl) ?_
    refine l_on rfl rfl hg12b ?_
    refine l_q rfl rfl (q_gtr rfl rfl) ?_
    refine l_q rfl rfl (q_pickF rfl hg12b rfl) ?_
    refine l_q rfl rfl (q_moveB rfl) ?_
    refine g_splitL (t := 20) rfl (fun hg23 => ?_) (fun hg23 => ?_)
    ·
     have hg23b := hg23
     try simp only [decide_eq_true_eq, decide_eq_false_iff_not, Bool.not_eq_true', Bool.not_eq_false', Bool.and_eq_true, Bool.or_eq_true, Int.not_lt, Int.not_le, ne_eq, Decidable.not_not] at hg23
     refine l_on rfl rfl hg23b ?_
     refine l_q rfl rfl (q_moveI rfl) ?_
     refine l_on rfl rfl hg23b ?_
     refine l_q rfl rfl (q_eql rfl rfl) ?_
     refine l_on rfl rfl hg23b ?_
     refine l_q rfl rfl (q_moveB rfl) ?_
     refine g_splitL (t := 23) rfl (fun hg24 => ?_) (fun hg24 => ?_)
     ·
      have hg24b := hg24
      try simp only [decide_eq_true_eq, decide_eq_false_iff_not, Bool.not_eq_true', Bool.not_eq_false', Bool.and_eq_true, Bool.or_eq_true, Int.not_lt, Int.not_le, ne_eq, Decidable.not_not] at hg24
      refine l_off rfl rfl rfl hg24b ?_
      refine l_off rfl rfl rfl hg24b ?_
      refine l_off rfl rfl rfl hg24b ?_
      refine l_offN rfl rfl rfl ?_
      refine l_offN rfl rfl rfl ?_
      refine l_off rfl rfl rfl hg24b ?_
      refine l_off rfl rfl rfl hg24b ?_
      refine l_offN rfl rfl rfl ?_
      refine l_offN rfl rfl rfl ?_
      refine l_off rfl rfl rfl hg24b ?_
      refine l_on rfl rfl hg23b ?_
      refine l_q rfl rfl (q_pickT rfl hg24b rfl) ?_
      refine l_q rfl rfl (q_pickT rfl hg23b rfl) ?_
      refine l_nil ?_
      refine hK11 _ _ ?_
      refine c_condT rfl rfl ?_
      refine wp_seq_k (fun K26 hK26 => ?_)
      refine wp_region_lit ?_
      refine l_q rfl rfl (q_assignB rfl) ?_
      refine l_nil ?_
      refine hK26 _ _ ?_
      refine wp_ret ?_
      refine c_ret1 rfl rfl ?_
      exact ⟨_, rfl, congrArg Value.bool (nm_5 hx10 (by unfold okc; omega)), hS4.drop⟩
     ·
      have hg24b := hg24
      try simp only [decide_eq_true_eq, decide_eq_false_iff_not, Bool.not_eq_true', Bool.not_eq_false', Bool.and_eq_true, Bool.or_eq_true, Int.not_lt, Int.not_le, ne_eq, Decidable.not_not] at hg24
      refine l_on rfl rfl hg24b ?_
      refine l_q rfl rfl (q_moveI rfl) ?_
      refine l_on rfl rfl hg24b ?_
      refine l_q rfl rfl (q_lss rfl rfl) ?_
      refine l_on rfl rfl hg24b ?_
      refine l_q rfl rfl (q_moveB rfl) ?_
      refine g_splitL (t := 26) rfl (fun hg27 => ?_) (fun hg27 => ?_)
      ·
       have hg27b := hg27
       try simp only [decide_eq_true_eq, decide_eq_false_iff_not, Bool.not_eq_true', Bool.not_eq_false', Bool.and_eq_true, Bool.or_eq_true, Int.not_lt, Int.not_le, ne_eq, Decidable.not_not] at hg27
       refine l_off rfl rfl rfl hg27b ?_
       refine l_off rfl rfl rfl hg27b ?_
       refine l_on rfl rfl hg24b ?_
       refine l_q rfl rfl (q_pickT rfl hg27b rfl) ?_
       refine l_on rfl rfl hg24b ?_
       refine l_q rfl rfl (q_moveB rfl) ?_
       refine l_on rfl rfl rfl ?_
       refine l_q rfl rfl (q_moveI rfl) ?_
       refine l_on rfl rfl rfl ?_
       refine l_q rfl rfl (q_neq rfl rfl) ?_
       refine l_on rfl rfl hg24b ?_
       refine l_q rfl rfl (q_pickT rfl rfl rfl) ?_
       refine l_on rfl rfl hg23b ?_
       refine l_q rfl rfl (q_pickF rfl hg24b rfl) ?_
       refine l_q rfl rfl (q_pickT rfl hg23b rfl) ?_
       refine l_nil ?_
       refine hK11 _ _ ?_
       refine c_cond rfl (fun hc28 => ?_) (fun hc28 => ?_)
       ·
        have hc28b := hc28
        try simp only [decide_eq_true_eq, decide_eq_false_iff_not, Bool.not_eq_true', Bool.not_eq_false', Bool.and_eq_true, Bool.or_eq_true, Int.not_lt, Int.not_le, ne_eq, Decidable.not_not] at hc28
        refine wp_seq_k (fun K29 hK29 => ?_)
        refine wp_region_lit ?_
        refine l_q rfl rfl (q_assignB rfl) ?_
        refine l_nil ?_
        refine hK29 _ _ ?_
        refine wp_ret ?_
        refine c_ret1 rfl rfl ?_
        exact ⟨_, rfl, congrArg Value.bool (nm_5 hx10 (by unfold okc; omega)), hS4.drop⟩
       ·
        have hc28b := hc28
        try simp only [decide_eq_true_eq, decide_eq_false_iff_not, Bool.not_eq_true', Bool.not_eq_false', Bool.and_eq_true, Bool.or_eq_true, Int.not_lt, Int.not_le, ne_eq, Decidable.not_not] at hc28
        refine wp_skip ?_
        refine hK8 _ _ ?_
        refine wp_region_lit ?_
        refine l_q rfl rfl (q_moveI rfl) ?_
        refine l_q rfl rfl (q_addx rfl rfl (by first | decide | omega) (by first | decide | omega)) ?_
        refine l_q rfl rfl (q_assignI rfl) ?_
        refine l_nil ?_
        refine hK4 _ _ (came ((i + 1)) (by repeat' (first | exact Agree.refl _ _ | refine Agree.up ?_ rfl | refine Agree.hav2 ?_ rfl | refine Agree.ups2 ?_ rfl)) (by repeat' (first | exact trivial | refine ⟨by first | rfl | exact int_succ _ | assumption, ?_⟩)) ?_)
        exact ⟨⟨hS4, (by show i + 1 ≤ l.length; omega), hj.next hx10 (by unfold okc; omega)⟩, by (show l.length - (i + 1) < l.length - i); omega⟩
      ·
       have hg27b := hg27
       try simp only [decide_eq_true_eq, decide_eq_false_iff_not, Bool.not_eq_true', Bool.not_eq_false', Bool.and_eq_true, Bool.or_eq_true, Int.not_lt, Int.not_le, ne_eq, Decidable.not_not] at hg27
       refine l_on rfl rfl hg27b ?_
       refine l_q rfl rfl (q_moveI rfl) ?_
       refine l_on rfl rfl hg27b ?_
       refine l_q rfl rfl (q_gtr rfl rfl) ?_
       refine l_on rfl rfl hg24b ?_
       refine l_q rfl rfl (q_pickF rfl hg27b rfl) ?_
       refine l_on rfl rfl hg24b ?_
       refine l_q rfl rfl (q_moveB rfl) ?_
       refine g_splitL (t := 30) rfl (fun hg30 => ?_) (fun hg30 => ?_)
       ·
        have hg30b := hg30
        try simp only [decide_eq_true_eq, decide_eq_false_iff_not, Bool.not_eq_true', Bool.not_eq_false', Bool.and_eq_true, Bool.or_eq_true, Int.not_lt, Int.not_le, ne_eq, Decidable.not_not] at hg30
        refine l_on rfl rfl hg30b ?_
        refine l_q rfl rfl (q_moveI rfl) ?_
        refine l_on rfl rfl hg30b ?_
        refine l_q rfl rfl (q_neq rfl rfl) ?_
        refine l_on rfl rfl hg24b ?_
        refine l_q rfl rfl (q_pickT rfl hg30b rfl) ?_
        refine l_on rfl rfl hg23b ?_
        refine l_q rfl rfl (q_pickF rfl hg24b rfl) ?_
        refine l_q rfl rfl (q_pickT rfl hg23b rfl) ?_
        refine l_nil ?_
        refine hK11 _ _ ?_
        refine c_cond rfl (fun hc31 => ?_) (fun hc31 => ?_)
        ·
         have hc31b := hc31
         try simp only [decide_eq_true_eq, decide_eq_false_iff_not, Bool.not_eq_true', Bool.not_eq_false', Bool.and_eq_true, Bool.or_eq_true, Int.not_lt, Int.not_le, ne_eq, Decidable.not_not] at hc31
         refine wp_seq_k (fun K32 hK32 => ?_)
         refine wp_region_lit ?_
         refine l_q rfl rfl (q_assignB rfl) ?_
         refine l_nil ?_
         refine hK32 _ _ ?_
         refine wp_ret ?_
         refine c_ret1 rfl rfl ?_
         exact ⟨_, rfl, congrArg Value.bool (nm_5 hx10 (by unfold okc; omega)), hS4.drop⟩
        ·
         have hc31b := hc31
         try simp only [decide_eq_true_eq, decide_eq_false_iff_not, Bool.not_eq_true', Bool.not_eq_false', Bool.and_eq_true, Bool.or_eq_true, Int.not_lt, Int.not_le, ne_eq, Decidable.not_not] at hc31
         refine wp_skip ?_
         refine hK8 _ _ ?_
         refine wp_region_lit ?_
         refine l_q rfl rfl (q_moveI rfl) ?_
         refine l_q rfl rfl (q_addx rfl rfl (by first | decide | omega) (by first | decide | omega)) ?_
         refine l_q rfl rfl (q_assignI rfl) ?_
         refine l_nil ?_
         refine hK4 _ _ (came ((i + 1)) (by repeat' (first | exact Agree.refl _ _ | refine Agree.up ?_ rfl | refine Agree.hav2 ?_ rfl | refine Agree.ups2 ?_ rfl)) (by repeat' (first | exact trivial | refine ⟨by first | rfl | exact int_succ _ | assumption, ?_⟩)) ?_)
         exact ⟨⟨hS4, (by show i + 1 ≤ l.length; omega), hj.next hx10 (by unfold okc; omega)⟩, by (show l.length - (i + 1) < l.length - i); omega⟩
       ·
        have hg30b := hg30
        try simp only [decide_eq_true_eq, decide_eq_false_iff_not, Bool.not_eq_true', Bool.not_eq_false', Bool.and_eq_true, Bool.or_eq_true, Int.not_lt, Int.not_le, ne_eq, Decidable.not_not] at hg30
        refine l_off rfl rfl rfl hg30b ?_
        refine l_off rfl rfl rfl hg30b ?_
        refine l_on rfl rfl hg24b ?_
        refine l_q rfl rfl (q_pickF rfl hg30b rfl) ?_
        refine l_on rfl rfl hg23b ?_
        refine l_q rfl rfl (q_pickF rfl hg24b rfl) ?_
        refine l_q rfl rfl (q_pickT rfl hg23b rfl) ?_
        refine l_nil ?_
        refine hK11 _ _ ?_
        refine c_condF rfl rfl ?_
        refine wp_skip ?_
        refine hK8 _ _ ?_
        refine wp_region_lit ?_
        refine l_q rfl rfl (q_moveI rfl) ?_
        refine l_q rfl rfl (q_addx rfl rfl (by first | decide | omega) (by first | decide | omega)) ?_
        refine l_q rfl rfl (q_assignI rfl) ?_
        refine l_nil ?_
        refine hK4 _ _ (came ((i + 1)) (by repeat' (first | exact Agree.refl _ _ | refine Agree.up ?_ rfl | refine Agree.hav2 ?_ rfl | refine Agree.ups2 ?_ rfl)) (by repeat' (first | exact trivial | refine ⟨by first | rfl | exact int_succ _ | assumption, ?_⟩)) ?_)
        exact ⟨⟨hS4, (by show i + 1 ≤ l.length; omega), hj.next hx10 (by unfold okc; omega)⟩, by (show l.length - (i + 1) < l.length - i); omega⟩
    ·
     have hg23b := hg23
     try simp only [decide_eq_true_eq, decide_eq_false_iff_not, Bool.not_eq_true', Bool.not_eq_false', Bool.and_eq_true, Bool.or_eq_true, Int.not_lt, Int.not_le, ne_eq, Decidable.not_not] at hg23
     refine l_off rfl rfl rfl hg23b ?_
     refine l_off rfl rfl rfl hg23b ?_
     refine l_off rfl rfl rfl hg23b ?_
     refine l_offN rfl rfl rfl ?_
     refine l_offN rfl rfl rfl ?_
     refine l_offN rfl rfl rfl ?_
     refine l_offN rfl rfl rfl ?_
     refine l_offN rfl rfl rfl ?_
     refine l_offN rfl rfl rfl ?_
     refine l_offN rfl rfl rfl ?_
     refine l_offN rfl rfl rfl ?_
     refine l_offN rfl rfl rfl ?_
     refine l_offN rfl rfl rfl ?_
     refine l_off rfl rfl rfl hg23b ?_
     refine l_q rfl rfl (q_pickF rfl hg23b rfl) ?_
     refine l_nil ?_
     refine hK11 _ _ ?_
     refine c_condF rfl rfl ?_
     refine wp_skip ?_
     refine hK8 _ _ ?_
     refine wp_region_lit ?_
     refine l_q rfl rfl (q_moveI rfl) ?_
     refine l_q rfl rfl (q_addx rfl rfl (by first | decide | omega) (by first | decide | omega)) ?_
     refine l_q rfl rfl (q_assignI rfl) ?_
     refine l_nil ?_
     refine hK4 _ _ (came ((i + 1)) (by repeat' (first | exact Agree.refl _ _ | refine Agree.up ?_ rfl | refine Agree.hav2 ?_ rfl | refine Agree.ups2 ?_ rfl)) (by repeat' (first | exact trivial | refine ⟨by first | rfl | exact int_succ _ | assumption, ?_⟩)) ?_)
     exact ⟨⟨hS4, (by show i + 1 ≤ l.length; omega), hj.next hx10 (by unfold okc; omega)⟩, by (show l.length - (i + 1) < l.length - i); omega⟩
  ·
   have hc7b := hc7
   try simp only [decide_eq_true_eq, decide_eq_false_iff_not, Bool.not_eq_true', Bool.not_eq_false', Bool.and_eq_true, Bool.or_eq_true, Int.not_lt, Int.not_le, ne_eq, Decidable.not_not] at hc7
   refine wp_exit ?_
   refine hK2 _ _ ?_
   refine wp_seq_k (fun K35 hK35 => ?_)
   refine wp_region_lit ?_
   refine l_q rfl rfl (q_move rfl) ?_
   refine l_q rfl rfl (q_lenStrB (l := l) rfl (by kernel_rfl)) ?_
   refine l_q rfl rfl (q_geq rfl rfl) ?_
   refine l_q rfl rfl (q_moveB rfl) ?_
   refine g_splitL (t := 39) rfl (fun hg36 => ?_) (fun hg36 => ?_)
   ·
    have hg36b := hg36
    try simp only [decide_eq_true_eq, decide_eq_false_iff_not, Bool.not_eq_true', Bool.not_eq_false', Bool.and_eq_true, Bool.or_eq_true, Int.not_lt, Int.not_le, ne_eq, Decidable.not_not] at hg36
    refine l_on rfl rfl hg36b ?_
    refine l_q rfl rfl (q_move rfl) ?_
    refine l_on rfl rfl hg36b ?_
    refine l_q rfl rfl (q_lenStrB (l := l) rfl (by kernel_rfl)) ?_
    refine l_on rfl rfl hg36b ?_
    refine l_q rfl rfl (q_leq rfl rfl) ?_
    refine l_q rfl rfl (q_pickT rfl hg36b rfl) ?_
    refine l_q rfl rfl (q_assignB rfl) ?_
    refine l_nil ?_
    refine hK35 _ _ ?_
    refine wp_ret ?_
    refine c_ret1 rfl rfl ?_
    have hii : i = l.length := by omega
    rw [hii] at hj
    exact ⟨_, rfl, congrArg Value.bool (Bool.eq_iff_iff.2 (by rw [pB_iff, nm_6 hj]; simp <;> omega)), hS4.drop⟩
   ·
    have hg36b := hg36
    try simp only [decide_eq_true_eq, decide_eq_false_iff_not, Bool.not_eq_true', Bool.not_eq_false', Bool.and_eq_true, Bool.or_eq_true, Int.not_lt, Int.not_le, ne_eq, Decidable.not_not] at hg36
    refine l_off rfl rfl rfl hg36b ?_
    refine l_off rfl rfl rfl hg36b ?_
    refine l_off rfl rfl rfl hg36b ?_
    refine l_q rfl rfl (q_pickF rfl hg36b rfl) ?_
    refine l_q rfl rfl (q_assignB rfl) ?_
    refine l_nil ?_
    refine hK35 _ _ ?_
    refine wp_ret ?_
    refine c_ret1 rfl rfl ?_
    have hii : i = l.length := by omega
    rw [hii] at hj
    exact ⟨_, rfl, congrArg Value.bool (Bool.eq_iff_iff.2 (by rw [pB_iff, nm_6 hj]; simp <;> omega)), hS4.drop⟩

end Go.Proofs.YtmemgpcgjephmaaGreatDoor
