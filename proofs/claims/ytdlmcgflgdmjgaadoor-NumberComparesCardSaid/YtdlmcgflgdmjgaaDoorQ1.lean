/- Values: Right, Order. -/
import Derived.Test.YtdlmcgflgdmjgaaDoorSw
import Derived.Test.YtdlmcgflgdmjgaaDoorSb
import Derived.Test.YtdlmcgflgdmjgaaDoorSd
import Derived.Test.YtdlmcgflgdmjgaaDoorProg
set_option linter.unusedVariables false
set_option linter.unusedSimpArgs false
namespace Go.Proofs.YtdlmcgflgdmjgaaDoor
open Go.RowKit
/-- A value: its kind, its number, its text. -/
abbrev Vl := Int × Int × List Nat
def vl (v : Vl) : List Value := [.int .i64 v.1, .int .i64 v.2.1, .string (bs v.2.2)]
theorem vl_ones : ∀ v : Vl, AllOne (vl v) := fun _ => ⟨rfl, rfl, rfl, trivial⟩
def VOk (v : Vl) : Prop := Bytes v.2.2 ∧ (-9223372036854775808 ≤ v.1 ∧ v.1 ≤ 9223372036854775807) ∧ (-9223372036854775808 ≤ v.2.1 ∧ v.2.1 ≤ 9223372036854775807)
def VsOk (l : List Vl) : Prop := ∀ v ∈ l, VOk v
theorem VsOk.nil : VsOk [] := fun v h => by cases h
theorem VsOk.app {l m : List Vl} (h : VsOk l) (h' : VsOk m) : VsOk (l ++ m) := fun v hv => (List.mem_append.1 hv).elim (h v) (h' v)
theorem VsOk.one {v : Vl} (h : VOk v) : VsOk [v] := fun x hx => by rw [List.mem_singleton] at hx; subst hx; exact h
theorem VsOk.take {l : List Vl} {n : Nat} (h : VsOk l) : VsOk (l.take n) := fun v hv => h v (List.mem_of_mem_take hv)
theorem VsOk.cons {v : Vl} {l : List Vl} (h : VOk v) (h' : VsOk l) : VsOk (v :: l) := fun x hx => by
  cases hx with
  | head => exact h
  | tail _ hx => exact h' x hx
/-- Is a value right? -/
def rightQ (v : Vl) : Bool :=
  if v.1 = 0 then decide (v.2.1 = 0) && decide (v.2.2 = [])
  else if v.1 = 1 then (decide (v.2.1 = 0) || decide (v.2.1 = 1)) && decide (v.2.2 = [])
  else if v.1 = 2 ∨ v.1 = 3 then decide (v.2.2 = [])
  else if v.1 = 4 ∨ v.1 = 5 then decide (v.2.1 = 0) && decide (v.2.2.length ≤ 200)
  else false
theorem bl_irr : ∀ l : List Nat, bl l l = false
  | [] => rfl
  | a :: l => by simp [bl, bl_irr l]
theorem bl_tot : ∀ {l m : List Nat}, bl l m = false → bl m l = false → l = m
  | [], [], _, _ => rfl
  | [], b :: m, h, _ => by simp [bl] at h
  | a :: l, [], _, h => by simp [bl] at h
  | a :: l, b :: m, h, h' => by
    simp only [bl, Bool.or_eq_false_iff, decide_eq_false_iff_not, Bool.and_eq_false_iff] at h h'
    have hab : a = b := by omega
    subst hab
    rw [bl_tot (l := l) (m := m) (by simpa using h.2) (by simpa using h'.2)]
theorem vl_ext {v w : Vl} (h1 : v.1 = w.1) (h2 : v.2.1 = w.2.1) (h3 : v.2.2 = w.2.2) : v = w := by
  obtain ⟨a, b, c⟩ := v
  obtain ⟨a', b', c'⟩ := w
  simp only at h1 h2 h3
  subst h1 h2 h3; rfl
/-- Which of two values comes first. -/
def vlt (v w : Vl) : Bool := decide (v.1 < w.1) || (decide (v.1 = w.1) && (decide (v.2.1 < w.2.1) || (decide (v.2.1 = w.2.1) && bl v.2.2 w.2.2)))
def cmpZ (a b : Int) : Int := if a < b then -1 else if b < a then 1 else 0
def cmB (l m : List Nat) : Int := if bl l m = true then -1 else if bl m l = true then 1 else 0
def orL : List Int → Int
  | [] => 0
  | a :: l => if a = 0 then orL l else a
def vcmp (v w : Vl) : Int := orL [cmpZ v.1 w.1, cmpZ v.2.1 w.2.1, cmB v.2.2 w.2.2]
theorem orL_at : ∀ {l : List Int} {i : Nat} {x : Int}, (∀ j, j < i → ∀ y, l[j]? = some y → y = 0) → l[i]? = some x → x ≠ 0 → orL l = x
  | a :: l, 0, x, _, h, hx => by simp at h; subst h; simp [orL, hx]
  | a :: l, i + 1, x, h, hi, hx => by
    have := h 0 (by omega) a rfl
    simp only [orL, if_pos this]
    exact orL_at (l := l) (i := i) (fun j hj y hy => h (j + 1) (by omega) y (by simpa using hy)) (by simpa using hi) hx
theorem orL_no : ∀ {l : List Int}, (∀ j, j < l.length → ∀ y, l[j]? = some y → y = 0) → orL l = 0
  | [], _ => rfl
  | a :: l, h => by
    have := h 0 (by simp) a rfl
    simp only [orL, if_pos this]
    exact orL_no fun j hj y hy => h (j + 1) (by simpa using hj) y (by simpa using hy)
theorem or_next {l : List Int} {i : Nat} {x : Int} (h : ∀ j, j < i → ∀ y, l[j]? = some y → y = 0) (hx : l[i]? = some x) (h0 : x = 0) : ∀ j, j < i + 1 → ∀ y, l[j]? = some y → y = 0 := by
  intro j hj y hy
  by_cases e : j = i
  · subst e; rw [hx] at hy; injection hy with hy; omega
  · exact h j (by omega) y hy
theorem bl_asym : ∀ {l m : List Nat}, bl l m = true → bl m l = false
  | [], [], h => rfl
  | [], b :: m, _ => rfl
  | a :: l, [], h => by simp [bl] at h
  | a :: l, b :: m, h => by
    simp only [bl, Bool.or_eq_true, decide_eq_true_eq, Bool.and_eq_true, Bool.or_eq_false_iff, decide_eq_false_iff_not, Bool.and_eq_false_iff] at h ⊢
    rcases h with h | ⟨h1, h2⟩
    · exact ⟨by omega, .inl (by omega)⟩
    · exact ⟨by omega, .inr (bl_asym h2)⟩
theorem cmB_z {l m : List Nat} : cmB l m = 0 ↔ l = m := by
  unfold cmB
  constructor
  · intro h
    split at h
    · cases h
    · split at h
      · cases h
      · rename_i h1 h2; exact bl_tot (by simpa using h1) (by simpa using h2)
  · rintro rfl; rw [bl_irr]; rfl
theorem vcmp_zero {v w : Vl} : vcmp v w = 0 ↔ v = w := by
  unfold vcmp
  simp only [orL]
  constructor
  · intro h
    by_cases h1 : cmpZ v.1 w.1 = 0
    · rw [if_pos h1] at h
      by_cases h2 : cmpZ v.2.1 w.2.1 = 0
      · rw [if_pos h2] at h
        by_cases h3 : cmB v.2.2 w.2.2 = 0
        · unfold cmpZ at h1 h2
          exact vl_ext (by split at h1 <;> first | omega | (split at h1 <;> omega)) (by split at h2 <;> first | omega | (split at h2 <;> omega)) (cmB_z.1 h3)
        · rw [if_neg h3] at h; exact absurd h h3
      · rw [if_neg h2] at h; exact absurd h h2
    · rw [if_neg h1] at h; exact absurd h h1
  · rintro rfl
    simp [cmpZ, cmB, bl_irr]
theorem vcmp_neg {v w : Vl} : vcmp v w < 0 ↔ vlt v w = true := by
  unfold vcmp vlt
  simp only [orL]
  by_cases h1 : v.1 < w.1
  · simp [cmpZ, h1]
  · by_cases h1' : w.1 < v.1
    · have : v.1 ≠ w.1 := by omega
      simp [cmpZ, h1, h1', this]
    · have e1 : v.1 = w.1 := by omega
      by_cases h2 : v.2.1 < w.2.1
      · simp [cmpZ, e1, h2]
      · by_cases h2' : w.2.1 < v.2.1
        · have : v.2.1 ≠ w.2.1 := by omega
          simp [cmpZ, e1, h2, h2', this]
        · have e2 : v.2.1 = w.2.1 := by omega
          cases h3 : bl v.2.2 w.2.2 with
          | true => simp [cmpZ, cmB, e1, e2, h3]
          | false => cases h4 : bl w.2.2 v.2.2 <;> simp [cmpZ, cmB, e1, e2, h3, h4]
theorem cmB_1 {l m : List Nat} (h : bl l m = true) : -1 = cmB l m := by unfold cmB; rw [if_pos h]
theorem cmB_2 {l m : List Nat} (h : bl l m = false) (h2 : ¬l = m) : 1 = cmB l m := by
  unfold cmB; rw [if_neg (by rw [h]; simp), if_pos]
  cases h3 : bl m l with
  | true => rfl
  | false => exact absurd (bl_tot h h3) h2
theorem cmB_3 {l m : List Nat} (h : bl l m = false) (h2 : l = m) : 0 = cmB l m := by
  subst h2; unfold cmB; rw [h]; rfl

attribute [local irreducible] Oper.wp Sem.run Code.wp wpList wpAnyO callFunc execOp Calls

set_option maxRecDepth 100000 in
theorem right_ok (a : Vl) (hB : Bytes a.2.2) (w : World) : Calls Tryd.prog 51 #[.agg (vl a).toArray] w (PostR w fun v => v = .bool (rightQ a)) := by
 have hS := St.start w
 refine c_enter Tryd.func51 rfl rfl rfl ?_
 refine wp_seq_k (fun K1 hK1 => ?_)
 refine wp_region_lit ?_
 refine l_e rfl (fun K hK => ?_)
 refine e_boxA hS rfl (fun b2 w2 (hS2 : St _ _ [.blk b2 (.cells #[.int .i64 a.1, .int .i64 a.2.1, .string (bs a.2.2)] 51)] _) => ?_)
 clear hS
 refine hK _ _ ?_; clear hK K
 refine l_q rfl rfl (q_assignB rfl) ?_
 refine l_nil ?_
 refine hK1 _ _ ?_
 refine wp_seq_k (fun K3 hK3 => ?_)
 refine wp_seq_k (fun K4 hK4 => ?_)
 refine wp_region_lit ?_
 refine l_q rfl rfl (q_fieldAddr (ft := 49) (o := 0) rfl (by kernel_rfl)) ?_
 refine l_q rfl rfl (q_load1 rfl (by kernel_rfl) (hS2.cell (i := 0) rfl rfl)) ?_
 refine l_nil ?_
 refine hK4 _ _ ?_
 refine wp_block ?_
 refine wp_seq_k (fun K5 hK5 => ?_)
 refine wp_block ?_
 refine wp_block ?_
 refine wp_seq_k (fun K6 hK6 => ?_)
 refine wp_block ?_
 refine wp_block ?_
 refine wp_seq_k (fun K7 hK7 => ?_)
 refine wp_block ?_
 refine wp_seq_k (fun K8 hK8 => ?_)
 refine wp_block ?_
 refine wp_seq_k (fun K9 hK9 => ?_)
 refine wp_seq_k (fun K10 hK10 => ?_)
 refine wp_seq_k (fun K11 hK11 => ?_)
 refine wp_region_lit ?_
 refine l_q rfl rfl (q_eql rfl rfl) ?_
 refine l_q rfl rfl (q_assignB rfl) ?_
 refine l_nil ?_
 refine hK11 _ _ ?_
 refine c_cond rfl (fun hc12 => ?_) (fun hc12 => ?_)
 ·
  have hc12b := hc12
  try simp only [decide_eq_true_eq, decide_eq_false_iff_not, Bool.not_eq_true', Bool.not_eq_false', Bool.and_eq_true, Bool.or_eq_true, Int.not_lt, Int.not_le, ne_eq, Decidable.not_not] at hc12
  refine wp_exit ?_
  refine hK8 _ _ ?_
  refine wp_seq_k (fun K13 hK13 => ?_)
  refine wp_region_lit ?_
  refine l_q rfl rfl (q_fieldAddr (ft := 2) (o := 1) rfl (by kernel_rfl)) ?_
  refine l_q rfl rfl (q_load1 rfl (by kernel_rfl) (hS2.cell (i := 0) rfl rfl)) ?_
  refine l_q rfl rfl (q_eql rfl rfl) ?_
  refine l_nil ?_
  refine hK13 _ _ ?_
  refine c_cond rfl (fun hc14 => ?_) (fun hc14 => ?_)
  ·
   have hc14b := hc14
   try simp only [decide_eq_true_eq, decide_eq_false_iff_not, Bool.not_eq_true', Bool.not_eq_false', Bool.and_eq_true, Bool.or_eq_true, Int.not_lt, Int.not_le, ne_eq, Decidable.not_not] at hc14
   refine wp_seq_k (fun K15 hK15 => ?_)
   refine wp_region_lit ?_
   refine l_q rfl rfl (q_fieldAddr (ft := 9) (o := 2) rfl (by kernel_rfl)) ?_
   refine l_q rfl rfl (q_load1 rfl (by kernel_rfl) (hS2.cell (i := 0) rfl rfl)) ?_
   refine l_q rfl rfl (q_str_eql (l := a.2.2) (m := []) rfl rfl hB Bytes.nil) ?_
   refine l_q rfl rfl (q_assignB rfl) ?_
   refine l_nil ?_
   refine hK15 _ _ ?_
   refine wp_ret ?_
   refine c_ret1 rfl rfl ?_
   exact ⟨_, rfl, congrArg Value.bool (by unfold rightQ; simp [*] <;> omega), hS2.drop⟩
  ·
   have hc14b := hc14
   try simp only [decide_eq_true_eq, decide_eq_false_iff_not, Bool.not_eq_true', Bool.not_eq_false', Bool.and_eq_true, Bool.or_eq_true, Int.not_lt, Int.not_le, ne_eq, Decidable.not_not] at hc14
   refine wp_skip ?_
   refine hK7 _ _ ?_
   refine wp_seq_k (fun K16 hK16 => ?_)
   refine wp_seq_k (fun K17 hK17 => ?_)
   refine wp_region_lit ?_
   refine l_q rfl rfl (q_fieldAddr (ft := 2) (o := 1) rfl (by kernel_rfl)) ?_
   refine l_q rfl rfl (q_load1 rfl (by kernel_rfl) (hS2.cell (i := 0) rfl rfl)) ?_
   refine l_q rfl rfl (q_eql rfl rfl) ?_
   refine l_q rfl rfl (q_moveB rfl) ?_
   refine g_splitL (t := 26) rfl (fun hg18 => ?_) (fun hg18 => ?_)
   ·
    have hg18b := hg18
    try simp only [decide_eq_true_eq, decide_eq_false_iff_not, Bool.not_eq_true', Bool.not_eq_false', Bool.and_eq_true, Bool.or_eq_true, Int.not_lt, Int.not_le, ne_eq, Decidable.not_not] at hg18
    refine l_on rfl rfl hg18b ?_
    refine l_q rfl rfl (q_fieldAddr (ft := 9) (o := 2) rfl (by kernel_rfl)) ?_
    refine l_on rfl rfl hg18b ?_
    refine l_q rfl rfl (q_load1 rfl (by kernel_rfl) (hS2.cell (i := 0) rfl rfl)) ?_
    refine l_on rfl rfl hg18b ?_
    refine l_q rfl rfl (q_str_eql (l := a.2.2) (m := []) rfl rfl hB Bytes.nil) ?_
    refine l_q rfl rfl (q_pickT rfl hg18b rfl) ?_
    refine l_q rfl rfl (q_assignB rfl) ?_
    refine l_nil ?_
    refine hK17 _ _ ?_
    refine wp_ret ?_
    refine c_ret1 rfl rfl ?_
    exact ⟨_, rfl, congrArg Value.bool (by unfold rightQ; simp [*] <;> omega), hS2.drop⟩
   ·
    have hg18b := hg18
    try simp only [decide_eq_true_eq, decide_eq_false_iff_not, Bool.not_eq_true', Bool.not_eq_false', Bool.and_eq_true, Bool.or_eq_true, Int.not_lt, Int.not_le, ne_eq, Decidable.not_not] at hg18
    refine l_off rfl rfl rfl hg18b ?_
    refine l_off rfl rfl rfl hg18b ?_
    refine l_off rfl rfl rfl hg18b ?_
    refine l_q rfl rfl (q_pickF rfl hg18b rfl) ?_
    refine l_q rfl rfl (q_assignB rfl) ?_
    refine l_nil ?_
    refine hK17 _ _ ?_
    refine wp_ret ?_
    refine c_ret1 rfl rfl ?_
    exact ⟨_, rfl, congrArg Value.bool (by unfold rightQ; simp [*] <;> omega), hS2.drop⟩
 ·
  have hc12b := hc12
  try simp only [decide_eq_true_eq, decide_eq_false_iff_not, Bool.not_eq_true', Bool.not_eq_false', Bool.and_eq_true, Bool.or_eq_true, Int.not_lt, Int.not_le, ne_eq, Decidable.not_not] at hc12
  refine wp_skip ?_
  refine hK10 _ _ ?_
  refine wp_seq_k (fun K19 hK19 => ?_)
  refine wp_seq_k (fun K20 hK20 => ?_)
  refine wp_region_lit ?_
  refine l_q rfl rfl (q_eql rfl rfl) ?_
  refine l_q rfl rfl (q_assignB rfl) ?_
  refine l_nil ?_
  refine hK20 _ _ ?_
  refine c_cond rfl (fun hc21 => ?_) (fun hc21 => ?_)
  ·
   have hc21b := hc21
   try simp only [decide_eq_true_eq, decide_eq_false_iff_not, Bool.not_eq_true', Bool.not_eq_false', Bool.and_eq_true, Bool.or_eq_true, Int.not_lt, Int.not_le, ne_eq, Decidable.not_not] at hc21
   refine wp_exit ?_
   refine hK7 _ _ ?_
   refine wp_seq_k (fun K22 hK22 => ?_)
   refine wp_seq_k (fun K23 hK23 => ?_)
   refine wp_region_lit ?_
   refine l_q rfl rfl (q_fieldAddr (ft := 2) (o := 1) rfl (by kernel_rfl)) ?_
   refine l_q rfl rfl (q_load1 rfl (by kernel_rfl) (hS2.cell (i := 0) rfl rfl)) ?_
   refine l_q rfl rfl (q_eql rfl rfl) ?_
   refine l_q rfl rfl (q_moveB rfl) ?_
   refine g_splitL (t := 26) rfl (fun hg24 => ?_) (fun hg24 => ?_)
   ·
    have hg24b := hg24
    try simp only [decide_eq_true_eq, decide_eq_false_iff_not, Bool.not_eq_true', Bool.not_eq_false', Bool.and_eq_true, Bool.or_eq_true, Int.not_lt, Int.not_le, ne_eq, Decidable.not_not] at hg24
    refine l_on rfl rfl hg24b ?_
    refine l_q rfl rfl (q_fieldAddr (ft := 9) (o := 2) rfl (by kernel_rfl)) ?_
    refine l_on rfl rfl hg24b ?_
    refine l_q rfl rfl (q_load1 rfl (by kernel_rfl) (hS2.cell (i := 0) rfl rfl)) ?_
    refine l_on rfl rfl hg24b ?_
    refine l_q rfl rfl (q_str_eql (l := a.2.2) (m := []) rfl rfl hB Bytes.nil) ?_
    refine l_q rfl rfl (q_pickT rfl hg24b rfl) ?_
    refine l_q rfl rfl (q_assignB rfl) ?_
    refine l_nil ?_
    refine hK23 _ _ ?_
    refine wp_ret ?_
    refine c_ret1 rfl rfl ?_
    exact ⟨_, rfl, congrArg Value.bool (by unfold rightQ; simp [*] <;> omega), hS2.drop⟩
   ·
    have hg24b := hg24
    try simp only [decide_eq_true_eq, decide_eq_false_iff_not, Bool.not_eq_true', Bool.not_eq_false', Bool.and_eq_true, Bool.or_eq_true, Int.not_lt, Int.not_le, ne_eq, Decidable.not_not] at hg24
    refine l_off rfl rfl rfl hg24b ?_
    refine l_off rfl rfl rfl hg24b ?_
    refine l_off rfl rfl rfl hg24b ?_
    refine l_q rfl rfl (q_pickF rfl hg24b rfl) ?_
    refine l_q rfl rfl (q_assignB rfl) ?_
    refine l_nil ?_
    refine hK23 _ _ ?_
    refine wp_ret ?_
    refine c_ret1 rfl rfl ?_
    exact ⟨_, rfl, congrArg Value.bool (by unfold rightQ; simp [*] <;> omega), hS2.drop⟩
  ·
   have hc21b := hc21
   try simp only [decide_eq_true_eq, decide_eq_false_iff_not, Bool.not_eq_true', Bool.not_eq_false', Bool.and_eq_true, Bool.or_eq_true, Int.not_lt, Int.not_le, ne_eq, Decidable.not_not] at hc21
   refine wp_skip ?_
   refine hK19 _ _ ?_
   refine wp_seq_k (fun K25 hK25 => ?_)
   refine wp_seq_k (fun K26 hK26 => ?_)
   refine wp_region_lit ?_
   refine l_q rfl rfl (q_eql rfl rfl) ?_
   refine l_q rfl rfl (q_assignB rfl) ?_
   refine l_nil ?_
   refine hK26 _ _ ?_
   refine c_cond rfl (fun hc27 => ?_) (fun hc27 => ?_)
   ·
    have hc27b := hc27
    try simp only [decide_eq_true_eq, decide_eq_false_iff_not, Bool.not_eq_true', Bool.not_eq_false', Bool.and_eq_true, Bool.or_eq_true, Int.not_lt, Int.not_le, ne_eq, Decidable.not_not] at hc27
    refine wp_exit ?_
    refine hK6 _ _ ?_
    refine wp_seq_k (fun K28 hK28 => ?_)
    refine wp_seq_k (fun K29 hK29 => ?_)
    refine wp_region_lit ?_
    refine l_q rfl rfl (q_fieldAddr (ft := 9) (o := 2) rfl (by kernel_rfl)) ?_
    refine l_q rfl rfl (q_load1 rfl (by kernel_rfl) (hS2.cell (i := 0) rfl rfl)) ?_
    refine l_q rfl rfl (q_str_eql (l := a.2.2) (m := []) rfl rfl hB Bytes.nil) ?_
    refine l_q rfl rfl (q_assignB rfl) ?_
    refine l_nil ?_
    refine hK29 _ _ ?_
    refine wp_ret ?_
    refine c_ret1 rfl rfl ?_
    exact ⟨_, rfl, congrArg Value.bool (by unfold rightQ; simp [*] <;> omega), hS2.drop⟩
   ·
    have hc27b := hc27
    try simp only [decide_eq_true_eq, decide_eq_false_iff_not, Bool.not_eq_true', Bool.not_eq_false', Bool.and_eq_true, Bool.or_eq_true, Int.not_lt, Int.not_le, ne_eq, Decidable.not_not] at hc27
    refine wp_skip ?_
    refine hK25 _ _ ?_
    refine wp_seq_k (fun K30 hK30 => ?_)
    refine wp_seq_k (fun K31 hK31 => ?_)
    refine wp_region_lit ?_
    refine l_q rfl rfl (q_eql rfl rfl) ?_
    refine l_q rfl rfl (q_assignB rfl) ?_
    refine l_nil ?_
    refine hK31 _ _ ?_
    refine c_cond rfl (fun hc32 => ?_) (fun hc32 => ?_)
    ·
     have hc32b := hc32
     try simp only [decide_eq_true_eq, decide_eq_false_iff_not, Bool.not_eq_true', Bool.not_eq_false', Bool.and_eq_true, Bool.or_eq_true, Int.not_lt, Int.not_le, ne_eq, Decidable.not_not] at hc32
     refine wp_exit ?_
     refine hK6 _ _ ?_
     refine wp_seq_k (fun K33 hK33 => ?_)
     refine wp_seq_k (fun K34 hK34 => ?_)
     refine wp_region_lit ?_
     refine l_q rfl rfl (q_fieldAddr (ft := 9) (o := 2) rfl (by kernel_rfl)) ?_
     refine l_q rfl rfl (q_load1 rfl (by kernel_rfl) (hS2.cell (i := 0) rfl rfl)) ?_
     refine l_q rfl rfl (q_str_eql (l := a.2.2) (m := []) rfl rfl hB Bytes.nil) ?_
     refine l_q rfl rfl (q_assignB rfl) ?_
     refine l_nil ?_
     refine hK34 _ _ ?_
     refine wp_ret ?_
     refine c_ret1 rfl rfl ?_
     exact ⟨_, rfl, congrArg Value.bool (by unfold rightQ; simp [*] <;> omega), hS2.drop⟩
    ·
     have hc32b := hc32
     try simp only [decide_eq_true_eq, decide_eq_false_iff_not, Bool.not_eq_true', Bool.not_eq_false', Bool.and_eq_true, Bool.or_eq_true, Int.not_lt, Int.not_le, ne_eq, Decidable.not_not] at hc32
     refine wp_skip ?_
     refine hK30 _ _ ?_
     refine wp_seq_k (fun K35 hK35 => ?_)
     refine wp_seq_k (fun K36 hK36 => ?_)
     refine wp_region_lit ?_
     refine l_q rfl rfl (q_eql rfl rfl) ?_
     refine l_q rfl rfl (q_assignB rfl) ?_
     refine l_nil ?_
     refine hK36 _ _ ?_
     refine c_cond rfl (fun hc37 => ?_) (fun hc37 => ?_)
     ·
      have hc37b := hc37
      try simp only [decide_eq_true_eq, decide_eq_false_iff_not, Bool.not_eq_true', Bool.not_eq_false', Bool.and_eq_true, Bool.or_eq_true, Int.not_lt, Int.not_le, ne_eq, Decidable.not_not] at hc37
      refine wp_exit ?_
      refine hK5 _ _ ?_
      refine wp_seq_k (fun K38 hK38 => ?_)
      refine wp_seq_k (fun K39 hK39 => ?_)
      refine wp_region_lit ?_
      refine l_q rfl rfl (q_fieldAddr (ft := 2) (o := 1) rfl (by kernel_rfl)) ?_
      refine l_q rfl rfl (q_load1 rfl (by kernel_rfl) (hS2.cell (i := 0) rfl rfl)) ?_
      refine l_q rfl rfl (q_eql rfl rfl) ?_
      refine l_q rfl rfl (q_moveB rfl) ?_
      refine g_splitL (t := 37) rfl (fun hg40 => ?_) (fun hg40 => ?_)
      ·
       have hg40b := hg40
       try simp only [decide_eq_true_eq, decide_eq_false_iff_not, Bool.not_eq_true', Bool.not_eq_false', Bool.and_eq_true, Bool.or_eq_true, Int.not_lt, Int.not_le, ne_eq, Decidable.not_not] at hg40
       refine l_on rfl rfl hg40b ?_
       refine l_q rfl rfl (q_fieldAddr (ft := 9) (o := 2) rfl (by kernel_rfl)) ?_
       refine l_on rfl rfl hg40b ?_
       refine l_q rfl rfl (q_load1 rfl (by kernel_rfl) (hS2.cell (i := 0) rfl rfl)) ?_
       refine l_on rfl rfl hg40b ?_
       refine l_q rfl rfl (q_lenStrB (l := a.2.2) rfl (by kernel_rfl)) ?_
       refine l_on rfl rfl hg40b ?_
       refine l_q rfl rfl (q_leq rfl rfl) ?_
       refine l_q rfl rfl (q_pickT rfl hg40b rfl) ?_
       refine l_q rfl rfl (q_assignB rfl) ?_
       refine l_nil ?_
       refine hK39 _ _ ?_
       refine wp_ret ?_
       refine c_ret1 rfl rfl ?_
       exact ⟨_, rfl, congrArg Value.bool (by unfold rightQ; simp [*] <;> omega), hS2.drop⟩
      ·
       have hg40b := hg40
       try simp only [decide_eq_true_eq, decide_eq_false_iff_not, Bool.not_eq_true', Bool.not_eq_false', Bool.and_eq_true, Bool.or_eq_true, Int.not_lt, Int.not_le, ne_eq, Decidable.not_not] at hg40
       refine l_off rfl rfl rfl hg40b ?_
       refine l_off rfl rfl rfl hg40b ?_
       refine l_off rfl rfl rfl hg40b ?_
       refine l_off rfl rfl rfl hg40b ?_
       refine l_q rfl rfl (q_pickF rfl hg40b rfl) ?_
       refine l_q rfl rfl (q_assignB rfl) ?_
       refine l_nil ?_
       refine hK39 _ _ ?_
       refine wp_ret ?_
       refine c_ret1 rfl rfl ?_
       exact ⟨_, rfl, congrArg Value.bool (by unfold rightQ; simp [*] <;> omega), hS2.drop⟩
     ·
      have hc37b := hc37
      try simp only [decide_eq_true_eq, decide_eq_false_iff_not, Bool.not_eq_true', Bool.not_eq_false', Bool.and_eq_true, Bool.or_eq_true, Int.not_lt, Int.not_le, ne_eq, Decidable.not_not] at hc37
      refine wp_skip ?_
      refine hK35 _ _ ?_
      refine wp_seq_k (fun K41 hK41 => ?_)
      refine wp_region_lit ?_
      refine l_q rfl rfl (q_eql rfl rfl) ?_
      refine l_q rfl rfl (q_assignB rfl) ?_
      refine l_nil ?_
      refine hK41 _ _ ?_
      refine c_cond rfl (fun hc42 => ?_) (fun hc42 => ?_)
      ·
       have hc42b := hc42
       try simp only [decide_eq_true_eq, decide_eq_false_iff_not, Bool.not_eq_true', Bool.not_eq_false', Bool.and_eq_true, Bool.or_eq_true, Int.not_lt, Int.not_le, ne_eq, Decidable.not_not] at hc42
       refine wp_exit ?_
       refine hK5 _ _ ?_
       refine wp_seq_k (fun K43 hK43 => ?_)
       refine wp_seq_k (fun K44 hK44 => ?_)
       refine wp_region_lit ?_
       refine l_q rfl rfl (q_fieldAddr (ft := 2) (o := 1) rfl (by kernel_rfl)) ?_
       refine l_q rfl rfl (q_load1 rfl (by kernel_rfl) (hS2.cell (i := 0) rfl rfl)) ?_
       refine l_q rfl rfl (q_eql rfl rfl) ?_
       refine l_q rfl rfl (q_moveB rfl) ?_
       refine g_splitL (t := 37) rfl (fun hg45 => ?_) (fun hg45 => ?_)
       ·
        have hg45b := hg45
        try simp only [decide_eq_true_eq, decide_eq_false_iff_not, Bool.not_eq_true', Bool.not_eq_false', Bool.and_eq_true, Bool.or_eq_true, Int.not_lt, Int.not_le, ne_eq, Decidable.not_not] at hg45
        refine l_on rfl rfl hg45b ?_
        refine l_q rfl rfl (q_fieldAddr (ft := 9) (o := 2) rfl (by kernel_rfl)) ?_
        refine l_on rfl rfl hg45b ?_
        refine l_q rfl rfl (q_load1 rfl (by kernel_rfl) (hS2.cell (i := 0) rfl rfl)) ?_
        refine l_on rfl rfl hg45b ?_
        refine l_q rfl rfl (q_lenStrB (l := a.2.2) rfl (by kernel_rfl)) ?_
        refine l_on rfl rfl hg45b ?_
        refine l_q rfl rfl (q_leq rfl rfl) ?_
        refine l_q rfl rfl (q_pickT rfl hg45b rfl) ?_
        refine l_q rfl rfl (q_assignB rfl) ?_
        refine l_nil ?_
        refine hK44 _ _ ?_
        refine wp_ret ?_
        refine c_ret1 rfl rfl ?_
        exact ⟨_, rfl, congrArg Value.bool (by unfold rightQ; simp [*] <;> omega), hS2.drop⟩
       ·
        have hg45b := hg45
        try simp only [decide_eq_true_eq, decide_eq_false_iff_not, Bool.not_eq_true', Bool.not_eq_false', Bool.and_eq_true, Bool.or_eq_true, Int.not_lt, Int.not_le, ne_eq, Decidable.not_not] at hg45
        refine l_off rfl rfl rfl hg45b ?_
        refine l_off rfl rfl rfl hg45b ?_
        refine l_off rfl rfl rfl hg45b ?_
        refine l_off rfl rfl rfl hg45b ?_
        refine l_q rfl rfl (q_pickF rfl hg45b rfl) ?_
        refine l_q rfl rfl (q_assignB rfl) ?_
        refine l_nil ?_
        refine hK44 _ _ ?_
        refine wp_ret ?_
        refine c_ret1 rfl rfl ?_
        exact ⟨_, rfl, congrArg Value.bool (by unfold rightQ; simp [*] <;> omega), hS2.drop⟩
      ·
       have hc42b := hc42
       try simp only [decide_eq_true_eq, decide_eq_false_iff_not, Bool.not_eq_true', Bool.not_eq_false', Bool.and_eq_true, Bool.or_eq_true, Int.not_lt, Int.not_le, ne_eq, Decidable.not_not] at hc42
       refine wp_skip ?_
       refine hK9 _ _ ?_
       refine wp_exit ?_
       refine hK3 _ _ ?_
       refine wp_seq_k (fun K46 hK46 => ?_)
       refine wp_region_lit ?_
       refine l_q rfl rfl (q_assignB rfl) ?_
       refine l_nil ?_
       refine hK46 _ _ ?_
       refine wp_ret ?_
       refine c_ret1 rfl rfl ?_
       exact ⟨_, rfl, congrArg Value.bool (by unfold rightQ; simp [*] <;> omega), hS2.drop⟩

set_option maxRecDepth 100000 in
theorem rright_ok (a : Vl) (hB : Bytes a.2.2) (w : World) : Calls Tryd.prog 55 #[.agg (vl a).toArray] w (PostR w fun v => v = .bool (rightQ a)) := by
 have hS := St.start w
 refine c_enter Tryd.func55 rfl rfl rfl ?_
 refine wp_seq_k (fun K1 hK1 => ?_)
 refine wp_region_lit ?_
 refine l_e rfl (fun K hK => ?_)
 refine e_boxA hS rfl (fun b2 w2 (hS2 : St _ _ [.blk b2 (.cells #[.int .i64 a.1, .int .i64 a.2.1, .string (bs a.2.2)] 51)] _) => ?_)
 clear hS
 refine hK _ _ ?_; clear hK K
 refine l_q rfl rfl (q_assignB rfl) ?_
 refine l_nil ?_
 refine hK1 _ _ ?_
 refine wp_seq_k (fun K3 hK3 => ?_)
 refine wp_seq_k (fun K4 hK4 => ?_)
 refine wp_region_lit ?_
 refine l_q rfl rfl (q_fieldAddr (ft := 49) (o := 0) rfl (by kernel_rfl)) ?_
 refine l_q rfl rfl (q_load1 rfl (by kernel_rfl) (hS2.cell (i := 0) rfl rfl)) ?_
 refine l_nil ?_
 refine hK4 _ _ ?_
 refine wp_block ?_
 refine wp_seq_k (fun K5 hK5 => ?_)
 refine wp_region_lit ?_
 refine l_q rfl rfl (q_eql rfl rfl) ?_
 refine l_q rfl rfl (q_assignB rfl) ?_
 refine l_nil ?_
 refine hK5 _ _ ?_
 refine c_cond rfl (fun hc6 => ?_) (fun hc6 => ?_)
 ·
  have hc6b := hc6
  try simp only [decide_eq_true_eq, decide_eq_false_iff_not, Bool.not_eq_true', Bool.not_eq_false', Bool.and_eq_true, Bool.or_eq_true, Int.not_lt, Int.not_le, ne_eq, Decidable.not_not] at hc6
  refine wp_seq_k (fun K7 hK7 => ?_)
  refine wp_region_lit ?_
  refine l_q rfl rfl (q_fieldAddr (ft := 2) (o := 1) rfl (by kernel_rfl)) ?_
  refine l_q rfl rfl (q_load1 rfl (by kernel_rfl) (hS2.cell (i := 0) rfl rfl)) ?_
  refine l_q rfl rfl (q_eql rfl rfl) ?_
  refine l_q rfl rfl (q_moveB rfl) ?_
  refine g_splitL (t := 10) rfl (fun hg8 => ?_) (fun hg8 => ?_)
  ·
   have hg8b := hg8
   try simp only [decide_eq_true_eq, decide_eq_false_iff_not, Bool.not_eq_true', Bool.not_eq_false', Bool.and_eq_true, Bool.or_eq_true, Int.not_lt, Int.not_le, ne_eq, Decidable.not_not] at hg8
   refine l_on rfl rfl hg8b ?_
   refine l_q rfl rfl (q_fieldAddr (ft := 9) (o := 2) rfl (by kernel_rfl)) ?_
   refine l_on rfl rfl hg8b ?_
   refine l_q rfl rfl (q_load1 rfl (by kernel_rfl) (hS2.cell (i := 0) rfl rfl)) ?_
   refine l_on rfl rfl hg8b ?_
   refine l_q rfl rfl (q_str_eql (l := a.2.2) (m := []) rfl rfl hB Bytes.nil) ?_
   refine l_q rfl rfl (q_pickT rfl hg8b rfl) ?_
   refine l_q rfl rfl (q_assignB rfl) ?_
   refine l_nil ?_
   refine hK7 _ _ ?_
   refine wp_ret ?_
   refine c_ret1 rfl rfl ?_
   exact ⟨_, rfl, congrArg Value.bool (by unfold rightQ; simp [*] <;> omega), hS2.drop⟩
  ·
   have hg8b := hg8
   try simp only [decide_eq_true_eq, decide_eq_false_iff_not, Bool.not_eq_true', Bool.not_eq_false', Bool.and_eq_true, Bool.or_eq_true, Int.not_lt, Int.not_le, ne_eq, Decidable.not_not] at hg8
   refine l_off rfl rfl rfl hg8b ?_
   refine l_off rfl rfl rfl hg8b ?_
   refine l_off rfl rfl rfl hg8b ?_
   refine l_q rfl rfl (q_pickF rfl hg8b rfl) ?_
   refine l_q rfl rfl (q_assignB rfl) ?_
   refine l_nil ?_
   refine hK7 _ _ ?_
   refine wp_ret ?_
   refine c_ret1 rfl rfl ?_
   exact ⟨_, rfl, congrArg Value.bool (by unfold rightQ; simp [*] <;> omega), hS2.drop⟩
 ·
  have hc6b := hc6
  try simp only [decide_eq_true_eq, decide_eq_false_iff_not, Bool.not_eq_true', Bool.not_eq_false', Bool.and_eq_true, Bool.or_eq_true, Int.not_lt, Int.not_le, ne_eq, Decidable.not_not] at hc6
  refine wp_seq_k (fun K9 hK9 => ?_)
  refine wp_region_lit ?_
  refine l_q rfl rfl (q_eql rfl rfl) ?_
  refine l_q rfl rfl (q_assignB rfl) ?_
  refine l_nil ?_
  refine hK9 _ _ ?_
  refine c_cond rfl (fun hc10 => ?_) (fun hc10 => ?_)
  ·
   have hc10b := hc10
   try simp only [decide_eq_true_eq, decide_eq_false_iff_not, Bool.not_eq_true', Bool.not_eq_false', Bool.and_eq_true, Bool.or_eq_true, Int.not_lt, Int.not_le, ne_eq, Decidable.not_not] at hc10
   refine wp_seq_k (fun K11 hK11 => ?_)
   refine wp_region_lit ?_
   refine l_q rfl rfl (q_fieldAddr (ft := 2) (o := 1) rfl (by kernel_rfl)) ?_
   refine l_q rfl rfl (q_load1 rfl (by kernel_rfl) (hS2.cell (i := 0) rfl rfl)) ?_
   refine l_q rfl rfl (q_eql rfl rfl) ?_
   refine l_q rfl rfl (q_moveB rfl) ?_
   refine g_splitL (t := 20) rfl (fun hg12 => ?_) (fun hg12 => ?_)
   ·
    have hg12b := hg12
    try simp only [decide_eq_true_eq, decide_eq_false_iff_not, Bool.not_eq_true', Bool.not_eq_false', Bool.and_eq_true, Bool.or_eq_true, Int.not_lt, Int.not_le, ne_eq, Decidable.not_not] at hg12
    refine l_off rfl rfl rfl hg12b ?_
    refine l_off rfl rfl rfl hg12b ?_
    refine l_off rfl rfl rfl hg12b ?_
    refine l_q rfl rfl (q_pickT rfl hg12b rfl) ?_
    refine l_q rfl rfl (q_moveB rfl) ?_
    refine l_on rfl rfl rfl ?_
    refine l_q rfl rfl (q_fieldAddr (ft := 9) (o := 2) rfl (by kernel_rfl)) ?_
    refine l_on rfl rfl rfl ?_
    refine l_q rfl rfl (q_load1 rfl (by kernel_rfl) (hS2.cell (i := 0) rfl rfl)) ?_
    refine l_on rfl rfl rfl ?_
    refine l_q rfl rfl (q_str_eql (l := a.2.2) (m := []) rfl rfl hB Bytes.nil) ?_
    refine l_q rfl rfl (q_pickT rfl rfl rfl) ?_
    refine l_q rfl rfl (q_assignB rfl) ?_
    refine l_nil ?_
    refine hK11 _ _ ?_
    refine wp_ret ?_
    refine c_ret1 rfl rfl ?_
    exact ⟨_, rfl, congrArg Value.bool (by unfold rightQ; simp [*] <;> omega), hS2.drop⟩
   ·
    have hg12b := hg12
    try simp only [decide_eq_true_eq, decide_eq_false_iff_not, Bool.not_eq_true', Bool.not_eq_false', Bool.and_eq_true, Bool.or_eq_true, Int.not_lt, Int.not_le, ne_eq, Decidable.not_not] at hg12
    refine l_on rfl rfl hg12b ?_
    refine l_q rfl rfl (q_fieldAddr (ft := 2) (o := 1) rfl (by kernel_rfl)) ?_
    refine l_on rfl rfl hg12b ?_
    refine l_q rfl rfl (q_load1 rfl (by kernel_rfl) (hS2.cell (i := 0) rfl rfl)) ?_
    refine l_on rfl rfl hg12b ?_
    refine l_q rfl rfl (q_eql rfl rfl) ?_
    refine l_q rfl rfl (q_pickF rfl hg12b rfl) ?_
    refine l_q rfl rfl (q_moveB rfl) ?_
    refine g_splitL (t := 25) rfl (fun hg13 => ?_) (fun hg13 => ?_)
    ·
     have hg13b := hg13
     try simp only [decide_eq_true_eq, decide_eq_false_iff_not, Bool.not_eq_true', Bool.not_eq_false', Bool.and_eq_true, Bool.or_eq_true, Int.not_lt, Int.not_le, ne_eq, Decidable.not_not] at hg13
     refine l_on rfl rfl hg13b ?_
     refine l_q rfl rfl (q_fieldAddr (ft := 9) (o := 2) rfl (by kernel_rfl)) ?_
     refine l_on rfl rfl hg13b ?_
     refine l_q rfl rfl (q_load1 rfl (by kernel_rfl) (hS2.cell (i := 0) rfl rfl)) ?_
     refine l_on rfl rfl hg13b ?_
     refine l_q rfl rfl (q_str_eql (l := a.2.2) (m := []) rfl rfl hB Bytes.nil) ?_
     refine l_q rfl rfl (q_pickT rfl hg13b rfl) ?_
     refine l_q rfl rfl (q_assignB rfl) ?_
     refine l_nil ?_
     refine hK11 _ _ ?_
     refine wp_ret ?_
     refine c_ret1 rfl rfl ?_
     exact ⟨_, rfl, congrArg Value.bool (by unfold rightQ; simp [*] <;> omega), hS2.drop⟩
    ·
     have hg13b := hg13
     try simp only [decide_eq_true_eq, decide_eq_false_iff_not, Bool.not_eq_true', Bool.not_eq_false', Bool.and_eq_true, Bool.or_eq_true, Int.not_lt, Int.not_le, ne_eq, Decidable.not_not] at hg13
     refine l_off rfl rfl rfl hg13b ?_
     refine l_off rfl rfl rfl hg13b ?_
     refine l_off rfl rfl rfl hg13b ?_
     refine l_q rfl rfl (q_pickF rfl hg13b rfl) ?_
     refine l_q rfl rfl (q_assignB rfl) ?_
     refine l_nil ?_
     refine hK11 _ _ ?_
     refine wp_ret ?_
     refine c_ret1 rfl rfl ?_
     exact ⟨_, rfl, congrArg Value.bool (by unfold rightQ; simp [*] <;> omega), hS2.drop⟩
  ·
   have hc10b := hc10
   try simp only [decide_eq_true_eq, decide_eq_false_iff_not, Bool.not_eq_true', Bool.not_eq_false', Bool.and_eq_true, Bool.or_eq_true, Int.not_lt, Int.not_le, ne_eq, Decidable.not_not] at hc10
   refine wp_seq_k (fun K14 hK14 => ?_)
   refine wp_seq_k (fun K15 hK15 => ?_)
   refine wp_region_lit ?_
   refine l_q rfl rfl (q_eql rfl rfl) ?_
   refine l_q rfl rfl (q_assignB rfl) ?_
   refine l_nil ?_
   refine hK15 _ _ ?_
   refine c_cond rfl (fun hc16 => ?_) (fun hc16 => ?_)
   ·
    have hc16b := hc16
    try simp only [decide_eq_true_eq, decide_eq_false_iff_not, Bool.not_eq_true', Bool.not_eq_false', Bool.and_eq_true, Bool.or_eq_true, Int.not_lt, Int.not_le, ne_eq, Decidable.not_not] at hc16
    refine wp_skip ?_
    refine hK14 _ _ ?_
    refine c_condT rfl hc16b ?_
    refine wp_seq_k (fun K18 hK18 => ?_)
    refine wp_region_lit ?_
    refine l_q rfl rfl (q_fieldAddr (ft := 9) (o := 2) rfl (by kernel_rfl)) ?_
    refine l_q rfl rfl (q_load1 rfl (by kernel_rfl) (hS2.cell (i := 0) rfl rfl)) ?_
    refine l_q rfl rfl (q_str_eql (l := a.2.2) (m := []) rfl rfl hB Bytes.nil) ?_
    refine l_q rfl rfl (q_assignB rfl) ?_
    refine l_nil ?_
    refine hK18 _ _ ?_
    refine wp_ret ?_
    refine c_ret1 rfl rfl ?_
    exact ⟨_, rfl, congrArg Value.bool (by unfold rightQ; simp [*] <;> omega), hS2.drop⟩
   ·
    have hc16b := hc16
    try simp only [decide_eq_true_eq, decide_eq_false_iff_not, Bool.not_eq_true', Bool.not_eq_false', Bool.and_eq_true, Bool.or_eq_true, Int.not_lt, Int.not_le, ne_eq, Decidable.not_not] at hc16
    refine wp_region_lit ?_
    refine l_q rfl rfl (q_eql rfl rfl) ?_
    refine l_q rfl rfl (q_assignB rfl) ?_
    refine l_nil ?_
    refine hK14 _ _ ?_
    refine c_cond rfl (fun hc19 => ?_) (fun hc19 => ?_)
    ·
     have hc19b := hc19
     try simp only [decide_eq_true_eq, decide_eq_false_iff_not, Bool.not_eq_true', Bool.not_eq_false', Bool.and_eq_true, Bool.or_eq_true, Int.not_lt, Int.not_le, ne_eq, Decidable.not_not] at hc19
     refine wp_seq_k (fun K20 hK20 => ?_)
     refine wp_region_lit ?_
     refine l_q rfl rfl (q_fieldAddr (ft := 9) (o := 2) rfl (by kernel_rfl)) ?_
     refine l_q rfl rfl (q_load1 rfl (by kernel_rfl) (hS2.cell (i := 0) rfl rfl)) ?_
     refine l_q rfl rfl (q_str_eql (l := a.2.2) (m := []) rfl rfl hB Bytes.nil) ?_
     refine l_q rfl rfl (q_assignB rfl) ?_
     refine l_nil ?_
     refine hK20 _ _ ?_
     refine wp_ret ?_
     refine c_ret1 rfl rfl ?_
     exact ⟨_, rfl, congrArg Value.bool (by unfold rightQ; simp [*] <;> omega), hS2.drop⟩
    ·
     have hc19b := hc19
     try simp only [decide_eq_true_eq, decide_eq_false_iff_not, Bool.not_eq_true', Bool.not_eq_false', Bool.and_eq_true, Bool.or_eq_true, Int.not_lt, Int.not_le, ne_eq, Decidable.not_not] at hc19
     refine wp_seq_k (fun K21 hK21 => ?_)
     refine wp_seq_k (fun K22 hK22 => ?_)
     refine wp_region_lit ?_
     refine l_q rfl rfl (q_eql rfl rfl) ?_
     refine l_q rfl rfl (q_assignB rfl) ?_
     refine l_nil ?_
     refine hK22 _ _ ?_
     refine c_cond rfl (fun hc23 => ?_) (fun hc23 => ?_)
     ·
      have hc23b := hc23
      try simp only [decide_eq_true_eq, decide_eq_false_iff_not, Bool.not_eq_true', Bool.not_eq_false', Bool.and_eq_true, Bool.or_eq_true, Int.not_lt, Int.not_le, ne_eq, Decidable.not_not] at hc23
      refine wp_skip ?_
      refine hK21 _ _ ?_
      refine c_condT rfl hc23b ?_
      refine wp_seq_k (fun K25 hK25 => ?_)
      refine wp_region_lit ?_
      refine l_q rfl rfl (q_fieldAddr (ft := 2) (o := 1) rfl (by kernel_rfl)) ?_
      refine l_q rfl rfl (q_load1 rfl (by kernel_rfl) (hS2.cell (i := 0) rfl rfl)) ?_
      refine l_q rfl rfl (q_eql rfl rfl) ?_
      refine l_q rfl rfl (q_moveB rfl) ?_
      refine g_splitL (t := 42) rfl (fun hg26 => ?_) (fun hg26 => ?_)
      ·
       have hg26b := hg26
       try simp only [decide_eq_true_eq, decide_eq_false_iff_not, Bool.not_eq_true', Bool.not_eq_false', Bool.and_eq_true, Bool.or_eq_true, Int.not_lt, Int.not_le, ne_eq, Decidable.not_not] at hg26
       refine l_on rfl rfl hg26b ?_
       refine l_q rfl rfl (q_fieldAddr (ft := 9) (o := 2) rfl (by kernel_rfl)) ?_
       refine l_on rfl rfl hg26b ?_
       refine l_q rfl rfl (q_load1 rfl (by kernel_rfl) (hS2.cell (i := 0) rfl rfl)) ?_
       refine l_on rfl rfl hg26b ?_
       refine l_q rfl rfl (q_lenStrB (l := a.2.2) rfl (by kernel_rfl)) ?_
       refine l_on rfl rfl hg26b ?_
       refine l_q rfl rfl (q_leq rfl rfl) ?_
       refine l_q rfl rfl (q_pickT rfl hg26b rfl) ?_
       refine l_q rfl rfl (q_assignB rfl) ?_
       refine l_nil ?_
       refine hK25 _ _ ?_
       refine wp_ret ?_
       refine c_ret1 rfl rfl ?_
       exact ⟨_, rfl, congrArg Value.bool (by unfold rightQ; simp [*] <;> omega), hS2.drop⟩
      ·
       have hg26b := hg26
       try simp only [decide_eq_true_eq, decide_eq_false_iff_not, Bool.not_eq_true', Bool.not_eq_false', Bool.and_eq_true, Bool.or_eq_true, Int.not_lt, Int.not_le, ne_eq, Decidable.not_not] at hg26
       refine l_off rfl rfl rfl hg26b ?_
       refine l_off rfl rfl rfl hg26b ?_
       refine l_off rfl rfl rfl hg26b ?_
       refine l_off rfl rfl rfl hg26b ?_
       refine l_q rfl rfl (q_pickF rfl hg26b rfl) ?_
       refine l_q rfl rfl (q_assignB rfl) ?_
       refine l_nil ?_
       refine hK25 _ _ ?_
       refine wp_ret ?_
       refine c_ret1 rfl rfl ?_
       exact ⟨_, rfl, congrArg Value.bool (by unfold rightQ; simp [*] <;> omega), hS2.drop⟩
     ·
      have hc23b := hc23
      try simp only [decide_eq_true_eq, decide_eq_false_iff_not, Bool.not_eq_true', Bool.not_eq_false', Bool.and_eq_true, Bool.or_eq_true, Int.not_lt, Int.not_le, ne_eq, Decidable.not_not] at hc23
      refine wp_region_lit ?_
      refine l_q rfl rfl (q_eql rfl rfl) ?_
      refine l_q rfl rfl (q_assignB rfl) ?_
      refine l_nil ?_
      refine hK21 _ _ ?_
      refine c_cond rfl (fun hc27 => ?_) (fun hc27 => ?_)
      ·
       have hc27b := hc27
       try simp only [decide_eq_true_eq, decide_eq_false_iff_not, Bool.not_eq_true', Bool.not_eq_false', Bool.and_eq_true, Bool.or_eq_true, Int.not_lt, Int.not_le, ne_eq, Decidable.not_not] at hc27
       refine wp_seq_k (fun K28 hK28 => ?_)
       refine wp_region_lit ?_
       refine l_q rfl rfl (q_fieldAddr (ft := 2) (o := 1) rfl (by kernel_rfl)) ?_
       refine l_q rfl rfl (q_load1 rfl (by kernel_rfl) (hS2.cell (i := 0) rfl rfl)) ?_
       refine l_q rfl rfl (q_eql rfl rfl) ?_
       refine l_q rfl rfl (q_moveB rfl) ?_
       refine g_splitL (t := 42) rfl (fun hg29 => ?_) (fun hg29 => ?_)
       ·
        have hg29b := hg29
        try simp only [decide_eq_true_eq, decide_eq_false_iff_not, Bool.not_eq_true', Bool.not_eq_false', Bool.and_eq_true, Bool.or_eq_true, Int.not_lt, Int.not_le, ne_eq, Decidable.not_not] at hg29
        refine l_on rfl rfl hg29b ?_
        refine l_q rfl rfl (q_fieldAddr (ft := 9) (o := 2) rfl (by kernel_rfl)) ?_
        refine l_on rfl rfl hg29b ?_
        refine l_q rfl rfl (q_load1 rfl (by kernel_rfl) (hS2.cell (i := 0) rfl rfl)) ?_
        refine l_on rfl rfl hg29b ?_
        refine l_q rfl rfl (q_lenStrB (l := a.2.2) rfl (by kernel_rfl)) ?_
        refine l_on rfl rfl hg29b ?_
        refine l_q rfl rfl (q_leq rfl rfl) ?_
        refine l_q rfl rfl (q_pickT rfl hg29b rfl) ?_
        refine l_q rfl rfl (q_assignB rfl) ?_
        refine l_nil ?_
        refine hK28 _ _ ?_
        refine wp_ret ?_
        refine c_ret1 rfl rfl ?_
        exact ⟨_, rfl, congrArg Value.bool (by unfold rightQ; simp [*] <;> omega), hS2.drop⟩
       ·
        have hg29b := hg29
        try simp only [decide_eq_true_eq, decide_eq_false_iff_not, Bool.not_eq_true', Bool.not_eq_false', Bool.and_eq_true, Bool.or_eq_true, Int.not_lt, Int.not_le, ne_eq, Decidable.not_not] at hg29
        refine l_off rfl rfl rfl hg29b ?_
        refine l_off rfl rfl rfl hg29b ?_
        refine l_off rfl rfl rfl hg29b ?_
        refine l_off rfl rfl rfl hg29b ?_
        refine l_q rfl rfl (q_pickF rfl hg29b rfl) ?_
        refine l_q rfl rfl (q_assignB rfl) ?_
        refine l_nil ?_
        refine hK28 _ _ ?_
        refine wp_ret ?_
        refine c_ret1 rfl rfl ?_
        exact ⟨_, rfl, congrArg Value.bool (by unfold rightQ; simp [*] <;> omega), hS2.drop⟩
      ·
       have hc27b := hc27
       try simp only [decide_eq_true_eq, decide_eq_false_iff_not, Bool.not_eq_true', Bool.not_eq_false', Bool.and_eq_true, Bool.or_eq_true, Int.not_lt, Int.not_le, ne_eq, Decidable.not_not] at hc27
       refine wp_skip ?_
       refine hK3 _ _ ?_
       refine wp_seq_k (fun K30 hK30 => ?_)
       refine wp_region_lit ?_
       refine l_q rfl rfl (q_assignB rfl) ?_
       refine l_nil ?_
       refine hK30 _ _ ?_
       refine wp_ret ?_
       refine c_ret1 rfl rfl ?_
       exact ⟨_, rfl, congrArg Value.bool (by unfold rightQ; simp [*] <;> omega), hS2.drop⟩

attribute [local irreducible] rightQ cmpZ cmB orL vcmp

set_option maxRecDepth 100000 in
theorem nanK_ok (a : Int) (w : World) : Calls Tryd.prog 82 #[.int .i64 a] w (PostR w fun v => v = .bool false) := by
 have hS := St.start w
 refine c_enter Tryd.func82 rfl rfl rfl ?_
 refine wp_seq_k (fun K1 hK1 => ?_)
 refine wp_region_lit ?_
 refine l_q rfl rfl (q_assignB rfl) ?_
 refine l_nil ?_
 refine hK1 _ _ ?_
 refine wp_seq_k (fun K2 hK2 => ?_)
 refine wp_region_lit ?_
 refine l_q rfl rfl (q_moveI rfl) ?_
 refine l_q rfl rfl (q_moveI rfl) ?_
 refine l_q rfl rfl (q_neq rfl rfl) ?_
 refine l_q rfl rfl (q_assignB rfl) ?_
 refine l_nil ?_
 refine hK2 _ _ ?_
 refine wp_ret ?_
 refine c_ret1 rfl rfl ?_
 exact ⟨_, rfl, congrArg Value.bool (by simp), hS.drop⟩

set_option maxRecDepth 100000 in
theorem nanI_ok (a : Int) (w : World) : Calls Tryd.prog 81 #[.int .i64 a] w (PostR w fun v => v = .bool false) := by
 have hS := St.start w
 refine c_enter Tryd.func81 rfl rfl rfl ?_
 refine wp_seq_k (fun K1 hK1 => ?_)
 refine wp_region_lit ?_
 refine l_q rfl rfl (q_assignB rfl) ?_
 refine l_nil ?_
 refine hK1 _ _ ?_
 refine wp_seq_k (fun K2 hK2 => ?_)
 refine wp_region_lit ?_
 refine l_q rfl rfl (q_moveI rfl) ?_
 refine l_q rfl rfl (q_moveI rfl) ?_
 refine l_q rfl rfl (q_neq rfl rfl) ?_
 refine l_q rfl rfl (q_assignB rfl) ?_
 refine l_nil ?_
 refine hK2 _ _ ?_
 refine wp_ret ?_
 refine c_ret1 rfl rfl ?_
 exact ⟨_, rfl, congrArg Value.bool (by simp), hS.drop⟩

set_option maxRecDepth 100000 in
theorem nanS_ok (a : List Nat) (ha : Bytes a) (w : World) : Calls Tryd.prog 83 #[.string (bs a)] w (PostR w fun v => v = .bool false) := by
 have hS := St.start w
 refine c_enter Tryd.func83 rfl rfl rfl ?_
 refine wp_seq_k (fun K1 hK1 => ?_)
 refine wp_region_lit ?_
 refine l_q rfl rfl (q_assignB rfl) ?_
 refine l_nil ?_
 refine hK1 _ _ ?_
 refine wp_seq_k (fun K2 hK2 => ?_)
 refine wp_region_lit ?_
 refine l_q rfl rfl (q_move rfl) ?_
 refine l_q rfl rfl (q_move rfl) ?_
 refine l_q rfl rfl (q_str_neq (l := a) (m := a) rfl rfl ha ha) ?_
 refine l_q rfl rfl (q_assignB rfl) ?_
 refine l_nil ?_
 refine hK2 _ _ ?_
 refine wp_ret ?_
 refine c_ret1 rfl rfl ?_
 exact ⟨_, rfl, congrArg Value.bool (by simp), hS.drop⟩

set_option maxRecDepth 100000 in
theorem cmpK_ok (a b : Int) (w : World) : Calls Tryd.prog 71 #[.int .i64 a, .int .i64 b] w (PostR w fun v => v = .int .i64 (cmpZ a b)) := by
 have hS := St.start w
 refine c_enter Tryd.func71 rfl rfl rfl ?_
 refine wp_seq_k (fun K1 hK1 => ?_)
 refine wp_region_lit ?_
 refine l_q rfl rfl (q_assignI rfl) ?_
 refine l_nil ?_
 refine hK1 _ _ ?_
 refine wp_seq_k (fun K2 hK2 => ?_)
 refine wp_region_lit ?_
 refine l_q rfl rfl (q_moveI rfl) ?_
 refine l_e rfl (fun K hK => ?_)
 refine e_call (by kernel_rfl) (nanK_ok a _) rfl (after_R hS (fun v3 w3 hv3 hS3 => ?_))
 clear hS
 obtain rfl := hv3
 refine hK _ _ ?_; clear hK K
 refine l_q rfl rfl (q_assignB rfl) ?_
 refine l_nil ?_
 refine hK2 _ _ ?_
 refine wp_seq_k (fun K4 hK4 => ?_)
 refine wp_region_lit ?_
 refine l_q rfl rfl (q_moveI rfl) ?_
 refine l_e rfl (fun K hK => ?_)
 refine e_call (by kernel_rfl) (nanK_ok b _) rfl (after_R hS3 (fun v5 w5 hv5 hS5 => ?_))
 clear hS3
 obtain rfl := hv5
 refine hK _ _ ?_; clear hK K
 refine l_q rfl rfl (q_assignB rfl) ?_
 refine l_nil ?_
 refine hK4 _ _ ?_
 refine wp_seq_k (fun K6 hK6 => ?_)
 refine wp_seq_k (fun K7 hK7 => ?_)
 refine wp_region_lit ?_
 refine l_q rfl rfl (q_moveB rfl) ?_
 refine l_nil ?_
 refine hK7 _ _ ?_
 refine c_condF rfl rfl ?_
 refine wp_skip ?_
 refine hK6 _ _ ?_
 refine wp_seq_k (fun K9 hK9 => ?_)
 refine wp_seq_k (fun K10 hK10 => ?_)
 refine wp_region_lit ?_
 refine l_q rfl rfl (q_moveB rfl) ?_
 refine l_nil ?_
 refine hK10 _ _ ?_
 refine c_condF rfl rfl ?_
 refine wp_skip ?_
 refine hK9 _ _ ?_
 refine wp_seq_k (fun K12 hK12 => ?_)
 refine wp_seq_k (fun K13 hK13 => ?_)
 refine wp_region_lit ?_
 refine l_q rfl rfl (q_moveI rfl) ?_
 refine l_q rfl rfl (q_moveI rfl) ?_
 refine l_q rfl rfl (q_lss rfl rfl) ?_
 refine l_nil ?_
 refine hK13 _ _ ?_
 refine c_cond rfl (fun hc14 => ?_) (fun hc14 => ?_)
 ·
  have hc14b := hc14
  try simp only [decide_eq_true_eq, decide_eq_false_iff_not, Bool.not_eq_true', Bool.not_eq_false', Bool.and_eq_true, Bool.or_eq_true, Int.not_lt, Int.not_le, ne_eq, Decidable.not_not] at hc14
  refine wp_seq_k (fun K15 hK15 => ?_)
  refine wp_region_lit ?_
  refine l_q rfl rfl (q_assignI rfl) ?_
  refine l_nil ?_
  refine hK15 _ _ ?_
  refine wp_ret ?_
  refine c_ret1 rfl rfl ?_
  exact ⟨_, rfl, congrArg (Value.int .i64) (by unfold cmpZ; repeat' split <;> first | rfl | omega), hS5.drop⟩
 ·
  have hc14b := hc14
  try simp only [decide_eq_true_eq, decide_eq_false_iff_not, Bool.not_eq_true', Bool.not_eq_false', Bool.and_eq_true, Bool.or_eq_true, Int.not_lt, Int.not_le, ne_eq, Decidable.not_not] at hc14
  refine wp_skip ?_
  refine hK12 _ _ ?_
  refine wp_seq_k (fun K16 hK16 => ?_)
  refine wp_seq_k (fun K17 hK17 => ?_)
  refine wp_region_lit ?_
  refine l_q rfl rfl (q_moveI rfl) ?_
  refine l_q rfl rfl (q_moveI rfl) ?_
  refine l_q rfl rfl (q_gtr rfl rfl) ?_
  refine l_nil ?_
  refine hK17 _ _ ?_
  refine c_cond rfl (fun hc18 => ?_) (fun hc18 => ?_)
  ·
   have hc18b := hc18
   try simp only [decide_eq_true_eq, decide_eq_false_iff_not, Bool.not_eq_true', Bool.not_eq_false', Bool.and_eq_true, Bool.or_eq_true, Int.not_lt, Int.not_le, ne_eq, Decidable.not_not] at hc18
   refine wp_seq_k (fun K19 hK19 => ?_)
   refine wp_region_lit ?_
   refine l_q rfl rfl (q_assignI rfl) ?_
   refine l_nil ?_
   refine hK19 _ _ ?_
   refine wp_ret ?_
   refine c_ret1 rfl rfl ?_
   exact ⟨_, rfl, congrArg (Value.int .i64) (by unfold cmpZ; repeat' split <;> first | rfl | omega), hS5.drop⟩
  ·
   have hc18b := hc18
   try simp only [decide_eq_true_eq, decide_eq_false_iff_not, Bool.not_eq_true', Bool.not_eq_false', Bool.and_eq_true, Bool.or_eq_true, Int.not_lt, Int.not_le, ne_eq, Decidable.not_not] at hc18
   refine wp_skip ?_
   refine hK16 _ _ ?_
   refine wp_seq_k (fun K20 hK20 => ?_)
   refine wp_region_lit ?_
   refine l_q rfl rfl (q_assignI rfl) ?_
   refine l_nil ?_
   refine hK20 _ _ ?_
   refine wp_ret ?_
   refine c_ret1 rfl rfl ?_
   exact ⟨_, rfl, congrArg (Value.int .i64) (by unfold cmpZ; repeat' split <;> first | rfl | omega), hS5.drop⟩

set_option maxRecDepth 100000 in
theorem cmpI_ok (a b : Int) (w : World) : Calls Tryd.prog 69 #[.int .i64 a, .int .i64 b] w (PostR w fun v => v = .int .i64 (cmpZ a b)) := by
 have hS := St.start w
 refine c_enter Tryd.func69 rfl rfl rfl ?_
 refine wp_seq_k (fun K1 hK1 => ?_)
 refine wp_region_lit ?_
 refine l_q rfl rfl (q_assignI rfl) ?_
 refine l_nil ?_
 refine hK1 _ _ ?_
 refine wp_seq_k (fun K2 hK2 => ?_)
 refine wp_region_lit ?_
 refine l_q rfl rfl (q_moveI rfl) ?_
 refine l_e rfl (fun K hK => ?_)
 refine e_call (by kernel_rfl) (nanI_ok a _) rfl (after_R hS (fun v3 w3 hv3 hS3 => ?_))
 clear hS
 obtain rfl := hv3
 refine hK _ _ ?_; clear hK K
 refine l_q rfl rfl (q_assignB rfl) ?_
 refine l_nil ?_
 refine hK2 _ _ ?_
 refine wp_seq_k (fun K4 hK4 => ?_)
 refine wp_region_lit ?_
 refine l_q rfl rfl (q_moveI rfl) ?_
 refine l_e rfl (fun K hK => ?_)
 refine e_call (by kernel_rfl) (nanI_ok b _) rfl (after_R hS3 (fun v5 w5 hv5 hS5 => ?_))
 clear hS3
 obtain rfl := hv5
 refine hK _ _ ?_; clear hK K
 refine l_q rfl rfl (q_assignB rfl) ?_
 refine l_nil ?_
 refine hK4 _ _ ?_
 refine wp_seq_k (fun K6 hK6 => ?_)
 refine wp_seq_k (fun K7 hK7 => ?_)
 refine wp_region_lit ?_
 refine l_q rfl rfl (q_moveB rfl) ?_
 refine l_nil ?_
 refine hK7 _ _ ?_
 refine c_condF rfl rfl ?_
 refine wp_skip ?_
 refine hK6 _ _ ?_
 refine wp_seq_k (fun K9 hK9 => ?_)
 refine wp_seq_k (fun K10 hK10 => ?_)
 refine wp_region_lit ?_
 refine l_q rfl rfl (q_moveB rfl) ?_
 refine l_nil ?_
 refine hK10 _ _ ?_
 refine c_condF rfl rfl ?_
 refine wp_skip ?_
 refine hK9 _ _ ?_
 refine wp_seq_k (fun K12 hK12 => ?_)
 refine wp_seq_k (fun K13 hK13 => ?_)
 refine wp_region_lit ?_
 refine l_q rfl rfl (q_moveI rfl) ?_
 refine l_q rfl rfl (q_moveI rfl) ?_
 refine l_q rfl rfl (q_lss rfl rfl) ?_
 refine l_nil ?_
 refine hK13 _ _ ?_
 refine c_cond rfl (fun hc14 => ?_) (fun hc14 => ?_)
 ·
  have hc14b := hc14
  try simp only [decide_eq_true_eq, decide_eq_false_iff_not, Bool.not_eq_true', Bool.not_eq_false', Bool.and_eq_true, Bool.or_eq_true, Int.not_lt, Int.not_le, ne_eq, Decidable.not_not] at hc14
  refine wp_seq_k (fun K15 hK15 => ?_)
  refine wp_region_lit ?_
  refine l_q rfl rfl (q_assignI rfl) ?_
  refine l_nil ?_
  refine hK15 _ _ ?_
  refine wp_ret ?_
  refine c_ret1 rfl rfl ?_
  exact ⟨_, rfl, congrArg (Value.int .i64) (by unfold cmpZ; repeat' split <;> first | rfl | omega), hS5.drop⟩
 ·
  have hc14b := hc14
  try simp only [decide_eq_true_eq, decide_eq_false_iff_not, Bool.not_eq_true', Bool.not_eq_false', Bool.and_eq_true, Bool.or_eq_true, Int.not_lt, Int.not_le, ne_eq, Decidable.not_not] at hc14
  refine wp_skip ?_
  refine hK12 _ _ ?_
  refine wp_seq_k (fun K16 hK16 => ?_)
  refine wp_seq_k (fun K17 hK17 => ?_)
  refine wp_region_lit ?_
  refine l_q rfl rfl (q_moveI rfl) ?_
  refine l_q rfl rfl (q_moveI rfl) ?_
  refine l_q rfl rfl (q_gtr rfl rfl) ?_
  refine l_nil ?_
  refine hK17 _ _ ?_
  refine c_cond rfl (fun hc18 => ?_) (fun hc18 => ?_)
  ·
   have hc18b := hc18
   try simp only [decide_eq_true_eq, decide_eq_false_iff_not, Bool.not_eq_true', Bool.not_eq_false', Bool.and_eq_true, Bool.or_eq_true, Int.not_lt, Int.not_le, ne_eq, Decidable.not_not] at hc18
   refine wp_seq_k (fun K19 hK19 => ?_)
   refine wp_region_lit ?_
   refine l_q rfl rfl (q_assignI rfl) ?_
   refine l_nil ?_
   refine hK19 _ _ ?_
   refine wp_ret ?_
   refine c_ret1 rfl rfl ?_
   exact ⟨_, rfl, congrArg (Value.int .i64) (by unfold cmpZ; repeat' split <;> first | rfl | omega), hS5.drop⟩
  ·
   have hc18b := hc18
   try simp only [decide_eq_true_eq, decide_eq_false_iff_not, Bool.not_eq_true', Bool.not_eq_false', Bool.and_eq_true, Bool.or_eq_true, Int.not_lt, Int.not_le, ne_eq, Decidable.not_not] at hc18
   refine wp_skip ?_
   refine hK16 _ _ ?_
   refine wp_seq_k (fun K20 hK20 => ?_)
   refine wp_region_lit ?_
   refine l_q rfl rfl (q_assignI rfl) ?_
   refine l_nil ?_
   refine hK20 _ _ ?_
   refine wp_ret ?_
   refine c_ret1 rfl rfl ?_
   exact ⟨_, rfl, congrArg (Value.int .i64) (by unfold cmpZ; repeat' split <;> first | rfl | omega), hS5.drop⟩

set_option maxRecDepth 100000 in
theorem cmpS_ok (a b : List Nat) (ha : Bytes a) (hb : Bytes b) (w : World) : Calls Tryd.prog 72 #[.string (bs a), .string (bs b)] w (PostR w fun v => v = .int .i64 (cmB a b)) := by
 have hS := St.start w
 refine c_enter Tryd.func72 rfl rfl rfl ?_
 refine wp_seq_k (fun K1 hK1 => ?_)
 refine wp_region_lit ?_
 refine l_q rfl rfl (q_assignI rfl) ?_
 refine l_nil ?_
 refine hK1 _ _ ?_
 refine wp_seq_k (fun K2 hK2 => ?_)
 refine wp_region_lit ?_
 refine l_q rfl rfl (q_move rfl) ?_
 refine l_e rfl (fun K hK => ?_)
 refine e_call (by kernel_rfl) (nanS_ok a ha _) rfl (after_R hS (fun v3 w3 hv3 hS3 => ?_))
 clear hS
 obtain rfl := hv3
 refine hK _ _ ?_; clear hK K
 refine l_q rfl rfl (q_assignB rfl) ?_
 refine l_nil ?_
 refine hK2 _ _ ?_
 refine wp_seq_k (fun K4 hK4 => ?_)
 refine wp_region_lit ?_
 refine l_q rfl rfl (q_move rfl) ?_
 refine l_e rfl (fun K hK => ?_)
 refine e_call (by kernel_rfl) (nanS_ok b hb _) rfl (after_R hS3 (fun v5 w5 hv5 hS5 => ?_))
 clear hS3
 obtain rfl := hv5
 refine hK _ _ ?_; clear hK K
 refine l_q rfl rfl (q_assignB rfl) ?_
 refine l_nil ?_
 refine hK4 _ _ ?_
 refine wp_seq_k (fun K6 hK6 => ?_)
 refine wp_seq_k (fun K7 hK7 => ?_)
 refine wp_region_lit ?_
 refine l_q rfl rfl (q_moveB rfl) ?_
 refine l_nil ?_
 refine hK7 _ _ ?_
 refine c_condF rfl rfl ?_
 refine wp_skip ?_
 refine hK6 _ _ ?_
 refine wp_seq_k (fun K9 hK9 => ?_)
 refine wp_seq_k (fun K10 hK10 => ?_)
 refine wp_region_lit ?_
 refine l_q rfl rfl (q_moveB rfl) ?_
 refine l_nil ?_
 refine hK10 _ _ ?_
 refine c_condF rfl rfl ?_
 refine wp_skip ?_
 refine hK9 _ _ ?_
 refine wp_seq_k (fun K12 hK12 => ?_)
 refine wp_seq_k (fun K13 hK13 => ?_)
 refine wp_region_lit ?_
 refine l_q rfl rfl (q_move rfl) ?_
 refine l_q rfl rfl (q_move rfl) ?_
 refine l_q rfl rfl (q_str_lss (l := a) (m := b) rfl rfl ha hb) ?_
 refine l_nil ?_
 refine hK13 _ _ ?_
 refine c_cond rfl (fun hc14 => ?_) (fun hc14 => ?_)
 ·
  have hc14b := hc14
  try simp only [decide_eq_true_eq, decide_eq_false_iff_not, Bool.not_eq_true', Bool.not_eq_false', Bool.and_eq_true, Bool.or_eq_true, Int.not_lt, Int.not_le, ne_eq, Decidable.not_not] at hc14
  refine wp_seq_k (fun K15 hK15 => ?_)
  refine wp_region_lit ?_
  refine l_q rfl rfl (q_assignI rfl) ?_
  refine l_nil ?_
  refine hK15 _ _ ?_
  refine wp_ret ?_
  refine c_ret1 rfl rfl ?_
  exact ⟨_, rfl, congrArg (Value.int .i64) (by first | exact cmB_1 (by assumption) | exact cmB_2 (by assumption) (by simp_all) | exact cmB_3 (by assumption) (by simp_all)), hS5.drop⟩
 ·
  have hc14b := hc14
  try simp only [decide_eq_true_eq, decide_eq_false_iff_not, Bool.not_eq_true', Bool.not_eq_false', Bool.and_eq_true, Bool.or_eq_true, Int.not_lt, Int.not_le, ne_eq, Decidable.not_not] at hc14
  refine wp_skip ?_
  refine hK12 _ _ ?_
  refine wp_seq_k (fun K16 hK16 => ?_)
  refine wp_seq_k (fun K17 hK17 => ?_)
  refine wp_region_lit ?_
  refine l_q rfl rfl (q_move rfl) ?_
  refine l_q rfl rfl (q_move rfl) ?_
  refine l_q rfl rfl (q_str_gtr (l := a) (m := b) rfl rfl ha hb) ?_
  refine l_nil ?_
  refine hK17 _ _ ?_
  refine c_cond rfl (fun hc18 => ?_) (fun hc18 => ?_)
  ·
   have hc18b := hc18
   try simp only [decide_eq_true_eq, decide_eq_false_iff_not, Bool.not_eq_true', Bool.not_eq_false', Bool.and_eq_true, Bool.or_eq_true, Int.not_lt, Int.not_le, ne_eq, Decidable.not_not] at hc18
   refine wp_seq_k (fun K19 hK19 => ?_)
   refine wp_region_lit ?_
   refine l_q rfl rfl (q_assignI rfl) ?_
   refine l_nil ?_
   refine hK19 _ _ ?_
   refine wp_ret ?_
   refine c_ret1 rfl rfl ?_
   exact ⟨_, rfl, congrArg (Value.int .i64) (by first | exact cmB_1 (by assumption) | exact cmB_2 (by assumption) (by simp_all) | exact cmB_3 (by assumption) (by simp_all)), hS5.drop⟩
  ·
   have hc18b := hc18
   try simp only [decide_eq_true_eq, decide_eq_false_iff_not, Bool.not_eq_true', Bool.not_eq_false', Bool.and_eq_true, Bool.or_eq_true, Int.not_lt, Int.not_le, ne_eq, Decidable.not_not] at hc18
   refine wp_skip ?_
   refine hK16 _ _ ?_
   refine wp_seq_k (fun K20 hK20 => ?_)
   refine wp_region_lit ?_
   refine l_q rfl rfl (q_assignI rfl) ?_
   refine l_nil ?_
   refine hK20 _ _ ?_
   refine wp_ret ?_
   refine c_ret1 rfl rfl ?_
   exact ⟨_, rfl, congrArg (Value.int .i64) (by first | exact cmB_1 (by assumption) | exact cmB_2 (by assumption) (by simp_all) | exact cmB_3 (by assumption) (by simp_all)), hS5.drop⟩

set_option maxRecDepth 100000 in
theorem or_ok (l : List Int) (n : Nat) (hn : l.length = n) (hb : n ≤ 1000000) (al : Option Addr) (cl : Nat) (w : World) (hG : SlG (hw w) al (iv l)) : Calls Tryd.prog 70 #[.slice al n cl] w (PostR w fun v => v = .int .i64 (orL l)) := by
 have hS := St.start w
 subst hn
 refine c_enter Tryd.func70 rfl rfl rfl ?_
 refine wp_seq_k (fun K1 hK1 => ?_)
 refine wp_region_lit ?_
 refine l_q rfl rfl (q_assignI rfl) ?_
 refine l_nil ?_
 refine hK1 _ _ ?_
 refine wp_seq_k (fun K2 hK2 => ?_)
 refine wp_region_lit ?_
 refine l_q rfl rfl (q_assignI rfl) ?_
 refine l_nil ?_
 refine hK2 _ _ ?_
 refine wp_seq_k (fun K3 hK3 => ?_)
 refine wp_seq_k (fun K4 hK4 => ?_)
 refine wp_region_lit ?_
 refine l_q rfl rfl (q_moveS rfl) ?_
 refine l_q rfl rfl (q_lenSl (e := 3) rfl (by kernel_rfl)) ?_
 refine l_q rfl rfl (q_moveI rfl) ?_
 refine l_nil ?_
 refine hK4 _ _ ?_
 refine wp_block ?_
 refine c_loop (τ := Nat) [(2, 2), (5, 5), (8, 16)] (fun x => (fun (i : Nat) => [(8, .int .i64 (i : Int))]) x) (fun x w' => (fun (i : Nat) => St w (fun _ => False) [] w' ∧ i ≤ l.length ∧ (∀ j, j < i → ∀ y, l[j]? = some y → y = 0)) x) (fun x => (fun (i : Nat) => l.length - i) x) (0) ?_ (by repeat' (first | exact trivial | refine ⟨by first | rfl | exact int_succ _ | assumption, ?_⟩)) (fun i j5 w5 hJ5 K5 hK5 => ?_)
 ·
  exact ⟨hS, Nat.zero_le _, fun j hj => by omega⟩
 ·
  obtain ⟨hS5, hi, hj⟩ := hJ5
  try dsimp only at hS5 hi hj ⊢
  refine wp_seq_k (fun K6 hK6 => ?_)
  refine wp_region_lit ?_
  refine l_q rfl rfl (q_lss rfl rfl) ?_
  refine l_nil ?_
  refine hK6 _ _ ?_
  refine wp_seq_k (fun K7 hK7 => ?_)
  refine c_cond rfl (fun hc8 => ?_) (fun hc8 => ?_)
  ·
   have hc8b := hc8
   try simp only [decide_eq_true_eq, decide_eq_false_iff_not, Bool.not_eq_true', Bool.not_eq_false', Bool.and_eq_true, Bool.or_eq_true, Int.not_lt, Int.not_le, ne_eq, Decidable.not_not] at hc8
   refine wp_skip ?_
   refine hK7 _ _ ?_
   refine wp_seq_k (fun K9 hK9 => ?_)
   refine wp_block ?_
   refine wp_seq_k (fun K10 hK10 => ?_)
   refine wp_region_lit ?_
   refine l_q rfl rfl (q_ixG (e := 3) (m := 1) (j := i) rfl rfl (by kernel_rfl) (by kernel_rfl) (by first | rfl | omega) (by omega) hG (by rw [iv_len]; first | omega | (simp only [List.length_append, List.length_map, List.length_cons, List.length_nil, List.length_take, List.length_drop, List.length_set] <;> omega))) ?_
   obtain ⟨x11, hx11⟩ : ∃ x, (l)[i]? = some x := ⟨_, List.getElem?_eq_getElem (by first | omega | (simp only [List.length_append, List.length_map, List.length_cons, List.length_nil, List.length_take, List.length_drop, List.length_set] <;> omega) | (simp <;> omega))⟩
   refine l_q rfl rfl (q_load1 rfl (by kernel_rfl) (SlG.cell (hG.mono hS5.base) (Gle.refl _) (at1 (iv_at hx11)))) ?_
   refine l_q rfl rfl (q_assignI rfl) ?_
   refine l_nil ?_
   refine hK10 _ _ ?_
   refine wp_seq_k (fun K12 hK12 => ?_)
   refine wp_region_lit ?_
   refine l_q rfl rfl (q_moveI rfl) ?_
   refine l_q rfl rfl (q_moveI rfl) ?_
   refine l_q rfl rfl (q_neq rfl rfl) ?_
   refine l_nil ?_
   refine hK12 _ _ ?_
   refine c_cond rfl (fun hc13 => ?_) (fun hc13 => ?_)
   ·
    have hc13b := hc13
    try simp only [decide_eq_true_eq, decide_eq_false_iff_not, Bool.not_eq_true', Bool.not_eq_false', Bool.and_eq_true, Bool.or_eq_true, Int.not_lt, Int.not_le, ne_eq, Decidable.not_not] at hc13
    refine wp_seq_k (fun K14 hK14 => ?_)
    refine wp_region_lit ?_
    refine l_q rfl rfl (q_moveI rfl) ?_
    refine l_q rfl rfl (q_assignI rfl) ?_
    refine l_nil ?_
    refine hK14 _ _ ?_
    refine wp_ret ?_
    refine c_ret1 rfl rfl ?_
    exact ⟨_, rfl, congrArg (Value.int .i64) (orL_at hj hx11 (by omega)).symm, hS5.drop⟩
   ·
    have hc13b := hc13
    try simp only [decide_eq_true_eq, decide_eq_false_iff_not, Bool.not_eq_true', Bool.not_eq_false', Bool.and_eq_true, Bool.or_eq_true, Int.not_lt, Int.not_le, ne_eq, Decidable.not_not] at hc13
    refine wp_skip ?_
    refine hK9 _ _ ?_
    refine wp_region_lit ?_
    refine l_q rfl rfl (q_addx rfl rfl (by first | decide | omega) (by first | decide | omega)) ?_
    refine l_q rfl rfl (q_moveI rfl) ?_
    refine l_nil ?_
    refine hK5 _ _ (came ((i + 1)) (by repeat' (first | exact Agree.refl _ _ | refine Agree.up ?_ rfl | refine Agree.hav2 ?_ rfl | refine Agree.ups2 ?_ rfl)) (by repeat' (first | exact trivial | refine ⟨by first | rfl | exact int_succ _ | assumption, ?_⟩)) ?_)
    exact ⟨⟨hS5, (by show i + 1 ≤ l.length; omega), or_next hj hx11 (by omega)⟩, by (show l.length - (i + 1) < l.length - i); omega⟩
  ·
   have hc8b := hc8
   try simp only [decide_eq_true_eq, decide_eq_false_iff_not, Bool.not_eq_true', Bool.not_eq_false', Bool.and_eq_true, Bool.or_eq_true, Int.not_lt, Int.not_le, ne_eq, Decidable.not_not] at hc8
   refine wp_exit ?_
   refine hK3 _ _ ?_
   refine wp_seq_k (fun K15 hK15 => ?_)
   refine wp_region_lit ?_
   refine l_q rfl rfl (q_moveI rfl) ?_
   refine l_q rfl rfl (q_assignI rfl) ?_
   refine l_nil ?_
   refine hK15 _ _ ?_
   refine wp_ret ?_
   refine c_ret1 rfl rfl ?_
   exact ⟨_, rfl, congrArg (Value.int .i64) (orL_no (fun j hj' y hy => hj j (by omega) y hy)).symm, hS5.drop⟩

set_option maxRecDepth 100000 in
theorem order_ok (a b : Vl) (ha : Bytes a.2.2) (hb : Bytes b.2.2) (w : World) : Calls Tryd.prog 54 #[.agg (vl a).toArray, .agg (vl b).toArray] w (PostR w fun v => v = .int .i64 (vcmp a b)) := by
 have hS := St.start w
 refine c_enter Tryd.func54 rfl rfl rfl ?_
 refine wp_seq_k (fun K1 hK1 => ?_)
 refine wp_region_lit ?_
 refine l_e rfl (fun K hK => ?_)
 refine e_boxA hS rfl (fun b2 w2 (hS2 : St _ _ [.blk b2 (.cells #[.int .i64 a.1, .int .i64 a.2.1, .string (bs a.2.2)] 51)] _) => ?_)
 clear hS
 refine hK _ _ ?_; clear hK K
 refine l_e rfl (fun K hK => ?_)
 refine e_boxA hS2 rfl (fun b3 w3 (hS3 : St _ _ [.blk b3 (.cells #[.int .i64 b.1, .int .i64 b.2.1, .string (bs b.2.2)] 51), _] _) => ?_)
 clear hS2
 refine hK _ _ ?_; clear hK K
 refine l_q rfl rfl (q_assignI rfl) ?_
 refine l_nil ?_
 refine hK1 _ _ ?_
 refine wp_seq_k (fun K4 hK4 => ?_)
 refine r_any (by kernel_rfl) hS3 (fun w5 hS5 => ?_)
 clear hS3
 refine o_pure (i := 0) (fun _ _ => trivial) rfl rfl (by kernel_rfl) (goes0 rfl) (QOk.then QOk.body) (fun w => q_fieldAddr (ft := 49) (o := 0) rfl (by kernel_rfl)) ?_
 refine o_held (i := 1) [4, 9, 14, 15, 16, 17] (fun _ _ => trivial) rfl rfl (by kernel_rfl) (goes0 rfl) (QOk.then QOk.body) (q_load1 rfl (by kernel_rfl) (hS5.cell (i := 1) rfl rfl)) ?_
 refine o_pure (i := 2) (fun j w => ⟨(fun _ _ => trivial) j w, fun _ h => h⟩) rfl rfl (by kernel_rfl) (goes0 rfl) (QOk.then QOk.body) (fun w => q_fieldAddr (ft := 49) (o := 0) rfl (by kernel_rfl)) ?_
 refine o_held (i := 3) [4, 9, 14, 15, 16, 17] (fun j w => ⟨(fun _ _ => trivial) j w, fun _ h => h⟩) rfl rfl (by kernel_rfl) (goes0 rfl) (QOk.then QOk.body) (q_load1 rfl (by kernel_rfl) (hS5.cell (i := 0) rfl rfl)) ?_
 refine o_pure (i := 5) (fun j w => ⟨(fun j w => ⟨(fun _ _ => trivial) j w, fun _ h => h⟩) j w, fun _ h => h⟩) rfl rfl (by kernel_rfl) (goes0 rfl) (QOk.then QOk.body) (fun w => q_fieldAddr (ft := 2) (o := 1) rfl (by kernel_rfl)) ?_
 refine o_held (i := 6) [9, 14, 15, 16, 17] (fun j w => ⟨(fun j w => ⟨(fun _ _ => trivial) j w, fun _ h => h⟩) j w, fun _ h => h⟩) rfl rfl (by kernel_rfl) (goes0 rfl) (QOk.then QOk.body) (q_load1 rfl (by kernel_rfl) (hS5.cell (i := 1) rfl rfl)) ?_
 refine o_pure (i := 7) (fun j w => ⟨(fun j w => ⟨(fun j w => ⟨(fun _ _ => trivial) j w, fun _ h => h⟩) j w, fun _ h => h⟩) j w, fun _ h => h⟩) rfl rfl (by kernel_rfl) (goes0 rfl) (QOk.then QOk.body) (fun w => q_fieldAddr (ft := 2) (o := 1) rfl (by kernel_rfl)) ?_
 refine o_held (i := 8) [9, 14, 15, 16, 17] (fun j w => ⟨(fun j w => ⟨(fun j w => ⟨(fun _ _ => trivial) j w, fun _ h => h⟩) j w, fun _ h => h⟩) j w, fun _ h => h⟩) rfl rfl (by kernel_rfl) (goes0 rfl) (QOk.then QOk.body) (q_load1 rfl (by kernel_rfl) (hS5.cell (i := 0) rfl rfl)) ?_
 refine o_pure (i := 10) (fun j w => ⟨(fun j w => ⟨(fun j w => ⟨(fun j w => ⟨(fun _ _ => trivial) j w, fun _ h => h⟩) j w, fun _ h => h⟩) j w, fun _ h => h⟩) j w, fun _ h => h⟩) rfl rfl (by kernel_rfl) (goes0 rfl) (QOk.then QOk.body) (fun w => q_fieldAddr (ft := 9) (o := 2) rfl (by kernel_rfl)) ?_
 refine o_held (i := 11) [14, 15, 16, 17] (fun j w => ⟨(fun j w => ⟨(fun j w => ⟨(fun j w => ⟨(fun _ _ => trivial) j w, fun _ h => h⟩) j w, fun _ h => h⟩) j w, fun _ h => h⟩) j w, fun _ h => h⟩) rfl rfl (by kernel_rfl) (goes0 rfl) (QOk.then QOk.body) (q_load1 rfl (by kernel_rfl) (hS5.cell (i := 1) rfl rfl)) ?_
 refine o_pure (i := 12) (fun j w => ⟨(fun j w => ⟨(fun j w => ⟨(fun j w => ⟨(fun j w => ⟨(fun _ _ => trivial) j w, fun _ h => h⟩) j w, fun _ h => h⟩) j w, fun _ h => h⟩) j w, fun _ h => h⟩) j w, fun _ h => h⟩) rfl rfl (by kernel_rfl) (goes0 rfl) (QOk.then QOk.body) (fun w => q_fieldAddr (ft := 9) (o := 2) rfl (by kernel_rfl)) ?_
 refine o_held (i := 13) [14, 15, 16, 17] (fun j w => ⟨(fun j w => ⟨(fun j w => ⟨(fun j w => ⟨(fun j w => ⟨(fun _ _ => trivial) j w, fun _ h => h⟩) j w, fun _ h => h⟩) j w, fun _ h => h⟩) j w, fun _ h => h⟩) j w, fun _ h => h⟩) rfl rfl (by kernel_rfl) (goes0 rfl) (QOk.then QOk.body) (q_load1 rfl (by kernel_rfl) (hS5.cell (i := 0) rfl rfl)) ?_
 refine o_eff (i := 4) (by kernel_rfl) rfl (goes0 rfl) (fun K hK => ?_)
 refine e_call (by kernel_rfl) (cmpK_ok a.1 b.1 _) rfl (after_R hS5 (fun v6 w6 hv6 hS6 => ?_))
 clear hS5
 obtain rfl := hv6
 refine hK _ _ ⟨⟨⟨⟨⟨⟨trivial, fun h => absurd h (by decide)⟩, fun h => absurd h (by decide)⟩, fun _ _ => by first | exact q_load1 rfl (by kernel_rfl) (hS6.cell (i := 1) rfl rfl)⟩, fun _ _ => by first | exact q_load1 rfl (by kernel_rfl) (hS6.cell (i := 0) rfl rfl)⟩, fun _ _ => by first | exact q_load1 rfl (by kernel_rfl) (hS6.cell (i := 1) rfl rfl)⟩, fun _ _ => by first | exact q_load1 rfl (by kernel_rfl) (hS6.cell (i := 0) rfl rfl)⟩ ?_; clear hK K
 refine o_eff (i := 9) (by kernel_rfl) rfl (goes0 rfl) (fun K hK => ?_)
 refine e_call (by kernel_rfl) (cmpI_ok a.2.1 b.2.1 _) rfl (after_R hS6 (fun v7 w7 hv7 hS7 => ?_))
 clear hS6
 obtain rfl := hv7
 refine hK _ _ ⟨⟨⟨⟨⟨⟨trivial, fun h => absurd h (by decide)⟩, fun h => absurd h (by decide)⟩, fun h => absurd h (by decide)⟩, fun h => absurd h (by decide)⟩, fun _ _ => by first | exact q_load1 rfl (by kernel_rfl) (hS7.cell (i := 1) rfl rfl)⟩, fun _ _ => by first | exact q_load1 rfl (by kernel_rfl) (hS7.cell (i := 0) rfl rfl)⟩ ?_; clear hK K
 refine o_eff (i := 14) (by kernel_rfl) rfl (goes0 rfl) (fun K hK => ?_)
 refine e_call (by kernel_rfl) (cmpS_ok a.2.2 b.2.2 ha hb _) rfl (after_R hS7 (fun v8 w8 hv8 hS8 => ?_))
 clear hS7
 obtain rfl := hv8
 refine hK _ _ ⟨⟨⟨⟨⟨⟨trivial, fun h => absurd h (by decide)⟩, fun h => absurd h (by decide)⟩, fun h => absurd h (by decide)⟩, fun h => absurd h (by decide)⟩, fun h => absurd h (by decide)⟩, fun h => absurd h (by decide)⟩ ?_; clear hK K
 refine o_eff (i := 15) (by kernel_rfl) rfl (goes0 rfl) (fun K hK => ?_)
 refine e_buildSlice1 (e := 3) (zv := .int .i64 0) (xs := [.tmp 9, .tmp 14, .tmp 19]) hS8 (by kernel_rfl) (by kernel_rfl) (by kernel_rfl) rfl rfl rfl rfl (allone (by repeat' (first | exact trivial | refine ⟨by first | rfl | assumption, ?_⟩))) rfl (fun b9 w9 (hS9 : St _ _ [.blk b9 (.cells #[.int .i64 (cmpZ a.1 b.1), .int .i64 (cmpZ a.2.1 b.2.1), .int .i64 (cmB a.2.2 b.2.2)] 3), _, _] _) => ?_)
 clear hS8
 have hS9o : St _ _ [.ow 3 1 (some ⟨b9, 0, none⟩) 3 3 (iv [(cmpZ a.1 b.1), (cmpZ a.2.1 b.2.1), (cmB a.2.2 b.2.2)]), _, _] _ := hS9.blkOw' (i := 0) (m := 3) (size := 1) (xs := iv [(cmpZ a.1 b.1), (cmpZ a.2.1 b.2.1), (cmB a.2.2 b.2.2)]) rfl rfl rfl (by decide); clear hS9
 refine hK _ _ ⟨⟨⟨⟨⟨⟨trivial, fun h => absurd h (by decide)⟩, fun h => absurd h (by decide)⟩, fun h => absurd h (by decide)⟩, fun h => absurd h (by decide)⟩, fun h => absurd h (by decide)⟩, fun h => absurd h (by decide)⟩ ?_; clear hK K
 refine o_eff (i := 16) (by kernel_rfl) rfl (goes0 rfl) (fun K hK => ?_)
 refine e_call (by kernel_rfl) (or_ok [(cmpZ a.1 b.1), (cmpZ a.2.1 b.2.1), (cmB a.2.2 b.2.2)] 3 (by simp) (by decide) _ _ _ (hS9o.owG (i := 0) rfl)) rfl (after_R hS9o (fun v10 w10 hv10 hS10 => ?_))
 clear hS9o
 obtain rfl := hv10
 refine hK _ _ ⟨⟨⟨⟨⟨⟨trivial, fun h => absurd h (by decide)⟩, fun h => absurd h (by decide)⟩, fun h => absurd h (by decide)⟩, fun h => absurd h (by decide)⟩, fun h => absurd h (by decide)⟩, fun h => absurd h (by decide)⟩ ?_; clear hK K
 refine o_pure (i := 17) (fun j w => ⟨(fun j w => ⟨(fun j w => ⟨(fun j w => ⟨(fun j w => ⟨(fun j w => ⟨(fun _ _ => trivial) j w, fun _ h => h⟩) j w, fun _ h => h⟩) j w, fun _ h => h⟩) j w, fun _ h => h⟩) j w, fun _ h => h⟩) j w, fun _ h => h⟩) rfl rfl (by kernel_rfl) (goes0 rfl) (QOk.then QOk.body) (fun w => q_assignI rfl) ?_
 refine o_done (by kernel_rfl) ?_
 refine hK4 _ _ ?_
 refine wp_ret ?_
 refine c_ret1 rfl rfl ?_
 exact ⟨_, rfl, congrArg (Value.int .i64) (by unfold vcmp; rfl), hS10.drop⟩

section
attribute [local semireducible] vcmp orL cmpZ cmB
theorem vc3 {a b : Vl} (h1 : a.1 = b.1) (h2 : a.2.1 = b.2.1) : vcmp a b = cmB a.2.2 b.2.2 := by
 unfold vcmp
 simp only [orL, cmpZ, h1, h2, Int.lt_irrefl, if_false, if_true]
 split
 · rename_i h; exact h.symm
 · rfl
end

set_option maxRecDepth 100000 in
theorem rorder_ok (a b : Vl) (ha : Bytes a.2.2) (hb : Bytes b.2.2) (w : World) : Calls Tryd.prog 61 #[.agg (vl a).toArray, .agg (vl b).toArray] w (PostR w fun v => v = .int .i64 (vcmp a b)) := by
 have hS := St.start w
 refine c_enter Tryd.func61 rfl rfl rfl ?_
 refine wp_seq_k (fun K1 hK1 => ?_)
 refine wp_region_lit ?_
 refine l_e rfl (fun K hK => ?_)
 refine e_boxA hS rfl (fun b2 w2 (hS2 : St _ _ [.blk b2 (.cells #[.int .i64 a.1, .int .i64 a.2.1, .string (bs a.2.2)] 51)] _) => ?_)
 clear hS
 refine hK _ _ ?_; clear hK K
 refine l_e rfl (fun K hK => ?_)
 refine e_boxA hS2 rfl (fun b3 w3 (hS3 : St _ _ [.blk b3 (.cells #[.int .i64 b.1, .int .i64 b.2.1, .string (bs b.2.2)] 51), _] _) => ?_)
 clear hS2
 refine hK _ _ ?_; clear hK K
 refine l_q rfl rfl (q_assignI rfl) ?_
 refine l_nil ?_
 refine hK1 _ _ ?_
 refine wp_seq_k (fun K4 hK4 => ?_)
 refine wp_block ?_
 refine wp_seq_k (fun K5 hK5 => ?_)
 refine wp_region_lit ?_
 refine l_q rfl rfl (q_fieldAddr (ft := 49) (o := 0) rfl (by kernel_rfl)) ?_
 refine l_q rfl rfl (q_load1 rfl (by kernel_rfl) (hS3.cell (i := 1) rfl rfl)) ?_
 refine l_q rfl rfl (q_fieldAddr (ft := 49) (o := 0) rfl (by kernel_rfl)) ?_
 refine l_q rfl rfl (q_load1 rfl (by kernel_rfl) (hS3.cell (i := 0) rfl rfl)) ?_
 refine l_q rfl rfl (q_lss rfl rfl) ?_
 refine l_q rfl rfl (q_assignB rfl) ?_
 refine l_nil ?_
 refine hK5 _ _ ?_
 refine c_cond rfl (fun hc6 => ?_) (fun hc6 => ?_)
 ·
  have hc6b := hc6
  try simp only [decide_eq_true_eq, decide_eq_false_iff_not, Bool.not_eq_true', Bool.not_eq_false', Bool.and_eq_true, Bool.or_eq_true, Int.not_lt, Int.not_le, ne_eq, Decidable.not_not] at hc6
  refine wp_seq_k (fun K7 hK7 => ?_)
  refine wp_region_lit ?_
  refine l_q rfl rfl (q_assignI rfl) ?_
  refine l_nil ?_
  refine hK7 _ _ ?_
  refine wp_ret ?_
  refine c_ret1 rfl rfl ?_
  exact ⟨_, rfl, congrArg (Value.int .i64) (by first | (rw [vc3 (by omega) (by omega)]; first | exact cmB_1 (by assumption) | exact cmB_2 (by assumption) (by simp_all) | exact cmB_3 (by assumption) (by simp_all)) | (unfold vcmp; simp_all [orL, cmpZ, cmB]; done) | (unfold vcmp; simp_all [orL, cmpZ, cmB]; omega)), hS3.drop⟩
 ·
  have hc6b := hc6
  try simp only [decide_eq_true_eq, decide_eq_false_iff_not, Bool.not_eq_true', Bool.not_eq_false', Bool.and_eq_true, Bool.or_eq_true, Int.not_lt, Int.not_le, ne_eq, Decidable.not_not] at hc6
  refine wp_seq_k (fun K8 hK8 => ?_)
  refine wp_region_lit ?_
  refine l_q rfl rfl (q_fieldAddr (ft := 49) (o := 0) rfl (by kernel_rfl)) ?_
  refine l_q rfl rfl (q_load1 rfl (by kernel_rfl) (hS3.cell (i := 1) rfl rfl)) ?_
  refine l_q rfl rfl (q_fieldAddr (ft := 49) (o := 0) rfl (by kernel_rfl)) ?_
  refine l_q rfl rfl (q_load1 rfl (by kernel_rfl) (hS3.cell (i := 0) rfl rfl)) ?_
  refine l_q rfl rfl (q_gtr rfl rfl) ?_
  refine l_q rfl rfl (q_assignB rfl) ?_
  refine l_nil ?_
  refine hK8 _ _ ?_
  refine c_cond rfl (fun hc9 => ?_) (fun hc9 => ?_)
  ·
   have hc9b := hc9
   try simp only [decide_eq_true_eq, decide_eq_false_iff_not, Bool.not_eq_true', Bool.not_eq_false', Bool.and_eq_true, Bool.or_eq_true, Int.not_lt, Int.not_le, ne_eq, Decidable.not_not] at hc9
   refine wp_seq_k (fun K10 hK10 => ?_)
   refine wp_region_lit ?_
   refine l_q rfl rfl (q_assignI rfl) ?_
   refine l_nil ?_
   refine hK10 _ _ ?_
   refine wp_ret ?_
   refine c_ret1 rfl rfl ?_
   exact ⟨_, rfl, congrArg (Value.int .i64) (by first | (rw [vc3 (by omega) (by omega)]; first | exact cmB_1 (by assumption) | exact cmB_2 (by assumption) (by simp_all) | exact cmB_3 (by assumption) (by simp_all)) | (unfold vcmp; simp_all [orL, cmpZ, cmB]; done) | (unfold vcmp; simp_all [orL, cmpZ, cmB]; omega)), hS3.drop⟩
  ·
   have hc9b := hc9
   try simp only [decide_eq_true_eq, decide_eq_false_iff_not, Bool.not_eq_true', Bool.not_eq_false', Bool.and_eq_true, Bool.or_eq_true, Int.not_lt, Int.not_le, ne_eq, Decidable.not_not] at hc9
   refine wp_seq_k (fun K11 hK11 => ?_)
   refine wp_region_lit ?_
   refine l_q rfl rfl (q_fieldAddr (ft := 2) (o := 1) rfl (by kernel_rfl)) ?_
   refine l_q rfl rfl (q_load1 rfl (by kernel_rfl) (hS3.cell (i := 1) rfl rfl)) ?_
   refine l_q rfl rfl (q_fieldAddr (ft := 2) (o := 1) rfl (by kernel_rfl)) ?_
   refine l_q rfl rfl (q_load1 rfl (by kernel_rfl) (hS3.cell (i := 0) rfl rfl)) ?_
   refine l_q rfl rfl (q_lss rfl rfl) ?_
   refine l_q rfl rfl (q_assignB rfl) ?_
   refine l_nil ?_
   refine hK11 _ _ ?_
   refine c_cond rfl (fun hc12 => ?_) (fun hc12 => ?_)
   ·
    have hc12b := hc12
    try simp only [decide_eq_true_eq, decide_eq_false_iff_not, Bool.not_eq_true', Bool.not_eq_false', Bool.and_eq_true, Bool.or_eq_true, Int.not_lt, Int.not_le, ne_eq, Decidable.not_not] at hc12
    refine wp_seq_k (fun K13 hK13 => ?_)
    refine wp_region_lit ?_
    refine l_q rfl rfl (q_assignI rfl) ?_
    refine l_nil ?_
    refine hK13 _ _ ?_
    refine wp_ret ?_
    refine c_ret1 rfl rfl ?_
    exact ⟨_, rfl, congrArg (Value.int .i64) (by first | (rw [vc3 (by omega) (by omega)]; first | exact cmB_1 (by assumption) | exact cmB_2 (by assumption) (by simp_all) | exact cmB_3 (by assumption) (by simp_all)) | (unfold vcmp; simp_all [orL, cmpZ, cmB]; done) | (unfold vcmp; simp_all [orL, cmpZ, cmB]; omega)), hS3.drop⟩
   ·
    have hc12b := hc12
    try simp only [decide_eq_true_eq, decide_eq_false_iff_not, Bool.not_eq_true', Bool.not_eq_false', Bool.and_eq_true, Bool.or_eq_true, Int.not_lt, Int.not_le, ne_eq, Decidable.not_not] at hc12
    refine wp_seq_k (fun K14 hK14 => ?_)
    refine wp_region_lit ?_
    refine l_q rfl rfl (q_fieldAddr (ft := 2) (o := 1) rfl (by kernel_rfl)) ?_
    refine l_q rfl rfl (q_load1 rfl (by kernel_rfl) (hS3.cell (i := 1) rfl rfl)) ?_
    refine l_q rfl rfl (q_fieldAddr (ft := 2) (o := 1) rfl (by kernel_rfl)) ?_
    refine l_q rfl rfl (q_load1 rfl (by kernel_rfl) (hS3.cell (i := 0) rfl rfl)) ?_
    refine l_q rfl rfl (q_gtr rfl rfl) ?_
    refine l_q rfl rfl (q_assignB rfl) ?_
    refine l_nil ?_
    refine hK14 _ _ ?_
    refine c_cond rfl (fun hc15 => ?_) (fun hc15 => ?_)
    ·
     have hc15b := hc15
     try simp only [decide_eq_true_eq, decide_eq_false_iff_not, Bool.not_eq_true', Bool.not_eq_false', Bool.and_eq_true, Bool.or_eq_true, Int.not_lt, Int.not_le, ne_eq, Decidable.not_not] at hc15
     refine wp_seq_k (fun K16 hK16 => ?_)
     refine wp_region_lit ?_
     refine l_q rfl rfl (q_assignI rfl) ?_
     refine l_nil ?_
     refine hK16 _ _ ?_
     refine wp_ret ?_
     refine c_ret1 rfl rfl ?_
     exact ⟨_, rfl, congrArg (Value.int .i64) (by first | (rw [vc3 (by omega) (by omega)]; first | exact cmB_1 (by assumption) | exact cmB_2 (by assumption) (by simp_all) | exact cmB_3 (by assumption) (by simp_all)) | (unfold vcmp; simp_all [orL, cmpZ, cmB]; done) | (unfold vcmp; simp_all [orL, cmpZ, cmB]; omega)), hS3.drop⟩
    ·
     have hc15b := hc15
     try simp only [decide_eq_true_eq, decide_eq_false_iff_not, Bool.not_eq_true', Bool.not_eq_false', Bool.and_eq_true, Bool.or_eq_true, Int.not_lt, Int.not_le, ne_eq, Decidable.not_not] at hc15
     refine wp_seq_k (fun K17 hK17 => ?_)
     refine wp_region_lit ?_
     refine l_q rfl rfl (q_fieldAddr (ft := 9) (o := 2) rfl (by kernel_rfl)) ?_
     refine l_q rfl rfl (q_load1 rfl (by kernel_rfl) (hS3.cell (i := 1) rfl rfl)) ?_
     refine l_q rfl rfl (q_fieldAddr (ft := 9) (o := 2) rfl (by kernel_rfl)) ?_
     refine l_q rfl rfl (q_load1 rfl (by kernel_rfl) (hS3.cell (i := 0) rfl rfl)) ?_
     refine l_q rfl rfl (q_str_lss (l := a.2.2) (m := b.2.2) rfl rfl ha hb) ?_
     refine l_q rfl rfl (q_assignB rfl) ?_
     refine l_nil ?_
     refine hK17 _ _ ?_
     refine c_cond rfl (fun hc18 => ?_) (fun hc18 => ?_)
     ·
      have hc18b := hc18
      try simp only [decide_eq_true_eq, decide_eq_false_iff_not, Bool.not_eq_true', Bool.not_eq_false', Bool.and_eq_true, Bool.or_eq_true, Int.not_lt, Int.not_le, ne_eq, Decidable.not_not] at hc18
      refine wp_seq_k (fun K19 hK19 => ?_)
      refine wp_region_lit ?_
      refine l_q rfl rfl (q_assignI rfl) ?_
      refine l_nil ?_
      refine hK19 _ _ ?_
      refine wp_ret ?_
      refine c_ret1 rfl rfl ?_
      exact ⟨_, rfl, congrArg (Value.int .i64) (by first | (rw [vc3 (by omega) (by omega)]; first | exact cmB_1 (by assumption) | exact cmB_2 (by assumption) (by simp_all) | exact cmB_3 (by assumption) (by simp_all)) | (unfold vcmp; simp_all [orL, cmpZ, cmB]; done) | (unfold vcmp; simp_all [orL, cmpZ, cmB]; omega)), hS3.drop⟩
     ·
      have hc18b := hc18
      try simp only [decide_eq_true_eq, decide_eq_false_iff_not, Bool.not_eq_true', Bool.not_eq_false', Bool.and_eq_true, Bool.or_eq_true, Int.not_lt, Int.not_le, ne_eq, Decidable.not_not] at hc18
      refine wp_seq_k (fun K20 hK20 => ?_)
      refine wp_region_lit ?_
      refine l_q rfl rfl (q_fieldAddr (ft := 9) (o := 2) rfl (by kernel_rfl)) ?_
      refine l_q rfl rfl (q_load1 rfl (by kernel_rfl) (hS3.cell (i := 1) rfl rfl)) ?_
      refine l_q rfl rfl (q_fieldAddr (ft := 9) (o := 2) rfl (by kernel_rfl)) ?_
      refine l_q rfl rfl (q_load1 rfl (by kernel_rfl) (hS3.cell (i := 0) rfl rfl)) ?_
      refine l_q rfl rfl (q_str_gtr (l := a.2.2) (m := b.2.2) rfl rfl ha hb) ?_
      refine l_q rfl rfl (q_assignB rfl) ?_
      refine l_nil ?_
      refine hK20 _ _ ?_
      refine c_cond rfl (fun hc21 => ?_) (fun hc21 => ?_)
      ·
       have hc21b := hc21
       try simp only [decide_eq_true_eq, decide_eq_false_iff_not, Bool.not_eq_true', Bool.not_eq_false', Bool.and_eq_true, Bool.or_eq_true, Int.not_lt, Int.not_le, ne_eq, Decidable.not_not] at hc21
       refine wp_seq_k (fun K22 hK22 => ?_)
       refine wp_region_lit ?_
       refine l_q rfl rfl (q_assignI rfl) ?_
       refine l_nil ?_
       refine hK22 _ _ ?_
       refine wp_ret ?_
       refine c_ret1 rfl rfl ?_
       exact ⟨_, rfl, congrArg (Value.int .i64) (by first | (rw [vc3 (by omega) (by omega)]; first | exact cmB_1 (by assumption) | exact cmB_2 (by assumption) (by simp_all) | exact cmB_3 (by assumption) (by simp_all)) | (unfold vcmp; simp_all [orL, cmpZ, cmB]; done) | (unfold vcmp; simp_all [orL, cmpZ, cmB]; omega)), hS3.drop⟩
      ·
       have hc21b := hc21
       try simp only [decide_eq_true_eq, decide_eq_false_iff_not, Bool.not_eq_true', Bool.not_eq_false', Bool.and_eq_true, Bool.or_eq_true, Int.not_lt, Int.not_le, ne_eq, Decidable.not_not] at hc21
       refine wp_skip ?_
       refine hK4 _ _ ?_
       refine wp_seq_k (fun K23 hK23 => ?_)
       refine wp_region_lit ?_
       refine l_q rfl rfl (q_assignI rfl) ?_
       refine l_nil ?_
       refine hK23 _ _ ?_
       refine wp_ret ?_
       refine c_ret1 rfl rfl ?_
       exact ⟨_, rfl, congrArg (Value.int .i64) (by first | (rw [vc3 (by omega) (by omega)]; first | exact cmB_1 (by assumption) | exact cmB_2 (by assumption) (by simp_all) | exact cmB_3 (by assumption) (by simp_all)) | (unfold vcmp; simp_all [orL, cmpZ, cmB]; done) | (unfold vcmp; simp_all [orL, cmpZ, cmB]; omega)), hS3.drop⟩

end Go.Proofs.YtdlmcgflgdmjgaaDoor
