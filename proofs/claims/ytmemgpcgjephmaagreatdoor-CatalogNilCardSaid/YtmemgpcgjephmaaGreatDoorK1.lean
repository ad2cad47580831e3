/- Values: Right. -/
import Derived.Test.YtmemgpcgjephmaaGreatDoorK0
set_option linter.unusedVariables false
set_option linter.unusedSimpArgs false
namespace Go.Proofs.YtmemgpcgjephmaaGreatDoor
open Go.RowKit
/-- A value: its kind, its number, its text. -/
abbrev Vl := Int × Int × List Nat
def vl (v : Vl) : List Value := [.int .i64 v.1, .int .i64 v.2.1, .string (bs v.2.2)]
theorem vl_ones : ∀ v : Vl, AllOne (vl v) := fun _ => ⟨rfl, rfl, rfl, trivial⟩
def VOk (v : Vl) : Prop := Bytes v.2.2 ∧ (-9223372036854775808 ≤ v.1 ∧ v.1 ≤ 9223372036854775807) ∧ (-9223372036854775808 ≤ v.2.1 ∧ v.2.1 ≤ 9223372036854775807)
def VsOk (l : List Vl) : Prop := ∀ v ∈ l, VOk v
theorem VsOk.nil : VsOk [] := fun v h => by cases h
theorem VsOk.app {l m : List Vl} (h : VsOk l) (h' : VsOk m) : VsOk (l ++ m) := fun v hv => (List.mem_append.1 hv).elim (h v) (h' v)
theorem VsOk.one {v : Vl} (h : VOk v) : VsOk [v] := fun x hx => by rw [List.mem_singleton] at hx; subst hx; exact h
theorem VsOk.take {l : List Vl} {n : Nat} (h : VsOk l) : VsOk (l.take n) := fun v hv => h v (List.mem_of_mem_take hv)
theorem VsOk.cons {v : Vl} {l : List Vl} (h : VOk v) (h' : VsOk l) : VsOk (v :: l) := fun x hx => by
  cases hx with
  | head => exact h
  | tail _ hx => exact h' x hx
/-- Is a value right? -/
def rightB (v : Vl) : Bool :=
  if v.1 = 0 then decide (v.2.1 = 0) && decide (v.2.2 = [])
  else if v.1 = 1 then (decide (v.2.1 = 0) || decide (v.2.1 = 1)) && decide (v.2.2 = [])
  else if v.1 = 2 ∨ v.1 = 3 then decide (v.2.2 = [])
  else if v.1 = 4 ∨ v.1 = 5 then decide (v.2.1 = 0) && decide (v.2.2.length ≤ 200)
  else false
attribute [local irreducible] Oper.wp Sem.run Code.wp wpList wpAnyO callFunc execOp Calls

set_option maxRecDepth 100000 in
theorem right_ok (a : Vl) (hB : Bytes a.2.2) (w : World) : Calls Tryz.prog 55 #[.agg (vl a).toArray] w (PostR w fun v => v = .bool (rightB a)) := by
  have hS := St.start w
  refine c_enter Tryz.func55 rfl rfl rfl ?_
  refine wp_seq_k (fun K1 hK1 => ?_)
  refine wp_region_lit ?_
  refine l_e rfl (fun K hK => ?_)
  refine e_boxA hS rfl (fun b2 w2 (hS2 : St _ _ [.blk b2 (.cells #[.int .i64 a.1, .int .i64 a.2.1, .string (bs a.2.2)] 59)] _) => ?_)
  clear hS
  refine hK _ _ ?_; clear hK K
  refine l_q rfl rfl (q_assignB rfl) ?_
  refine l_nil ?_
  refine hK1 _ _ ?_
  refine wp_seq_k (fun K3 hK3 => ?_)
  refine wp_seq_k (fun K4 hK4 => ?_)
  refine wp_region_lit ?_
  refine l_q rfl rfl (q_fieldAddr (ft := 45) (o := 0) rfl (by kernel_rfl)) ?_
  refine l_q rfl rfl (q_load1 rfl (by kernel_rfl) (hS2.cell (i := 0) rfl rfl)) ?_
  refine l_nil ?_
  refine hK4 _ _ ?_
  refine wp_block ?_
  refine wp_seq_k (fun K5 hK5 => ?_)
  refine wp_block ?_
  refine wp_block ?_
  refine wp_seq_k (fun K6 hK6 => ?_)
  refine wp_block ?_
  refine wp_block ?_
  refine wp_seq_k (fun K7 hK7 => ?_)
  refine wp_block ?_
  refine wp_seq_k (fun K8 hK8 => ?_)
  refine wp_block ?_
  refine wp_seq_k (fun K9 hK9 => ?_)
  refine wp_seq_k (fun K10 hK10 => ?_)
  refine wp_seq_k (fun K11 hK11 => ?_)
  refine wp_region_lit ?_
  refine l_q rfl rfl (q_eql rfl rfl) ?_
  refine l_q rfl rfl (q_assignB rfl) ?_
  refine l_nil ?_
  refine hK11 _ _ ?_
  refine c_cond rfl (fun hc12 => ?_) (fun hc12 => ?_)
  ·
    have hc12b := hc12
    try simp only [decide_eq_true_eq, decide_eq_false_iff_not, Bool.not_eq_true', Bool.not_eq_false', Bool.and_eq_true, Bool.or_eq_true, Int.not_lt, Int.not_le, ne_eq, Decidable.not_not] at hc12
    refine wp_exit ?_
    refine hK8 _ _ ?_
    refine wp_seq_k (fun K13 hK13 => ?_)
    refine wp_region_lit ?_
    refine l_q rfl rfl (q_fieldAddr (ft := 2) (o := 1) rfl (by kernel_rfl)) ?_
    refine l_q rfl rfl (q_load1 rfl (by kernel_rfl) (hS2.cell (i := 0) rfl rfl)) ?_
    refine l_q rfl rfl (q_eql rfl rfl) ?_
    refine l_nil ?_
    refine hK13 _ _ ?_
    refine c_cond rfl (fun hc14 => ?_) (fun hc14 => ?_)
    ·
      have hc14b := hc14
      try simp only [decide_eq_true_eq, decide_eq_false_iff_not, Bool.not_eq_true', Bool.not_eq_false', Bool.and_eq_true, Bool.or_eq_true, Int.not_lt, Int.not_le, ne_eq, Decidable.not_not] at hc14
      refine wp_seq_k (fun K15 hK15 => ?_)
      refine wp_region_lit ?_
      refine l_q rfl rfl (q_fieldAddr (ft := 9) (o := 2) rfl (by kernel_rfl)) ?_
      refine l_q rfl rfl (q_load1 rfl (by kernel_rfl) (hS2.cell (i := 0) rfl rfl)) ?_
      refine l_q rfl rfl (q_str_eql (l := a.2.2) (m := []) rfl rfl hB Bytes.nil) ?_
      refine l_q rfl rfl (q_assignB rfl) ?_
      refine l_nil ?_
      refine hK15 _ _ ?_
      refine wp_ret ?_
      refine c_ret1 rfl rfl ?_
      exact ⟨_, rfl, congrArg Value.bool (by unfold rightB; simp [*] <;> omega), hS2.drop⟩
    ·
      have hc14b := hc14
      try simp only [decide_eq_true_eq, decide_eq_false_iff_not, Bool.not_eq_true', Bool.not_eq_false', Bool.and_eq_true, Bool.or_eq_true, Int.not_lt, Int.not_le, ne_eq, Decidable.not_not] at hc14
      refine wp_skip ?_
      refine hK7 _ _ ?_
      refine wp_seq_k (fun K16 hK16 => ?_)
      refine wp_seq_k (fun K17 hK17 => ?_)
      refine wp_region_lit ?_
      refine l_q rfl rfl (q_fieldAddr (ft := 2) (o := 1) rfl (by kernel_rfl)) ?_
      refine l_q rfl rfl (q_load1 rfl (by kernel_rfl) (hS2.cell (i := 0) rfl rfl)) ?_
      refine l_q rfl rfl (q_eql rfl rfl) ?_
      refine l_q rfl rfl (q_moveB rfl) ?_
      refine g_splitL (t := 26) rfl (fun hg18 => ?_) (fun hg18 => ?_)
      ·
        have hg18b := hg18
        try simp only [decide_eq_true_eq, decide_eq_false_iff_not, Bool.not_eq_true', Bool.not_eq_false', Bool.and_eq_true, Bool.or_eq_true, Int.not_lt, Int.not_le, ne_eq, Decidable.not_not] at hg18
        refine l_on rfl rfl hg18b ?_
        refine l_q rfl rfl (q_fieldAddr (ft := 9) (o := 2) rfl (by kernel_rfl)) ?_
        refine l_on rfl rfl hg18b ?_
        refine l_q rfl rfl (q_load1 rfl (by kernel_rfl) (hS2.cell (i := 0) rfl rfl)) ?_
        refine l_on rfl rfl hg18b ?_
        refine l_q rfl rfl (q_str_eql (l := a.2.2) (m := []) rfl rfl hB Bytes.nil) ?_
        refine l_q rfl rfl (q_pickT rfl hg18b rfl) ?_
        refine l_q rfl rfl (q_assignB rfl) ?_
        refine l_nil ?_
        refine hK17 _ _ ?_
        refine wp_ret ?_
        refine c_ret1 rfl rfl ?_
        exact ⟨_, rfl, congrArg Value.bool (by unfold rightB; simp [*] <;> omega), hS2.drop⟩
      ·
        have hg18b := hg18
        try simp only [decide_eq_true_eq, decide_eq_false_iff_not, Bool.not_eq_true', Bool.not_eq_false', Bool.and_eq_true, Bool.or_eq_true, Int.not_lt, Int.not_le, ne_eq, Decidable.not_not] at hg18
        refine l_off rfl rfl rfl hg18b ?_
        refine l_off rfl rfl rfl hg18b ?_
        refine l_off rfl rfl rfl hg18b ?_
        refine l_q rfl rfl (q_pickF rfl hg18b rfl) ?_
        refine l_q rfl rfl (q_assignB rfl) ?_
        refine l_nil ?_
        refine hK17 _ _ ?_
        refine wp_ret ?_
        refine c_ret1 rfl rfl ?_
        exact ⟨_, rfl, congrArg Value.bool (by unfold rightB; simp [*] <;> omega), hS2.drop⟩
  ·
    have hc12b := hc12
    try simp only [decide_eq_true_eq, decide_eq_false_iff_not, Bool.not_eq_true', Bool.not_eq_false', Bool.and_eq_true, Bool.or_eq_true, Int.not_lt, Int.not_le, ne_eq, Decidable.not_not] at hc12
    refine wp_skip ?_
    refine hK10 _ _ ?_
    refine wp_seq_k (fun K19 hK19 => ?_)
    refine wp_seq_k (fun K20 hK20 => ?_)
    refine wp_region_lit ?_
    refine l_q rfl rfl (q_eql rfl rfl) ?_
    refine l_q rfl rfl (q_assignB rfl) ?_
    refine l_nil ?_
    refine hK20 _ _ ?_
    refine c_cond rfl (fun hc21 => ?_) (fun hc21 => ?_)
    ·
      have hc21b := hc21
      try simp only [decide_eq_true_eq, decide_eq_false_iff_not, Bool.not_eq_true', Bool.not_eq_false', Bool.and_eq_true, Bool.or_eq_true, Int.not_lt, Int.not_le, ne_eq, Decidable.not_not] at hc21
      refine wp_exit ?_
      refine hK7 _ _ ?_
      refine wp_seq_k (fun K22 hK22 => ?_)
      refine wp_seq_k (fun K23 hK23 => ?_)
      refine wp_region_lit ?_
      refine l_q rfl rfl (q_fieldAddr (ft := 2) (o := 1) rfl (by kernel_rfl)) ?_
      refine l_q rfl rfl (q_load1 rfl (by kernel_rfl) (hS2.cell (i := 0) rfl rfl)) ?_
      refine l_q rfl rfl (q_eql rfl rfl) ?_
      refine l_q rfl rfl (q_moveB rfl) ?_
      refine g_splitL (t := 26) rfl (fun hg24 => ?_) (fun hg24 => ?_)
      ·
        have hg24b := hg24
        try simp only [decide_eq_true_eq, decide_eq_false_iff_not, Bool.not_eq_true', Bool.not_eq_false', Bool.and_eq_true, Bool.or_eq_true, Int.not_lt, Int.not_le, ne_eq, Decidable.not_not] at hg24
        refine l_on rfl rfl hg24b ?_
        refine l_q rfl rfl (q_fieldAddr (ft := 9) (o := 2) rfl (by kernel_rfl)) ?_
        refine l_on rfl rfl hg24b ?_
        refine l_q rfl rfl (q_load1 rfl (by kernel_rfl) (hS2.cell (i := 0) rfl rfl)) ?_
        refine l_on rfl rfl hg24b ?_
        refine l_q rfl rfl (q_str_eql (l := a.2.2) (m := []) rfl rfl hB Bytes.nil) ?_
        refine l_q rfl rfl (q_pickT rfl hg24b rfl) ?_
        refine l_q rfl rfl (q_assignB rfl) ?_
        refine l_nil ?_
        refine hK23 _ _ ?_
        refine wp_ret ?_
        refine c_ret1 rfl rfl ?_
        exact ⟨_, rfl, congrArg Value.bool (by unfold rightB; simp [*] <;> omega), hS2.drop⟩
      ·
        have hg24b := hg24
        try simp only [decide_eq_true_eq, decide_eq_false_iff_not, Bool.not_eq_true', Bool.not_eq_false', Bool.and_eq_true, Bool.or_eq_true, Int.not_lt, Int.not_le, ne_eq, Decidable.not_not] at hg24
        refine l_off rfl rfl rfl hg24b ?_
        refine l_off rfl rfl rfl hg24b ?_
        refine l_off rfl rfl rfl hg24b ?_
        refine l_q rfl rfl (q_pickF rfl hg24b rfl) ?_
        refine l_q rfl rfl (q_assignB rfl) ?_
        refine l_nil ?_
        refine hK23 _ _ ?_
        refine wp_ret ?_
        refine c_ret1 rfl rfl ?_
        exact ⟨_, rfl, congrArg Value.bool (by unfold rightB; simp [*] <;> omega), hS2.drop⟩
    ·
      have hc21b := hc21
      try simp only [decide_eq_true_eq, decide_eq_false_iff_not, Bool.not_eq_true', Bool.not_eq_false', Bool.and_eq_true, Bool.or_eq_true, Int.not_lt, Int.not_le, ne_eq, Decidable.not_not] at hc21
      refine wp_skip ?_
      refine hK19 _ _ ?_
      refine wp_seq_k (fun K25 hK25 => ?_)
      refine wp_seq_k (fun K26 hK26 => ?_)
      refine wp_region_lit ?_
      refine l_q rfl rfl (q_eql rfl rfl) ?_
      refine l_q rfl rfl (q_assignB rfl) ?_
      refine l_nil ?_
      refine hK26 _ _ ?_
      refine c_cond rfl (fun hc27 => ?_) (fun hc27 => ?_)
      ·
        have hc27b := hc27
        try simp only [decide_eq_true_eq, decide_eq_false_iff_not, Bool.not_eq_true', Bool.not_eq_false', Bool.and_eq_true, Bool.or_eq_true, Int.not_lt, Int.not_le, ne_eq, Decidable.not_not] at hc27
        refine wp_exit ?_
        refine hK6 _ _ ?_
        refine wp_seq_k (fun K28 hK28 => ?_)
        refine wp_seq_k (fun K29 hK29 => ?_)
        refine wp_region_lit ?_
        refine l_q rfl rfl (q_fieldAddr (ft := 9) (o := 2) rfl (by kernel_rfl)) ?_
        refine l_q rfl rfl (q_load1 rfl (by kernel_rfl) (hS2.cell (i := 0) rfl rfl)) ?_
        refine l_q rfl rfl (q_str_eql (l := a.2.2) (m := []) rfl rfl hB Bytes.nil) ?_
        refine l_q rfl rfl (q_assignB rfl) ?_
        refine l_nil ?_
        refine hK29 _ _ ?_
        refine wp_ret ?_
        refine c_ret1 rfl rfl ?_
        exact ⟨_, rfl, congrArg Value.bool (by unfold rightB; simp [*] <;> omega), hS2.drop⟩
      ·
        have hc27b := hc27
        try simp only [decide_eq_true_eq, decide_eq_false_iff_not, Bool.not_eq_true', Bool.not_eq_false', Bool.and_eq_true, Bool.or_eq_true, Int.not_lt, Int.not_le, ne_eq, Decidable.not_not] at hc27
        refine wp_skip ?_
        refine hK25 _ _ ?_
        refine wp_seq_k (fun K30 hK30 => ?_)
        refine wp_seq_k (fun K31 hK31 => ?_)
        refine wp_region_lit ?_
        refine l_q rfl rfl (q_eql rfl rfl) ?_
        refine l_q rfl rfl (q_assignB rfl) ?_
        refine l_nil ?_
        refine hK31 _ _ ?_
        refine c_cond rfl (fun hc32 => ?_) (fun hc32 => ?_)
        ·
          have hc32b := hc32
          try simp only [decide_eq_true_eq, decide_eq_false_iff_not, Bool.not_eq_true', Bool.not_eq_false', Bool.and_eq_true, Bool.or_eq_true, Int.not_lt, Int.not_le, ne_eq, Decidable.not_not] at hc32
          refine wp_exit ?_
          refine hK6 _ _ ?_
          refine wp_seq_k (fun K33 hK33 => ?_)
          refine wp_seq_k (fun K34 hK34 => ?_)
          refine wp_region_lit ?_
          refine l_q rfl rfl (q_fieldAddr (ft := 9) (o := 2) rfl (by kernel_rfl)) ?_
          refine l_q rfl rfl (q_load1 rfl (by kernel_rfl) (hS2.cell (i := 0) rfl rfl)) ?_
          refine l_q rfl rfl (q_str_eql (l := a.2.2) (m := []) rfl rfl hB Bytes.nil) ?_
          refine l_q rfl rfl (q_assignB rfl) ?_
          refine l_nil ?_
          refine hK34 _ _ ?_
          refine wp_ret ?_
          refine c_ret1 rfl rfl ?_
          exact ⟨_, rfl, congrArg Value.bool (by unfold rightB; simp [*] <;> omega), hS2.drop⟩
        ·
          have hc32b := hc32
          try simp only [decide_eq_true_eq, decide_eq_false_iff_not, Bool.not_eq_true', Bool.not_eq_false', Bool.and_eq_true, Bool.or_eq_true, Int.not_lt, Int.not_le, ne_eq, Decidable.not_not] at hc32
          refine wp_skip ?_
          refine hK30 _ _ ?_
          refine wp_seq_k (fun K35 hK35 => ?_)
          refine wp_seq_k (fun K36 hK36 => ?_)
          refine wp_region_lit ?_
          refine l_q rfl rfl (q_eql rfl rfl) ?_
          refine l_q rfl rfl (q_assignB rfl) ?_
          refine l_nil ?_
          refine hK36 _ _ ?_
          refine c_cond rfl (fun hc37 => ?_) (fun hc37 => ?_)
          ·
            have hc37b := hc37
            try simp only [decide_eq_true_eq, decide_eq_false_iff_not, Bool.not_eq_true', Bool.not_eq_false', Bool.and_eq_true, Bool.or_eq_true, Int.not_lt, Int.not_le, ne_eq, Decidable.not_not] at hc37
            refine wp_exit ?_
            refine hK5 _ _ ?_
            refine wp_seq_k (fun K38 hK38 => ?_)
            refine wp_seq_k (fun K39 hK39 => ?_)
            refine wp_region_lit ?_
            refine l_q rfl rfl (q_fieldAddr (ft := 2) (o := 1) rfl (by kernel_rfl)) ?_
            refine l_q rfl rfl (q_load1 rfl (by kernel_rfl) (hS2.cell (i := 0) rfl rfl)) ?_
            refine l_q rfl rfl (q_eql rfl rfl) ?_
            refine l_q rfl rfl (q_moveB rfl) ?_
            refine g_splitL (t := 37) rfl (fun hg40 => ?_) (fun hg40 => ?_)
            ·
              have hg40b := hg40
              try simp only [decide_eq_true_eq, decide_eq_false_iff_not, Bool.not_eq_true', Bool.not_eq_false', Bool.and_eq_true, Bool.or_eq_true, Int.not_lt, Int.not_le, ne_eq, Decidable.not_not] at hg40
              refine l_on rfl rfl hg40b ?_
              refine l_q rfl rfl (q_fieldAddr (ft := 9) (o := 2) rfl (by kernel_rfl)) ?_
              refine l_on rfl rfl hg40b ?_
              refine l_q rfl rfl (q_load1 rfl (by kernel_rfl) (hS2.cell (i := 0) rfl rfl)) ?_
              refine l_on rfl rfl hg40b ?_
              refine l_q rfl rfl (q_lenStrB (l := a.2.2) rfl (by kernel_rfl)) ?_
              refine l_on rfl rfl hg40b ?_
              refine l_q rfl rfl (q_leq rfl rfl) ?_
              refine l_q rfl rfl (q_pickT rfl hg40b rfl) ?_
              refine l_q rfl rfl (q_assignB rfl) ?_
              refine l_nil ?_
              refine hK39 _ _ ?_
              refine wp_ret ?_
              refine c_ret1 rfl rfl ?_
              exact ⟨_, rfl, congrArg Value.bool (by unfold rightB; simp [*] <;> omega), hS2.drop⟩
            ·
              have hg40b := hg40
              try simp only [decide_eq_true_eq, decide_eq_false_iff_not, Bool.not_eq_true', Bool.not_eq_false', Bool.and_eq_true, Bool.or_eq_true, Int.not_lt, Int.not_le, ne_eq, Decidable.not_not] at hg40
              refine l_off rfl rfl rfl hg40b ?_
              refine l_off rfl rfl rfl hg40b ?_
              refine l_off rfl rfl rfl hg40b ?_
              refine l_off rfl rfl rfl hg40b ?_
              refine l_q rfl rfl (q_pickF rfl hg40b rfl) ?_
              refine l_q rfl rfl (q_assignB rfl) ?_
              refine l_nil ?_
              refine hK39 _ _ ?_
              refine wp_ret ?_
              refine c_ret1 rfl rfl ?_
              exact ⟨_, rfl, congrArg Value.bool (by unfold rightB; simp [*] <;> omega), hS2.drop⟩
          ·
            have hc37b := hc37
            try simp only [decide_eq_true_eq, decide_eq_false_iff_not, Bool.not_eq_true', Bool.not_eq_false', Bool.and_eq_true, Bool.or_eq_true, Int.not_lt, Int.not_le, ne_eq, Decidable.not_not] at hc37
            refine wp_skip ?_
            refine hK35 _ _ ?_
            refine wp_seq_k (fun K41 hK41 => ?_)
            refine wp_region_lit ?_
            refine l_q rfl rfl (q_eql rfl rfl) ?_
            refine l_q rfl rfl (q_assignB rfl) ?_
            refine l_nil ?_
            refine hK41 _ _ ?_
            refine c_cond rfl (fun hc42 => ?_) (fun hc42 => ?_)
            ·
              have hc42b := hc42
              try simp only [decide_eq_true_eq, decide_eq_false_iff_not, Bool.not_eq_true', Bool.not_eq_false', Bool.and_eq_true, Bool.or_eq_true, Int.not_lt, Int.not_le, ne_eq, Decidable.not_not] at hc42
              refine wp_exit ?_
              refine hK5 _ _ ?_
              refine wp_seq_k (fun K43 hK43 => ?_)
              refine wp_seq_k (fun K44 hK44 => ?_)
              refine wp_region_lit ?_
              refine l_q rfl rfl (q_fieldAddr (ft := 2) (o := 1) rfl (by kernel_rfl)) ?_
              refine l_q rfl rfl (q_load1 rfl (by kernel_rfl) (hS2.cell (i := 0) rfl rfl)) ?_
              refine l_q rfl rfl (q_eql rfl rfl) ?_
              refine l_q rfl rfl (q_moveB rfl) ?_
              refine g_splitL (t := 37) rfl (fun hg45 => ?_) (fun hg45 => ?_)
              ·
                have hg45b := hg45
                try simp only [decide_eq_true_eq, decide_eq_false_iff_not, Bool.not_eq_true', Bool.not_eq_false', Bool.and_eq_true, Bool.or_eq_true, Int.not_lt, Int.not_le, ne_eq, Decidable.not_not] at hg45
                refine l_on rfl rfl hg45b ?_
                refine l_q rfl rfl (q_fieldAddr (ft := 9) (o := 2) rfl (by kernel_rfl)) ?_
                refine l_on rfl rfl hg45b ?_
                refine l_q rfl rfl (q_load1 rfl (by kernel_rfl) (hS2.cell (i := 0) rfl rfl)) ?_
                refine l_on rfl rfl hg45b ?_
                refine l_q rfl rfl (q_lenStrB (l := a.2.2) rfl (by kernel_rfl)) ?_
                refine l_on rfl rfl hg45b ?_
                refine l_q rfl rfl (q_leq rfl rfl) ?_
                refine l_q rfl rfl (q_pickT rfl hg45b rfl) ?_
                refine l_q rfl rfl (q_assignB rfl) ?_
                refine l_nil ?_
                refine hK44 _ _ ?_
                refine wp_ret ?_
                refine c_ret1 rfl rfl ?_
                exact ⟨_, rfl, congrArg Value.bool (by unfold rightB; simp [*] <;> omega), hS2.drop⟩
              ·
                have hg45b := hg45
                try simp only [decide_eq_true_eq, decide_eq_false_iff_not, Bool.not_eq_true', Bool.not_eq_false', Bool.and_eq_true, Bool.or_eq_true, Int.not_lt, Int.not_le, ne_eq, Decidable.not_not] at hg45
                refine l_off rfl rfl rfl hg45b ?_
                refine l_off rfl rfl rfl hg45b ?_
                refine l_off rfl rfl rfl hg45b ?_
                refine l_off rfl rfl rfl hg45b ?_
                refine l_q rfl rfl (q_pickF rfl hg45b rfl) ?_
                refine l_q rfl rfl (q_assignB rfl) ?_
                refine l_nil ?_
                refine hK44 _ _ ?_
                refine wp_ret ?_
                refine c_ret1 rfl rfl ?_
                exact ⟨_, rfl, congrArg Value.bool (by unfold rightB; simp [*] <;> omega), hS2.drop⟩
            ·
              have hc42b := hc42
              try simp only [decide_eq_true_eq, decide_eq_false_iff_not, Bool.not_eq_true', Bool.not_eq_false', Bool.and_eq_true, Bool.or_eq_true, Int.not_lt, Int.not_le, ne_eq, Decidable.not_not] at hc42
              refine wp_skip ?_
              refine hK9 _ _ ?_
              refine wp_exit ?_
              refine hK3 _ _ ?_
              refine wp_seq_k (fun K46 hK46 => ?_)
              refine wp_region_lit ?_
              refine l_q rfl rfl (q_assignB rfl) ?_
              refine l_nil ?_
              refine hK46 _ _ ?_
              refine wp_ret ?_
              refine c_ret1 rfl rfl ?_
              exact ⟨_, rfl, congrArg Value.bool (by unfold rightB; simp [*] <;> omega), hS2.drop⟩

set_option maxRecDepth 100000 in
theorem rright_ok (a : Vl) (hB : Bytes a.2.2) (w : World) : Calls Tryz.prog 28 #[.agg (vl a).toArray] w (PostR w fun v => v = .bool (rightB a)) := by
  have hS := St.start w
  refine c_enter Tryz.func28 rfl rfl rfl ?_
  refine wp_seq_k (fun K1 hK1 => ?_)
  refine wp_region_lit ?_
  refine l_e rfl (fun K hK => ?_)
  refine e_boxA hS rfl (fun b2 w2 (hS2 : St _ _ [.blk b2 (.cells #[.int .i64 a.1, .int .i64 a.2.1, .string (bs a.2.2)] 59)] _) => ?_)
  clear hS
  refine hK _ _ ?_; clear hK K
  refine l_q rfl rfl (q_assignB rfl) ?_
  refine l_nil ?_
  refine hK1 _ _ ?_
  refine wp_seq_k (fun K3 hK3 => ?_)
  refine wp_seq_k (fun K4 hK4 => ?_)
  refine wp_region_lit ?_
  refine l_q rfl rfl (q_fieldAddr (ft := 45) (o := 0) rfl (by kernel_rfl)) ?_
  refine l_q rfl rfl (q_load1 rfl (by kernel_rfl) (hS2.cell (i := 0) rfl rfl)) ?_
  refine l_nil ?_
  refine hK4 _ _ ?_
  refine wp_block ?_
  refine wp_seq_k (fun K5 hK5 => ?_)
  refine wp_region_lit ?_
  refine l_q rfl rfl (q_eql rfl rfl) ?_
  refine l_q rfl rfl (q_assignB rfl) ?_
  refine l_nil ?_
  refine hK5 _ _ ?_
  refine c_cond rfl (fun hc6 => ?_) (fun hc6 => ?_)
  ·
    have hc6b := hc6
    try simp only [decide_eq_true_eq, decide_eq_false_iff_not, Bool.not_eq_true', Bool.not_eq_false', Bool.and_eq_true, Bool.or_eq_true, Int.not_lt, Int.not_le, ne_eq, Decidable.not_not] at hc6
    refine wp_seq_k (fun K7 hK7 => ?_)
    refine wp_region_lit ?_
    refine l_q rfl rfl (q_fieldAddr (ft := 2) (o := 1) rfl (by kernel_rfl)) ?_
    refine l_q rfl rfl (q_load1 rfl (by kernel_rfl) (hS2.cell (i := 0) rfl rfl)) ?_
    refine l_q rfl rfl (q_eql rfl rfl) ?_
    refine l_q rfl rfl (q_moveB rfl) ?_
    refine g_splitL (t := 10) rfl (fun hg8 => ?_) (fun hg8 => ?_)
    ·
      have hg8b := hg8
      try simp only [decide_eq_true_eq, decide_eq_false_iff_not, Bool.not_eq_true', Bool.not_eq_false', Bool.and_eq_true, Bool.or_eq_true, Int.not_lt, Int.not_le, ne_eq, Decidable.not_not] at hg8
      refine l_on rfl rfl hg8b ?_
      refine l_q rfl rfl (q_fieldAddr (ft := 9) (o := 2) rfl (by kernel_rfl)) ?_
      refine l_on rfl rfl hg8b ?_
      refine l_q rfl rfl (q_load1 rfl (by kernel_rfl) (hS2.cell (i := 0) rfl rfl)) ?_
      refine l_on rfl rfl hg8b ?_
      refine l_q rfl rfl (q_str_eql (l := a.2.2) (m := []) rfl rfl hB Bytes.nil) ?_
      refine l_q rfl rfl (q_pickT rfl hg8b rfl) ?_
      refine l_q rfl rfl (q_assignB rfl) ?_
      refine l_nil ?_
      refine hK7 _ _ ?_
      refine wp_ret ?_
      refine c_ret1 rfl rfl ?_
      exact ⟨_, rfl, congrArg Value.bool (by unfold rightB; simp [*] <;> omega), hS2.drop⟩
    ·
      have hg8b := hg8
      try simp only [decide_eq_true_eq, decide_eq_false_iff_not, Bool.not_eq_true', Bool.not_eq_false', Bool.and_eq_true, Bool.or_eq_true, Int.not_lt, Int.not_le, ne_eq, Decidable.not_not] at hg8
      refine l_off rfl rfl rfl hg8b ?_
      refine l_off rfl rfl rfl hg8b ?_
      refine l_off rfl rfl rfl hg8b ?_
      refine l_q rfl rfl (q_pickF rfl hg8b rfl) ?_
      refine l_q rfl rfl (q_assignB rfl) ?_
      refine l_nil ?_
      refine hK7 _ _ ?_
      refine wp_ret ?_
      refine c_ret1 rfl rfl ?_
      exact ⟨_, rfl, congrArg Value.bool (by unfold rightB; simp [*] <;> omega), hS2.drop⟩
  ·
    have hc6b := hc6
    try simp only [decide_eq_true_eq, decide_eq_false_iff_not, Bool.not_eq_true', Bool.not_eq_false', Bool.and_eq_true, Bool.or_eq_true, Int.not_lt, Int.not_le, ne_eq, Decidable.not_not] at hc6
    refine wp_seq_k (fun K9 hK9 => ?_)
    refine wp_region_lit ?_
    refine l_q rfl rfl (q_eql rfl rfl) ?_
    refine l_q rfl rfl (q_assignB rfl) ?_
    refine l_nil ?_
    refine hK9 _ _ ?_
    refine c_cond rfl (fun hc10 => ?_) (fun hc10 => ?_)
    ·
      have hc10b := hc10
      try simp only [decide_eq_true_eq, decide_eq_false_iff_not, Bool.not_eq_true', Bool.not_eq_false', Bool.and_eq_true, Bool.or_eq_true, Int.not_lt, Int.not_le, ne_eq, Decidable.not_not] at hc10
      refine wp_seq_k (fun K11 hK11 => ?_)
      refine wp_region_lit ?_
      refine l_q rfl rfl (q_fieldAddr (ft := 2) (o := 1) rfl (by kernel_rfl)) ?_
      refine l_q rfl rfl (q_load1 rfl (by kernel_rfl) (hS2.cell (i := 0) rfl rfl)) ?_
      refine l_q rfl rfl (q_eql rfl rfl) ?_
      refine l_q rfl rfl (q_moveB rfl) ?_
      refine g_splitL (t := 20) rfl (fun hg12 => ?_) (fun hg12 => ?_)
      ·
        have hg12b := hg12
        try simp only [decide_eq_true_eq, decide_eq_false_iff_not, Bool.not_eq_true', Bool.not_eq_false', Bool.and_eq_true, Bool.or_eq_true, Int.not_lt, Int.not_le, ne_eq, Decidable.not_not] at hg12
        refine l_off rfl rfl rfl hg12b ?_
        refine l_off rfl rfl rfl hg12b ?_
        refine l_off rfl rfl rfl hg12b ?_
        refine l_q rfl rfl (q_pickT rfl hg12b rfl) ?_
        refine l_q rfl rfl (q_moveB rfl) ?_
        refine l_on rfl rfl rfl ?_
        refine l_q rfl rfl (q_fieldAddr (ft := 9) (o := 2) rfl (by kernel_rfl)) ?_
        refine l_on rfl rfl rfl ?_
        refine l_q rfl rfl (q_load1 rfl (by kernel_rfl) (hS2.cell (i := 0) rfl rfl)) ?_
        refine l_on rfl rfl rfl ?_
        refine l_q rfl rfl (q_str_eql (l := a.2.2) (m := []) rfl rfl hB Bytes.nil) ?_
        refine l_q rfl rfl (q_pickT rfl rfl rfl) ?_
        refine l_q rfl rfl (q_assignB rfl) ?_
        refine l_nil ?_
        refine hK11 _ _ ?_
        refine wp_ret ?_
        refine c_ret1 rfl rfl ?_
        exact ⟨_, rfl, congrArg Value.bool (by unfold rightB; simp [*] <;> omega), hS2.drop⟩
      ·
        have hg12b := hg12
        try simp only [decide_eq_true_eq, decide_eq_false_iff_not, Bool.not_eq_true', Bool.not_eq_false', Bool.and_eq_true, Bool.or_eq_true, Int.not_lt, Int.not_le, ne_eq, Decidable.not_not] at hg12
        refine l_on rfl rfl hg12b ?_
        refine l_q rfl rfl (q_fieldAddr (ft := 2) (o := 1) rfl (by kernel_rfl)) ?_
        refine l_on rfl rfl hg12b ?_
        refine l_q rfl rfl (q_load1 rfl (by kernel_rfl) (hS2.cell (i := 0) rfl rfl)) ?_
        refine l_on rfl rfl hg12b ?_
        refine l_q rfl rfl (q_eql rfl rfl) ?_
        refine l_q rfl rfl (q_pickF rfl hg12b rfl) ?_
        refine l_q rfl rfl (q_moveB rfl) ?_
        refine g_splitL (t := 25) rfl (fun hg13 => ?_) (fun hg13 => ?_)
        ·
          have hg13b := hg13
          try simp only [decide_eq_true_eq, decide_eq_false_iff_not, Bool.not_eq_true', Bool.not_eq_false', Bool.and_eq_true, Bool.or_eq_true, Int.not_lt, Int.not_le, ne_eq, Decidable.not_not] at hg13
          refine l_on rfl rfl hg13b ?_
          refine l_q rfl rfl (q_fieldAddr (ft := 9) (o := 2) rfl (by kernel_rfl)) ?_
          refine l_on rfl rfl hg13b ?_
          refine l_q rfl rfl (q_load1 rfl (by kernel_rfl) (hS2.cell (i := 0) rfl rfl)) ?_
          refine l_on rfl rfl hg13b ?_
          refine l_q rfl rfl (q_str_eql (l := a.2.2) (m := []) rfl rfl hB Bytes.nil) ?_
          refine l_q rfl rfl (q_pickT rfl hg13b rfl) ?_
          refine l_q rfl rfl (q_assignB rfl) ?_
          refine l_nil ?_
          refine hK11 _ _ ?_
          refine wp_ret ?_
          refine c_ret1 rfl rfl ?_
          exact ⟨_, rfl, congrArg Value.bool (by unfold rightB; simp [*] <;> omega), hS2.drop⟩
        ·
          have hg13b := hg13
          try simp only [decide_eq_true_eq, decide_eq_false_iff_not, Bool.not_eq_true', Bool.not_eq_false', Bool.and_eq_true, Bool.or_eq_true, Int.not_lt, Int.not_le, ne_eq, Decidable.not_not] at hg13
          refine l_off rfl rfl rfl hg13b ?_
          refine l_off rfl rfl rfl hg13b ?_
          refine l_off rfl rfl rfl hg13b ?_
          refine l_q rfl rfl (q_pickF rfl hg13b rfl) ?_
          refine l_q rfl rfl (q_assignB rfl) ?_
          refine l_nil ?_
          refine hK11 _ _ ?_
          refine wp_ret ?_
          refine c_ret1 rfl rfl ?_
          exact ⟨_, rfl, congrArg Value.bool (by unfold rightB; simp [*] <;> omega), hS2.drop⟩
    ·
      have hc10b := hc10
      try simp only [decide_eq_true_eq, decide_eq_false_iff_not, Bool.not_eq_true', Bool.not_eq_false', Bool.and_eq_true, Bool.or_eq_true, Int.not_lt, Int.not_le, ne_eq, Decidable.not_not] at hc10
      refine wp_seq_k (fun K14 hK14 => ?_)
      refine wp_seq_k (fun K15 hK15 => ?_)
      refine wp_region_lit ?_
      refine l_q rfl rfl (q_eql rfl rfl) ?_
      refine l_q rfl rfl (q_assignB rfl) ?_
      refine l_nil ?_
      refine hK15 _ _ ?_
      refine c_cond rfl (fun hc16 => ?_) (fun hc16 => ?_)
      ·
        have hc16b := hc16
        try simp only [decide_eq_true_eq, decide_eq_false_iff_not, Bool.not_eq_true', Bool.not_eq_false', Bool.and_eq_true, Bool.or_eq_true, Int.not_lt, Int.not_le, ne_eq, Decidable.not_not] at hc16
        refine wp_skip ?_
        refine hK14 _ _ ?_
        refine c_condT rfl hc16b ?_
        refine wp_seq_k (fun K18 hK18 => ?_)
        refine wp_region_lit ?_
        refine l_q rfl rfl (q_fieldAddr (ft := 9) (o := 2) rfl (by kernel_rfl)) ?_
        refine l_q rfl rfl (q_load1 rfl (by kernel_rfl) (hS2.cell (i := 0) rfl rfl)) ?_
        refine l_q rfl rfl (q_str_eql (l := a.2.2) (m := []) rfl rfl hB Bytes.nil) ?_
        refine l_q rfl rfl (q_assignB rfl) ?_
        refine l_nil ?_
        refine hK18 _ _ ?_
        refine wp_ret ?_
        refine c_ret1 rfl rfl ?_
        exact ⟨_, rfl, congrArg Value.bool (by unfold rightB; simp [*] <;> omega), hS2.drop⟩
      ·
        have hc16b := hc16
        try simp only [decide_eq_true_eq, decide_eq_false_iff_not, Bool.not_eq_true', Bool.not_eq_false', Bool.and_eq_true, Bool.or_eq_true, Int.not_lt, Int.not_le, ne_eq, Decidable.not_not] at hc16
        refine wp_region_lit ?_
        refine l_q rfl rfl (q_eql rfl rfl) ?_
        refine l_q rfl rfl (q_assignB rfl) ?_
        refine l_nil ?_
        refine hK14 _ _ ?_
        refine c_cond rfl (fun hc19 => ?_) (fun hc19 => ?_)
        ·
          have hc19b := hc19
          try simp only [decide_eq_true_eq, decide_eq_false_iff_not, Bool.not_eq_true', Bool.not_eq_false', Bool.and_eq_true, Bool.or_eq_true, Int.not_lt, Int.not_le, ne_eq, Decidable.not_not] at hc19
          refine wp_seq_k (fun K20 hK20 => ?_)
          refine wp_region_lit ?_
          refine l_q rfl rfl (q_fieldAddr (ft := 9) (o := 2) rfl (by kernel_rfl)) ?_
          refine l_q rfl rfl (q_load1 rfl (by kernel_rfl) (hS2.cell (i := 0) rfl rfl)) ?_
          refine l_q rfl rfl (q_str_eql (l := a.2.2) (m := []) rfl rfl hB Bytes.nil) ?_
          refine l_q rfl rfl (q_assignB rfl) ?_
          refine l_nil ?_
          refine hK20 _ _ ?_
          refine wp_ret ?_
          refine c_ret1 rfl rfl ?_
          exact ⟨_, rfl, congrArg Value.bool (by unfold rightB; simp [*] <;> omega), hS2.drop⟩
        ·
          have hc19b := hc19
          try simp only [decide_eq_true_eq, decide_eq_false_iff_not, Bool.not_eq_true', Bool.not_eq_false', Bool.and_eq_true, Bool.or_eq_true, Int.not_lt, Int.not_le, ne_eq, Decidable.not_not] at hc19
          refine wp_seq_k (fun K21 hK21 => ?_)
          refine wp_seq_k (fun K22 hK22 => ?_)
          refine wp_region_lit ?_
          refine l_q rfl rfl (q_eql rfl rfl) ?_
          refine l_q rfl rfl (q_assignB rfl) ?_
          refine l_nil ?_
          refine hK22 _ _ ?_
          refine c_cond rfl (fun hc23 => ?_) (fun hc23 => ?_)
          ·
            have hc23b := hc23
            try simp only [decide_eq_true_eq, decide_eq_false_iff_not, Bool.not_eq_true', Bool.not_eq_false', Bool.and_eq_true, Bool.or_eq_true, Int.not_lt, Int.not_le, ne_eq, Decidable.not_not] at hc23
            refine wp_skip ?_
            refine hK21 _ _ ?_
            refine c_condT rfl hc23b ?_
            refine wp_seq_k (fun K25 hK25 => ?_)
            refine wp_region_lit ?_
            refine l_q rfl rfl (q_fieldAddr (ft := 2) (o := 1) rfl (by kernel_rfl)) ?_
            refine l_q rfl rfl (q_load1 rfl (by kernel_rfl) (hS2.cell (i := 0) rfl rfl)) ?_
            refine l_q rfl rfl (q_eql rfl rfl) ?_
            refine l_q rfl rfl (q_moveB rfl) ?_
            refine g_splitL (t := 42) rfl (fun hg26 => ?_) (fun hg26 => ?_)
            ·
              have hg26b := hg26
              try simp only [decide_eq_true_eq, decide_eq_false_iff_not, Bool.not_eq_true', Bool.not_eq_false', Bool.and_eq_true, Bool.or_eq_true, Int.not_lt, Int.not_le, ne_eq, Decidable.not_not] at hg26
              refine l_on rfl rfl hg26b ?_
              refine l_q rfl rfl (q_fieldAddr (ft := 9) (o := 2) rfl (by kernel_rfl)) ?_
              refine l_on rfl rfl hg26b ?_
              refine l_q rfl rfl (q_load1 rfl (by kernel_rfl) (hS2.cell (i := 0) rfl rfl)) ?_
              refine l_on rfl rfl hg26b ?_
              refine l_q rfl rfl (q_lenStrB (l := a.2.2) rfl (by kernel_rfl)) ?_
              refine l_on rfl rfl hg26b ?_
              refine l_q rfl rfl (q_leq rfl rfl) ?_
              refine l_q rfl rfl (q_pickT rfl hg26b rfl) ?_
              refine l_q rfl rfl (q_assignB rfl) ?_
              refine l_nil ?_
              refine hK25 _ _ ?_
              refine wp_ret ?_
              refine c_ret1 rfl rfl ?_
              exact ⟨_, rfl, congrArg Value.bool (by unfold rightB; simp [*] <;> omega), hS2.drop⟩
            ·
              have hg26b := hg26
              try simp only [decide_eq_true_eq, decide_eq_false_iff_not, Bool.not_eq_true', Bool.not_eq_false', Bool.and_eq_true, Bool.or_eq_true, Int.not_lt, Int.not_le, ne_eq, Decidable.not_not] at hg26
              refine l_off rfl rfl rfl hg26b ?_
              refine l_off rfl rfl rfl hg26b ?_
              refine l_off rfl rfl rfl hg26b ?_
              refine l_off rfl rfl rfl hg26b ?_
              refine l_q rfl rfl (q_pickF rfl hg26b rfl) ?_
              refine l_q rfl rfl (q_assignB rfl) ?_
              refine l_nil ?_
              refine hK25 _ _ ?_
              refine wp_ret ?_
              refine c_ret1 rfl rfl ?_
              exact ⟨_, rfl, congrArg Value.bool (by unfold rightB; simp [*] <;> omega), hS2.drop⟩
          ·
            have hc23b := hc23
            try simp only [decide_eq_true_eq, decide_eq_false_iff_not, Bool.not_eq_true', Bool.not_eq_false', Bool.and_eq_true, Bool.or_eq_true, Int.not_lt, Int.not_le, ne_eq, Decidable.not_not] at hc23
            refine wp_region_lit ?_
            refine l_q rfl rfl (q_eql rfl rfl) ?_
            refine l_q rfl rfl (q_assignB rfl) ?_
            refine l_nil ?_
            refine hK21 _ _ ?_
            refine c_cond rfl (fun hc27 => ?_) (fun hc27 => ?_)
            ·
              have hc27b := hc27
              try simp only [decide_eq_true_eq, decide_eq_false_iff_not, Bool.not_eq_true', Bool.not_eq_false', Bool.and_eq_true, Bool.or_eq_true, Int.not_lt, Int.not_le, ne_eq, Decidable.not_not] at hc27
              refine wp_seq_k (fun K28 hK28 => ?_)
              refine wp_region_lit ?_
              refine l_q rfl rfl (q_fieldAddr (ft := 2) (o := 1) rfl (by kernel_rfl)) ?_
              refine l_q rfl rfl (q_load1 rfl (by kernel_rfl) (hS2.cell (i := 0) rfl rfl)) ?_
              refine l_q rfl rfl (q_eql rfl rfl) ?_
              refine l_q rfl rfl (q_moveB rfl) ?_
              refine g_splitL (t := 42) rfl (fun hg29 => ?_) (fun hg29 => ?_)
              ·
                have hg29b := hg29
                try simp only [decide_eq_true_eq, decide_eq_false_iff_not, Bool.not_eq_true', Bool.not_eq_false', Bool.and_eq_true, Bool.or_eq_true, Int.not_lt, Int.not_le, ne_eq, Decidable.not_not] at hg29
                refine l_on rfl rfl hg29b ?_
                refine l_q rfl rfl (q_fieldAddr (ft := 9) (o := 2) rfl (by kernel_rfl)) ?_
                refine l_on rfl rfl hg29b ?_
                refine l_q rfl rfl (q_load1 rfl (by kernel_rfl) (hS2.cell (i := 0) rfl rfl)) ?_
                refine l_on rfl rfl hg29b ?_
                refine l_q rfl rfl (q_lenStrB (l := a.2.2) rfl (by kernel_rfl)) ?_
                refine l_on rfl rfl hg29b ?_
                refine l_q rfl rfl (q_leq rfl rfl) ?_
                refine l_q rfl rfl (q_pickT rfl hg29b rfl) ?_
                refine l_q rfl rfl (q_assignB rfl) ?_
                refine l_nil ?_
                refine hK28 _ _ ?_
                refine wp_ret ?_
                refine c_ret1 rfl rfl ?_
                exact ⟨_, rfl, congrArg Value.bool (by unfold rightB; simp [*] <;> omega), hS2.drop⟩
              ·
                have hg29b := hg29
                try simp only [decide_eq_true_eq, decide_eq_false_iff_not, Bool.not_eq_true', Bool.not_eq_false', Bool.and_eq_true, Bool.or_eq_true, Int.not_lt, Int.not_le, ne_eq, Decidable.not_not] at hg29
                refine l_off rfl rfl rfl hg29b ?_
                refine l_off rfl rfl rfl hg29b ?_
                refine l_off rfl rfl rfl hg29b ?_
                refine l_off rfl rfl rfl hg29b ?_
                refine l_q rfl rfl (q_pickF rfl hg29b rfl) ?_
                refine l_q rfl rfl (q_assignB rfl) ?_
                refine l_nil ?_
                refine hK28 _ _ ?_
                refine wp_ret ?_
                refine c_ret1 rfl rfl ?_
                exact ⟨_, rfl, congrArg Value.bool (by unfold rightB; simp [*] <;> omega), hS2.drop⟩
            ·
              have hc27b := hc27
              try simp only [decide_eq_true_eq, decide_eq_false_iff_not, Bool.not_eq_true', Bool.not_eq_false', Bool.and_eq_true, Bool.or_eq_true, Int.not_lt, Int.not_le, ne_eq, Decidable.not_not] at hc27
              refine wp_skip ?_
              refine hK3 _ _ ?_
              refine wp_seq_k (fun K30 hK30 => ?_)
              refine wp_region_lit ?_
              refine l_q rfl rfl (q_assignB rfl) ?_
              refine l_nil ?_
              refine hK30 _ _ ?_
              refine wp_ret ?_
              refine c_ret1 rfl rfl ?_
              exact ⟨_, rfl, congrArg Value.bool (by unfold rightB; simp [*] <;> omega), hS2.drop⟩

end Go.Proofs.YtmemgpcgjephmaaGreatDoor
