/- Package wal: a log in memory, its reading functions. -/
import Derived.Test.YtmbbkliekgiolaaV2
set_option linter.unusedVariables false
set_option linter.unusedSimpArgs false
namespace Go.Proofs.Ytmbbkliekgiolaa
open Go.RowKit
/-- A record in memory. -/
structure Rc where
  n : Nat
  ad : Option Addr
  cap : Nat
  b : List Nat
def rc (r : Rc) : List Value := [.int .i64 ((r.n : Nat) : Int), .slice r.ad r.b.length r.cap]
theorem rc_ones : ∀ r : Rc, AllOne (rc r) := fun r => ⟨rfl, rfl, trivial⟩
def Rc.abs (r : Rc) : Nat × List Nat := (r.n, r.b)
/-- The records' bytes are there; numbers and bytes are no more than these. -/
def RsOk (g : Gh) (rs : List Rc) : Prop := ∀ r ∈ rs, SlG g r.ad (bv r.b) ∧ Bytes r.b ∧ r.b.length ≤ 4096 ∧ r.n ≤ 2000000000 ∧ 1 ≤ r.b.length
theorem RsOk.mono {g h : Gh} {rs : List Rc} (hr : RsOk g rs) (hg : Gle g h) : RsOk h rs := fun r hm => ⟨(hr r hm).1.mono hg, (hr r hm).2⟩
theorem RsOk.nil {g : Gh} : RsOk g [] := fun r h => by cases h
theorem RsOk.app {g : Gh} {rs rs' : List Rc} (h : RsOk g rs) (h' : RsOk g rs') : RsOk g (rs ++ rs') := fun r hm => (List.mem_append.1 hm).elim (h r) (h' r)
theorem RsOk.one {g : Gh} {r : Rc} (h : SlG g r.ad (bv r.b) ∧ Bytes r.b ∧ r.b.length ≤ 4096 ∧ r.n ≤ 2000000000 ∧ 1 ≤ r.b.length) : RsOk g [r] := fun x hm => by
  rw [List.mem_singleton] at hm; subst hm; exact h
theorem RsOk.drop {g : Gh} {rs : List Rc} (h : RsOk g rs) {k : Nat} : RsOk g (rs.drop k) := fun r hm => h r (List.mem_of_mem_drop hm)
abbrev wO (kd : Nat) (ad : Option Addr) (m cap : Nat) : Obj := .cells #[.pointer (some ⟨kd, 0, none⟩), .slice ad m cap] 123
def wk (k kd : Nat) (ad : Option Addr) (cap : Nat) (rs : List Rc) : Ch := .pk [.blk k (wO kd ad rs.length cap), .ow 125 2 ad rs.length cap (List.flatMap rc rs)]
section
variable {w0 w : World} {D : Nat → Prop} {Γ : List Ch} {k kd cap : Nat} {ad : Option Addr} {rs : List Rc}
theorem wk_open (h : St w0 D (wk k kd ad cap rs :: Γ) w) : St w0 D (.blk k (wO kd ad rs.length cap) :: .ow 125 2 ad rs.length cap (List.flatMap rc rs) :: Γ) w := h.unpk
theorem wk_close (h : St w0 D (.blk k (wO kd ad rs.length cap) :: .ow 125 2 ad rs.length cap (List.flatMap rc rs) :: Γ) w) : St w0 D (wk k kd ad cap rs :: Γ) w := h.pk
end
/-- The place of a record; -1: there is none. -/
def fIdx (rs : List Rc) (z : Int) : Int := match rs.findIdx? (fun r => decide (((r.n : Nat) : Int) = z)) with | some i => (i : Int) | none => -1
theorem fIdx_at {rs : List Rc} {z : Int} {i : Nat} {r : Rc} (hr : rs[i]? = some r) (hz : ((r.n : Nat) : Int) = z) (hb : ∀ j, j < i → ∀ q, rs[j]? = some q → ((q.n : Nat) : Int) ≠ z) : fIdx rs z = (i : Int) := by
  obtain ⟨hi, hri⟩ := List.getElem?_eq_some_iff.1 hr
  have : rs.findIdx? (fun r => decide (((r.n : Nat) : Int) = z)) = some i := by
    rw [List.findIdx?_eq_some_iff_getElem]
    refine ⟨hi, by rw [hri]; exact decide_eq_true hz, fun j hj => ?_⟩
    rw [Bool.not_eq_true, decide_eq_false_iff_not]
    exact hb j hj _ (List.getElem?_eq_getElem (by omega))
  unfold fIdx; rw [this]
theorem fIdx_no {rs : List Rc} {z : Int} (hb : ∀ j, j < rs.length → ∀ q, rs[j]? = some q → ((q.n : Nat) : Int) ≠ z) : fIdx rs z = -1 := by
  have : rs.findIdx? (fun r => decide (((r.n : Nat) : Int) = z)) = none := by
    rw [List.findIdx?_eq_none_iff]
    intro r hr
    obtain ⟨j, hj, rfl⟩ := List.getElem_of_mem hr
    exact decide_eq_false (hb j hj _ (List.getElem?_eq_getElem hj))
  unfold fIdx; rw [this]
theorem fIdx_lt {rs : List Rc} {z : Int} : -1 ≤ fIdx rs z ∧ fIdx rs z < rs.length := by
  unfold fIdx
  split
  · rename_i i h
    have := (List.findIdx?_eq_some_iff_getElem.1 h).1
    omega
  · omega
attribute [local irreducible] fIdx
attribute [local irreducible] Oper.wp Sem.run Code.wp wpList wpAnyO callFunc execOp Calls

set_option maxRecDepth 100000 in
theorem fc_ok (n m cap kn : Nat) (ad : Option Addr) (z : Int) (w : World) (hk : w.heap[kn]? = some (.cells #[.int .i64 z] 3)) : Calls Try.prog 95 #[.agg #[.int .i64 ((n : Nat) : Int), .slice ad m cap], .pointer (some ⟨kn, 0, none⟩)] w (PostR w fun v => v = .bool (decide (((n : Nat) : Int) = z))) := by
  have hS := St.start w
  refine c_enter Try.func95 rfl rfl rfl ?_
  refine wp_seq_k (fun K1 hK1 => ?_)
  refine wp_region_lit ?_
  refine l_e rfl (fun K hK => ?_)
  refine e_boxA hS rfl (fun b2 w2 (hS2 : St _ _ [.blk b2 (.cells #[.int .i64 ((n : Nat) : Int), .slice ad m cap] 125)] _) => ?_)
  clear hS
  refine hK _ _ ?_; clear hK K
  refine l_q rfl rfl (q_assignB rfl) ?_
  refine l_nil ?_
  refine hK1 _ _ ?_
  refine wp_seq_k (fun K3 hK3 => ?_)
  refine wp_region_lit ?_
  refine l_q rfl rfl (q_fieldAddr (ft := 3) (o := 0) rfl (by kernel_rfl)) ?_
  refine l_q rfl rfl (q_load1 rfl (by kernel_rfl) (hS2.cell (i := 0) rfl rfl)) ?_
  refine l_q rfl rfl (q_load1 rfl (by kernel_rfl) (cell_blk (hS2.base _ _ hk) rfl)) ?_
  refine l_q rfl rfl (q_eql rfl rfl) ?_
  refine l_q rfl rfl (q_assignB rfl) ?_
  refine l_nil ?_
  refine hK3 _ _ ?_
  refine wp_ret ?_
  refine c_ret1 rfl rfl ?_
  exact ⟨_, rfl, rfl, hS2.drop⟩

set_option maxRecDepth 100000 in
theorem idx_ok (rs : List Rc) (m : Nat) (hm : rs.length = m) (hn : m ≤ 2000000000) (ad : Option Addr) (cap kn : Nat) (z : Int) (w : World) (hG : SlG (hw w) ad (List.flatMap rc rs)) (hk : w.heap[kn]? = some (.cells #[.int .i64 z] 3)) : Calls Try.prog 94 #[.slice ad m cap, .func (.func 95) #[] #[.pointer (some ⟨kn, 0, none⟩)]] w (PostR w fun v => v = .int .i64 (fIdx rs z)) := by
  have hS := St.start w
  subst hm
  refine c_enter Try.func94 rfl rfl rfl ?_
  refine wp_seq_k (fun K1 hK1 => ?_)
  refine wp_region_lit ?_
  refine l_q rfl rfl (q_assignI rfl) ?_
  refine l_nil ?_
  refine hK1 _ _ ?_
  refine wp_seq_k (fun K2 hK2 => ?_)
  refine wp_seq_k (fun K3 hK3 => ?_)
  refine wp_region_lit ?_
  refine l_q rfl rfl (q_moveS rfl) ?_
  refine l_q rfl rfl (q_lenSl (e := 125) rfl (by kernel_rfl)) ?_
  refine l_q rfl rfl (q_moveI rfl) ?_
  refine l_nil ?_
  refine hK3 _ _ ?_
  refine wp_block ?_
  refine c_loop (τ := Nat) [(4, 5), (8, 18)] (fun x => (fun (i : Nat) => [(8, .int .i64 ((i : Nat) : Int))]) x) (fun x w' => (fun (i : Nat) => St w (fun _ => False) [] w' ∧ i ≤ rs.length ∧ ∀ j, j < i → ∀ q, rs[j]? = some q → ((q.n : Nat) : Int) ≠ z) x) (fun x => (fun (i : Nat) => rs.length - i) x) (0) ?_ (by repeat' (first | exact trivial | refine ⟨by first | rfl | exact int_succ _ | assumption, ?_⟩)) (fun i j4 w4 hJ4 K4 hK4 => ?_)
  ·
    exact ⟨hS, Nat.zero_le _, fun j hj => by omega⟩
  ·
    obtain ⟨hS4, hi, hj⟩ := hJ4
    dsimp only at hS4 hi hj ⊢
    refine wp_seq_k (fun K5 hK5 => ?_)
    refine wp_region_lit ?_
    refine l_q rfl rfl (q_lss rfl rfl) ?_
    refine l_nil ?_
    refine hK5 _ _ ?_
    refine wp_seq_k (fun K6 hK6 => ?_)
    refine c_cond rfl (fun hc7 => ?_) (fun hc7 => ?_)
    ·
      have hc7b := hc7
      try simp only [decide_eq_true_eq, decide_eq_false_iff_not, Bool.not_eq_true', Bool.not_eq_false', Bool.and_eq_true, Bool.or_eq_true, Int.not_lt, Int.not_le, ne_eq, Decidable.not_not] at hc7
      refine wp_skip ?_
      refine hK6 _ _ ?_
      refine wp_seq_k (fun K8 hK8 => ?_)
      refine wp_block ?_
      refine wp_seq_k (fun K9 hK9 => ?_)
      refine wp_region_lit ?_
      refine l_q rfl rfl (q_moveI rfl) ?_
      refine l_q rfl rfl (q_assignI rfl) ?_
      refine l_nil ?_
      refine hK9 _ _ ?_
      refine wp_seq_k (fun K10 hK10 => ?_)
      refine wp_region_lit ?_
      refine l_q rfl rfl (q_move rfl) ?_
      refine l_q rfl rfl (q_moveS rfl) ?_
      refine l_q rfl rfl (q_moveI rfl) ?_
      refine l_q rfl rfl (q_ixG (e := 125) (m := 2) (j := i) rfl rfl (by kernel_rfl) (by kernel_rfl) (by first | rfl | omega) (by omega) hG (by rw [rows_len (c := rc) (m := 2) (fun _ => rfl)]; first | omega | (simp only [List.length_append, List.length_map, List.length_cons, List.length_nil, List.length_take, List.length_drop, List.length_set] <;> omega))) ?_
      obtain ⟨x11, hx11⟩ : ∃ x, (rs)[i]? = some x := ⟨_, List.getElem?_eq_getElem (by first | omega | (simp; omega))⟩
      refine l_q rfl rfl (q_loadGA (m := 2) rfl (by kernel_rfl) (by kernel_rfl) (hG.mono hS4.base) (row_take hx11 (fun _ => rfl)) rfl (by decide)) ?_
      refine l_e rfl (fun K hK => ?_)
      refine e_callV (by kernel_rfl) rfl (fc_ok _ _ _ kn _ z _ (hS4.base _ _ hk)) rfl (after_R hS4 (fun v12 w12 hv12 hS12 => ?_))
      clear hS4
      obtain rfl := hv12
      refine hK _ _ ?_; clear hK K
      refine l_nil ?_
      refine hK10 _ _ ?_
      refine c_cond rfl (fun hc13 => ?_) (fun hc13 => ?_)
      ·
        have hc13b := hc13
        try simp only [decide_eq_true_eq, decide_eq_false_iff_not, Bool.not_eq_true', Bool.not_eq_false', Bool.and_eq_true, Bool.or_eq_true, Int.not_lt, Int.not_le, ne_eq, Decidable.not_not] at hc13
        refine wp_seq_k (fun K14 hK14 => ?_)
        refine wp_region_lit ?_
        refine l_q rfl rfl (q_moveI rfl) ?_
        refine l_q rfl rfl (q_assignI rfl) ?_
        refine l_nil ?_
        refine hK14 _ _ ?_
        refine wp_ret ?_
        refine c_ret1 rfl rfl ?_
        exact ⟨_, rfl, congrArg (Value.int .i64) (fIdx_at hx11 (by omega) hj).symm, hS12.drop⟩
      ·
        have hc13b := hc13
        try simp only [decide_eq_true_eq, decide_eq_false_iff_not, Bool.not_eq_true', Bool.not_eq_false', Bool.and_eq_true, Bool.or_eq_true, Int.not_lt, Int.not_le, ne_eq, Decidable.not_not] at hc13
        refine wp_skip ?_
        refine hK8 _ _ ?_
        refine wp_region_lit ?_
        refine l_q rfl rfl (q_addx rfl rfl (by first | decide | omega) (by first | decide | omega)) ?_
        refine l_q rfl rfl (q_moveI rfl) ?_
        refine l_nil ?_
        refine hK4 _ _ (came ((i + 1)) (by repeat' (first | exact Agree.refl _ _ | refine Agree.up ?_ rfl | refine Agree.hav2 ?_ rfl | refine Agree.ups2 ?_ rfl)) (by repeat' (first | exact trivial | refine ⟨by first | rfl | exact int_succ _ | assumption, ?_⟩)) ?_)
        exact ⟨⟨hS12, by (show i + 1 ≤ rs.length); omega, fun j hj' q hq => by
              have hj' : j < i + 1 := hj'
              by_cases hji : j = i
              · subst hji; rw [hx11] at hq; injection hq with hq; subst hq; omega
              · exact hj j (by omega) q hq⟩, by (show rs.length - (i + 1) < rs.length - i); omega⟩
    ·
      have hc7b := hc7
      try simp only [decide_eq_true_eq, decide_eq_false_iff_not, Bool.not_eq_true', Bool.not_eq_false', Bool.and_eq_true, Bool.or_eq_true, Int.not_lt, Int.not_le, ne_eq, Decidable.not_not] at hc7
      refine wp_exit ?_
      refine hK2 _ _ ?_
      refine wp_seq_k (fun K15 hK15 => ?_)
      refine wp_region_lit ?_
      refine l_q rfl rfl (q_assignI rfl) ?_
      refine l_nil ?_
      refine hK15 _ _ ?_
      refine wp_ret ?_
      refine c_ret1 rfl rfl ?_
      exact ⟨_, rfl, congrArg (Value.int .i64) (fIdx_no (fun j hj' q hq => hj j (by omega) q hq)).symm, hS4.drop⟩

set_option maxRecDepth 100000 in
theorem find_ok (k kd : Nat) (ad : Option Addr) (cap : Nat) (rs : List Rc) (z : Int) (hn : rs.length ≤ 2000000000) (w : World) (hS : St w (owns [wk k kd ad cap rs]) [wk k kd ad cap rs] w) : Calls Try.prog 74 #[pV k, .int .i64 z] w (Post w [wk k kd ad cap rs] fun v G => v = .int .i64 (fIdx rs z) ∧ G = [wk k kd ad cap rs]) := by
  refine c_enter Try.func74 rfl rfl rfl ?_
  refine wp_seq_k (fun K1 hK1 => ?_)
  refine wp_region_lit ?_
  refine l_e rfl (fun K hK => ?_)
  refine e_box hS rfl (fun b2 w2 (hS2 : St _ _ [.blk b2 (.cells #[.int .i64 z] 3), wk k kd ad cap rs] _) => ?_)
  clear hS
  refine hK _ _ ?_; clear hK K
  refine l_q rfl rfl (q_assignI rfl) ?_
  refine l_nil ?_
  refine hK1 _ _ ?_
  refine wp_seq_k (fun K3 hK3 => ?_)
  have hS4 := hS2.fr1; clear hS2
  have hS5 := wk_open hS4; clear hS4
  refine wp_region_lit ?_
  refine l_q rfl rfl (q_moveP rfl) ?_
  refine l_q rfl rfl (q_nilCheck rfl) ?_
  refine l_q rfl rfl (q_fieldAddr (ft := 121) (o := 1) rfl (by kernel_rfl)) ?_
  refine l_q rfl rfl (q_load1 rfl (by kernel_rfl) (hS5.cell (i := 0) rfl rfl)) ?_
  refine l_q rfl rfl (q_makeFunc) ?_
  refine l_e rfl (fun K hK => ?_)
  refine e_call (by kernel_rfl) (idx_ok rs rs.length rfl hn _ _ _ z _ (hS5.owG (i := 1) rfl) (hS5.blk (i := 2) rfl)) rfl (after_R hS5 (fun v6 w6 hv6 hS6 => ?_))
  clear hS5
  obtain rfl := hv6
  refine hK _ _ ?_; clear hK K
  refine l_q rfl rfl (q_assignI rfl) ?_
  refine l_nil ?_
  refine hK3 _ _ ?_
  refine wp_ret ?_
  refine c_ret1 rfl rfl ?_
  have hS7 := wk_close hS6; clear hS6
  have hS8 : St _ _ [wk k kd ad cap rs] _ := hS7.only 1; clear hS7
  exact ⟨_, _, rfl, ⟨rfl, rfl⟩, hS8⟩

end Go.Proofs.Ytmbbkliekgiolaa
