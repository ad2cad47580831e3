/- Texts that the claim needs, part 4. -/
import Derived.Test.YteojpdijmnpmgaaZNu3
import Derived.Deep.Slices
import Derived.Deep.Fields
import Derived.ChangeSame
import Derived.OpenShut
import Derived.Test.YteojpdijmnpmgaaProg
set_option linter.unusedVariables false
set_option linter.unusedSimpArgs false
namespace Go.Proofs.Yteojpdijmnpmgaa
open Go.RowKit
/-- The transactions, without where they are. -/
def absT (T : List (Int × Nat × Tx)) : List (Int × Tx) := T.map fun q => (q.1, q.2.2)
theorem absT_app (A B : List (Int × Nat × Tx)) : absT (A ++ B) = absT A ++ absT B := List.map_append
def TxOk (t : Tx) : Prop := t.nodes < 65536 ∧ t.yes < 65536 ∧ t.read < 65536 ∧ t.tell < 65536 ∧ t.ticks < 5
def TOk (T : List (Int × Nat × Tx)) : Prop := (T.Pairwise fun p q => p.1 < q.1) ∧ ∀ q ∈ T, TxOk q.2.2 ∧ 0 ≤ q.1 ∧ q.1 ≤ 2199023255552
theorem TOk.nil : TOk [] := ⟨.nil, fun q h => by cases h⟩
def getT (T : List (Int × Tx)) (n : Int) : Option Tx := (T.find? fun q => decide (q.1 = n)).map Prod.snd
def delT (T : List (Int × Tx)) (n : Int) : List (Int × Tx) := T.filter fun q => decide (q.1 ≠ n)
def setT (T : List (Int × Tx)) (n : Int) (t : Tx) : List (Int × Tx) := (T.filter fun q => decide (q.1 < n)) ++ (n, t) :: T.filter fun q => decide (n < q.1)
section
variable {A B T : List (Int × Nat × Tx)} {n : Int} {b b' : Nat} {t t' : Tx}
theorem TOk.sides (h : TOk (A ++ (n, b, t) :: B)) : (∀ q ∈ A, q.1 < n) ∧ ∀ q ∈ B, n < q.1 := by
  obtain ⟨hp, _⟩ := h
  rw [List.pairwise_append] at hp
  exact ⟨fun q hq => hp.2.2 q hq _ (.head _), fun q hq => (List.pairwise_cons.1 hp.2.1).1 q hq⟩
theorem TOk.del (h : TOk (A ++ (n, b, t) :: B)) : TOk (A ++ B) := by
  obtain ⟨hp, hk⟩ := h
  refine ⟨?_, fun q hq => hk q ?_⟩
  · rw [List.pairwise_append] at hp ⊢
    exact ⟨hp.1, (List.pairwise_cons.1 hp.2.1).2, fun a ha c hc => hp.2.2 a ha c (.tail _ hc)⟩
  · rcases List.mem_append.1 hq with hq | hq
    · exact List.mem_append_left _ hq
    · exact List.mem_append_right _ (.tail _ hq)
theorem TOk.ins (h : TOk (A ++ B)) (hA : ∀ q ∈ A, q.1 < n) (hB : ∀ q ∈ B, n < q.1) (ht : TxOk t ∧ 0 ≤ n ∧ n ≤ 2199023255552) : TOk (A ++ (n, b, t) :: B) := by
  obtain ⟨hp, hk⟩ := h
  refine ⟨?_, fun q hq => ?_⟩
  · rw [List.pairwise_append] at hp ⊢
    refine ⟨hp.1, List.pairwise_cons.2 ⟨fun q hq => hB q hq, hp.2.1⟩, fun a ha c hc => ?_⟩
    rcases List.mem_cons.1 hc with rfl | hc
    · exact hA a ha
    · exact hp.2.2 a ha c hc
  · rcases List.mem_append.1 hq with hq | hq
    · exact hk q (List.mem_append_left _ hq)
    · rcases List.mem_cons.1 hq with rfl | hq
      · exact ht
      · exact hk q (List.mem_append_right _ hq)
theorem TOk.set (h : TOk (A ++ (n, b, t) :: B)) (ht : TxOk t') : TOk (A ++ (n, b', t') :: B) := h.del.ins h.sides.1 h.sides.2 ⟨ht, (h.2 (n, b, t) (List.mem_append_right _ (.head _))).2⟩
/-- A number is one of them, or parts them. -/
theorem TOk.split (h : TOk T) (n : Int) : (∃ A b t B, T = A ++ (n, b, t) :: B) ∨ ∃ A B, T = A ++ B ∧ (∀ q ∈ A, q.1 < n) ∧ ∀ q ∈ B, n < q.1 := by
  induction T with
  | nil => exact .inr ⟨[], [], rfl, fun q h => (by cases h), fun q h => (by cases h)⟩
  | cons q T ih =>
    have hp := List.pairwise_cons.1 h.1
    rcases Int.lt_trichotomy n q.1 with hl | he | hl
    · refine .inr ⟨[], q :: T, rfl, fun q h => (by cases h), fun x hx => ?_⟩
      rcases List.mem_cons.1 hx with rfl | hx
      · exact hl
      · have := hp.1 x hx; omega
    · subst he; exact .inl ⟨[], q.2.1, q.2.2, T, rfl⟩
    · rcases ih ⟨hp.2, fun x hx => h.2 x (.tail _ hx)⟩ with ⟨A, b, t, B, e⟩ | ⟨A, B, e, hA, hB⟩
      · subst e; exact .inl ⟨q :: A, b, t, B, rfl⟩
      · subst e; refine .inr ⟨q :: A, B, rfl, fun x hx => ?_, hB⟩
        rcases List.mem_cons.1 hx with rfl | hx
        · exact hl
        · exact hA x hx
theorem sides_ne (hA : ∀ q ∈ A, q.1 < n) (hB : ∀ q ∈ B, n < q.1) : ∀ q ∈ A ++ B, q.1 ≠ n := fun q hq => by
  rcases List.mem_append.1 hq with hq | hq
  · have := hA q hq; omega
  · have := hB q hq; omega
theorem getT_miss (h : ∀ q ∈ T, q.1 ≠ n) : getT (absT T) n = none := by
  unfold getT absT
  rw [List.find?_eq_none.2 fun q hq => ?_]
  · rfl
  · obtain ⟨x, hx, rfl⟩ := List.mem_map.1 hq
    have := h x hx
    simpa using this
theorem getT_hit (h : TOk (A ++ (n, b, t) :: B)) : getT (absT (A ++ (n, b, t) :: B)) n = some t := by
  have hA := h.sides.1
  unfold getT
  rw [absT_app, List.find?_append, List.find?_eq_none.2 fun q hq => ?_]
  · rw [Option.none_or]
    show Option.map Prod.snd (List.find? _ ((n, t) :: absT B)) = _
    rw [List.find?_cons_of_pos (by simp)]; rfl
  · obtain ⟨x, hx, rfl⟩ := List.mem_map.1 hq
    have := hA x hx
    simp; omega
theorem filt_all {L : List (Int × Nat × Tx)} {p : Int → Bool} (h : ∀ q ∈ L, p q.1 = true) : (absT L).filter (fun q => p q.1) = absT L := List.filter_eq_self.2 fun q hq => by
  obtain ⟨x, hx, rfl⟩ := List.mem_map.1 hq; exact h x hx
theorem filt_no {L : List (Int × Nat × Tx)} {p : Int → Bool} (h : ∀ q ∈ L, p q.1 = false) : (absT L).filter (fun q => p q.1) = [] := List.filter_eq_nil_iff.2 fun q hq => by
  obtain ⟨x, hx, rfl⟩ := List.mem_map.1 hq; rw [h x hx]; decide
theorem delT_miss (h : ∀ q ∈ T, q.1 ≠ n) : delT (absT T) n = absT T := filt_all (p := fun z => decide (z ≠ n)) fun q hq => decide_eq_true (h q hq)
theorem delT_hit (h : TOk (A ++ (n, b, t) :: B)) : delT (absT (A ++ (n, b, t) :: B)) n = absT (A ++ B) := by
  obtain ⟨hA, hB⟩ := h.sides
  unfold delT
  rw [absT_app, absT_app, List.filter_append]
  rw [filt_all (p := fun z => decide (z ≠ n)) fun q hq => decide_eq_true (by have := hA q hq; omega)]
  show _ ++ List.filter _ ((n, t) :: absT B) = _
  rw [List.filter_cons_of_neg (by simp), filt_all (p := fun z => decide (z ≠ n)) fun q hq => decide_eq_true (by have := hB q hq; omega)]
theorem setT_miss (hA : ∀ q ∈ A, q.1 < n) (hB : ∀ q ∈ B, n < q.1) : setT (absT (A ++ B)) n t = absT (A ++ (n, b, t) :: B) := by
  unfold setT
  rw [absT_app, absT_app, List.filter_append, List.filter_append]
  rw [filt_all (p := fun z => decide (z < n)) fun q hq => decide_eq_true (hA q hq), filt_no (L := B) (p := fun z => decide (z < n)) fun q hq => decide_eq_false (by have := hB q hq; omega), filt_no (L := A) (p := fun z => decide (n < z)) fun q hq => decide_eq_false (by have := hA q hq; omega), filt_all (p := fun z => decide (n < z)) fun q hq => decide_eq_true (hB q hq), List.append_nil]
  rfl
theorem setT_hit (h : TOk (A ++ (n, b, t) :: B)) : setT (absT (A ++ (n, b, t) :: B)) n t' = absT (A ++ (n, b', t') :: B) := by
  obtain ⟨hA, hB⟩ := h.sides
  rw [← setT_miss (b := b') hA hB]
  unfold setT
  rw [absT_app, absT_app, List.filter_append, List.filter_append, List.filter_append, List.filter_append]
  show (_ ++ List.filter _ ((n, t) :: absT B)) ++ _ :: (_ ++ List.filter _ ((n, t) :: absT B)) = _
  rw [List.filter_cons_of_neg (by simp), List.filter_cons_of_neg (by simp)]
theorem tc_inj : CInj tc (fun _ => True) := fun a b _ _ h => by
  have : Value.int .i64 a.1 = Value.int .i64 b.1 := h
  injection this
theorem TOk.apart (h : TOk T) : T.Pairwise fun a b => a.1 ≠ b.1 := h.1.imp fun h => by omega
theorem tc_miss (h : ∀ q ∈ T, q.1 ≠ n) : ∀ q ∈ List.map tc T, q.1 ≠ .int .i64 n := look_miss (k := n) tc_inj (fun _ _ => trivial) trivial (fun _ => rfl) h
theorem tc_del (h : TOk (A ++ (n, b, t) :: B)) : MDel (List.map tc (A ++ (n, b, t) :: B)) (.int .i64 n) (List.map tc (A ++ B)) :=
  MDel.of (ok := fun _ => True) h.apart tc_inj (fun _ _ => trivial) trivial (fun _ => rfl) (by
    obtain ⟨hA, hB⟩ := h.sides
    unfold mdel
    rw [List.filter_append, List.filter_cons_of_neg (by simp), List.filter_eq_self.2 fun q hq => (by have := hA q hq; simp; omega), List.filter_eq_self.2 fun q hq => (by have := hB q hq; simp; omega)])
theorem tc_ins (h : TOk (A ++ B)) (hA : ∀ q ∈ A, q.1 < n) (hB : ∀ q ∈ B, n < q.1) (b : Nat) (t : Tx) : MUp (List.map tc (A ++ B)) (.int .i64 n) (pV b) (List.map tc (A ++ (n, b, t) :: B)) :=
  MUp.of (ok := fun _ => True) (k := n) (x := (b, t)) h.apart tc_inj (fun _ _ => trivial) trivial rfl (fun _ => rfl) (by
    unfold mset
    rw [List.filter_eq_self.2 fun q hq => (by have := sides_ne hA hB q hq; simpa using this)]
    exact List.perm_middle)
theorem tc_set (h : TOk (A ++ (n, b, t) :: B)) (b' : Nat) (t' : Tx) : MUp (List.map tc (A ++ (n, b, t) :: B)) (.int .i64 n) (pV b') (List.map tc (A ++ (n, b', t') :: B)) :=
  MUp.of (ok := fun _ => True) (k := n) (x := (b', t')) h.apart tc_inj (fun _ _ => trivial) trivial rfl (fun _ => rfl) (by
    obtain ⟨hA, hB⟩ := h.sides
    unfold mset
    rw [List.filter_append, List.filter_cons_of_neg (by simp), List.filter_eq_self.2 fun q hq => (by have := hA q hq; simp; omega), List.filter_eq_self.2 fun q hq => (by have := hB q hq; simp; omega)]
    exact List.perm_middle)
end
/-- A coordinator: its block, the map, the transactions, the letters. -/
def co (k kw : Nat) (nd : Int) (inc cnt mb : Nat) (oa : Option Addr) (O : List Lo) (oc : Nat) (T : List (Int × Nat × Tx)) : Ch := .pk [.blk k (cO kw nd inc cnt mb oa O.length oc), .mp (.int .i64) mb (List.map tc T), .pk (List.map tb T), .ow 42 5 oa O.length oc (List.flatMap lo O)]
section
variable {w0 w : World} {D : Nat → Prop} {Γ : List Ch} {k kw inc cnt mb oc : Nat} {nd : Int} {oa : Option Addr} {O : List Lo} {T A B : List (Int × Nat × Tx)} {q : Int × Nat × Tx}
theorem co_open (h : St w0 D (co k kw nd inc cnt mb oa O oc T :: Γ) w) : St w0 D (.blk k (cO kw nd inc cnt mb oa O.length oc) :: .mp (.int .i64) mb (List.map tc T) :: .pk (List.map tb T) :: .ow 42 5 oa O.length oc (List.flatMap lo O) :: Γ) w := h.unpk
theorem co_close (h : St w0 D (.blk k (cO kw nd inc cnt mb oa O.length oc) :: .mp (.int .i64) mb (List.map tc T) :: .pk (List.map tb T) :: .ow 42 5 oa O.length oc (List.flatMap lo O) :: Γ) w) : St w0 D (co k kw nd inc cnt mb oa O oc T :: Γ) w := h.pk
theorem mp_t {n : Int} {b : Nat} {t t' : Tx} (h : St w0 D (.mp (.int .i64) mb (List.map tc (A ++ (n, b, t) :: B)) :: Γ) w) : St w0 D (.mp (.int .i64) mb (List.map tc (A ++ (n, b, t') :: B)) :: Γ) w := by
  rw [List.map_append, List.map_cons] at h ⊢; exact h
theorem tb_take (h : St w0 D (.pk (List.map tb (A ++ q :: B)) :: Γ) w) : St w0 D (tb q :: .pk (List.map tb (A ++ B)) :: Γ) w := by
  rw [List.map_append, List.map_cons] at h
  rw [List.map_append]; exact h.pkTake
theorem tb_put (h : St w0 D (tb q :: .pk (List.map tb (A ++ B)) :: Γ) w) : St w0 D (.pk (List.map tb (A ++ q :: B)) :: Γ) w := by
  rw [List.map_append] at h
  rw [List.map_append, List.map_cons]; exact h.pkPut
end
attribute [local irreducible] Oper.wp Sem.run Code.wp wpList wpAnyO callFunc execOp Calls
attribute [local irreducible] toU short rencs renc rowE encRow rightB zig unzig decRw risB lastN bitsOf nodesTo readL recB ofL sends
/-- A transaction's state. -/
def staT : Option Tx → Int
  | none => 0
  | some t => if t.com = true then 2 else 1
theorem staT_yes {t : Tx} (h : t.com = true) : staT (some t) = 2 := if_pos h
theorem staT_no {t : Tx} (h : t.com = false) : staT (some t) = 1 := if_neg (by rw [h]; decide)

set_option maxRecDepth 100000 in
theorem state_hit (k kw : Nat) (nd : Int) (inc cnt mb : Nat) (oa : Option Addr) (O : List Lo) (oc : Nat) (n : Int) (A : List (Int × Nat × Tx)) (b : Nat) (t : Tx) (B : List (Int × Nat × Tx)) (hT : TOk (A ++ (n, b, t) :: B)) (g : Gh) (hO : LOk g O) (hol0 : O.length ≤ 100000)  (w : World) (hS : St w (owns [co k kw nd inc cnt mb oa O oc (A ++ (n, b, t) :: B), .fz g]) [co k kw nd inc cnt mb oa O oc (A ++ (n, b, t) :: B), .fz g] w) : Calls Try.prog 17 #[pV k, .int .i64 n] w (Post w [co k kw nd inc cnt mb oa O oc (A ++ (n, b, t) :: B), .fz g] fun v G => v = .int .i64 (staT (getT (absT (A ++ (n, b, t) :: B)) n)) ∧ G = [co k kw nd inc cnt mb oa O oc (A ++ (n, b, t) :: B), .fz g]) := by
 have hTn := (hT.2 (n, b, t) (List.mem_append_right _ (.head _))).1
 have ht1 : t.nodes < 65536 := hTn.1
 have ht2 : t.yes < 65536 := hTn.2.1
 have ht3 : t.read < 65536 := hTn.2.2.1
 have ht4 : t.tell < 65536 := hTn.2.2.2.1
 have ht5 : t.ticks < 5 := hTn.2.2.2.2
 have hn0 : 0 ≤ n ∧ n ≤ 2199023255552 := (hT.2 (n, b, t) (List.mem_append_right _ (.head _))).2
 refine c_enter Try.func17 rfl rfl rfl ?_
 refine wp_seq_k (fun K1 hK1 => ?_)
 have hS2 := co_open hS; clear hS
 have hS3 := hS2.fr2; clear hS2
 have hS4 : St _ _ [.blk b (.cells #[.int .i64 ((t.nodes : Nat) : Int), .int .i64 ((t.yes : Nat) : Int), .int .i64 ((t.read : Nat) : Int), .bool t.asked, .bool t.com, .int .i64 ((t.tell : Nat) : Int), .int .i64 ((t.ticks : Nat) : Int)] 80), .pk (List.map tb (A ++ B)), .blk k (.cells #[.pointer (some ⟨kw, 0, none⟩), .int .i64 nd, .int .i64 (inc : Int), .int .i64 (cnt : Int), .map (some mb), .slice oa O.length oc] 68), .mp (.int .i64) mb (List.map tc (A ++ (n, b, t) :: B)), .ow 42 5 oa O.length oc (List.flatMap lo O), .fz g] _ := tb_take hS3; clear hS3
 refine wp_region_lit ?_
 refine l_q rfl rfl (q_assignI rfl) ?_
 refine l_nil ?_
 refine hK1 _ _ ?_
 refine wp_seq_k (fun K5 hK5 => ?_)
 refine wp_seq_k (fun K6 hK6 => ?_)
 refine wp_region_lit ?_
 refine l_q rfl rfl (q_moveP rfl) ?_
 refine l_q rfl rfl (q_peq rfl (by kernel_rfl)) ?_
 refine l_nil ?_
 refine hK6 _ _ ?_
 refine c_condF rfl rfl ?_
 refine wp_skip ?_
 refine hK5 _ _ ?_
 refine wp_seq_k (fun K8 hK8 => ?_)
 refine wp_region_lit ?_
 refine l_q rfl rfl (q_moveP rfl) ?_
 refine l_q rfl rfl (q_nilCheck rfl) ?_
 refine l_q rfl rfl (q_fieldAddr (ft := 66) (o := 4) rfl (by kernel_rfl)) ?_
 refine l_q rfl rfl (q_load1 rfl (by kernel_rfl) (hS4.cell (i := 2) rfl rfl)) ?_
 refine l_q rfl rfl (q_moveI rfl) ?_
 refine l_q rfl rfl (q_lookHit (zv := .pointer none) rfl rfl (by kernel_rfl) (by first | rfl | trivial) (hS4.map (i := 3) rfl) (look_hit (k := n) (x := (b, t)) (List.mem_append_right _ (.head _)) rfl)) ?_
 refine l_q rfl rfl (q_move rfl) ?_
 refine l_q rfl rfl (q_extract rfl rfl) ?_
 refine l_q rfl rfl (q_extract rfl rfl) ?_
 refine l_q rfl rfl (q_assignP rfl) ?_
 refine l_q rfl rfl (q_assignB rfl) ?_
 refine l_nil ?_
 refine hK8 _ _ ?_
 refine wp_seq_k (fun K9 hK9 => ?_)
 refine wp_block ?_
 refine wp_seq_k (fun K10 hK10 => ?_)
 refine wp_region_lit ?_
 refine l_q rfl rfl (q_moveB rfl) ?_
 refine l_q rfl rfl (q_not rfl) ?_
 refine l_q rfl rfl (q_assignB rfl) ?_
 refine l_nil ?_
 refine hK10 _ _ ?_
 refine c_condF rfl rfl ?_
 refine wp_seq_k (fun K12 hK12 => ?_)
 refine wp_region_lit ?_
 refine l_q rfl rfl (q_moveP rfl) ?_
 refine l_q rfl rfl (q_nilCheck rfl) ?_
 refine l_q rfl rfl (q_fieldAddr (ft := 4) (o := 4) rfl (by kernel_rfl)) ?_
 refine l_q rfl rfl (q_load1 rfl (by kernel_rfl) (hS4.cell (i := 0) rfl rfl)) ?_
 refine l_q rfl rfl (q_assignB rfl) ?_
 refine l_nil ?_
 refine hK12 _ _ ?_
 refine c_cond rfl (fun hc13 => ?_) (fun hc13 => ?_)
 have hc13b := hc13
 try simp only [zbb] at hc13
 refine wp_seq_k (fun K14 hK14 => ?_)
 refine wp_region_lit ?_
 refine l_q rfl rfl (q_assignI rfl) ?_
 refine l_nil ?_
 refine hK14 _ _ ?_
 refine wp_ret ?_
 refine c_ret1 rfl rfl ?_
 have hS15 : St _ _ [.pk (List.map tb (A ++ (n, b, t) :: B)), _, _, _, .fz g] _ := tb_put (q := (n, b, t)) hS4; clear hS4
 have hS16 := hS15.fr4; clear hS15
 have hS17 := hS16.fr4; clear hS16
 have hS18 := hS17.fr2; clear hS17
 have hS19 := hS18.fr4; clear hS18
 have hS20 := hS19.fr4; clear hS19
 have hS21 : St _ _ [co k kw nd inc cnt mb oa O oc (A ++ (n, b, t) :: B), .fz g] _ := co_close hS20; clear hS20
 exact ⟨_, _, rfl, ⟨(by rw [getT_hit hT]; first | exact congrArg (Value.int .i64) (staT_yes (by simp_all)).symm | exact congrArg (Value.int .i64) (staT_no (by simp_all)).symm), rfl⟩, hS21⟩
 have hc13b := hc13
 try simp only [zbb] at hc13
 refine wp_skip ?_
 refine hK9 _ _ ?_
 refine wp_seq_k (fun K22 hK22 => ?_)
 refine wp_region_lit ?_
 refine l_q rfl rfl (q_assignI rfl) ?_
 refine l_nil ?_
 refine hK22 _ _ ?_
 refine wp_ret ?_
 refine c_ret1 rfl rfl ?_
 have hS23 : St _ _ [_, _, _, _, .fz g] _ := tb_put (q := (n, b, t)) hS4; clear hS4
 have hS24 := hS23.fr4; clear hS23
 have hS25 := hS24.fr4; clear hS24
 have hS26 := hS25.fr2; clear hS25
 have hS27 := hS26.fr4; clear hS26
 have hS28 := hS27.fr4; clear hS27
 have hS29 : St _ _ [_, .fz g] _ := co_close hS28; clear hS28
 exact ⟨_, _, rfl, ⟨(by rw [getT_hit hT]; first | exact congrArg (Value.int .i64) (staT_yes (by simp_all)).symm | exact congrArg (Value.int .i64) (staT_no (by simp_all)).symm), rfl⟩, hS29⟩
set_option maxRecDepth 100000 in
theorem state_miss (k kw : Nat) (nd : Int) (inc cnt mb : Nat) (oa : Option Addr) (O : List Lo) (oc : Nat) (n : Int) (T : List (Int × Nat × Tx)) (hn : ∀ q ∈ T, q.1 ≠ n) (hT : TOk T) (g : Gh) (hO : LOk g O) (hol0 : O.length ≤ 100000)  (w : World) (hS : St w (owns [co k kw nd inc cnt mb oa O oc T, .fz g]) [co k kw nd inc cnt mb oa O oc T, .fz g] w) : Calls Try.prog 17 #[pV k, .int .i64 n] w (Post w [co k kw nd inc cnt mb oa O oc T, .fz g] fun v G => v = .int .i64 (staT (getT (absT T) n)) ∧ G = [co k kw nd inc cnt mb oa O oc T, .fz g]) := by
 refine c_enter Try.func17 rfl rfl rfl ?_
 refine wp_seq_k (fun K1 hK1 => ?_)
 have hS2 := co_open hS; clear hS
 refine wp_region_lit ?_
 refine l_q rfl rfl (q_assignI rfl) ?_
 refine l_nil ?_
 refine hK1 _ _ ?_
 refine wp_seq_k (fun K3 hK3 => ?_)
 refine wp_seq_k (fun K4 hK4 => ?_)
 refine wp_region_lit ?_
 refine l_q rfl rfl (q_moveP rfl) ?_
 refine l_q rfl rfl (q_peq rfl (by kernel_rfl)) ?_
 refine l_nil ?_
 refine hK4 _ _ ?_
 refine c_condF rfl rfl ?_
 refine wp_skip ?_
 refine hK3 _ _ ?_
 refine wp_seq_k (fun K6 hK6 => ?_)
 refine wp_region_lit ?_
 refine l_q rfl rfl (q_moveP rfl) ?_
 refine l_q rfl rfl (q_nilCheck rfl) ?_
 refine l_q rfl rfl (q_fieldAddr (ft := 66) (o := 4) rfl (by kernel_rfl)) ?_
 refine l_q rfl rfl (q_load1 rfl (by kernel_rfl) (hS2.cell (i := 0) rfl rfl)) ?_
 refine l_q rfl rfl (q_moveI rfl) ?_
 refine l_q rfl rfl (q_lookMiss (zv := .pointer none) rfl rfl (by kernel_rfl) (by first | rfl | trivial) (hS2.map (i := 1) rfl) (tc_miss hn)) ?_
 refine l_q rfl rfl (q_move rfl) ?_
 refine l_q rfl rfl (q_extract rfl rfl) ?_
 refine l_q rfl rfl (q_extract rfl rfl) ?_
 refine l_q rfl rfl (q_assignP rfl) ?_
 refine l_q rfl rfl (q_assignB rfl) ?_
 refine l_nil ?_
 refine hK6 _ _ ?_
 refine wp_seq_k (fun K7 hK7 => ?_)
 refine wp_block ?_
 refine wp_seq_k (fun K8 hK8 => ?_)
 refine wp_region_lit ?_
 refine l_q rfl rfl (q_moveB rfl) ?_
 refine l_q rfl rfl (q_not rfl) ?_
 refine l_q rfl rfl (q_assignB rfl) ?_
 refine l_nil ?_
 refine hK8 _ _ ?_
 refine c_condT rfl rfl ?_
 refine wp_seq_k (fun K10 hK10 => ?_)
 refine wp_region_lit ?_
 refine l_q rfl rfl (q_assignI rfl) ?_
 refine l_nil ?_
 refine hK10 _ _ ?_
 refine wp_ret ?_
 refine c_ret1 rfl rfl ?_
 have hS11 : St _ _ [co k kw nd inc cnt mb oa O oc T, .fz g] _ := co_close hS2; clear hS2
 exact ⟨_, _, rfl, ⟨(by rw [getT_miss hn]; rfl), rfl⟩, hS11⟩
end Go.Proofs.Yteojpdijmnpmgaa
namespace Go.Proofs.Yteojpdijmnpmgaa
open Go.RowKit
/-- What a method leaves. -/
def CoP (k kw : Nat) (nd : Int) (inc mb : Nat) (g : Gh) (v0 : Value) (r : Nat × List (Int × Tx) × List Lr) (v : Value) (G : List Ch) : Prop := ∃ oa' oc' O' T' g', v = v0 ∧ G = [co k kw nd inc r.1 mb oa' O' oc' T', .fz g'] ∧ Gle g g' ∧ LOk g' O' ∧ TOk T' ∧ absT T' = r.2.1 ∧ O'.map Lo.l = r.2.2
def zeroTx : Tx := ⟨0, 0, 0, false, false, 0, 0⟩
def numB (nd : Int) (inc cnt : Nat) : Int := 16 * ((65536 * inc + cnt : Nat) : Int) + nd
def askF (nd n : Int) (L : List Int) (T : List (Int × Tx)) (O : List Lr) : Int × List (Int × Tx) × List Lr :=
  match getT T n with
  | none => (131, T, O)
  | some t => if t.asked = true ∨ t.com = true then (131, T, O)
    else if (ofL L).2 = false then (1, T, O)
    else (0, setT T n ⟨(ofL L).1, t.yes, t.read, true, t.com, t.tell, t.ticks⟩, O ++ sends 1 nd n (nodesTo (ofL L).1 16) (ofL L).1)
theorem ask_none {nd n : Int} {L : List Int} {T : List (Int × Tx)} {O : List Lr} (h : getT T n = none) : askF nd n L T O = (131, T, O) := by unfold askF; rw [h]
theorem ask_was {nd n : Int} {L : List Int} {T : List (Int × Tx)} {O : List Lr} {t : Tx} (h : getT T n = some t) (hc : t.asked = true ∨ t.com = true) : askF nd n L T O = (131, T, O) := by unfold askF; rw [h]; exact if_pos hc
theorem ask_bad {nd n : Int} {L : List Int} {T : List (Int × Tx)} {O : List Lr} {t : Tx} (h : getT T n = some t) (hc : t.asked = false) (hc2 : t.com = false) (hL : (ofL L).2 = false) : askF nd n L T O = (1, T, O) := by unfold askF; rw [h]; exact (if_neg (by rw [hc, hc2]; decide)).trans (if_pos hL)
theorem ask_do {nd n : Int} {L : List Int} {T : List (Int × Tx)} {O : List Lr} {t : Tx} (h : getT T n = some t) (hc : t.asked = false) (hc2 : t.com = false) (hL : (ofL L).2 = true) : askF nd n L T O = (0, setT T n ⟨(ofL L).1, t.yes, t.read, true, t.com, t.tell, t.ticks⟩, O ++ sends 1 nd n (nodesTo (ofL L).1 16) (ofL L).1) := by unfold askF; rw [h]; exact (if_neg (by rw [hc, hc2]; decide)).trans (if_neg (by rw [hL]; decide))
theorem ofL_lt (L : List Int) : (ofL L).1 < 65536 := by
  unfold ofL
  split
  · rename_i h; exact bits_16 h
  · decide
attribute [local irreducible] Oper.wp Sem.run Code.wp wpList wpAnyO callFunc execOp Calls
attribute [local irreducible] toU short rencs renc rowE encRow rightB zig unzig decRw risB lastN bitsOf nodesTo readL recB ofL sends getT delT setT
end Go.Proofs.Yteojpdijmnpmgaa
namespace Go.Proofs.Yteojpdijmnpmgaa
open Go.RowKit
theorem q_izc {P : Program} {n : Nat} {f : Nat → Value} {o : Oper} {w : World} {k : IntKind} {a b : Int} (h : a = b) (hr : Run P n f o w (.int k a)) : Run P n f o w (.int k b) := by rw [← h]; exact hr
theorem zero_ok : TxOk (Tx.mk 0 0 0 false false 0 0) := ⟨by decide, by decide, by decide, by decide, by decide⟩
theorem numB_bd {nd : Int} {inc cnt : Nat} (hi : inc ≤ 65537) (hc : cnt < 65536) (hnd : 0 ≤ nd ∧ nd < 16) : 0 ≤ numB nd inc cnt ∧ numB nd inc cnt ≤ 2199023255552 := by unfold numB; omega
attribute [local irreducible] Oper.wp Sem.run Code.wp wpList wpAnyO callFunc execOp Calls
attribute [local irreducible] toU short rencs renc rowE encRow rightB zig unzig decRw risB lastN bitsOf nodesTo readL recB ofL sends getT delT setT
set_option maxRecDepth 100000 in
theorem begin_hit (k kw : Nat) (nd : Int) (inc cnt mb : Nat) (oa : Option Addr) (O : List Lo) (oc : Nat) (n : Int) (A : List (Int × Nat × Tx)) (b : Nat) (t : Tx) (B : List (Int × Nat × Tx)) (hT : TOk (A ++ (n, b, t) :: B)) (g : Gh) (hO : LOk g O) (hol0 : O.length ≤ 100000) (hi : inc ≤ 65537) (hc : cnt < 65536) (hnd : 0 ≤ nd ∧ nd < 16) (hn : n = numB nd inc cnt)  (w : World) (hS : St w (owns [co k kw nd inc cnt mb oa O oc (A ++ (n, b, t) :: B), .fz g]) [co k kw nd inc cnt mb oa O oc (A ++ (n, b, t) :: B), .fz g] w) : Calls Try.prog 12 #[pV k] w (Post w [co k kw nd inc cnt mb oa O oc (A ++ (n, b, t) :: B), .fz g] fun v G => CoP k kw nd inc mb g (.tuple #[.int .i64 n, .int .i64 0]) (cnt + 1, setT (absT (A ++ (n, b, t) :: B)) n (Tx.mk 0 0 0 false false 0 0), O.map Lo.l) v G) := by
 have hTn := (hT.2 (n, b, t) (List.mem_append_right _ (.head _))).1
 have ht1 : t.nodes < 65536 := hTn.1
 have ht2 : t.yes < 65536 := hTn.2.1
 have ht3 : t.read < 65536 := hTn.2.2.1
 have ht4 : t.tell < 65536 := hTn.2.2.2.1
 have ht5 : t.ticks < 5 := hTn.2.2.2.2
 refine c_enter Try.func12 rfl rfl rfl ?_
 refine wp_seq_k (fun K1 hK1 => ?_)
 have hS2 := co_open hS; clear hS
 have hS3 := hS2.fr2; clear hS2
 have hS4 : St _ _ [.blk b (.cells #[.int .i64 ((t.nodes : Nat) : Int), .int .i64 ((t.yes : Nat) : Int), .int .i64 ((t.read : Nat) : Int), .bool t.asked, .bool t.com, .int .i64 ((t.tell : Nat) : Int), .int .i64 ((t.ticks : Nat) : Int)] 80), .pk (List.map tb (A ++ B)), .blk k (.cells #[.pointer (some ⟨kw, 0, none⟩), .int .i64 nd, .int .i64 (inc : Int), .int .i64 (cnt : Int), .map (some mb), .slice oa O.length oc] 68), .mp (.int .i64) mb (List.map tc (A ++ (n, b, t) :: B)), .ow 42 5 oa O.length oc (List.flatMap lo O), .fz g] _ := tb_take hS3; clear hS3
 refine wp_region_lit ?_
 refine l_q rfl rfl (q_assignI rfl) ?_
 refine l_q rfl rfl (q_assignI rfl) ?_
 refine l_nil ?_
 refine hK1 _ _ ?_
 refine wp_seq_k (fun K5 hK5 => ?_)
 refine wp_block ?_
 refine wp_seq_k (fun K6 hK6 => ?_)
 refine wp_region_lit ?_
 refine l_q rfl rfl (q_moveP rfl) ?_
 refine l_q rfl rfl (q_peq rfl (by kernel_rfl)) ?_
 refine l_q rfl rfl (q_assignB rfl) ?_
 refine l_nil ?_
 refine hK6 _ _ ?_
 refine c_condF rfl rfl ?_
 refine wp_seq_k (fun K8 hK8 => ?_)
 refine wp_region_lit ?_
 refine l_q rfl rfl (q_moveP rfl) ?_
 refine l_q rfl rfl (q_nilCheck rfl) ?_
 refine l_q rfl rfl (q_fieldAddr (ft := 3) (o := 3) rfl (by kernel_rfl)) ?_
 refine l_q rfl rfl (q_load1 rfl (by kernel_rfl) (hS4.cell (i := 2) rfl rfl)) ?_
 refine l_q rfl rfl (q_geq rfl rfl) ?_
 refine l_q rfl rfl (q_assignB rfl) ?_
 refine l_nil ?_
 refine hK8 _ _ ?_
 refine c_condF rfl (decide_eq_false (by omega)) ?_
 refine wp_skip ?_
 refine hK5 _ _ ?_
 refine wp_seq_k (fun K10 hK10 => ?_)
 refine r_any (by kernel_rfl) hS4 (fun w11 hS11 => ?_)
 clear hS4
 refine o_pure (i := 0) (fun _ _ => trivial) rfl rfl (by kernel_rfl) (goes0 rfl) (QOk.then QOk.body) (fun w => q_moveP rfl) ?_
 refine o_pure (i := 1) (fun _ _ => trivial) rfl rfl (by kernel_rfl) (goes0 rfl) (QOk.then QOk.body) (fun w => q_nilCheck rfl) ?_
 refine o_pure (i := 2) (fun _ _ => trivial) rfl rfl (by kernel_rfl) (goes0 rfl) (QOk.then QOk.body) (fun w => q_fieldAddr (ft := 3) (o := 2) rfl (by kernel_rfl)) ?_
 refine o_held (i := 3) [4, 9, 10, 15, 16] (fun _ _ => trivial) rfl rfl (by kernel_rfl) (goes0 rfl) (QOk.then QOk.body) (q_load1 rfl (by kernel_rfl) (hS11.cell (i := 2) rfl rfl)) ?_
 refine o_pure (i := 4) (fun j w => ⟨(fun _ _ => trivial) j w, fun _ h => h⟩) rfl rfl (by kernel_rfl) (goes0 rfl) (QOk.then QOk.body) (fun w => q_mulx rfl rfl (by first | decide | omega) (by first | decide | omega)) ?_
 refine o_pure (i := 5) (fun j w => ⟨(fun _ _ => trivial) j w, fun _ h => h⟩) rfl rfl (by kernel_rfl) (goes0 rfl) (QOk.then QOk.body) (fun w => q_moveP rfl) ?_
 refine o_pure (i := 6) (fun j w => ⟨(fun _ _ => trivial) j w, fun _ h => h⟩) rfl rfl (by kernel_rfl) (goes0 rfl) (QOk.then QOk.body) (fun w => q_nilCheck rfl) ?_
 refine o_pure (i := 7) (fun j w => ⟨(fun _ _ => trivial) j w, fun _ h => h⟩) rfl rfl (by kernel_rfl) (goes0 rfl) (QOk.then QOk.body) (fun w => q_fieldAddr (ft := 3) (o := 3) rfl (by kernel_rfl)) ?_
 refine o_held (i := 8) [9, 10, 15, 16] (fun j w => ⟨(fun _ _ => trivial) j w, fun _ h => h⟩) rfl rfl (by kernel_rfl) (goes0 rfl) (QOk.then QOk.body) (q_load1 rfl (by kernel_rfl) (hS11.cell (i := 2) rfl rfl)) ?_
 refine o_pure (i := 9) (fun j w => ⟨(fun j w => ⟨(fun _ _ => trivial) j w, fun _ h => h⟩) j w, fun _ h => h⟩) rfl rfl (by kernel_rfl) (goes0 rfl) (QOk.then QOk.body) (fun w => q_addx rfl rfl (by first | decide | omega) (by first | decide | omega)) ?_
 refine o_pure (i := 10) (fun j w => ⟨(fun j w => ⟨(fun _ _ => trivial) j w, fun _ h => h⟩) j w, fun _ h => h⟩) rfl rfl (by kernel_rfl) (goes0 rfl) (QOk.then QOk.body) (fun w => q_mulx rfl rfl (by first | decide | omega) (by first | decide | omega)) ?_
 refine o_pure (i := 11) (fun j w => ⟨(fun j w => ⟨(fun _ _ => trivial) j w, fun _ h => h⟩) j w, fun _ h => h⟩) rfl rfl (by kernel_rfl) (goes0 rfl) (QOk.then QOk.body) (fun w => q_moveP rfl) ?_
 refine o_pure (i := 12) (fun j w => ⟨(fun j w => ⟨(fun _ _ => trivial) j w, fun _ h => h⟩) j w, fun _ h => h⟩) rfl rfl (by kernel_rfl) (goes0 rfl) (QOk.then QOk.body) (fun w => q_nilCheck rfl) ?_
 refine o_pure (i := 13) (fun j w => ⟨(fun j w => ⟨(fun _ _ => trivial) j w, fun _ h => h⟩) j w, fun _ h => h⟩) rfl rfl (by kernel_rfl) (goes0 rfl) (QOk.then QOk.body) (fun w => q_fieldAddr (ft := 3) (o := 1) rfl (by kernel_rfl)) ?_
 refine o_held (i := 14) [15, 16] (fun j w => ⟨(fun j w => ⟨(fun _ _ => trivial) j w, fun _ h => h⟩) j w, fun _ h => h⟩) rfl rfl (by kernel_rfl) (goes0 rfl) (QOk.then QOk.body) (q_load1 rfl (by kernel_rfl) (hS11.cell (i := 2) rfl rfl)) ?_
 refine o_pure (i := 15) (fun j w => ⟨(fun j w => ⟨(fun j w => ⟨(fun _ _ => trivial) j w, fun _ h => h⟩) j w, fun _ h => h⟩) j w, fun _ h => h⟩) rfl rfl (by kernel_rfl) (goes0 rfl) (QOk.then QOk.body) (fun w => q_izc (b := n) (by rw [hn]; unfold numB; omega) (q_addx rfl rfl (by omega) (by omega))) ?_
 refine o_pure (i := 16) (fun j w => ⟨(fun j w => ⟨(fun j w => ⟨(fun _ _ => trivial) j w, fun _ h => h⟩) j w, fun _ h => h⟩) j w, fun _ h => h⟩) rfl rfl (by kernel_rfl) (goes0 rfl) (QOk.then QOk.body) (fun w => q_assignI rfl) ?_
 refine o_done (by kernel_rfl) ?_
 refine hK10 _ _ ?_
 refine wp_seq_k (fun K12 hK12 => ?_)
 refine wp_region_lit ?_
 refine l_q rfl rfl (q_moveP rfl) ?_
 refine l_q rfl rfl (q_nilCheck rfl) ?_
 refine l_q rfl rfl (q_fieldAddr (ft := 3) (o := 3) rfl (by kernel_rfl)) ?_
 refine l_q rfl rfl (q_load1 rfl (by kernel_rfl) (hS11.cell (i := 2) rfl rfl)) ?_
 refine l_q rfl rfl (q_addx rfl rfl (by first | decide | omega) (by first | decide | omega)) ?_
 refine l_q rfl rfl (q_nilCheck rfl) ?_
 refine l_q rfl rfl (q_fieldAddr (ft := 3) (o := 3) rfl (by kernel_rfl)) ?_
 refine l_e rfl (fun K hK => ?_)
 refine e_store1 hS11 rfl rfl (by kernel_rfl) (by first | rfl | assumption) (i := 2) rfl rfl (fun w13 (hS13 : St _ _ [_, _, .blk k (.cells #[.pointer (some ⟨kw, 0, none⟩), .int .i64 nd, .int .i64 (inc : Int), .int .i64 ((cnt : Int) + (1 : Int)), .map (some mb), .slice oa O.length oc] 68), _, _, .fz g] _) => ?_)
 clear hS11
 refine hK _ _ ?_; clear hK K
 refine l_nil ?_
 refine hK12 _ _ ?_
 refine wp_seq_k (fun K14 hK14 => ?_)
 refine wp_region_lit ?_
 refine l_q rfl rfl (q_moveP rfl) ?_
 refine l_q rfl rfl (q_nilCheck rfl) ?_
 refine l_q rfl rfl (q_fieldAddr (ft := 66) (o := 4) rfl (by kernel_rfl)) ?_
 refine l_q rfl rfl (q_load1 rfl (by kernel_rfl) (hS13.cell (i := 2) rfl rfl)) ?_
 refine l_q rfl rfl (q_moveI rfl) ?_
 refine l_q rfl rfl (q_build (ps := [(0, 1), (1, 1), (2, 1), (3, 1), (4, 1), (5, 1), (6, 1)]) (zv := .agg #[.int .i64 0, .int .i64 0, .int .i64 0, .bool false, .bool false, .int .i64 0, .int .i64 0]) (by kernel_rfl) (by kernel_rfl) rfl (by repeat' (first | exact trivial | refine ⟨fun _ => by first | rfl | assumption | exact one_if (by assumption), ?_⟩ | refine ⟨fun ⟨_, h⟩ => by simp at h, ?_⟩)) rfl) ?_
 refine l_e rfl (fun K hK => ?_)
 refine e_boxA hS13 rfl (fun b15 w15 (hS15 : St _ _ [.blk b15 (.cells #[.int .i64 (0 : Int), .int .i64 (0 : Int), .int .i64 (0 : Int), .bool false, .bool false, .int .i64 (0 : Int), .int .i64 (0 : Int)] 80), _, _, _, _, _, .fz g] _) => ?_)
 clear hS13
 refine hK _ _ ?_; clear hK K
 refine l_e rfl (fun K hK => ?_)
 refine e_mapUp (zv := .pointer none) hS15 rfl rfl rfl (by kernel_rfl) (by first | rfl | trivial) (i := 4) rfl (tc_set hT b15 (Tx.mk 0 0 0 false false 0 0)) (fun w16 (hS16 : St _ _ [_, _, _, _, .mp (.int .i64) mb (List.map tc (A ++ (n, b15, (Tx.mk 0 0 0 false false 0 0)) :: B)), _, .fz g] _) => ?_)
 clear hS15
 refine hK _ _ ?_; clear hK K
 refine l_nil ?_
 refine hK14 _ _ ?_
 refine wp_seq_k (fun K17 hK17 => ?_)
 refine wp_region_lit ?_
 refine l_q rfl rfl (q_moveI rfl) ?_
 refine l_q rfl rfl (q_assignI rfl) ?_
 refine l_q rfl rfl (q_assignI rfl) ?_
 refine l_nil ?_
 refine hK17 _ _ ?_
 refine wp_ret ?_
 refine c_ret2 rfl rfl rfl ?_
 have hS18 := hS16.fr2; clear hS16
 have hS19 := hS18.fr1; clear hS18
 have hS20 : St _ _ [.pk (List.map tb (A ++ (n, b15, (Tx.mk 0 0 0 false false 0 0)) :: B)), _, _, _, _, .fz g] _ := tb_put (q := (n, b15, (Tx.mk 0 0 0 false false 0 0))) hS19; clear hS19
 have hS21 := hS20.fr5; clear hS20
 have hS22 := hS21.fr5; clear hS21
 have hS23 := hS22.fr2; clear hS22
 have hS24 := hS23.fr5; clear hS23
 have hS25 := hS24.fr5; clear hS24
 have hS26 : St _ _ [_, _, _, _, .fz g] _ := hS25.only 5; clear hS25
 have hS27 : St _ _ [co k kw nd inc (cnt + 1) mb oa O oc (A ++ (n, b15, (Tx.mk 0 0 0 false false 0 0)) :: B), .fz g] _ := co_close hS26; clear hS26
 exact ⟨_, _, rfl, ⟨_, _, O, _, g, rfl, rfl, Gle.refl _, hO, hT.set zero_ok, (setT_hit hT).symm, rfl⟩, hS27⟩
set_option maxRecDepth 100000 in
theorem begin_miss (k kw : Nat) (nd : Int) (inc cnt mb : Nat) (oa : Option Addr) (O : List Lo) (oc : Nat) (n : Int) (A B : List (Int × Nat × Tx)) (hA : ∀ q ∈ A, q.1 < n) (hB : ∀ q ∈ B, n < q.1) (hT : TOk (A ++ B)) (g : Gh) (hO : LOk g O) (hol0 : O.length ≤ 100000) (hi : inc ≤ 65537) (hc : cnt < 65536) (hnd : 0 ≤ nd ∧ nd < 16) (hn : n = numB nd inc cnt)  (w : World) (hS : St w (owns [co k kw nd inc cnt mb oa O oc (A ++ B), .fz g]) [co k kw nd inc cnt mb oa O oc (A ++ B), .fz g] w) : Calls Try.prog 12 #[pV k] w (Post w [co k kw nd inc cnt mb oa O oc (A ++ B), .fz g] fun v G => CoP k kw nd inc mb g (.tuple #[.int .i64 n, .int .i64 0]) (cnt + 1, setT (absT (A ++ B)) n (Tx.mk 0 0 0 false false 0 0), O.map Lo.l) v G) := by
 refine c_enter Try.func12 rfl rfl rfl ?_
 refine wp_seq_k (fun K1 hK1 => ?_)
 have hS2 := co_open hS; clear hS
 refine wp_region_lit ?_
 refine l_q rfl rfl (q_assignI rfl) ?_
 refine l_q rfl rfl (q_assignI rfl) ?_
 refine l_nil ?_
 refine hK1 _ _ ?_
 refine wp_seq_k (fun K3 hK3 => ?_)
 refine wp_block ?_
 refine wp_seq_k (fun K4 hK4 => ?_)
 refine wp_region_lit ?_
 refine l_q rfl rfl (q_moveP rfl) ?_
 refine l_q rfl rfl (q_peq rfl (by kernel_rfl)) ?_
 refine l_q rfl rfl (q_assignB rfl) ?_
 refine l_nil ?_
 refine hK4 _ _ ?_
 refine c_condF rfl rfl ?_
 refine wp_seq_k (fun K6 hK6 => ?_)
 refine wp_region_lit ?_
 refine l_q rfl rfl (q_moveP rfl) ?_
 refine l_q rfl rfl (q_nilCheck rfl) ?_
 refine l_q rfl rfl (q_fieldAddr (ft := 3) (o := 3) rfl (by kernel_rfl)) ?_
 refine l_q rfl rfl (q_load1 rfl (by kernel_rfl) (hS2.cell (i := 0) rfl rfl)) ?_
 refine l_q rfl rfl (q_geq rfl rfl) ?_
 refine l_q rfl rfl (q_assignB rfl) ?_
 refine l_nil ?_
 refine hK6 _ _ ?_
 refine c_condF rfl (decide_eq_false (by omega)) ?_
 refine wp_skip ?_
 refine hK3 _ _ ?_
 refine wp_seq_k (fun K8 hK8 => ?_)
 refine r_any (by kernel_rfl) hS2 (fun w9 hS9 => ?_)
 clear hS2
 refine o_pure (i := 0) (fun _ _ => trivial) rfl rfl (by kernel_rfl) (goes0 rfl) (QOk.then QOk.body) (fun w => q_moveP rfl) ?_
 refine o_pure (i := 1) (fun _ _ => trivial) rfl rfl (by kernel_rfl) (goes0 rfl) (QOk.then QOk.body) (fun w => q_nilCheck rfl) ?_
 refine o_pure (i := 2) (fun _ _ => trivial) rfl rfl (by kernel_rfl) (goes0 rfl) (QOk.then QOk.body) (fun w => q_fieldAddr (ft := 3) (o := 2) rfl (by kernel_rfl)) ?_
 refine o_held (i := 3) [4, 9, 10, 15, 16] (fun _ _ => trivial) rfl rfl (by kernel_rfl) (goes0 rfl) (QOk.then QOk.body) (q_load1 rfl (by kernel_rfl) (hS9.cell (i := 0) rfl rfl)) ?_
 refine o_pure (i := 4) (fun j w => ⟨(fun _ _ => trivial) j w, fun _ h => h⟩) rfl rfl (by kernel_rfl) (goes0 rfl) (QOk.then QOk.body) (fun w => q_mulx rfl rfl (by first | decide | omega) (by first | decide | omega)) ?_
 refine o_pure (i := 5) (fun j w => ⟨(fun _ _ => trivial) j w, fun _ h => h⟩) rfl rfl (by kernel_rfl) (goes0 rfl) (QOk.then QOk.body) (fun w => q_moveP rfl) ?_
 refine o_pure (i := 6) (fun j w => ⟨(fun _ _ => trivial) j w, fun _ h => h⟩) rfl rfl (by kernel_rfl) (goes0 rfl) (QOk.then QOk.body) (fun w => q_nilCheck rfl) ?_
 refine o_pure (i := 7) (fun j w => ⟨(fun _ _ => trivial) j w, fun _ h => h⟩) rfl rfl (by kernel_rfl) (goes0 rfl) (QOk.then QOk.body) (fun w => q_fieldAddr (ft := 3) (o := 3) rfl (by kernel_rfl)) ?_
 refine o_held (i := 8) [9, 10, 15, 16] (fun j w => ⟨(fun _ _ => trivial) j w, fun _ h => h⟩) rfl rfl (by kernel_rfl) (goes0 rfl) (QOk.then QOk.body) (q_load1 rfl (by kernel_rfl) (hS9.cell (i := 0) rfl rfl)) ?_
 refine o_pure (i := 9) (fun j w => ⟨(fun j w => ⟨(fun _ _ => trivial) j w, fun _ h => h⟩) j w, fun _ h => h⟩) rfl rfl (by kernel_rfl) (goes0 rfl) (QOk.then QOk.body) (fun w => q_addx rfl rfl (by first | decide | omega) (by first | decide | omega)) ?_
 refine o_pure (i := 10) (fun j w => ⟨(fun j w => ⟨(fun _ _ => trivial) j w, fun _ h => h⟩) j w, fun _ h => h⟩) rfl rfl (by kernel_rfl) (goes0 rfl) (QOk.then QOk.body) (fun w => q_mulx rfl rfl (by first | decide | omega) (by first | decide | omega)) ?_
 refine o_pure (i := 11) (fun j w => ⟨(fun j w => ⟨(fun _ _ => trivial) j w, fun _ h => h⟩) j w, fun _ h => h⟩) rfl rfl (by kernel_rfl) (goes0 rfl) (QOk.then QOk.body) (fun w => q_moveP rfl) ?_
 refine o_pure (i := 12) (fun j w => ⟨(fun j w => ⟨(fun _ _ => trivial) j w, fun _ h => h⟩) j w, fun _ h => h⟩) rfl rfl (by kernel_rfl) (goes0 rfl) (QOk.then QOk.body) (fun w => q_nilCheck rfl) ?_
 refine o_pure (i := 13) (fun j w => ⟨(fun j w => ⟨(fun _ _ => trivial) j w, fun _ h => h⟩) j w, fun _ h => h⟩) rfl rfl (by kernel_rfl) (goes0 rfl) (QOk.then QOk.body) (fun w => q_fieldAddr (ft := 3) (o := 1) rfl (by kernel_rfl)) ?_
 refine o_held (i := 14) [15, 16] (fun j w => ⟨(fun j w => ⟨(fun _ _ => trivial) j w, fun _ h => h⟩) j w, fun _ h => h⟩) rfl rfl (by kernel_rfl) (goes0 rfl) (QOk.then QOk.body) (q_load1 rfl (by kernel_rfl) (hS9.cell (i := 0) rfl rfl)) ?_
 refine o_pure (i := 15) (fun j w => ⟨(fun j w => ⟨(fun j w => ⟨(fun _ _ => trivial) j w, fun _ h => h⟩) j w, fun _ h => h⟩) j w, fun _ h => h⟩) rfl rfl (by kernel_rfl) (goes0 rfl) (QOk.then QOk.body) (fun w => q_izc (b := n) (by rw [hn]; unfold numB; omega) (q_addx rfl rfl (by omega) (by omega))) ?_
 refine o_pure (i := 16) (fun j w => ⟨(fun j w => ⟨(fun j w => ⟨(fun _ _ => trivial) j w, fun _ h => h⟩) j w, fun _ h => h⟩) j w, fun _ h => h⟩) rfl rfl (by kernel_rfl) (goes0 rfl) (QOk.then QOk.body) (fun w => q_assignI rfl) ?_
 refine o_done (by kernel_rfl) ?_
 refine hK8 _ _ ?_
 refine wp_seq_k (fun K10 hK10 => ?_)
 refine wp_region_lit ?_
 refine l_q rfl rfl (q_moveP rfl) ?_
 refine l_q rfl rfl (q_nilCheck rfl) ?_
 refine l_q rfl rfl (q_fieldAddr (ft := 3) (o := 3) rfl (by kernel_rfl)) ?_
 refine l_q rfl rfl (q_load1 rfl (by kernel_rfl) (hS9.cell (i := 0) rfl rfl)) ?_
 refine l_q rfl rfl (q_addx rfl rfl (by first | decide | omega) (by first | decide | omega)) ?_
 refine l_q rfl rfl (q_nilCheck rfl) ?_
 refine l_q rfl rfl (q_fieldAddr (ft := 3) (o := 3) rfl (by kernel_rfl)) ?_
 refine l_e rfl (fun K hK => ?_)
 refine e_store1 hS9 rfl rfl (by kernel_rfl) (by first | rfl | assumption) (i := 0) rfl rfl (fun w11 (hS11 : St _ _ [.blk k (.cells #[.pointer (some ⟨kw, 0, none⟩), .int .i64 nd, .int .i64 (inc : Int), .int .i64 ((cnt : Int) + (1 : Int)), .map (some mb), .slice oa O.length oc] 68), .mp (.int .i64) mb (List.map tc (A ++ B)), .pk (List.map tb (A ++ B)), .ow 42 5 oa O.length oc (List.flatMap lo O), .fz g] _) => ?_)
 clear hS9
 refine hK _ _ ?_; clear hK K
 refine l_nil ?_
 refine hK10 _ _ ?_
 refine wp_seq_k (fun K12 hK12 => ?_)
 refine wp_region_lit ?_
 refine l_q rfl rfl (q_moveP rfl) ?_
 refine l_q rfl rfl (q_nilCheck rfl) ?_
 refine l_q rfl rfl (q_fieldAddr (ft := 66) (o := 4) rfl (by kernel_rfl)) ?_
 refine l_q rfl rfl (q_load1 rfl (by kernel_rfl) (hS11.cell (i := 0) rfl rfl)) ?_
 refine l_q rfl rfl (q_moveI rfl) ?_
 refine l_q rfl rfl (q_build (ps := [(0, 1), (1, 1), (2, 1), (3, 1), (4, 1), (5, 1), (6, 1)]) (zv := .agg #[.int .i64 0, .int .i64 0, .int .i64 0, .bool false, .bool false, .int .i64 0, .int .i64 0]) (by kernel_rfl) (by kernel_rfl) rfl (by repeat' (first | exact trivial | refine ⟨fun _ => by first | rfl | assumption | exact one_if (by assumption), ?_⟩ | refine ⟨fun ⟨_, h⟩ => by simp at h, ?_⟩)) rfl) ?_
 refine l_e rfl (fun K hK => ?_)
 refine e_boxA hS11 rfl (fun b13 w13 (hS13 : St _ _ [.blk b13 (.cells #[.int .i64 (0 : Int), .int .i64 (0 : Int), .int .i64 (0 : Int), .bool false, .bool false, .int .i64 (0 : Int), .int .i64 (0 : Int)] 80), _, _, _, _, .fz g] _) => ?_)
 clear hS11
 refine hK _ _ ?_; clear hK K
 refine l_e rfl (fun K hK => ?_)
 refine e_mapUp (zv := .pointer none) hS13 rfl rfl rfl (by kernel_rfl) (by first | rfl | trivial) (i := 2) rfl (tc_ins hT hA hB b13 (Tx.mk 0 0 0 false false 0 0)) (fun w14 (hS14 : St _ _ [_, _, .mp (.int .i64) mb (List.map tc (A ++ (n, b13, (Tx.mk 0 0 0 false false 0 0)) :: B)), _, _, .fz g] _) => ?_)
 clear hS13
 refine hK _ _ ?_; clear hK K
 refine l_nil ?_
 refine hK12 _ _ ?_
 refine wp_seq_k (fun K15 hK15 => ?_)
 refine wp_region_lit ?_
 refine l_q rfl rfl (q_moveI rfl) ?_
 refine l_q rfl rfl (q_assignI rfl) ?_
 refine l_q rfl rfl (q_assignI rfl) ?_
 refine l_nil ?_
 refine hK15 _ _ ?_
 refine wp_ret ?_
 refine c_ret2 rfl rfl rfl ?_
 have hS16 := hS14.fr3; clear hS14
 have hS17 := hS16.fr1; clear hS16
 have hS18 : St _ _ [.pk (List.map tb (A ++ (n, b13, (Tx.mk 0 0 0 false false 0 0)) :: B)), _, _, _, .fz g] _ := tb_put (q := (n, b13, (Tx.mk 0 0 0 false false 0 0))) hS17; clear hS17
 have hS19 := hS18.fr4; clear hS18
 have hS20 := hS19.fr4; clear hS19
 have hS21 := hS20.fr2; clear hS20
 have hS22 := hS21.fr4; clear hS21
 have hS23 := hS22.fr4; clear hS22
 have hS24 : St _ _ [co k kw nd inc (cnt + 1) mb oa O oc (A ++ (n, b13, (Tx.mk 0 0 0 false false 0 0)) :: B), .fz g] _ := co_close hS23; clear hS23
 exact ⟨_, _, rfl, ⟨_, _, O, _, g, rfl, rfl, Gle.refl _, hO, hT.ins hA hB ⟨zero_ok, by rw [hn]; exact numB_bd hi hc hnd⟩, (setT_miss hA hB).symm, rfl⟩, hS24⟩
set_option maxRecDepth 100000 in
theorem ask_hit (k kw : Nat) (nd : Int) (inc cnt mb : Nat) (oa : Option Addr) (O : List Lo) (oc : Nat) (n : Int) (A : List (Int × Nat × Tx)) (b : Nat) (t : Tx) (B : List (Int × Nat × Tx)) (hT : TOk (A ++ (n, b, t) :: B)) (g : Gh) (hO : LOk g O) (hol0 : O.length ≤ 100000) (L : List Int) (m : Nat) (hm : L.length = m) (hml : m ≤ 2000000) (an : Option Addr) (cn : Nat) (w : World) (g2 : Gh) (hg2 : Rog [co k kw nd inc cnt mb oa O oc (A ++ (n, b, t) :: B), .fz g] w g2) (hG : SlG g2 an (iv L)) (hS : St w (owns [co k kw nd inc cnt mb oa O oc (A ++ (n, b, t) :: B), .fz g]) [co k kw nd inc cnt mb oa O oc (A ++ (n, b, t) :: B), .fz g] w) : Calls Try.prog 13 #[pV k, .int .i64 n, .slice an m cn] w (Post w [co k kw nd inc cnt mb oa O oc (A ++ (n, b, t) :: B), .fz g] fun v G => CoP k kw nd inc mb g (.int .i64 (askF nd n L (absT (A ++ (n, b, t) :: B)) (O.map Lo.l)).1) (cnt, (askF nd n L (absT (A ++ (n, b, t) :: B)) (O.map Lo.l)).2) v G) := by
 subst hm
 have hof := ofL_lt L
 have hTn := (hT.2 (n, b, t) (List.mem_append_right _ (.head _))).1
 have ht1 : t.nodes < 65536 := hTn.1
 have ht2 : t.yes < 65536 := hTn.2.1
 have ht3 : t.read < 65536 := hTn.2.2.1
 have ht4 : t.tell < 65536 := hTn.2.2.2.1
 have ht5 : t.ticks < 5 := hTn.2.2.2.2
 refine c_enter Try.func13 rfl rfl rfl ?_
 refine wp_seq_k (fun K1 hK1 => ?_)
 have hS2 := co_open hS; clear hS
 have hS3 := hS2.fr2; clear hS2
 have hS4 : St _ _ [.blk b (.cells #[.int .i64 ((t.nodes : Nat) : Int), .int .i64 ((t.yes : Nat) : Int), .int .i64 ((t.read : Nat) : Int), .bool t.asked, .bool t.com, .int .i64 ((t.tell : Nat) : Int), .int .i64 ((t.ticks : Nat) : Int)] 80), .pk (List.map tb (A ++ B)), .blk k (.cells #[.pointer (some ⟨kw, 0, none⟩), .int .i64 nd, .int .i64 (inc : Int), .int .i64 (cnt : Int), .map (some mb), .slice oa O.length oc] 68), .mp (.int .i64) mb (List.map tc (A ++ (n, b, t) :: B)), .ow 42 5 oa O.length oc (List.flatMap lo O), .fz g] _ := tb_take hS3; clear hS3
 refine wp_region_lit ?_
 refine l_q rfl rfl (q_assignI rfl) ?_
 refine l_nil ?_
 refine hK1 _ _ ?_
 refine wp_seq_k (fun K5 hK5 => ?_)
 refine wp_seq_k (fun K6 hK6 => ?_)
 refine wp_region_lit ?_
 refine l_q rfl rfl (q_moveP rfl) ?_
 refine l_q rfl rfl (q_peq rfl (by kernel_rfl)) ?_
 refine l_nil ?_
 refine hK6 _ _ ?_
 refine c_condF rfl rfl ?_
 refine wp_skip ?_
 refine hK5 _ _ ?_
 refine wp_seq_k (fun K8 hK8 => ?_)
 refine wp_region_lit ?_
 refine l_q rfl rfl (q_moveP rfl) ?_
 refine l_q rfl rfl (q_nilCheck rfl) ?_
 refine l_q rfl rfl (q_fieldAddr (ft := 66) (o := 4) rfl (by kernel_rfl)) ?_
 refine l_q rfl rfl (q_load1 rfl (by kernel_rfl) (hS4.cell (i := 2) rfl rfl)) ?_
 refine l_q rfl rfl (q_moveI rfl) ?_
 refine l_q rfl rfl (q_lookHit (zv := .pointer none) rfl rfl (by kernel_rfl) (by first | rfl | trivial) (hS4.map (i := 3) rfl) (look_hit (k := n) (x := (b, t)) (List.mem_append_right _ (.head _)) rfl)) ?_
 refine l_q rfl rfl (q_move rfl) ?_
 refine l_q rfl rfl (q_extract rfl rfl) ?_
 refine l_q rfl rfl (q_extract rfl rfl) ?_
 refine l_q rfl rfl (q_assignP rfl) ?_
 refine l_q rfl rfl (q_assignB rfl) ?_
 refine l_nil ?_
 refine hK8 _ _ ?_
 refine wp_seq_k (fun K9 hK9 => ?_)
 refine wp_seq_k (fun K10 hK10 => ?_)
 refine wp_region_lit ?_
 refine l_q rfl rfl (q_moveB rfl) ?_
 refine l_q rfl rfl (q_not rfl) ?_
 refine l_q rfl rfl (q_moveB rfl) ?_
 refine l_on rfl rfl rfl ?_
 refine l_q rfl rfl (q_moveP rfl) ?_
 refine l_on rfl rfl rfl ?_
 refine l_q rfl rfl (q_nilCheck rfl) ?_
 refine l_on rfl rfl rfl ?_
 refine l_q rfl rfl (q_fieldAddr (ft := 4) (o := 3) rfl (by kernel_rfl)) ?_
 refine l_on rfl rfl rfl ?_
 refine l_q rfl rfl (q_load1 rfl (by kernel_rfl) (hS4.cell (i := 0) rfl rfl)) ?_
 refine l_q rfl rfl (q_pickF rfl rfl rfl) ?_
 refine l_q rfl rfl (q_moveB rfl) ?_
 refine g_splitL (t := 30) rfl (fun hg11 => ?_) (fun hg11 => ?_)
 have hg11b := hg11
 try simp only [zbb] at hg11
 refine l_off rfl rfl rfl hg11b ?_
 refine l_off rfl rfl rfl hg11b ?_
 refine l_off rfl rfl rfl hg11b ?_
 refine l_off rfl rfl rfl hg11b ?_
 refine l_q rfl rfl (q_pickT rfl hg11b rfl) ?_
 refine l_nil ?_
 refine hK10 _ _ ?_
 refine c_condT rfl rfl ?_
 refine wp_seq_k (fun K13 hK13 => ?_)
 refine wp_region_lit ?_
 refine l_q rfl rfl (q_assignI rfl) ?_
 refine l_nil ?_
 refine hK13 _ _ ?_
 refine wp_ret ?_
 refine c_ret1 rfl rfl ?_
 have hS14 : St _ _ [.pk (List.map tb (A ++ (n, b, t) :: B)), _, _, _, .fz g] _ := tb_put (q := (n, b, t)) hS4; clear hS4
 have hS15 := hS14.fr4; clear hS14
 have hS16 := hS15.fr4; clear hS15
 have hS17 := hS16.fr2; clear hS16
 have hS18 := hS17.fr4; clear hS17
 have hS19 := hS18.fr4; clear hS18
 have hS20 : St _ _ [co k kw nd inc cnt mb oa O oc (A ++ (n, b, t) :: B), .fz g] _ := co_close hS19; clear hS19
 exact ⟨_, _, rfl, ⟨_, _, O, _, g, by rw [ask_was (getT_hit hT) (by simp_all)]; rfl, by rw [ask_was (getT_hit hT) (by simp_all)], Gle.refl _, hO, hT, by rw [ask_was (getT_hit hT) (by simp_all)], by rw [ask_was (getT_hit hT) (by simp_all)]⟩, hS20⟩
 have hg11b := hg11
 try simp only [zbb] at hg11
 refine l_on rfl rfl hg11b ?_
 refine l_q rfl rfl (q_moveP rfl) ?_
 refine l_on rfl rfl hg11b ?_
 refine l_q rfl rfl (q_nilCheck rfl) ?_
 refine l_on rfl rfl hg11b ?_
 refine l_q rfl rfl (q_fieldAddr (ft := 4) (o := 4) rfl (by kernel_rfl)) ?_
 refine l_on rfl rfl hg11b ?_
 refine l_q rfl rfl (q_load1 rfl (by kernel_rfl) (hS4.cell (i := 0) rfl rfl)) ?_
 refine l_q rfl rfl (q_pickF rfl hg11b rfl) ?_
 refine l_nil ?_
 refine hK10 _ _ ?_
 refine c_cond rfl (fun hc21 => ?_) (fun hc21 => ?_)
 have hc21b := hc21
 try simp only [zbb] at hc21
 refine wp_seq_k (fun K22 hK22 => ?_)
 refine wp_region_lit ?_
 refine l_q rfl rfl (q_assignI rfl) ?_
 refine l_nil ?_
 refine hK22 _ _ ?_
 refine wp_ret ?_
 refine c_ret1 rfl rfl ?_
 have hS23 : St _ _ [_, _, _, _, .fz g] _ := tb_put (q := (n, b, t)) hS4; clear hS4
 have hS24 := hS23.fr4; clear hS23
 have hS25 := hS24.fr4; clear hS24
 have hS26 := hS25.fr2; clear hS25
 have hS27 := hS26.fr4; clear hS26
 have hS28 := hS27.fr4; clear hS27
 have hS29 : St _ _ [_, .fz g] _ := co_close hS28; clear hS28
 exact ⟨_, _, rfl, ⟨_, _, O, _, g, by rw [ask_was (getT_hit hT) (by simp_all)]; rfl, by rw [ask_was (getT_hit hT) (by simp_all)], Gle.refl _, hO, hT, by rw [ask_was (getT_hit hT) (by simp_all)], by rw [ask_was (getT_hit hT) (by simp_all)]⟩, hS29⟩
 have hc21b := hc21
 try simp only [zbb] at hc21
 refine wp_skip ?_
 refine hK9 _ _ ?_
 refine wp_seq_k (fun K30 hK30 => ?_)
 refine wp_region_lit ?_
 refine l_q rfl rfl (q_moveS rfl) ?_
 refine l_e rfl (fun K hK => ?_)
 refine e_call (by kernel_rfl) (of_ok L L.length rfl hml _ _ _ (hG.mono (hg2.le hS4))) rfl (after_R hS4 (fun v31 w31 hv31 hS31 => ?_))
 clear hS4
 obtain rfl := hv31
 refine hK _ _ ?_; clear hK K
 refine l_q rfl rfl (q_move rfl) ?_
 refine l_q rfl rfl (q_extract rfl rfl) ?_
 refine l_q rfl rfl (q_extract rfl rfl) ?_
 refine l_q rfl rfl (q_assignI rfl) ?_
 refine l_q rfl rfl (q_assignB rfl) ?_
 refine l_nil ?_
 refine hK30 _ _ ?_
 refine wp_seq_k (fun K32 hK32 => ?_)
 refine wp_seq_k (fun K33 hK33 => ?_)
 refine wp_region_lit ?_
 refine l_q rfl rfl (q_moveB rfl) ?_
 refine l_q rfl rfl (q_not rfl) ?_
 refine l_nil ?_
 refine hK33 _ _ ?_
 refine c_cond rfl (fun hc34 => ?_) (fun hc34 => ?_)
 have hc34b := hc34
 try simp only [zbb] at hc34
 refine wp_seq_k (fun K35 hK35 => ?_)
 refine wp_region_lit ?_
 refine l_q rfl rfl (q_assignI rfl) ?_
 refine l_nil ?_
 refine hK35 _ _ ?_
 refine wp_ret ?_
 refine c_ret1 rfl rfl ?_
 have hS36 : St _ _ [_, _, _, _, .fz g] _ := tb_put (q := (n, b, t)) hS31; clear hS31
 have hS37 := hS36.fr4; clear hS36
 have hS38 := hS37.fr4; clear hS37
 have hS39 := hS38.fr2; clear hS38
 have hS40 := hS39.fr4; clear hS39
 have hS41 := hS40.fr4; clear hS40
 have hS42 : St _ _ [_, .fz g] _ := co_close hS41; clear hS41
 exact ⟨_, _, rfl, ⟨_, _, O, _, g, by rw [ask_bad (getT_hit hT) (by simp_all) (by simp_all) (by simp_all)]; rfl, by rw [ask_bad (getT_hit hT) (by simp_all) (by simp_all) (by simp_all)], Gle.refl _, hO, hT, by rw [ask_bad (getT_hit hT) (by simp_all) (by simp_all) (by simp_all)], by rw [ask_bad (getT_hit hT) (by simp_all) (by simp_all) (by simp_all)]⟩, hS42⟩
 have hc34b := hc34
 try simp only [zbb] at hc34
 refine wp_skip ?_
 refine hK32 _ _ ?_
 refine wp_seq_k (fun K43 hK43 => ?_)
 refine wp_region_lit ?_
 refine l_q rfl rfl (q_moveP rfl) ?_
 refine l_q rfl rfl (q_moveP rfl) ?_
 refine l_q rfl rfl (q_moveI rfl) ?_
 refine l_q rfl rfl (q_nilCheck rfl) ?_
 refine l_q rfl rfl (q_fieldAddr (ft := 78) (o := 0) rfl (by kernel_rfl)) ?_
 refine l_e rfl (fun K hK => ?_)
 refine e_store1 hS31 rfl rfl (by kernel_rfl) (by first | rfl | assumption) (i := 0) rfl rfl (fun w44 (hS44 : St _ _ [.blk b (.cells #[.int .i64 (((ofL L).1 : Nat) : Int), .int .i64 ((t.yes : Nat) : Int), .int .i64 ((t.read : Nat) : Int), .bool t.asked, .bool t.com, .int .i64 ((t.tell : Nat) : Int), .int .i64 ((t.ticks : Nat) : Int)] 80), _, _, _, _, .fz g] _) => ?_)
 clear hS31
 refine hK _ _ ?_; clear hK K
 refine l_q rfl rfl (q_nilCheck rfl) ?_
 refine l_q rfl rfl (q_fieldAddr (ft := 4) (o := 3) rfl (by kernel_rfl)) ?_
 refine l_e rfl (fun K hK => ?_)
 refine e_store1 hS44 rfl rfl (by kernel_rfl) (by first | rfl | assumption) (i := 0) rfl rfl (fun w45 (hS45 : St _ _ [.blk b (.cells #[.int .i64 (((ofL L).1 : Nat) : Int), .int .i64 ((t.yes : Nat) : Int), .int .i64 ((t.read : Nat) : Int), .bool true, .bool t.com, .int .i64 ((t.tell : Nat) : Int), .int .i64 ((t.ticks : Nat) : Int)] 80), _, _, _, _, .fz g] _) => ?_)
 clear hS44
 refine hK _ _ ?_; clear hK K
 refine l_nil ?_
 refine hK43 _ _ ?_
 refine wp_seq_k (fun K46 hK46 => ?_)
 refine wp_region_lit ?_
 refine l_q rfl rfl (q_moveP rfl) ?_
 refine l_q rfl rfl (q_moveI rfl) ?_
 refine l_q rfl rfl (q_moveI rfl) ?_
 refine l_q rfl rfl (q_moveI rfl) ?_
 refine l_e rfl (fun K hK => ?_)
 have hS48 := hS45.fr5; clear hS45
 have hS49 := hS48.fr5; clear hS48
 have hS50 := hS49.fr4; clear hS49
 refine e_call (by kernel_rfl) (send_ok k _ nd _ _ _ _ _ _ _ hO (by first | omega | (simp only [zll] <;> omega)) (1 : Int) n ((ofL L).1) ((ofL L).1) (by first | omega | (simp only [zll] <;> omega)) (by first | omega | (simp only [zll] <;> omega)) _ (St.begin (Γ := [_, _, _]) hS50)) rfl (after_M (Γ1 := [_, _, _]) hS50 (fun v47 G47 w47 hv47 hS47 => ?_))
 clear hS50
 obtain ⟨oa47, oc47, O47, g47, rfl, hle47, hO47, hOe47⟩ := hv47
 have hS51 : St _ _ [.blk k (.cells #[.pointer (some ⟨kw, 0, none⟩), .int .i64 nd, .int .i64 (inc : Int), .int .i64 (cnt : Int), .map (some mb), .slice oa47 O47.length oc47] 68), .ow 42 5 oa47 O47.length oc47 (List.flatMap lo O47), .fz g47, _, _, _] _ := hS47; clear hS47
 have hOl47 : O47.length ≤ O.length + 16 := sends_len hOe47
 refine hK _ _ ?_; clear hK K
 refine l_nil ?_
 refine hK46 _ _ ?_
 refine wp_seq_k (fun K52 hK52 => ?_)
 refine wp_region_lit ?_
 refine l_q rfl rfl (q_assignI rfl) ?_
 refine l_nil ?_
 refine hK52 _ _ ?_
 refine wp_ret ?_
 refine c_ret1 rfl rfl ?_
 have hS53 := hS51.fr4; clear hS51
 have hS54 := hS53.fr4; clear hS53
 have hS55 : St _ _ [.pk (List.map tb (A ++ (n, b, (Tx.mk ((ofL L).1) t.yes t.read true t.com t.tell t.ticks)) :: B)), _, _, .fz g47, _] _ := tb_put (q := (n, b, (Tx.mk ((ofL L).1) t.yes t.read true t.com t.tell t.ticks))) hS54; clear hS54
 have hS56 := hS55.fr4; clear hS55
 have hS57 : St _ _ [.mp (.int .i64) mb (List.map tc (A ++ (n, b, (Tx.mk ((ofL L).1) t.yes t.read true t.com t.tell t.ticks)) :: B)), _, _, _, .fz g47] _ := mp_t (t' := (Tx.mk ((ofL L).1) t.yes t.read true t.com t.tell t.ticks)) hS56; clear hS56
 have hS58 := hS57.fr4; clear hS57
 have hS59 := hS58.fr4; clear hS58
 have hS60 := hS59.fr3; clear hS59
 have hS61 := hS60.fr3; clear hS60
 have hS62 := hS61.fr4; clear hS61
 have hS63 : St _ _ [co k kw nd inc cnt mb oa47 O47 oc47 (A ++ (n, b, (Tx.mk ((ofL L).1) t.yes t.read true t.com t.tell t.ticks)) :: B), .fz g47] _ := co_close hS62; clear hS62
 exact ⟨_, _, rfl, ⟨_, _, O47, (A ++ (n, b, (Tx.mk ((ofL L).1) t.yes t.read true t.com t.tell t.ticks)) :: B), _, by rw [ask_do (getT_hit hT) (by simp_all) (by simp_all) (by simp_all)]; rfl, by rw [ask_do (getT_hit hT) (by simp_all) (by simp_all) (by simp_all)], hle47, hO47, hT.set ⟨hof, ht2, ht3, ht4, ht5⟩, by rw [ask_do (getT_hit hT) (by simp_all) (by simp_all) (by simp_all)]; first | exact (setT_hit hT).symm | (simp only [*]; exact (setT_hit hT).symm), by rw [ask_do (getT_hit hT) (by simp_all) (by simp_all) (by simp_all)]; exact hOe47⟩, hS63⟩
set_option maxRecDepth 100000 in
theorem ask_miss (k kw : Nat) (nd : Int) (inc cnt mb : Nat) (oa : Option Addr) (O : List Lo) (oc : Nat) (n : Int) (T : List (Int × Nat × Tx)) (hn : ∀ q ∈ T, q.1 ≠ n) (hT : TOk T) (g : Gh) (hO : LOk g O) (hol0 : O.length ≤ 100000) (L : List Int) (m : Nat) (hm : L.length = m) (hml : m ≤ 2000000) (an : Option Addr) (cn : Nat) (w : World) (g2 : Gh) (hg2 : Rog [co k kw nd inc cnt mb oa O oc T, .fz g] w g2) (hG : SlG g2 an (iv L)) (hS : St w (owns [co k kw nd inc cnt mb oa O oc T, .fz g]) [co k kw nd inc cnt mb oa O oc T, .fz g] w) : Calls Try.prog 13 #[pV k, .int .i64 n, .slice an m cn] w (Post w [co k kw nd inc cnt mb oa O oc T, .fz g] fun v G => CoP k kw nd inc mb g (.int .i64 (askF nd n L (absT T) (O.map Lo.l)).1) (cnt, (askF nd n L (absT T) (O.map Lo.l)).2) v G) := by
 subst hm
 refine c_enter Try.func13 rfl rfl rfl ?_
 refine wp_seq_k (fun K1 hK1 => ?_)
 have hS2 := co_open hS; clear hS
 refine wp_region_lit ?_
 refine l_q rfl rfl (q_assignI rfl) ?_
 refine l_nil ?_
 refine hK1 _ _ ?_
 refine wp_seq_k (fun K3 hK3 => ?_)
 refine wp_seq_k (fun K4 hK4 => ?_)
 refine wp_region_lit ?_
 refine l_q rfl rfl (q_moveP rfl) ?_
 refine l_q rfl rfl (q_peq rfl (by kernel_rfl)) ?_
 refine l_nil ?_
 refine hK4 _ _ ?_
 refine c_condF rfl rfl ?_
 refine wp_skip ?_
 refine hK3 _ _ ?_
 refine wp_seq_k (fun K6 hK6 => ?_)
 refine wp_region_lit ?_
 refine l_q rfl rfl (q_moveP rfl) ?_
 refine l_q rfl rfl (q_nilCheck rfl) ?_
 refine l_q rfl rfl (q_fieldAddr (ft := 66) (o := 4) rfl (by kernel_rfl)) ?_
 refine l_q rfl rfl (q_load1 rfl (by kernel_rfl) (hS2.cell (i := 0) rfl rfl)) ?_
 refine l_q rfl rfl (q_moveI rfl) ?_
 refine l_q rfl rfl (q_lookMiss (zv := .pointer none) rfl rfl (by kernel_rfl) (by first | rfl | trivial) (hS2.map (i := 1) rfl) (tc_miss hn)) ?_
 refine l_q rfl rfl (q_move rfl) ?_
 refine l_q rfl rfl (q_extract rfl rfl) ?_
 refine l_q rfl rfl (q_extract rfl rfl) ?_
 refine l_q rfl rfl (q_assignP rfl) ?_
 refine l_q rfl rfl (q_assignB rfl) ?_
 refine l_nil ?_
 refine hK6 _ _ ?_
 refine wp_seq_k (fun K7 hK7 => ?_)
 refine wp_seq_k (fun K8 hK8 => ?_)
 refine wp_region_lit ?_
 refine l_q rfl rfl (q_moveB rfl) ?_
 refine l_q rfl rfl (q_not rfl) ?_
 refine l_q rfl rfl (q_moveB rfl) ?_
 refine l_off rfl rfl rfl rfl ?_
 refine l_off rfl rfl rfl rfl ?_
 refine l_off rfl rfl rfl rfl ?_
 refine l_off rfl rfl rfl rfl ?_
 refine l_q rfl rfl (q_pickT rfl rfl rfl) ?_
 refine l_q rfl rfl (q_moveB rfl) ?_
 refine l_off rfl rfl rfl rfl ?_
 refine l_off rfl rfl rfl rfl ?_
 refine l_off rfl rfl rfl rfl ?_
 refine l_off rfl rfl rfl rfl ?_
 refine l_q rfl rfl (q_pickT rfl rfl rfl) ?_
 refine l_nil ?_
 refine hK8 _ _ ?_
 refine c_condT rfl rfl ?_
 refine wp_seq_k (fun K10 hK10 => ?_)
 refine wp_region_lit ?_
 refine l_q rfl rfl (q_assignI rfl) ?_
 refine l_nil ?_
 refine hK10 _ _ ?_
 refine wp_ret ?_
 refine c_ret1 rfl rfl ?_
 have hS11 : St _ _ [co k kw nd inc cnt mb oa O oc T, .fz g] _ := co_close hS2; clear hS2
 exact ⟨_, _, rfl, ⟨_, _, O, _, g, by rw [ask_none (getT_miss hn)]; rfl, by rw [ask_none (getT_miss hn)], Gle.refl _, hO, hT, by rw [ask_none (getT_miss hn)], by rw [ask_none (getT_miss hn)]⟩, hS11⟩
set_option maxRecDepth 100000 in
theorem out_ok (k kw : Nat) (nd : Int) (inc cnt mb : Nat) (oa : Option Addr) (O : List Lo) (oc : Nat) (T : List (Int × Nat × Tx)) (hT : TOk T) (g : Gh) (hO : LOk g O) (hol0 : O.length ≤ 100000)  (w : World) (hS : St w (owns [co k kw nd inc cnt mb oa O oc T, .fz g]) [co k kw nd inc cnt mb oa O oc T, .fz g] w) : Calls Try.prog 14 #[pV k] w (Post w [co k kw nd inc cnt mb oa O oc T, .fz g] fun v G => v = .slice oa O.length oc ∧ G = [.ow 42 5 oa O.length oc (List.flatMap lo O), co k kw nd inc cnt mb none [] 0 T, .fz g]) := by
 refine c_enter Try.func14 rfl rfl rfl ?_
 refine wp_seq_k (fun K1 hK1 => ?_)
 have hS2 := co_open hS; clear hS
 refine wp_region_lit ?_
 refine l_q rfl rfl (q_assignS rfl) ?_
 refine l_nil ?_
 refine hK1 _ _ ?_
 refine wp_seq_k (fun K3 hK3 => ?_)
 refine wp_seq_k (fun K4 hK4 => ?_)
 refine wp_region_lit ?_
 refine l_q rfl rfl (q_moveP rfl) ?_
 refine l_q rfl rfl (q_peq rfl (by kernel_rfl)) ?_
 refine l_nil ?_
 refine hK4 _ _ ?_
 refine c_condF rfl rfl ?_
 refine wp_skip ?_
 refine hK3 _ _ ?_
 refine wp_seq_k (fun K6 hK6 => ?_)
 refine wp_region_lit ?_
 refine l_q rfl rfl (q_moveP rfl) ?_
 refine l_q rfl rfl (q_nilCheck rfl) ?_
 refine l_q rfl rfl (q_fieldAddr (ft := 36) (o := 5) rfl (by kernel_rfl)) ?_
 refine l_q rfl rfl (q_load1 rfl (by kernel_rfl) (hS2.cell (i := 0) rfl rfl)) ?_
 refine l_q rfl rfl (q_assignS rfl) ?_
 refine l_nil ?_
 refine hK6 _ _ ?_
 refine wp_seq_k (fun K7 hK7 => ?_)
 refine wp_region_lit ?_
 refine l_q rfl rfl (q_moveP rfl) ?_
 refine l_q rfl rfl (q_nilCheck rfl) ?_
 refine l_q rfl rfl (q_fieldAddr (ft := 36) (o := 5) rfl (by kernel_rfl)) ?_
 refine l_e rfl (fun K hK => ?_)
 refine e_store1 hS2 rfl rfl (by kernel_rfl) (by first | rfl | assumption) (i := 0) rfl rfl (fun w8 (hS8 : St _ _ [.blk k (.cells #[.pointer (some ⟨kw, 0, none⟩), .int .i64 nd, .int .i64 (inc : Int), .int .i64 (cnt : Int), .map (some mb), .slice none 0 0] 68), .mp (.int .i64) mb (List.map tc T), .pk (List.map tb T), .ow 42 5 oa O.length oc (List.flatMap lo O), .fz g] _) => ?_)
 clear hS2
 refine hK _ _ ?_; clear hK K
 refine l_nil ?_
 refine hK7 _ _ ?_
 refine wp_seq_k (fun K9 hK9 => ?_)
 refine wp_region_lit ?_
 refine l_q rfl rfl (q_moveS rfl) ?_
 refine l_q rfl rfl (q_assignS rfl) ?_
 refine l_nil ?_
 refine hK9 _ _ ?_
 refine wp_ret ?_
 refine c_ret1 rfl rfl ?_
 have hS10 := hS8.ow_nil 42 5; clear hS8
 have hS11 := hS10.fr5; clear hS10
 have hS12 := hS11.fr5; clear hS11
 have hS13 := hS12.fr2; clear hS12
 have hS14 := hS13.fr5; clear hS13
 have hS15 := hS14.fr5; clear hS14
 have hS16 := hS15.fr5; clear hS15
 have hS17 : St _ _ [co k kw nd inc cnt mb none ([] : List Lo) 0 T, _, .fz g] _ := co_close hS16; clear hS16
 have hS18 := hS17.fr2; clear hS17
 have hS19 := hS18.fr1; clear hS18
 have hS20 := hS19.fr2; clear hS19
 exact ⟨_, _, rfl, ⟨rfl, rfl⟩, hS20⟩
end Go.Proofs.Yteojpdijmnpmgaa
namespace Go.Proofs.Yteojpdijmnpmgaa
open Go Go.RowKit Go.Maps Go.Sort Go.Shelf
theorem sortsA (m : Nat) : AnyZI.SortsIn Try.prog sortedA_ren Fence.wide m :=
  ⟨fun blk off cap ss W hH hblk hsz => callsIn_wide.2 (AnyM.slices_Sort_int sortA blk off cap ss W hH hblk hsz),
   fun p cap W => callsIn_wide.2 (AnyM.slices_Sort_int_none sortA p cap W)⟩
theorem psorted_ok (kb mb : Nat) (L : List (Int × Nat × Tx)) (hT : TOk L) (hl : L.length ≤ 1000000) (w : World) (hkb : w.heap[kb]? = some (.cells #[.map (some mb)] 66)) (hM : MapSat (.int .i64) mb (List.map tc L) w) :
    Calls Try.prog 42 #[.func (.func 62) #[] #[.pointer (some ⟨kb, 0, none⟩)]] w (PostN w fun v G => ∃ ad cap, v = .slice ad (List.map Prod.fst L).length cap ∧ G = [.ow 3 1 ad (List.map Prod.fst L).length cap (iv (List.map Prod.fst L))]) := by
  have hr : ∀ q ∈ L, -9223372036854775808 ≤ q.1 ∧ q.1 ≤ 9223372036854775807 := fun q hq => by have := (hT.2 q hq).2; omega
  have hp : (List.map Prod.fst L).Pairwise (· < ·) := by rw [List.pairwise_map]; exact hT.1
  obtain ⟨D, hown, hperm, hsz⟩ := hM.owns (k := 3) Try.underlying3 (key := fun q => q.1) (fun q => rfl) hr (by unfold maxLen; omega)
  have hseq : SeqGives Fence.wide 2 Try.prog 62 #[.pointer (some ⟨kb, 0, none⟩)] encZ (fun ss => ss.Perm (intKeys D)) (Maps.size D) w :=
    AnyZI.keys_gives (ρ := keysA_ren) { keysA with } Fence.wide _ trivial rfl (by omega) kb mb L.length D w (Array.getElem?_eq_some_iff.1 hkb).1 (cell_blk hkb rfl) hown
  have cS := AnyZI.sorted_in sortedA Fence.wide 5 trivial trivial trivial trivial rfl (by omega) (sortsA _) (enters_of Try.func61 (by kernel_rfl) rfl) 62 #[.pointer (some ⟨kb, 0, none⟩)] trivial (enters_of Try.func62 (by kernel_rfl) rfl) _ _ (by rw [hsz]; unfold maxLen; omega) (by rw [hsz]; omega) _ hseq
  change CallsIn _ _ Try.prog 42 _ _ _ at cS
  refine ((callsIn_wide (n := 5)).1 cS).mono ?_
  rintro e w' ⟨v, ss, rfl, hS, hrow, _, hb⟩
  have hss : ss.Perm (List.map Prod.fst L) := hS.trans hperm
  rw [sort_rise hss hp, hss.length_eq] at hrow
  obtain ⟨ad, cap, rfl, hSt⟩ := St.ofRow hb hrow (by decide)
  exact ⟨_, _, rfl, ⟨ad, cap, rfl, rfl⟩, hSt⟩
attribute [local irreducible] Oper.wp Sem.run Code.wp wpList wpAnyO callFunc execOp Calls
attribute [local irreducible] toU short rencs renc rowE encRow rightB zig unzig decRw risB lastN bitsOf nodesTo readL recB ofL sends getT delT setT
set_option maxRecDepth 100000 in
theorem mkeys_ok (mb : Nat) (w : World) : Calls Try.prog 43 #[.map (some mb)] w (PostN w fun v G => ∃ b, v = .func (.func 62) #[] #[.pointer (some ⟨b, 0, none⟩)] ∧ G = [.blk b (.cells #[.map (some mb)] 66)]) := by
 have hS := St.start w
 refine c_enter Try.func43 rfl rfl rfl ?_
 refine wp_seq_k (fun K1 hK1 => ?_)
 refine wp_region_lit ?_
 refine l_e rfl (fun K hK => ?_)
 refine e_box hS rfl (fun b2 w2 (hS2 : St _ _ [.blk b2 (.cells #[.map (some mb)] 66)] _) => ?_)
 clear hS
 refine hK _ _ ?_; clear hK K
 refine l_q rfl rfl (q_assign rfl) ?_
 refine l_nil ?_
 refine hK1 _ _ ?_
 refine wp_seq_k (fun K3 hK3 => ?_)
 refine wp_region_lit ?_
 refine l_q rfl rfl (q_makeFunc) ?_
 refine l_q rfl rfl (q_assign rfl) ?_
 refine l_nil ?_
 refine hK3 _ _ ?_
 refine wp_ret ?_
 refine c_ret1 rfl rfl ?_
 exact ⟨_, _, rfl, ⟨_, rfl, rfl⟩, hS2⟩
set_option maxRecDepth 100000 in
theorem pending_ok (k kw : Nat) (nd : Int) (inc cnt mb : Nat) (oa : Option Addr) (O : List Lo) (oc : Nat) (T : List (Int × Nat × Tx)) (hT : TOk T) (g : Gh) (hO : LOk g O) (hol0 : O.length ≤ 100000) (hl : T.length ≤ 1000000)  (w : World) (hS : St w (owns [co k kw nd inc cnt mb oa O oc T, .fz g]) [co k kw nd inc cnt mb oa O oc T, .fz g] w) : Calls Try.prog 23 #[pV k] w (Post w [co k kw nd inc cnt mb oa O oc T, .fz g] fun v G => ∃ ad cap, v = .slice ad (List.map Prod.fst T).length cap ∧ G = [.ow 3 1 ad (List.map Prod.fst T).length cap (iv (List.map Prod.fst T)), co k kw nd inc cnt mb oa O oc T, .fz g]) := by
 refine c_enter Try.func23 rfl rfl rfl ?_
 refine wp_seq_k (fun K1 hK1 => ?_)
 have hS2 := co_open hS; clear hS
 refine wp_region_lit ?_
 refine l_q rfl rfl (q_assignS rfl) ?_
 refine l_nil ?_
 refine hK1 _ _ ?_
 refine wp_seq_k (fun K3 hK3 => ?_)
 refine wp_seq_k (fun K4 hK4 => ?_)
 refine wp_region_lit ?_
 refine l_q rfl rfl (q_moveP rfl) ?_
 refine l_q rfl rfl (q_peq rfl (by kernel_rfl)) ?_
 refine l_nil ?_
 refine hK4 _ _ ?_
 refine c_condF rfl rfl ?_
 refine wp_skip ?_
 refine hK3 _ _ ?_
 refine wp_seq_k (fun K6 hK6 => ?_)
 refine wp_region_lit ?_
 refine l_q rfl rfl (q_moveP rfl) ?_
 refine l_q rfl rfl (q_nilCheck rfl) ?_
 refine l_q rfl rfl (q_fieldAddr (ft := 66) (o := 4) rfl (by kernel_rfl)) ?_
 refine l_q rfl rfl (q_load1 rfl (by kernel_rfl) (hS2.cell (i := 0) rfl rfl)) ?_
 refine l_e rfl (fun K hK => ?_)
 refine e_call (by kernel_rfl) (mkeys_ok mb _) rfl (after_N hS2 (fun v7 G7 w7 hv7 hS7 => ?_))
 clear hS2
 obtain ⟨b7, rfl, rfl⟩ := hv7
 have hS8 : St _ _ [.blk b7 (.cells #[.map (some mb)] 66), .blk k (.cells #[.pointer (some ⟨kw, 0, none⟩), .int .i64 nd, .int .i64 (inc : Int), .int .i64 (cnt : Int), .map (some mb), .slice oa O.length oc] 68), .mp (.int .i64) mb (List.map tc T), .pk (List.map tb T), .ow 42 5 oa O.length oc (List.flatMap lo O), .fz g] _ := hS7; clear hS7
 refine hK _ _ ?_; clear hK K
 refine l_e rfl (fun K hK => ?_)
 refine e_call (by kernel_rfl) (psorted_ok b7 mb T hT hl _ (hS8.blk (i := 0) rfl) (hS8.map (i := 2) rfl)) rfl (after_N hS8 (fun v9 G9 w9 hv9 hS9 => ?_))
 clear hS8
 obtain ⟨ad9, cp9, rfl, rfl⟩ := hv9
 have hS10 : St _ _ [.ow 3 1 ad9 ((List.map Prod.fst T).length) cp9 (iv (List.map Prod.fst T)), _, _, _, _, _, .fz g] _ := hS9; clear hS9
 refine hK _ _ ?_; clear hK K
 refine l_q rfl rfl (q_assignS rfl) ?_
 refine l_nil ?_
 refine hK6 _ _ ?_
 refine wp_ret ?_
 refine c_ret1 rfl rfl ?_
 have hS11 := hS10.fr6; clear hS10
 have hS12 := hS11.fr1; clear hS11
 have hS13 := hS12.fr6; clear hS12
 have hS14 := hS13.fr6; clear hS13
 have hS15 := hS14.fr6; clear hS14
 have hS16 := hS15.fr6; clear hS15
 have hS17 : St _ _ [_, _, _, _, _, .fz g] _ := hS16.only 6; clear hS16
 have hS18 : St _ _ [co k kw nd inc cnt mb oa O oc T, _, .fz g] _ := co_close hS17; clear hS17
 have hS19 := hS18.fr2; clear hS18
 have hS20 := hS19.fr1; clear hS19
 have hS21 := hS20.fr2; clear hS20
 exact ⟨_, _, rfl, ⟨ad9, cp9, rfl, rfl⟩, hS21⟩
theorem state_ok (k kw : Nat) (nd : Int) (inc cnt mb : Nat) (oa : Option Addr) (O : List Lo) (oc : Nat) (T : List (Int × Nat × Tx)) (hT : TOk T) (g : Gh) (hO : LOk g O) (hol0 : O.length ≤ 100000) (n : Int) (w : World) (hS : St w (owns [co k kw nd inc cnt mb oa O oc T, .fz g]) [co k kw nd inc cnt mb oa O oc T, .fz g] w) :
    Calls Try.prog 17 #[pV k, .int .i64 n] w (Post w [co k kw nd inc cnt mb oa O oc T, .fz g] fun v G => v = .int .i64 (staT (getT (absT T) n)) ∧ G = [co k kw nd inc cnt mb oa O oc T, .fz g]) := by
  rcases hT.split n with ⟨A, b, t, B, rfl⟩ | ⟨A, B, rfl, hA, hB⟩
  · exact state_hit k kw nd inc cnt mb oa O oc n A b t B hT g hO hol0 w hS
  · exact state_miss k kw nd inc cnt mb oa O oc n (A ++ B) (sides_ne hA hB) hT g hO hol0 w hS
theorem ask_ok (k kw : Nat) (nd : Int) (inc cnt mb : Nat) (oa : Option Addr) (O : List Lo) (oc : Nat) (T : List (Int × Nat × Tx)) (hT : TOk T) (g : Gh) (hO : LOk g O) (hol0 : O.length ≤ 100000) (n : Int) (L : List Int) (m : Nat) (hm : L.length = m) (hml : m ≤ 2000000) (an : Option Addr) (cn : Nat) (w : World) (g2 : Gh) (hg2 : Rog [co k kw nd inc cnt mb oa O oc T, .fz g] w g2) (hG : SlG g2 an (iv L)) (hS : St w (owns [co k kw nd inc cnt mb oa O oc T, .fz g]) [co k kw nd inc cnt mb oa O oc T, .fz g] w) :
    Calls Try.prog 13 #[pV k, .int .i64 n, .slice an m cn] w (Post w [co k kw nd inc cnt mb oa O oc T, .fz g] fun v G => CoP k kw nd inc mb g (.int .i64 (askF nd n L (absT T) (O.map Lo.l)).1) (cnt, (askF nd n L (absT T) (O.map Lo.l)).2) v G) := by
  rcases hT.split n with ⟨A, b, t, B, rfl⟩ | ⟨A, B, rfl, hA, hB⟩
  · exact ask_hit k kw nd inc cnt mb oa O oc n A b t B hT g hO hol0 L m hm hml an cn w g2 hg2 hG hS
  · exact ask_miss k kw nd inc cnt mb oa O oc n (A ++ B) (sides_ne hA hB) hT g hO hol0 L m hm hml an cn w g2 hg2 hG hS
theorem begin_ok (k kw : Nat) (nd : Int) (inc cnt mb : Nat) (oa : Option Addr) (O : List Lo) (oc : Nat) (T : List (Int × Nat × Tx)) (hT : TOk T) (g : Gh) (hO : LOk g O) (hol0 : O.length ≤ 100000) (n : Int) (hi : inc ≤ 65537) (hc : cnt < 65536) (hnd : 0 ≤ nd ∧ nd < 16) (hn : n = numB nd inc cnt) (w : World) (hS : St w (owns [co k kw nd inc cnt mb oa O oc T, .fz g]) [co k kw nd inc cnt mb oa O oc T, .fz g] w) :
    Calls Try.prog 12 #[pV k] w (Post w [co k kw nd inc cnt mb oa O oc T, .fz g] fun v G => CoP k kw nd inc mb g (.tuple #[.int .i64 n, .int .i64 0]) (cnt + 1, setT (absT T) n (Tx.mk 0 0 0 false false 0 0), O.map Lo.l) v G) := by
  rcases hT.split n with ⟨A, b, t, B, rfl⟩ | ⟨A, B, rfl, hA, hB⟩
  · exact begin_hit k kw nd inc cnt mb oa O oc n A b t B hT g hO hol0 hi hc hnd hn w hS
  · exact begin_miss k kw nd inc cnt mb oa O oc n A B hA hB hT g hO hol0 hi hc hnd hn w hS
end Go.Proofs.Yteojpdijmnpmgaa
namespace Go.Proofs.Yteojpdijmnpmgaa
open Go.RowKit
theorem waL_bytes {l m : List Nat} (h : Bytes l) (h' : Bytes m) : Bytes (waL l m) := by
  unfold waL
  split
  · exact apL_bytes h (fr_bytes h')
  · exact h
theorem waL_len (l m : List Nat) : l.length ≤ (waL l m).length ∧ (waL l m).length ≤ l.length + m.length + 5 := by
  unfold waL
  split
  · have := apL_len l (fr m); rw [fr_len] at this; omega
  · omega
theorem rdB_bytes {g : Gh} {rs : List Rc} (h : RsOk g rs) (z : Int) : Bytes (rdB (rs.map Rc.abs) z) := by
  unfold rdB rdO
  cases hf : (rs.map Rc.abs).find? (fun r => decide (((r.1 : Nat) : Int) = z)) with
  | none => exact Bytes.nil
  | some r =>
    obtain ⟨q, hq, rfl⟩ := List.mem_map.1 (List.mem_of_find?_eq_some hf)
    exact (h q hq).2.1
/-- What the disk's bytes are behind a record. -/
abbrev recL (l : List Nat) (ns : List Int) : List Nat := waL l (rowE (ns.map vI)).1
abbrev recE (l : List Nat) (ns : List Int) : Nat := waE l (rowE (ns.map vI)).1
theorem waR_len (R : List (Nat × List Nat)) (l m : List Nat) (b : Nat) : (waR R l m b).length ≤ R.length + 1 := by
  unfold waR
  split
  · rw [List.length_append]; exact Nat.le_refl _
  · omega
theorem rs_len {rs rs' : List Rc} {l m : List Nat} {b : Nat} (h : rs'.map Rc.abs = waR (rs.map Rc.abs) l m b) : rs'.length ≤ rs.length + 1 := by
  have h1 := congrArg List.length h
  have h2 := waR_len (rs.map Rc.abs) l m b
  rw [List.length_map] at h1 h2; omega
attribute [local irreducible] Oper.wp Sem.run Code.wp wpList wpAnyO callFunc execOp Calls
attribute [local irreducible] toU short rencs renc rowE encRow rightB zig unzig decRw risB lastN bitsOf nodesTo readL recB ofL sends getT delT setT waL waE waN waR apL apE
end Go.Proofs.Yteojpdijmnpmgaa
namespace Go.Proofs.Yteojpdijmnpmgaa
attribute [local irreducible] crc
theorem tk_pre {l l' : List Nat} {k : Nat} (h : l'.take k = l.take k) : ∀ i, i < k → l'.getD i 0 = l.getD i 0 := fun i hi => by
  rw [List.getD_eq_getElem?_getD, List.getD_eq_getElem?_getD]
  have h1 := congrArg (fun l : List Nat => l[i]?) h
  simp only [List.getElem?_take, if_pos hi] at h1
  rw [h1]
theorem tkN_loc {l l' : List Nat} {n : Nat} (h : tkN l = some n) (he : l'.take (5 + n) = l.take (5 + n)) : tkN l' = some n := by
  have hl := tkN_le h
  have hlen : 5 + n ≤ l'.length := by have := congrArg List.length he; rw [List.length_take, List.length_take] at this; omega
  have hg := tk_pre he
  have hd : (l'.drop 5).take n = (l.drop 5).take n := by
    have := congrArg (List.drop 5) he
    rw [List.drop_take, List.drop_take] at this
    rwa [show 5 + n - 5 = n by omega] at this
  unfold tkN at h ⊢
  rw [hg 0 (by omega), hg 1 (by omega), hg 2 (by omega), hg 3 (by omega), hg 4 (by omega)]
  split at h
  · cases h
  · rename_i h1
    split at h
    · cases h
    · rename_i h2
      split at h
      · rename_i h3
        have hn : l.getD 1 0 * 2 ^ 8 + l.getD 2 0 + 1 = n := by injection h
        rw [hn] at h2 h3 ⊢
        rw [if_neg (fun h => h.elim (fun h => by omega) (fun h => h1 (.inr h))), if_neg (by omega), hd, if_pos h3]
      · cases h
theorem tkN_fr {m : List Nat} (h : waOk m) : tkN (fr m) = some m.length := by
  obtain ⟨h1, h2⟩ := h
  have e : (m.length - 1) / 2 ^ 8 % 256 * 2 ^ 8 + (m.length - 1) % 256 + 1 = m.length := by omega
  have g1 : (fr m).getD 1 0 = (m.length - 1) / 2 ^ 8 % 256 := rfl
  have g2 : (fr m).getD 2 0 = (m.length - 1) % 256 := rfl
  have g3 : (fr m).getD 3 0 = crc 65535 (fb m) / 2 ^ 8 % 256 := rfl
  have g4 : (fr m).getD 4 0 = crc 65535 (fb m) % 256 := rfl
  have g0 : (fr m).getD 0 0 = 76 := rfl
  have gd : (fr m).drop 5 = m := rfl
  unfold tkN
  rw [g0, g1, g2, g3, g4, gd, e, fr_len, if_neg (by omega), if_neg (by omega), List.take_length]
  rw [if_pos ⟨rfl, rfl⟩]
attribute [local irreducible] tkN fr
theorem tkN_nil : tkN [] = none := by
  cases h : tkN [] with
  | none => rfl
  | some n => have := tkN_le h; simp at this
theorem scan_nil (a : Nat) : scan [] a = ([], 0) := scan_none tkN_nil
theorem fr_drop (m : List Nat) : (fr m).drop 5 = m := by unfold fr; rfl
theorem scan_fr {m : List Nat} (h : waOk m) (a : Nat) : scan (fr m) a = ([(a, m)], 5 + m.length) := by
  rw [scan_some (tkN_fr h), fr_drop, List.take_length, List.drop_of_length_le (by rw [fr_len]; omega), scan_nil]
  rfl
theorem scan_app : ∀ (f : Nat) (l m : List Nat) (a : Nat), l.length ≤ f → (scan l a).2 = l.length → scan (l ++ m) a = ((scan l a).1 ++ (scan m (a + l.length)).1, l.length + (scan m (a + l.length)).2)
  | f, l, m, a, hf, hw => by
    cases h : tkN l with
    | none =>
      rw [scan_none h] at hw ⊢
      have hl : l = [] := List.eq_nil_of_length_eq_zero hw.symm
      subst hl
      simp
    | some n =>
      have hle := tkN_le h
      rw [scan_some h] at hw
      cases f with
      | zero => omega
      | succ f =>
        have h2 : tkN (l ++ m) = some n := tkN_loc h (by rw [List.take_append_of_le_length (by omega)])
        have hw' : 5 + n + (scan (l.drop (5 + n)) (a + (5 + n))).2 = l.length := hw
        have ih := scan_app f (l.drop (5 + n)) m (a + (5 + n)) (by rw [List.length_drop]; omega) (by rw [List.length_drop]; omega)
        rw [scan_some h2, scan_some h, List.drop_append_of_le_length (i := 5) (by omega), List.drop_append_of_le_length (i := 5 + n) (by omega), ih, List.take_append_of_le_length (by rw [List.length_drop]; omega)]
        have e : a + (5 + n) + (l.drop (5 + n)).length = a + l.length := by rw [List.length_drop]; omega
        rw [e]
        refine Prod.ext rfl ?_
        show 5 + n + ((l.drop (5 + n)).length + _) = l.length + _
        rw [List.length_drop]; omega
theorem scan_len : ∀ (f : Nat) (l : List Nat) (a : Nat), l.length ≤ f → (scan l a).1.length ≤ (scan l a).2 ∧ ∀ r ∈ (scan l a).1, a ≤ r.1 ∧ r.1 + 5 + r.2.length ≤ a + (scan l a).2
  | f, l, a, hf => by
    cases h : tkN l with
    | none => rw [scan_none h]; exact ⟨Nat.le_refl _, fun r hr => by cases hr⟩
    | some n =>
      have hle := tkN_le h
      rw [scan_some h]
      cases f with
      | zero => omega
      | succ f =>
        obtain ⟨h1, h2⟩ := scan_len f (l.drop (5 + n)) (a + (5 + n)) (by rw [List.length_drop]; omega)
        refine ⟨?_, fun r hr => ?_⟩
        · show _ + 1 ≤ 5 + n + _
          omega
        · show _ ∧ _ ≤ a + (5 + n + _)
          rcases List.mem_cons.1 hr with rfl | hr
          · refine ⟨Nat.le_refl _, ?_⟩
            show a + 5 + ((l.drop 5).take n).length ≤ _
            rw [List.length_take, List.length_drop]; omega
          · have := h2 r hr; omega
/-- Numbers rise. -/
def Inc (R : List (Nat × List Nat)) : Prop := R.Pairwise fun x y => x.1 < y.1
theorem scan_inc : ∀ (f : Nat) (l : List Nat) (a : Nat), l.length ≤ f → Inc (scan l a).1
  | f, l, a, hf => by
    cases h : tkN l with
    | none => rw [scan_none h]; exact .nil
    | some n =>
      have hle := tkN_le h
      rw [scan_some h]
      cases f with
      | zero => omega
      | succ f =>
        refine .cons (fun r hr => ?_) (scan_inc f (l.drop (5 + n)) (a + (5 + n)) (by rw [List.length_drop]; omega))
        have := (scan_len f (l.drop (5 + n)) (a + (5 + n)) (by rw [List.length_drop]; omega)).2 r hr
        show a < r.1
        omega
/-- Bytes that are a log's, whole: these records, and nothing behind. -/
def Whole (l : List Nat) (a : Nat) (R : List (Nat × List Nat)) : Prop := scan l a = (R, l.length)
theorem Whole.len {l : List Nat} {a : Nat} {R : List (Nat × List Nat)} (h : Whole l a R) : R.length ≤ l.length ∧ ∀ r ∈ R, a ≤ r.1 ∧ r.1 + 5 + r.2.length ≤ a + l.length := by
  have := scan_len l.length l a (Nat.le_refl _)
  rwa [show scan l a = (R, l.length) from h] at this
theorem Whole.inc {l : List Nat} {a : Nat} {R : List (Nat × List Nat)} (h : Whole l a R) : Inc R := by
  have := scan_inc l.length l a (Nat.le_refl _)
  rwa [show scan l a = (R, l.length) from h] at this
theorem whole_nil (a : Nat) : Whole [] a [] := scan_nil a
theorem Whole.app {l m : List Nat} {a : Nat} {R : List (Nat × List Nat)} (h : Whole l a R) (hm : waOk m) : Whole (l ++ fr m) a (R ++ [(a + l.length, m)]) := by
  have h2 : (scan l a).2 = l.length := by rw [show scan l a = (R, l.length) from h]
  have h1 := scan_app l.length l (fr m) a (Nat.le_refl _) h2
  rw [show scan l a = (R, l.length) from h, scan_fr hm] at h1
  unfold Whole
  rw [h1, List.length_append, fr_len]
  refine Prod.ext rfl ?_
  show l.length + (5 + m.length) = l.length + (m.length + 5)
  omega
theorem Whole.drop : ∀ (i : Nat) {l : List Nat} {a : Nat} {R : List (Nat × List Nat)} {r : Nat × List Nat}, Whole l a R → R[i]? = some r → Whole (l.drop (r.1 - a)) r.1 (R.drop i)
  | 0, l, a, R, r, h, hr => by
    cases hk : tkN l with
    | none =>
      unfold Whole at h; rw [scan_none hk] at h
      obtain ⟨rfl, -⟩ := Prod.mk.inj h
      simp at hr
    | some n =>
      have h0 := h
      unfold Whole at h; rw [scan_some hk] at h
      obtain ⟨rfl, -⟩ := Prod.mk.inj h
      have hr : ((a, (l.drop 5).take n) : Nat × List Nat) = r := by simpa using hr
      subst hr
      show Whole (l.drop (a - a)) a _
      rw [Nat.sub_self]
      exact h0
  | i + 1, l, a, R, r, h, hr => by
    cases hk : tkN l with
    | none =>
      unfold Whole at h; rw [scan_none hk] at h
      obtain ⟨rfl, -⟩ := Prod.mk.inj h
      simp at hr
    | some n =>
      have hle := tkN_le hk
      unfold Whole at h; rw [scan_some hk] at h
      obtain ⟨rfl, h2⟩ := Prod.mk.inj h
      have hw : Whole (l.drop (5 + n)) (a + (5 + n)) (scan (l.drop (5 + n)) (a + (5 + n))).1 := by
        refine Prod.ext rfl ?_
        rw [List.length_drop]; simp only; omega
      have hr : (scan (l.drop (5 + n)) (a + (5 + n))).1[i]? = some r := by simpa using hr
      have ih := Whole.drop i hw hr
      have hb := (hw.len).2 r (List.mem_of_getElem? hr)
      rw [List.drop_drop] at ih
      rwa [show 5 + n + (r.1 - (a + (5 + n))) = r.1 - a by omega] at ih
/-- In rising numbers each is found where it stands. -/
theorem Inc.find {R : List (Nat × List Nat)} (h : Inc R) {i : Nat} {r : Nat × List Nat} (hr : R[i]? = some r) : rdO R ((r.1 : Nat) : Int) = some r.2 := by
  unfold rdO
  induction h generalizing i with
  | nil => simp at hr
  | @cons x R h1 _ ih =>
    rw [List.find?_cons]
    cases i with
    | zero =>
      have hr : x = r := by simpa using hr
      subst hr
      simp
    | succ i =>
      have hr : R[i]? = some r := by simpa using hr
      have := h1 r (List.mem_of_getElem? hr)
      rw [decide_eq_false (by omega)]
      exact ih hr
end Go.Proofs.Yteojpdijmnpmgaa
namespace Go.Proofs.Yteojpdijmnpmgaa
open Go.RowKit
/-- A record is done again: how often it was opened, the transactions. -/
def replayF (ns : List Int) (st : Nat × List (Int × Tx)) : Nat × List (Int × Tx) :=
  match ns with
  | [a, b] => (if a = 0 then st.1 + 1 else st.1, if a = 2 then delT st.2 b else st.2)
  | [a, b, c] => (st.1, if a = 1 ∧ 0 < c ∧ c < 65536 then setT st.2 b (Tx.mk c.toNat 0 0 false true c.toNat 0) else st.2)
  | _ => st
noncomputable def replayR (R : List (Nat × List Nat)) (st : Nat × List (Int × Tx)) : Nat × List (Int × Tx) := R.foldl (fun st r => replayF (readL r.2) st) st
theorem replayR_nil (st : Nat × List (Int × Tx)) : replayR [] st = st := rfl
theorem replayR_app (R : List (Nat × List Nat)) (r : Nat × List Nat) (st : Nat × List (Int × Tx)) : replayR (R ++ [r]) st = replayF (readL r.2) (replayR R st) := by unfold replayR; rw [List.foldl_append]; rfl
theorem rep_0 {ns : List Int} {st : Nat × List (Int × Tx)} (h : ¬ns.length = 2) (h' : ¬ns.length = 3) : replayF ns st = st := by
  match ns, h, h' with
  | [], _, _ => rfl
  | [_], _, _ => rfl
  | [_, _], h, _ => exact absurd rfl h
  | [_, _, _], _, h => exact absurd rfl h
  | _ :: _ :: _ :: _ :: _, _, _ => rfl
theorem rep_2 {a b : Int} {st : Nat × List (Int × Tx)} : replayF [a, b] st = (if a = 0 then st.1 + 1 else st.1, if a = 2 then delT st.2 b else st.2) := rfl
theorem rep_3 {a b c : Int} {st : Nat × List (Int × Tx)} : replayF [a, b, c] st = (st.1, if a = 1 ∧ 0 < c ∧ c < 65536 then setT st.2 b (Tx.mk c.toNat 0 0 false true c.toNat 0) else st.2) := rfl
theorem rep_inc (ns : List Int) (st : Nat × List (Int × Tx)) : (replayF ns st).1 ≤ st.1 + 1 := by
  match ns with
  | [] => exact Nat.le_succ _
  | [_] => exact Nat.le_succ _
  | [a, b] => show (if a = 0 then st.1 + 1 else st.1) ≤ _; split <;> omega
  | [a, b, c] => exact Nat.le_succ _
  | _ :: _ :: _ :: _ :: _ => exact Nat.le_succ _
theorem two_of {ns : List Int} (h : ns.length = 2) : ∃ a b, ns = [a, b] := by
  match ns, h with
  | [a, b], _ => exact ⟨a, b, rfl⟩
theorem three_of {ns : List Int} (h : ns.length = 3) : ∃ a b c, ns = [a, b, c] := by
  match ns, h with
  | [a, b, c], _ => exact ⟨a, b, c, rfl⟩
theorem readL_in {b : List Nat} {x : Int} (h : x ∈ readL b) : 0 ≤ x ∧ x ≤ 1099511627776 := by
  unfold readL at h
  split at h
  · rename_i hc
    obtain ⟨v, hv, rfl⟩ := List.mem_map.1 h
    have := of_decide_eq_true (List.all_eq_true.1 hc.2.2.2 v hv)
    exact this.2
  · cases h
theorem recs_right (ns : List Int) : ∀ v ∈ ns.map vI, rightB v = true := fun v hv => by
  obtain ⟨x, _, rfl⟩ := List.mem_map.1 hv; exact vI_right x
theorem rowE_is {ns : List Int} (h3 : ns.length ≤ 3) : rowE (ns.map vI) = (encRow (ns.map vI), 0) := rowE_yes (by rw [List.length_map]; omega) (recs_right ns)
theorem readL_row {ns : List Int} (h2 : 2 ≤ ns.length) (h3 : ns.length ≤ 3) (h : ∀ x ∈ ns, 0 ≤ x ∧ x ≤ 1099511627776) : readL (rowE (ns.map vI)).1 = ns := by
  have hR : RrOk (ns.map vI) := ⟨recs_ok (fun x hx => by have := h x hx; omega), recs_right ns⟩
  have hd := decRw_yes hR (by rw [List.length_map]; omega) rfl
  have hl : (ns.map vI).length = ns.length := List.length_map _
  rw [rowE_is h3]
  have hy := readL_yes (b := encRow (ns.map vI)) (by rw [hd]) (by rw [hd]; show 2 ≤ (ns.map vI).length; omega) (by rw [hd]; show (ns.map vI).length ≤ 3; omega) (fun j hj v hv => by
    rw [hd] at hv
    have hv : (ns.map vI)[j]? = some v := hv
    rw [List.getElem?_map] at hv
    cases hn : ns[j]? with
    | none => rw [hn] at hv; cases hv
    | some x =>
      rw [hn] at hv
      have hv : vI x = v := Option.some.inj hv
      subst hv
      have := h x (List.mem_of_getElem? hn)
      exact ⟨rfl, this.1, this.2⟩)
  refine hy.trans ?_
  rw [hd]
  show ((ns.map vI).map (·.2.1)) = ns
  rw [List.map_map]
  exact List.map_id _
theorem row_waOk {ns : List Int} (h3 : ns.length ≤ 3) (h : ∀ x ∈ ns, -9223372036854775808 ≤ x ∧ x ≤ 9223372036854775807) : waOk (rowE (ns.map vI)).1 ∧ (rowE (ns.map vI)).1.length ≤ 3377 := by
  have hl := rowE_len (recs_ok h)
  refine ⟨⟨?_, by omega⟩, hl⟩
  rw [rowE_is h3]
  unfold encRow
  show 1 ≤ (_ :: _ : List Nat).length
  rw [List.length_cons]; omega
theorem rec_fits {l : List Nat} {ns : List Int} (h3 : ns.length ≤ 3) (h : ∀ x ∈ ns, -9223372036854775808 ≤ x ∧ x ≤ 9223372036854775807) (hl : l.length ≤ 1045000) : recE l ns = 0 ∧ recL l ns = l ++ fr (rowE (ns.map vI)).1 ∧ (recL l ns).length ≤ l.length + 3382 := by
  obtain ⟨hw, hr⟩ := row_waOk h3 h
  have hfl := fr_len (rowE (ns.map vI)).1
  have hc : l.length + (fr (rowE (ns.map vI)).1).length ≤ 1048576 := by omega
  have e1 : recE l ns = 0 := by
    show waE l _ = 0
    unfold waE apE
    rw [if_pos hw, if_pos hc]
  have e2 : recL l ns = l ++ fr (rowE (ns.map vI)).1 := by
    show waL l _ = _
    unfold waL apL
    rw [if_pos hw, if_pos hc]
  refine ⟨e1, e2, ?_⟩
  rw [e2, List.length_append]; omega
/-- A disk's bytes are records, and what they come to. -/
def DiskIs (l : List Nat) (st : Nat × List (Int × Tx)) : Prop := Bytes l ∧ ∃ R, Whole l 0 R ∧ replayR R (0, []) = st
theorem DiskIs.nil : DiskIs [] (0, []) := ⟨Bytes.nil, [], whole_nil 0, rfl⟩
theorem DiskIs.rec {l : List Nat} {st : Nat × List (Int × Tx)} (h : DiskIs l st) {ns : List Int} (h2 : 2 ≤ ns.length) (h3 : ns.length ≤ 3) (hn : ∀ x ∈ ns, 0 ≤ x ∧ x ≤ 1099511627776) (hl : l.length ≤ 1045000) : DiskIs (recL l ns) (replayF ns st) := by
  obtain ⟨hb, R, hw, hr⟩ := h
  have hi : ∀ x ∈ ns, -9223372036854775808 ≤ x ∧ x ≤ 9223372036854775807 := fun x hx => by have := hn x hx; omega
  obtain ⟨_, e2, _⟩ := rec_fits h3 hi hl
  refine ⟨waL_bytes hb (rowE_bytes (recs_ok hi)), R ++ [(0 + l.length, (rowE (ns.map vI)).1)], ?_, ?_⟩
  · rw [e2]; exact hw.app (row_waOk h3 hi).1
  · rw [replayR_app, readL_row h2 h3 hn, hr]
theorem DiskIs.scan {l : List Nat} {st : Nat × List (Int × Tx)} (h : DiskIs l st) : (scan l 0).2 = l.length ∧ replayR (scan l 0).1 (0, []) = st := by
  obtain ⟨hb, R, hw, hr⟩ := h
  have hw : Go.Proofs.Yteojpdijmnpmgaa.scan l 0 = (R, l.length) := hw
  rw [hw]; exact ⟨rfl, hr⟩
end Go.Proofs.Yteojpdijmnpmgaa
namespace Go.Proofs.Yteojpdijmnpmgaa
open Go.RowKit
theorem tc_delm {T : List (Int × Nat × Tx)} {n : Int} (h : TOk T) (hn : ∀ q ∈ T, q.1 ≠ n) : MDel (List.map tc T) (.int .i64 n) (List.map tc T) :=
  MDel.of (ok := fun _ => True) h.apart tc_inj (fun _ _ => trivial) trivial (fun _ => rfl) (by
    unfold mdel
    rw [List.filter_eq_self.2 fun q hq => (by have := hn q hq; simpa using this)])
theorem rp_0 {a b : Int} {i : Nat} {T : List (Int × Tx)} (h : a = 0) : replayF [a, b] (i, T) = (i + 1, T) := by rw [rep_2, if_pos h, if_neg (by omega)]
theorem rp_2 {a b : Int} {i : Nat} {T : List (Int × Tx)} (h : a = 2) : replayF [a, b] (i, T) = (i, delT T b) := by rw [rep_2, if_neg (by omega), if_pos h]
theorem rp_x {a b : Int} {i : Nat} {T : List (Int × Tx)} (h : ¬a = 0) (h2 : ¬a = 2) : replayF [a, b] (i, T) = (i, T) := by rw [rep_2, if_neg h, if_neg h2]
theorem rp_1 {a b c : Int} {i : Nat} {T : List (Int × Tx)} (h : a = 1 ∧ 0 < c ∧ c < 65536) : replayF [a, b, c] (i, T) = (i, setT T b (Tx.mk c.toNat 0 0 false true c.toNat 0)) := by rw [rep_3, if_pos h]
theorem rp_3 {a b c : Int} {i : Nat} {T : List (Int × Tx)} (h : ¬(a = 1 ∧ 0 < c ∧ c < 65536)) : replayF [a, b, c] (i, T) = (i, T) := by rw [rep_3, if_neg h]
/-- What is done again leaves. -/
def CoR (k kw : Nat) (nd : Int) (cnt mb : Nat) (oa : Option Addr) (O : List Lo) (oc : Nat) (g : Gh) (r : Nat × List (Int × Tx)) (G : List Ch) : Prop := ∃ inc' T', G = [co k kw nd inc' cnt mb oa O oc T', .fz g] ∧ TOk T' ∧ (inc', absT T') = r
attribute [local irreducible] Oper.wp Sem.run Code.wp wpList wpAnyO callFunc execOp Calls
attribute [local irreducible] toU short rencs renc rowE encRow rightB zig unzig decRw risB lastN bitsOf nodesTo readL recB ofL sends getT delT setT waL waE waN waR apL apE replayF
set_option maxRecDepth 100000 in
theorem replay_0 (k kw : Nat) (nd : Int) (inc cnt mb : Nat) (oa : Option Addr) (O : List Lo) (oc : Nat) (T : List (Int × Nat × Tx)) (hT : TOk T) (g : Gh) (hO : LOk g O) (hol0 : O.length ≤ 100000) (ns : List Int) (h2 : ¬ns.length = 2) (h3 : ¬ns.length = 3) (nl : Nat) (hnl : ns.length = nl) (an : Option Addr) (cn : Nat) (w : World) (g2 : Gh) (hg2 : Rog [co k kw nd inc cnt mb oa O oc T, .fz g] w g2) (hG : SlG g2 an (iv ns)) (hS : St w (owns [co k kw nd inc cnt mb oa O oc T, .fz g]) [co k kw nd inc cnt mb oa O oc T, .fz g] w) : Calls Try.prog 28 #[pV k, .slice an nl cn] w (Post w [co k kw nd inc cnt mb oa O oc T, .fz g] fun v G => CoR k kw nd cnt mb oa O oc g (replayF ns (inc, absT T)) G) := by
 subst hnl
 refine c_enter Try.func28 rfl rfl rfl ?_
 refine wp_seq_k (fun K1 hK1 => ?_)
 refine wp_region_lit ?_
 refine l_q rfl rfl (q_moveS rfl) ?_
 refine l_q rfl rfl (q_lenSl (e := 3) rfl (by kernel_rfl)) ?_
 refine l_nil ?_
 refine hK1 _ _ ?_
 refine wp_block ?_
 refine wp_seq_k (fun K2 hK2 => ?_)
 refine wp_region_lit ?_
 refine l_q rfl rfl (q_eql rfl rfl) ?_
 refine l_q rfl rfl (q_assignB rfl) ?_
 refine l_nil ?_
 refine hK2 _ _ ?_
 refine c_cond rfl (fun hc3 => ?_) (fun hc3 => ?_)
 have hc3b := hc3
 try simp only [zbb] at hc3
 exfalso; omega
 have hc3b := hc3
 try simp only [zbb] at hc3
 refine wp_seq_k (fun K4 hK4 => ?_)
 refine wp_region_lit ?_
 refine l_q rfl rfl (q_eql rfl rfl) ?_
 refine l_q rfl rfl (q_assignB rfl) ?_
 refine l_nil ?_
 refine hK4 _ _ ?_
 refine c_cond rfl (fun hc5 => ?_) (fun hc5 => ?_)
 have hc5b := hc5
 try simp only [zbb] at hc5
 exfalso; omega
 have hc5b := hc5
 try simp only [zbb] at hc5
 refine wp_skip ?_
 refine c_end0 (fn := Try.f28) rfl ?_
 exact ⟨_, _, rfl, ⟨inc, T, rfl, hT, (rep_0 h2 h3).symm⟩, hS⟩
set_option maxHeartbeats 1000000 in
set_option maxRecDepth 100000 in
theorem replay_2h (k kw : Nat) (nd : Int) (inc cnt mb : Nat) (oa : Option Addr) (O : List Lo) (oc : Nat) (a n : Int) (A : List (Int × Nat × Tx)) (b : Nat) (t : Tx) (B : List (Int × Nat × Tx)) (hT : TOk (A ++ (n, b, t) :: B)) (g : Gh) (hO : LOk g O) (hol0 : O.length ≤ 100000) (hinc : inc ≤ 1000000) (hn0 : 0 ≤ n ∧ n ≤ 2199023255552) (an : Option Addr) (cn : Nat) (w : World) (g2 : Gh) (hg2 : Rog [co k kw nd inc cnt mb oa O oc (A ++ (n, b, t) :: B), .fz g] w g2) (hG : SlG g2 an (iv [a, n])) (hS : St w (owns [co k kw nd inc cnt mb oa O oc (A ++ (n, b, t) :: B), .fz g]) [co k kw nd inc cnt mb oa O oc (A ++ (n, b, t) :: B), .fz g] w) : Calls Try.prog 28 #[pV k, .slice an 2 cn] w (Post w [co k kw nd inc cnt mb oa O oc (A ++ (n, b, t) :: B), .fz g] fun v G => CoR k kw nd cnt mb oa O oc g (replayF [a, n] (inc, absT (A ++ (n, b, t) :: B))) G) := by
 have hTn := (hT.2 (n, b, t) (List.mem_append_right _ (.head _))).1
 have ht1 : t.nodes < 65536 := hTn.1
 have ht2 : t.yes < 65536 := hTn.2.1
 have ht3 : t.read < 65536 := hTn.2.2.1
 have ht4 : t.tell < 65536 := hTn.2.2.2.1
 have ht5 : t.ticks < 5 := hTn.2.2.2.2
 refine c_enter Try.func28 rfl rfl rfl ?_
 refine wp_seq_k (fun K1 hK1 => ?_)
 have hS2 := co_open hS; clear hS
 have hS3 := hS2.fr2; clear hS2
 have hS4 : St _ _ [.blk b (.cells #[.int .i64 ((t.nodes : Nat) : Int), .int .i64 ((t.yes : Nat) : Int), .int .i64 ((t.read : Nat) : Int), .bool t.asked, .bool t.com, .int .i64 ((t.tell : Nat) : Int), .int .i64 ((t.ticks : Nat) : Int)] 80), .pk (List.map tb (A ++ B)), .blk k (.cells #[.pointer (some ⟨kw, 0, none⟩), .int .i64 nd, .int .i64 (inc : Int), .int .i64 (cnt : Int), .map (some mb), .slice oa O.length oc] 68), .mp (.int .i64) mb (List.map tc (A ++ (n, b, t) :: B)), .ow 42 5 oa O.length oc (List.flatMap lo O), .fz g] _ := tb_take hS3; clear hS3
 refine wp_region_lit ?_
 refine l_q rfl rfl (q_moveS rfl) ?_
 refine l_q rfl rfl (q_lenSl (e := 3) rfl (by kernel_rfl)) ?_
 refine l_nil ?_
 refine hK1 _ _ ?_
 refine wp_block ?_
 refine wp_seq_k (fun K5 hK5 => ?_)
 refine wp_region_lit ?_
 refine l_q rfl rfl (q_eql rfl rfl) ?_
 refine l_q rfl rfl (q_assignB rfl) ?_
 refine l_nil ?_
 refine hK5 _ _ ?_
 refine c_condT rfl (by decide) ?_
 refine wp_seq_k (fun K7 hK7 => ?_)
 refine wp_seq_k (fun K8 hK8 => ?_)
 refine wp_region_lit ?_
 refine l_q rfl rfl (q_moveS rfl) ?_
 refine l_q rfl rfl (q_ixG (e := 3) (m := 1) (j := 0) rfl rfl (by kernel_rfl) (by kernel_rfl) (by first | rfl | omega) (by omega) hG (by rw [iv_len]; first | omega | (simp only [zll] <;> omega))) ?_
 refine l_q rfl rfl (q_load1 rfl (by kernel_rfl) (SlG.cell (hG.mono (hg2.le hS4)) (Gle.refl _) (at1 (iv_at (rfl : ([a, n])[0]? = some a))))) ?_
 refine l_q rfl rfl (q_eql rfl rfl) ?_
 refine l_nil ?_
 refine hK8 _ _ ?_
 refine c_cond rfl (fun hc9 => ?_) (fun hc9 => ?_)
 have hc9b := hc9
 try simp only [zbb] at hc9
 refine wp_region_lit ?_
 refine l_q rfl rfl (q_moveP rfl) ?_
 refine l_q rfl rfl (q_nilCheck rfl) ?_
 refine l_q rfl rfl (q_fieldAddr (ft := 3) (o := 2) rfl (by kernel_rfl)) ?_
 refine l_q rfl rfl (q_load1 rfl (by kernel_rfl) (hS4.cell (i := 2) rfl rfl)) ?_
 refine l_q rfl rfl (q_addx rfl rfl (by first | decide | omega) (by first | decide | omega)) ?_
 refine l_q rfl rfl (q_nilCheck rfl) ?_
 refine l_q rfl rfl (q_fieldAddr (ft := 3) (o := 2) rfl (by kernel_rfl)) ?_
 refine l_e rfl (fun K hK => ?_)
 refine e_store1 hS4 rfl rfl (by kernel_rfl) (by first | rfl | assumption) (i := 2) rfl rfl (fun w10 (hS10 : St _ _ [_, _, .blk k (.cells #[.pointer (some ⟨kw, 0, none⟩), .int .i64 nd, .int .i64 ((inc : Int) + (1 : Int)), .int .i64 (cnt : Int), .map (some mb), .slice oa O.length oc] 68), _, _, .fz g] _) => ?_)
 clear hS4
 refine hK _ _ ?_; clear hK K
 refine l_nil ?_
 refine hK7 _ _ ?_
 refine wp_seq_k (fun K11 hK11 => ?_)
 refine wp_region_lit ?_
 refine l_q rfl rfl (q_moveS rfl) ?_
 refine l_q rfl rfl (q_ixG (e := 3) (m := 1) (j := 0) rfl rfl (by kernel_rfl) (by kernel_rfl) (by first | rfl | omega) (by omega) hG (by rw [iv_len]; first | omega | (simp only [zll] <;> omega))) ?_
 refine l_q rfl rfl (q_load1 rfl (by kernel_rfl) (SlG.cell (hG.mono (hg2.le hS10)) (Gle.refl _) (at1 (iv_at (rfl : ([a, n])[0]? = some a))))) ?_
 refine l_q rfl rfl (q_eql rfl rfl) ?_
 refine l_nil ?_
 refine hK11 _ _ ?_
 refine c_cond rfl (fun hc12 => ?_) (fun hc12 => ?_)
 have hc12b := hc12
 try simp only [zbb] at hc12
 exfalso; omega
 have hc12b := hc12
 try simp only [zbb] at hc12
 refine wp_skip ?_
 refine c_end0 (fn := Try.f28) rfl ?_
 have hS13 : St _ _ [.pk (List.map tb (A ++ (n, b, t) :: B)), _, _, _, .fz g] _ := tb_put (q := (n, b, t)) hS10; clear hS10
 have hS14 := hS13.fr4; clear hS13
 have hS15 := hS14.fr4; clear hS14
 have hS16 := hS15.fr2; clear hS15
 have hS17 := hS16.fr4; clear hS16
 have hS18 := hS17.fr4; clear hS17
 have hS19 : St _ _ [co k kw nd (inc + 1) cnt mb oa O oc (A ++ (n, b, t) :: B), .fz g] _ := co_close hS18; clear hS18
 exact ⟨_, _, rfl, ⟨_, (A ++ (n, b, t) :: B), rfl, hT, by rw [rp_0 (by omega)]⟩, hS19⟩
 have hc9b := hc9
 try simp only [zbb] at hc9
 refine wp_skip ?_
 refine hK7 _ _ ?_
 refine wp_seq_k (fun K20 hK20 => ?_)
 refine wp_region_lit ?_
 refine l_q rfl rfl (q_moveS rfl) ?_
 refine l_q rfl rfl (q_ixG (e := 3) (m := 1) (j := 0) rfl rfl (by kernel_rfl) (by kernel_rfl) (by first | rfl | omega) (by omega) hG (by rw [iv_len]; first | omega | (simp only [zll] <;> omega))) ?_
 refine l_q rfl rfl (q_load1 rfl (by kernel_rfl) (SlG.cell (hG.mono (hg2.le hS4)) (Gle.refl _) (at1 (iv_at (rfl : ([a, n])[0]? = some a))))) ?_
 refine l_q rfl rfl (q_eql rfl rfl) ?_
 refine l_nil ?_
 refine hK20 _ _ ?_
 refine c_cond rfl (fun hc21 => ?_) (fun hc21 => ?_)
 have hc21b := hc21
 try simp only [zbb] at hc21
 refine r_any (by kernel_rfl) hS4 (fun w22 hS22 => ?_)
 clear hS4
 refine o_pure (i := 0) (fun _ _ => trivial) rfl rfl (by kernel_rfl) (goes0 rfl) (QOk.inBlock QOk.body) (fun w => q_moveP rfl) ?_
 refine o_pure (i := 1) (fun _ _ => trivial) rfl rfl (by kernel_rfl) (goes0 rfl) (QOk.inBlock QOk.body) (fun w => q_nilCheck rfl) ?_
 refine o_pure (i := 2) (fun _ _ => trivial) rfl rfl (by kernel_rfl) (goes0 rfl) (QOk.inBlock QOk.body) (fun w => q_fieldAddr (ft := 66) (o := 4) rfl (by kernel_rfl)) ?_
 refine o_held (i := 3) [7] (fun _ _ => trivial) rfl rfl (by kernel_rfl) (goes0 rfl) (QOk.inBlock QOk.body) (q_load1 rfl (by kernel_rfl) (hS22.cell (i := 2) rfl rfl)) ?_
 refine o_pure (i := 4) (fun j w => ⟨(fun _ _ => trivial) j w, fun _ h => h⟩) rfl rfl (by kernel_rfl) (goes0 rfl) (QOk.inBlock QOk.body) (fun w => q_moveS rfl) ?_
 refine o_pure (i := 5) (fun j w => ⟨(fun _ _ => trivial) j w, fun _ h => h⟩) rfl rfl (by kernel_rfl) (goes0 rfl) (QOk.inBlock QOk.body) (fun w => q_ixG (e := 3) (m := 1) (j := 1) rfl rfl (by kernel_rfl) (by kernel_rfl) (by first | rfl | omega) (by omega) hG (by rw [iv_len]; first | omega | (simp only [zll] <;> omega))) ?_
 refine o_held (i := 6) [7] (fun j w => ⟨(fun _ _ => trivial) j w, fun _ h => h⟩) rfl rfl (by kernel_rfl) (goes0 rfl) (QOk.inBlock QOk.body) (q_load1 rfl (by kernel_rfl) (SlG.cell (hG.mono (hg2.le hS22)) (Gle.refl _) (at1 (iv_at (rfl : ([a, n])[1]? = some n))))) ?_
 refine o_eff (i := 7) (by kernel_rfl) rfl (goes0 rfl) (fun K hK => ?_)
 refine e_mapDel (zv := .pointer none) hS22 rfl rfl (by kernel_rfl) (by first | rfl | trivial) (i := 3) rfl (tc_del hT) (fun w23 (hS23 : St _ _ [_, _, _, .mp (.int .i64) mb (List.map tc (A ++ B)), _, .fz g] _) => ?_)
 clear hS22
 refine hK _ _ ⟨⟨trivial, fun h => absurd h (by decide)⟩, fun h => absurd h (by decide)⟩ ?_; clear hK K
 refine o_done (by kernel_rfl) ?_
 refine c_end0 (fn := Try.f28) rfl ?_
 have hS24 := hS23.fr5; clear hS23
 have hS25 := hS24.fr5; clear hS24
 have hS26 := hS25.fr3; clear hS25
 have hS27 := hS26.fr5; clear hS26
 have hS28 := hS27.fr5; clear hS27
 have hS29 : St _ _ [_, _, _, _, .fz g] _ := hS28.only 5; clear hS28
 have hS30 : St _ _ [co k kw nd inc cnt mb oa O oc (A ++ B), .fz g] _ := co_close hS29; clear hS29
 exact ⟨_, _, rfl, ⟨_, (A ++ B), rfl, hT.del, by rw [rp_2 (by omega), delT_hit hT]⟩, hS30⟩
 have hc21b := hc21
 try simp only [zbb] at hc21
 refine wp_skip ?_
 refine c_end0 (fn := Try.f28) rfl ?_
 have hS31 : St _ _ [_, _, _, _, .fz g] _ := tb_put (q := (n, b, t)) hS4; clear hS4
 have hS32 := hS31.fr4; clear hS31
 have hS33 := hS32.fr4; clear hS32
 have hS34 := hS33.fr2; clear hS33
 have hS35 := hS34.fr4; clear hS34
 have hS36 := hS35.fr4; clear hS35
 have hS37 : St _ _ [co k kw nd inc cnt mb oa O oc (A ++ (n, b, t) :: B), .fz g] _ := co_close hS36; clear hS36
 exact ⟨_, _, rfl, ⟨_, (A ++ (n, b, t) :: B), rfl, hT, by rw [rp_x (by omega) (by omega)]⟩, hS37⟩
set_option maxHeartbeats 1000000 in
set_option maxRecDepth 100000 in
theorem replay_2m (k kw : Nat) (nd : Int) (inc cnt mb : Nat) (oa : Option Addr) (O : List Lo) (oc : Nat) (a n : Int) (A B : List (Int × Nat × Tx)) (hA : ∀ q ∈ A, q.1 < n) (hB : ∀ q ∈ B, n < q.1) (hT : TOk (A ++ B)) (g : Gh) (hO : LOk g O) (hol0 : O.length ≤ 100000) (hinc : inc ≤ 1000000) (hn0 : 0 ≤ n ∧ n ≤ 2199023255552) (an : Option Addr) (cn : Nat) (w : World) (g2 : Gh) (hg2 : Rog [co k kw nd inc cnt mb oa O oc (A ++ B), .fz g] w g2) (hG : SlG g2 an (iv [a, n])) (hS : St w (owns [co k kw nd inc cnt mb oa O oc (A ++ B), .fz g]) [co k kw nd inc cnt mb oa O oc (A ++ B), .fz g] w) : Calls Try.prog 28 #[pV k, .slice an 2 cn] w (Post w [co k kw nd inc cnt mb oa O oc (A ++ B), .fz g] fun v G => CoR k kw nd cnt mb oa O oc g (replayF [a, n] (inc, absT (A ++ B))) G) := by
 refine c_enter Try.func28 rfl rfl rfl ?_
 refine wp_seq_k (fun K1 hK1 => ?_)
 have hS2 := co_open hS; clear hS
 refine wp_region_lit ?_
 refine l_q rfl rfl (q_moveS rfl) ?_
 refine l_q rfl rfl (q_lenSl (e := 3) rfl (by kernel_rfl)) ?_
 refine l_nil ?_
 refine hK1 _ _ ?_
 refine wp_block ?_
 refine wp_seq_k (fun K3 hK3 => ?_)
 refine wp_region_lit ?_
 refine l_q rfl rfl (q_eql rfl rfl) ?_
 refine l_q rfl rfl (q_assignB rfl) ?_
 refine l_nil ?_
 refine hK3 _ _ ?_
 refine c_condT rfl (by decide) ?_
 refine wp_seq_k (fun K5 hK5 => ?_)
 refine wp_seq_k (fun K6 hK6 => ?_)
 refine wp_region_lit ?_
 refine l_q rfl rfl (q_moveS rfl) ?_
 refine l_q rfl rfl (q_ixG (e := 3) (m := 1) (j := 0) rfl rfl (by kernel_rfl) (by kernel_rfl) (by first | rfl | omega) (by omega) hG (by rw [iv_len]; first | omega | (simp only [zll] <;> omega))) ?_
 refine l_q rfl rfl (q_load1 rfl (by kernel_rfl) (SlG.cell (hG.mono (hg2.le hS2)) (Gle.refl _) (at1 (iv_at (rfl : ([a, n])[0]? = some a))))) ?_
 refine l_q rfl rfl (q_eql rfl rfl) ?_
 refine l_nil ?_
 refine hK6 _ _ ?_
 refine c_cond rfl (fun hc7 => ?_) (fun hc7 => ?_)
 have hc7b := hc7
 try simp only [zbb] at hc7
 refine wp_region_lit ?_
 refine l_q rfl rfl (q_moveP rfl) ?_
 refine l_q rfl rfl (q_nilCheck rfl) ?_
 refine l_q rfl rfl (q_fieldAddr (ft := 3) (o := 2) rfl (by kernel_rfl)) ?_
 refine l_q rfl rfl (q_load1 rfl (by kernel_rfl) (hS2.cell (i := 0) rfl rfl)) ?_
 refine l_q rfl rfl (q_addx rfl rfl (by first | decide | omega) (by first | decide | omega)) ?_
 refine l_q rfl rfl (q_nilCheck rfl) ?_
 refine l_q rfl rfl (q_fieldAddr (ft := 3) (o := 2) rfl (by kernel_rfl)) ?_
 refine l_e rfl (fun K hK => ?_)
 refine e_store1 hS2 rfl rfl (by kernel_rfl) (by first | rfl | assumption) (i := 0) rfl rfl (fun w8 (hS8 : St _ _ [.blk k (.cells #[.pointer (some ⟨kw, 0, none⟩), .int .i64 nd, .int .i64 ((inc : Int) + (1 : Int)), .int .i64 (cnt : Int), .map (some mb), .slice oa O.length oc] 68), .mp (.int .i64) mb (List.map tc (A ++ B)), .pk (List.map tb (A ++ B)), .ow 42 5 oa O.length oc (List.flatMap lo O), .fz g] _) => ?_)
 clear hS2
 refine hK _ _ ?_; clear hK K
 refine l_nil ?_
 refine hK5 _ _ ?_
 refine wp_seq_k (fun K9 hK9 => ?_)
 refine wp_region_lit ?_
 refine l_q rfl rfl (q_moveS rfl) ?_
 refine l_q rfl rfl (q_ixG (e := 3) (m := 1) (j := 0) rfl rfl (by kernel_rfl) (by kernel_rfl) (by first | rfl | omega) (by omega) hG (by rw [iv_len]; first | omega | (simp only [zll] <;> omega))) ?_
 refine l_q rfl rfl (q_load1 rfl (by kernel_rfl) (SlG.cell (hG.mono (hg2.le hS8)) (Gle.refl _) (at1 (iv_at (rfl : ([a, n])[0]? = some a))))) ?_
 refine l_q rfl rfl (q_eql rfl rfl) ?_
 refine l_nil ?_
 refine hK9 _ _ ?_
 refine c_cond rfl (fun hc10 => ?_) (fun hc10 => ?_)
 have hc10b := hc10
 try simp only [zbb] at hc10
 exfalso; omega
 have hc10b := hc10
 try simp only [zbb] at hc10
 refine wp_skip ?_
 refine c_end0 (fn := Try.f28) rfl ?_
 have hS11 : St _ _ [co k kw nd (inc + 1) cnt mb oa O oc (A ++ B), .fz g] _ := co_close hS8; clear hS8
 exact ⟨_, _, rfl, ⟨_, (A ++ B), rfl, hT, by rw [rp_0 (by omega)]⟩, hS11⟩
 have hc7b := hc7
 try simp only [zbb] at hc7
 refine wp_skip ?_
 refine hK5 _ _ ?_
 refine wp_seq_k (fun K12 hK12 => ?_)
 refine wp_region_lit ?_
 refine l_q rfl rfl (q_moveS rfl) ?_
 refine l_q rfl rfl (q_ixG (e := 3) (m := 1) (j := 0) rfl rfl (by kernel_rfl) (by kernel_rfl) (by first | rfl | omega) (by omega) hG (by rw [iv_len]; first | omega | (simp only [zll] <;> omega))) ?_
 refine l_q rfl rfl (q_load1 rfl (by kernel_rfl) (SlG.cell (hG.mono (hg2.le hS2)) (Gle.refl _) (at1 (iv_at (rfl : ([a, n])[0]? = some a))))) ?_
 refine l_q rfl rfl (q_eql rfl rfl) ?_
 refine l_nil ?_
 refine hK12 _ _ ?_
 refine c_cond rfl (fun hc13 => ?_) (fun hc13 => ?_)
 have hc13b := hc13
 try simp only [zbb] at hc13
 refine r_any (by kernel_rfl) hS2 (fun w14 hS14 => ?_)
 clear hS2
 refine o_pure (i := 0) (fun _ _ => trivial) rfl rfl (by kernel_rfl) (goes0 rfl) (QOk.inBlock QOk.body) (fun w => q_moveP rfl) ?_
 refine o_pure (i := 1) (fun _ _ => trivial) rfl rfl (by kernel_rfl) (goes0 rfl) (QOk.inBlock QOk.body) (fun w => q_nilCheck rfl) ?_
 refine o_pure (i := 2) (fun _ _ => trivial) rfl rfl (by kernel_rfl) (goes0 rfl) (QOk.inBlock QOk.body) (fun w => q_fieldAddr (ft := 66) (o := 4) rfl (by kernel_rfl)) ?_
 refine o_held (i := 3) [7] (fun _ _ => trivial) rfl rfl (by kernel_rfl) (goes0 rfl) (QOk.inBlock QOk.body) (q_load1 rfl (by kernel_rfl) (hS14.cell (i := 0) rfl rfl)) ?_
 refine o_pure (i := 4) (fun j w => ⟨(fun _ _ => trivial) j w, fun _ h => h⟩) rfl rfl (by kernel_rfl) (goes0 rfl) (QOk.inBlock QOk.body) (fun w => q_moveS rfl) ?_
 refine o_pure (i := 5) (fun j w => ⟨(fun _ _ => trivial) j w, fun _ h => h⟩) rfl rfl (by kernel_rfl) (goes0 rfl) (QOk.inBlock QOk.body) (fun w => q_ixG (e := 3) (m := 1) (j := 1) rfl rfl (by kernel_rfl) (by kernel_rfl) (by first | rfl | omega) (by omega) hG (by rw [iv_len]; first | omega | (simp only [zll] <;> omega))) ?_
 refine o_held (i := 6) [7] (fun j w => ⟨(fun _ _ => trivial) j w, fun _ h => h⟩) rfl rfl (by kernel_rfl) (goes0 rfl) (QOk.inBlock QOk.body) (q_load1 rfl (by kernel_rfl) (SlG.cell (hG.mono (hg2.le hS14)) (Gle.refl _) (at1 (iv_at (rfl : ([a, n])[1]? = some n))))) ?_
 refine o_eff (i := 7) (by kernel_rfl) rfl (goes0 rfl) (fun K hK => ?_)
 refine e_mapDel (zv := .pointer none) hS14 rfl rfl (by kernel_rfl) (by first | rfl | trivial) (i := 1) rfl (tc_delm hT (sides_ne hA hB)) (fun w15 (hS15 : St _ _ [.blk k (.cells #[.pointer (some ⟨kw, 0, none⟩), .int .i64 nd, .int .i64 (inc : Int), .int .i64 (cnt : Int), .map (some mb), .slice oa O.length oc] 68), _, _, _, .fz g] _) => ?_)
 clear hS14
 refine hK _ _ ⟨⟨trivial, fun h => absurd h (by decide)⟩, fun h => absurd h (by decide)⟩ ?_; clear hK K
 refine o_done (by kernel_rfl) ?_
 refine c_end0 (fn := Try.f28) rfl ?_
 have hS16 : St _ _ [co k kw nd inc cnt mb oa O oc (A ++ B), .fz g] _ := co_close hS15; clear hS15
 exact ⟨_, _, rfl, ⟨_, (A ++ B), rfl, hT, by rw [rp_2 (by omega), delT_miss (sides_ne hA hB)]⟩, hS16⟩
 have hc13b := hc13
 try simp only [zbb] at hc13
 refine wp_skip ?_
 refine c_end0 (fn := Try.f28) rfl ?_
 have hS17 : St _ _ [_, .fz g] _ := co_close hS2; clear hS2
 exact ⟨_, _, rfl, ⟨_, (A ++ B), rfl, hT, by rw [rp_x (by omega) (by omega)]⟩, hS17⟩
set_option maxHeartbeats 1000000 in
set_option maxRecDepth 100000 in
theorem replay_3h (k kw : Nat) (nd : Int) (inc cnt mb : Nat) (oa : Option Addr) (O : List Lo) (oc : Nat) (a n c : Int) (A : List (Int × Nat × Tx)) (b : Nat) (t : Tx) (B : List (Int × Nat × Tx)) (hT : TOk (A ++ (n, b, t) :: B)) (g : Gh) (hO : LOk g O) (hol0 : O.length ≤ 100000) (hinc : inc ≤ 1000000) (hn0 : 0 ≤ n ∧ n ≤ 2199023255552) (an : Option Addr) (cn : Nat) (w : World) (g2 : Gh) (hg2 : Rog [co k kw nd inc cnt mb oa O oc (A ++ (n, b, t) :: B), .fz g] w g2) (hG : SlG g2 an (iv [a, n, c])) (hS : St w (owns [co k kw nd inc cnt mb oa O oc (A ++ (n, b, t) :: B), .fz g]) [co k kw nd inc cnt mb oa O oc (A ++ (n, b, t) :: B), .fz g] w) : Calls Try.prog 28 #[pV k, .slice an 3 cn] w (Post w [co k kw nd inc cnt mb oa O oc (A ++ (n, b, t) :: B), .fz g] fun v G => CoR k kw nd cnt mb oa O oc g (replayF [a, n, c] (inc, absT (A ++ (n, b, t) :: B))) G) := by
 have hTn := (hT.2 (n, b, t) (List.mem_append_right _ (.head _))).1
 have ht1 : t.nodes < 65536 := hTn.1
 have ht2 : t.yes < 65536 := hTn.2.1
 have ht3 : t.read < 65536 := hTn.2.2.1
 have ht4 : t.tell < 65536 := hTn.2.2.2.1
 have ht5 : t.ticks < 5 := hTn.2.2.2.2
 refine c_enter Try.func28 rfl rfl rfl ?_
 refine wp_seq_k (fun K1 hK1 => ?_)
 have hS2 := co_open hS; clear hS
 have hS3 := hS2.fr2; clear hS2
 have hS4 : St _ _ [.blk b (.cells #[.int .i64 ((t.nodes : Nat) : Int), .int .i64 ((t.yes : Nat) : Int), .int .i64 ((t.read : Nat) : Int), .bool t.asked, .bool t.com, .int .i64 ((t.tell : Nat) : Int), .int .i64 ((t.ticks : Nat) : Int)] 80), .pk (List.map tb (A ++ B)), .blk k (.cells #[.pointer (some ⟨kw, 0, none⟩), .int .i64 nd, .int .i64 (inc : Int), .int .i64 (cnt : Int), .map (some mb), .slice oa O.length oc] 68), .mp (.int .i64) mb (List.map tc (A ++ (n, b, t) :: B)), .ow 42 5 oa O.length oc (List.flatMap lo O), .fz g] _ := tb_take hS3; clear hS3
 refine wp_region_lit ?_
 refine l_q rfl rfl (q_moveS rfl) ?_
 refine l_q rfl rfl (q_lenSl (e := 3) rfl (by kernel_rfl)) ?_
 refine l_nil ?_
 refine hK1 _ _ ?_
 refine wp_block ?_
 refine wp_seq_k (fun K5 hK5 => ?_)
 refine wp_region_lit ?_
 refine l_q rfl rfl (q_eql rfl rfl) ?_
 refine l_q rfl rfl (q_assignB rfl) ?_
 refine l_nil ?_
 refine hK5 _ _ ?_
 refine c_condF rfl (by decide) ?_
 refine wp_seq_k (fun K7 hK7 => ?_)
 refine wp_region_lit ?_
 refine l_q rfl rfl (q_eql rfl rfl) ?_
 refine l_q rfl rfl (q_assignB rfl) ?_
 refine l_nil ?_
 refine hK7 _ _ ?_
 refine c_condT rfl (by decide) ?_
 refine wp_seq_k (fun K9 hK9 => ?_)
 refine wp_region_lit ?_
 refine l_q rfl rfl (q_moveS rfl) ?_
 refine l_q rfl rfl (q_ixG (e := 3) (m := 1) (j := 2) rfl rfl (by kernel_rfl) (by kernel_rfl) (by first | rfl | omega) (by omega) hG (by rw [iv_len]; first | omega | (simp only [zll] <;> omega))) ?_
 refine l_q rfl rfl (q_load1 rfl (by kernel_rfl) (SlG.cell (hG.mono (hg2.le hS4)) (Gle.refl _) (at1 (iv_at (rfl : ([a, n, c])[2]? = some c))))) ?_
 refine l_q rfl rfl (q_assignI rfl) ?_
 refine l_nil ?_
 refine hK9 _ _ ?_
 refine wp_seq_k (fun K10 hK10 => ?_)
 refine wp_region_lit ?_
 refine l_q rfl rfl (q_moveS rfl) ?_
 refine l_q rfl rfl (q_ixG (e := 3) (m := 1) (j := 0) rfl rfl (by kernel_rfl) (by kernel_rfl) (by first | rfl | omega) (by omega) hG (by rw [iv_len]; first | omega | (simp only [zll] <;> omega))) ?_
 refine l_q rfl rfl (q_load1 rfl (by kernel_rfl) (SlG.cell (hG.mono (hg2.le hS4)) (Gle.refl _) (at1 (iv_at (rfl : ([a, n, c])[0]? = some a))))) ?_
 refine l_q rfl rfl (q_eql rfl rfl) ?_
 refine l_q rfl rfl (q_moveB rfl) ?_
 refine g_splitL (t := 40) rfl (fun hg11 => ?_) (fun hg11 => ?_)
 have hg11b := hg11
 try simp only [zbb] at hg11
 refine l_on rfl rfl hg11b ?_
 refine l_q rfl rfl (q_moveI rfl) ?_
 refine l_on rfl rfl hg11b ?_
 refine l_q rfl rfl (q_gtr rfl rfl) ?_
 refine l_q rfl rfl (q_pickT rfl hg11b rfl) ?_
 refine l_q rfl rfl (q_moveB rfl) ?_
 refine g_splitL (t := 44) rfl (fun hg12 => ?_) (fun hg12 => ?_)
 have hg12b := hg12
 try simp only [zbb] at hg12
 refine l_on rfl rfl hg12b ?_
 refine l_q rfl rfl (q_moveI rfl) ?_
 refine l_on rfl rfl hg12b ?_
 refine l_q rfl rfl (q_lss rfl rfl) ?_
 refine l_q rfl rfl (q_pickT rfl hg12b rfl) ?_
 refine l_nil ?_
 refine hK10 _ _ ?_
 refine c_cond rfl (fun hc13 => ?_) (fun hc13 => ?_)
 have hc13b := hc13
 try simp only [zbb] at hc13
 refine r_any (by kernel_rfl) hS4 (fun w14 hS14 => ?_)
 clear hS4
 refine o_pure (i := 0) (fun _ _ => trivial) rfl rfl (by kernel_rfl) (goes0 rfl) (QOk.inBlock QOk.body) (fun w => q_moveP rfl) ?_
 refine o_pure (i := 1) (fun _ _ => trivial) rfl rfl (by kernel_rfl) (goes0 rfl) (QOk.inBlock QOk.body) (fun w => q_nilCheck rfl) ?_
 refine o_pure (i := 2) (fun _ _ => trivial) rfl rfl (by kernel_rfl) (goes0 rfl) (QOk.inBlock QOk.body) (fun w => q_fieldAddr (ft := 66) (o := 4) rfl (by kernel_rfl)) ?_
 refine o_held (i := 3) [11] (fun _ _ => trivial) rfl rfl (by kernel_rfl) (goes0 rfl) (QOk.inBlock QOk.body) (q_load1 rfl (by kernel_rfl) (hS14.cell (i := 2) rfl rfl)) ?_
 refine o_pure (i := 4) (fun j w => ⟨(fun _ _ => trivial) j w, fun _ h => h⟩) rfl rfl (by kernel_rfl) (goes0 rfl) (QOk.inBlock QOk.body) (fun w => q_moveS rfl) ?_
 refine o_pure (i := 5) (fun j w => ⟨(fun _ _ => trivial) j w, fun _ h => h⟩) rfl rfl (by kernel_rfl) (goes0 rfl) (QOk.inBlock QOk.body) (fun w => q_ixG (e := 3) (m := 1) (j := 1) rfl rfl (by kernel_rfl) (by kernel_rfl) (by first | rfl | omega) (by omega) hG (by rw [iv_len]; first | omega | (simp only [zll] <;> omega))) ?_
 refine o_held (i := 6) [11] (fun j w => ⟨(fun _ _ => trivial) j w, fun _ h => h⟩) rfl rfl (by kernel_rfl) (goes0 rfl) (QOk.inBlock QOk.body) (q_load1 rfl (by kernel_rfl) (SlG.cell (hG.mono (hg2.le hS14)) (Gle.refl _) (at1 (iv_at (rfl : ([a, n, c])[1]? = some n))))) ?_
 refine o_pure (i := 7) (fun j w => ⟨(fun j w => ⟨(fun _ _ => trivial) j w, fun _ h => h⟩) j w, fun _ h => h⟩) rfl rfl (by kernel_rfl) (goes0 rfl) (QOk.inBlock QOk.body) (fun w => q_moveI rfl) ?_
 refine o_pure (i := 8) (fun j w => ⟨(fun j w => ⟨(fun _ _ => trivial) j w, fun _ h => h⟩) j w, fun _ h => h⟩) rfl rfl (by kernel_rfl) (goes0 rfl) (QOk.inBlock QOk.body) (fun w => q_moveI rfl) ?_
 refine o_pure (i := 9) (fun j w => ⟨(fun j w => ⟨(fun _ _ => trivial) j w, fun _ h => h⟩) j w, fun _ h => h⟩) rfl rfl (by kernel_rfl) (goes0 rfl) (QOk.inBlock QOk.body) (fun w => q_build (ps := [(0, 1), (1, 1), (2, 1), (3, 1), (4, 1), (5, 1), (6, 1)]) (zv := .agg #[.int .i64 0, .int .i64 0, .int .i64 0, .bool false, .bool false, .int .i64 0, .int .i64 0]) (by kernel_rfl) (by kernel_rfl) rfl (by repeat' (first | exact trivial | refine ⟨fun _ => by first | rfl | assumption | exact one_if (by assumption), ?_⟩ | refine ⟨fun ⟨_, h⟩ => by simp at h, ?_⟩)) rfl) ?_
 refine o_eff (i := 10) (by kernel_rfl) rfl (goes0 rfl) (fun K hK => ?_)
 refine e_boxA hS14 rfl (fun b15 w15 (hS15 : St _ _ [.blk b15 (.cells #[.int .i64 c, .int .i64 (0 : Int), .int .i64 (0 : Int), .bool false, .bool true, .int .i64 c, .int .i64 (0 : Int)] 80), _, _, _, _, _, .fz g] _) => ?_)
 clear hS14
 refine hK _ _ ⟨⟨trivial, fun _ _ => by first | exact q_load1 rfl (by kernel_rfl) (hS15.cell (i := 3) rfl rfl)⟩, fun _ _ => by first | exact q_load1 rfl (by kernel_rfl) (SlG.cell (hG.mono (hg2.le hS15)) (Gle.refl _) (at1 (iv_at (rfl : ([a, n, c])[1]? = some n))))⟩ ?_; clear hK K
 refine o_eff (i := 11) (by kernel_rfl) rfl (goes0 rfl) (fun K hK => ?_)
 have hS16 : St _ _ [.blk b15 (.cells #[.int .i64 ((c.toNat : Nat) : Int), .int .i64 (0 : Int), .int .i64 (0 : Int), .bool false, .bool true, .int .i64 c, .int .i64 (0 : Int)] 80), _, _, _, _, _, .fz g] _ := hS15.cast (by rw [show ((c.toNat : Nat) : Int) = c from by omega]); clear hS15
 have hS17 : St _ _ [.blk b15 (.cells #[.int .i64 ((c.toNat : Nat) : Int), .int .i64 (0 : Int), .int .i64 (0 : Int), .bool false, .bool true, .int .i64 ((c.toNat : Nat) : Int), .int .i64 (0 : Int)] 80), _, _, _, _, _, .fz g] _ := hS16.cast (by rw [show ((c.toNat : Nat) : Int) = c from by omega]); clear hS16
 refine e_mapUp (zv := .pointer none) hS17 rfl rfl rfl (by kernel_rfl) (by first | rfl | trivial) (i := 4) rfl (tc_set hT b15 (Tx.mk c.toNat 0 0 false true c.toNat 0)) (fun w18 (hS18 : St _ _ [_, _, _, _, .mp (.int .i64) mb (List.map tc (A ++ (n, b15, (Tx.mk c.toNat 0 0 false true c.toNat 0)) :: B)), _, .fz g] _) => ?_)
 clear hS17
 refine hK _ _ ⟨⟨trivial, fun h => absurd h (by decide)⟩, fun h => absurd h (by decide)⟩ ?_; clear hK K
 refine o_done (by kernel_rfl) ?_
 refine c_end0 (fn := Try.f28) rfl ?_
 have hS19 := hS18.fr2; clear hS18
 have hS20 := hS19.fr1; clear hS19
 have hS21 : St _ _ [.pk (List.map tb (A ++ (n, b15, (Tx.mk c.toNat 0 0 false true c.toNat 0)) :: B)), _, _, _, _, .fz g] _ := tb_put (q := (n, b15, (Tx.mk c.toNat 0 0 false true c.toNat 0))) hS20; clear hS20
 have hS22 := hS21.fr5; clear hS21
 have hS23 := hS22.fr5; clear hS22
 have hS24 := hS23.fr2; clear hS23
 have hS25 := hS24.fr5; clear hS24
 have hS26 := hS25.fr5; clear hS25
 have hS27 : St _ _ [_, _, _, _, .fz g] _ := hS26.only 5; clear hS26
 have hS28 : St _ _ [co k kw nd inc cnt mb oa O oc (A ++ (n, b15, (Tx.mk c.toNat 0 0 false true c.toNat 0)) :: B), .fz g] _ := co_close hS27; clear hS27
 exact ⟨_, _, rfl, ⟨_, (A ++ (n, b15, (Tx.mk c.toNat 0 0 false true c.toNat 0)) :: B), rfl, hT.set ⟨by show c.toNat < 65536; omega, by show 0 < 65536; omega, by show 0 < 65536; omega, by show c.toNat < 65536; omega, by show 0 < 5; omega⟩, by rw [rp_1 ⟨by omega, by omega, by omega⟩, setT_hit hT (b' := b15)]⟩, hS28⟩
 have hc13b := hc13
 try simp only [zbb] at hc13
 refine wp_skip ?_
 refine c_end0 (fn := Try.f28) rfl ?_
 have hS29 : St _ _ [.pk (List.map tb (A ++ (n, b, t) :: B)), _, _, _, .fz g] _ := tb_put (q := (n, b, t)) hS4; clear hS4
 have hS30 := hS29.fr4; clear hS29
 have hS31 := hS30.fr4; clear hS30
 have hS32 := hS31.fr2; clear hS31
 have hS33 := hS32.fr4; clear hS32
 have hS34 := hS33.fr4; clear hS33
 have hS35 : St _ _ [co k kw nd inc cnt mb oa O oc (A ++ (n, b, t) :: B), .fz g] _ := co_close hS34; clear hS34
 exact ⟨_, _, rfl, ⟨_, (A ++ (n, b, t) :: B), rfl, hT, by rw [rp_3 (by omega)]⟩, hS35⟩
 have hg12b := hg12
 try simp only [zbb] at hg12
 refine l_off rfl rfl rfl hg12b ?_
 refine l_off rfl rfl rfl hg12b ?_
 refine l_q rfl rfl (q_pickF rfl hg12b rfl) ?_
 refine l_nil ?_
 refine hK10 _ _ ?_
 refine c_condF rfl rfl ?_
 refine wp_skip ?_
 refine c_end0 (fn := Try.f28) rfl ?_
 have hS37 : St _ _ [_, _, _, _, .fz g] _ := tb_put (q := (n, b, t)) hS4; clear hS4
 have hS38 := hS37.fr4; clear hS37
 have hS39 := hS38.fr4; clear hS38
 have hS40 := hS39.fr2; clear hS39
 have hS41 := hS40.fr4; clear hS40
 have hS42 := hS41.fr4; clear hS41
 have hS43 : St _ _ [_, .fz g] _ := co_close hS42; clear hS42
 exact ⟨_, _, rfl, ⟨_, (A ++ (n, b, t) :: B), rfl, hT, by rw [rp_3 (by omega)]⟩, hS43⟩
 have hg11b := hg11
 try simp only [zbb] at hg11
 refine l_off rfl rfl rfl hg11b ?_
 refine l_off rfl rfl rfl hg11b ?_
 refine l_q rfl rfl (q_pickF rfl hg11b rfl) ?_
 refine l_q rfl rfl (q_moveB rfl) ?_
 refine l_off rfl rfl rfl rfl ?_
 refine l_off rfl rfl rfl rfl ?_
 refine l_q rfl rfl (q_pickF rfl rfl rfl) ?_
 refine l_nil ?_
 refine hK10 _ _ ?_
 refine c_condF rfl rfl ?_
 refine wp_skip ?_
 refine c_end0 (fn := Try.f28) rfl ?_
 have hS45 : St _ _ [_, _, _, _, .fz g] _ := tb_put (q := (n, b, t)) hS4; clear hS4
 have hS46 := hS45.fr4; clear hS45
 have hS47 := hS46.fr4; clear hS46
 have hS48 := hS47.fr2; clear hS47
 have hS49 := hS48.fr4; clear hS48
 have hS50 := hS49.fr4; clear hS49
 have hS51 : St _ _ [_, .fz g] _ := co_close hS50; clear hS50
 exact ⟨_, _, rfl, ⟨_, (A ++ (n, b, t) :: B), rfl, hT, by rw [rp_3 (by omega)]⟩, hS51⟩
set_option maxHeartbeats 1000000 in
set_option maxRecDepth 100000 in
theorem replay_3m (k kw : Nat) (nd : Int) (inc cnt mb : Nat) (oa : Option Addr) (O : List Lo) (oc : Nat) (a n c : Int) (A B : List (Int × Nat × Tx)) (hA : ∀ q ∈ A, q.1 < n) (hB : ∀ q ∈ B, n < q.1) (hT : TOk (A ++ B)) (g : Gh) (hO : LOk g O) (hol0 : O.length ≤ 100000) (hinc : inc ≤ 1000000) (hn0 : 0 ≤ n ∧ n ≤ 2199023255552) (an : Option Addr) (cn : Nat) (w : World) (g2 : Gh) (hg2 : Rog [co k kw nd inc cnt mb oa O oc (A ++ B), .fz g] w g2) (hG : SlG g2 an (iv [a, n, c])) (hS : St w (owns [co k kw nd inc cnt mb oa O oc (A ++ B), .fz g]) [co k kw nd inc cnt mb oa O oc (A ++ B), .fz g] w) : Calls Try.prog 28 #[pV k, .slice an 3 cn] w (Post w [co k kw nd inc cnt mb oa O oc (A ++ B), .fz g] fun v G => CoR k kw nd cnt mb oa O oc g (replayF [a, n, c] (inc, absT (A ++ B))) G) := by
 refine c_enter Try.func28 rfl rfl rfl ?_
 refine wp_seq_k (fun K1 hK1 => ?_)
 have hS2 := co_open hS; clear hS
 refine wp_region_lit ?_
 refine l_q rfl rfl (q_moveS rfl) ?_
 refine l_q rfl rfl (q_lenSl (e := 3) rfl (by kernel_rfl)) ?_
 refine l_nil ?_
 refine hK1 _ _ ?_
 refine wp_block ?_
 refine wp_seq_k (fun K3 hK3 => ?_)
 refine wp_region_lit ?_
 refine l_q rfl rfl (q_eql rfl rfl) ?_
 refine l_q rfl rfl (q_assignB rfl) ?_
 refine l_nil ?_
 refine hK3 _ _ ?_
 refine c_condF rfl (by decide) ?_
 refine wp_seq_k (fun K5 hK5 => ?_)
 refine wp_region_lit ?_
 refine l_q rfl rfl (q_eql rfl rfl) ?_
 refine l_q rfl rfl (q_assignB rfl) ?_
 refine l_nil ?_
 refine hK5 _ _ ?_
 refine c_condT rfl (by decide) ?_
 refine wp_seq_k (fun K7 hK7 => ?_)
 refine wp_region_lit ?_
 refine l_q rfl rfl (q_moveS rfl) ?_
 refine l_q rfl rfl (q_ixG (e := 3) (m := 1) (j := 2) rfl rfl (by kernel_rfl) (by kernel_rfl) (by first | rfl | omega) (by omega) hG (by rw [iv_len]; first | omega | (simp only [zll] <;> omega))) ?_
 refine l_q rfl rfl (q_load1 rfl (by kernel_rfl) (SlG.cell (hG.mono (hg2.le hS2)) (Gle.refl _) (at1 (iv_at (rfl : ([a, n, c])[2]? = some c))))) ?_
 refine l_q rfl rfl (q_assignI rfl) ?_
 refine l_nil ?_
 refine hK7 _ _ ?_
 refine wp_seq_k (fun K8 hK8 => ?_)
 refine wp_region_lit ?_
 refine l_q rfl rfl (q_moveS rfl) ?_
 refine l_q rfl rfl (q_ixG (e := 3) (m := 1) (j := 0) rfl rfl (by kernel_rfl) (by kernel_rfl) (by first | rfl | omega) (by omega) hG (by rw [iv_len]; first | omega | (simp only [zll] <;> omega))) ?_
 refine l_q rfl rfl (q_load1 rfl (by kernel_rfl) (SlG.cell (hG.mono (hg2.le hS2)) (Gle.refl _) (at1 (iv_at (rfl : ([a, n, c])[0]? = some a))))) ?_
 refine l_q rfl rfl (q_eql rfl rfl) ?_
 refine l_q rfl rfl (q_moveB rfl) ?_
 refine g_splitL (t := 40) rfl (fun hg9 => ?_) (fun hg9 => ?_)
 have hg9b := hg9
 try simp only [zbb] at hg9
 refine l_on rfl rfl hg9b ?_
 refine l_q rfl rfl (q_moveI rfl) ?_
 refine l_on rfl rfl hg9b ?_
 refine l_q rfl rfl (q_gtr rfl rfl) ?_
 refine l_q rfl rfl (q_pickT rfl hg9b rfl) ?_
 refine l_q rfl rfl (q_moveB rfl) ?_
 refine g_splitL (t := 44) rfl (fun hg10 => ?_) (fun hg10 => ?_)
 have hg10b := hg10
 try simp only [zbb] at hg10
 refine l_on rfl rfl hg10b ?_
 refine l_q rfl rfl (q_moveI rfl) ?_
 refine l_on rfl rfl hg10b ?_
 refine l_q rfl rfl (q_lss rfl rfl) ?_
 refine l_q rfl rfl (q_pickT rfl hg10b rfl) ?_
 refine l_nil ?_
 refine hK8 _ _ ?_
 refine c_cond rfl (fun hc11 => ?_) (fun hc11 => ?_)
 have hc11b := hc11
 try simp only [zbb] at hc11
 refine r_any (by kernel_rfl) hS2 (fun w12 hS12 => ?_)
 clear hS2
 refine o_pure (i := 0) (fun _ _ => trivial) rfl rfl (by kernel_rfl) (goes0 rfl) (QOk.inBlock QOk.body) (fun w => q_moveP rfl) ?_
 refine o_pure (i := 1) (fun _ _ => trivial) rfl rfl (by kernel_rfl) (goes0 rfl) (QOk.inBlock QOk.body) (fun w => q_nilCheck rfl) ?_
 refine o_pure (i := 2) (fun _ _ => trivial) rfl rfl (by kernel_rfl) (goes0 rfl) (QOk.inBlock QOk.body) (fun w => q_fieldAddr (ft := 66) (o := 4) rfl (by kernel_rfl)) ?_
 refine o_held (i := 3) [11] (fun _ _ => trivial) rfl rfl (by kernel_rfl) (goes0 rfl) (QOk.inBlock QOk.body) (q_load1 rfl (by kernel_rfl) (hS12.cell (i := 0) rfl rfl)) ?_
 refine o_pure (i := 4) (fun j w => ⟨(fun _ _ => trivial) j w, fun _ h => h⟩) rfl rfl (by kernel_rfl) (goes0 rfl) (QOk.inBlock QOk.body) (fun w => q_moveS rfl) ?_
 refine o_pure (i := 5) (fun j w => ⟨(fun _ _ => trivial) j w, fun _ h => h⟩) rfl rfl (by kernel_rfl) (goes0 rfl) (QOk.inBlock QOk.body) (fun w => q_ixG (e := 3) (m := 1) (j := 1) rfl rfl (by kernel_rfl) (by kernel_rfl) (by first | rfl | omega) (by omega) hG (by rw [iv_len]; first | omega | (simp only [zll] <;> omega))) ?_
 refine o_held (i := 6) [11] (fun j w => ⟨(fun _ _ => trivial) j w, fun _ h => h⟩) rfl rfl (by kernel_rfl) (goes0 rfl) (QOk.inBlock QOk.body) (q_load1 rfl (by kernel_rfl) (SlG.cell (hG.mono (hg2.le hS12)) (Gle.refl _) (at1 (iv_at (rfl : ([a, n, c])[1]? = some n))))) ?_
 refine o_pure (i := 7) (fun j w => ⟨(fun j w => ⟨(fun _ _ => trivial) j w, fun _ h => h⟩) j w, fun _ h => h⟩) rfl rfl (by kernel_rfl) (goes0 rfl) (QOk.inBlock QOk.body) (fun w => q_moveI rfl) ?_
 refine o_pure (i := 8) (fun j w => ⟨(fun j w => ⟨(fun _ _ => trivial) j w, fun _ h => h⟩) j w, fun _ h => h⟩) rfl rfl (by kernel_rfl) (goes0 rfl) (QOk.inBlock QOk.body) (fun w => q_moveI rfl) ?_
 refine o_pure (i := 9) (fun j w => ⟨(fun j w => ⟨(fun _ _ => trivial) j w, fun _ h => h⟩) j w, fun _ h => h⟩) rfl rfl (by kernel_rfl) (goes0 rfl) (QOk.inBlock QOk.body) (fun w => q_build (ps := [(0, 1), (1, 1), (2, 1), (3, 1), (4, 1), (5, 1), (6, 1)]) (zv := .agg #[.int .i64 0, .int .i64 0, .int .i64 0, .bool false, .bool false, .int .i64 0, .int .i64 0]) (by kernel_rfl) (by kernel_rfl) rfl (by repeat' (first | exact trivial | refine ⟨fun _ => by first | rfl | assumption | exact one_if (by assumption), ?_⟩ | refine ⟨fun ⟨_, h⟩ => by simp at h, ?_⟩)) rfl) ?_
 refine o_eff (i := 10) (by kernel_rfl) rfl (goes0 rfl) (fun K hK => ?_)
 refine e_boxA hS12 rfl (fun b13 w13 (hS13 : St _ _ [.blk b13 (.cells #[.int .i64 c, .int .i64 (0 : Int), .int .i64 (0 : Int), .bool false, .bool true, .int .i64 c, .int .i64 (0 : Int)] 80), .blk k (.cells #[.pointer (some ⟨kw, 0, none⟩), .int .i64 nd, .int .i64 (inc : Int), .int .i64 (cnt : Int), .map (some mb), .slice oa O.length oc] 68), .mp (.int .i64) mb (List.map tc (A ++ B)), .pk (List.map tb (A ++ B)), .ow 42 5 oa O.length oc (List.flatMap lo O), .fz g] _) => ?_)
 clear hS12
 refine hK _ _ ⟨⟨trivial, fun _ _ => by first | exact q_load1 rfl (by kernel_rfl) (hS13.cell (i := 1) rfl rfl)⟩, fun _ _ => by first | exact q_load1 rfl (by kernel_rfl) (SlG.cell (hG.mono (hg2.le hS13)) (Gle.refl _) (at1 (iv_at (rfl : ([a, n, c])[1]? = some n))))⟩ ?_; clear hK K
 refine o_eff (i := 11) (by kernel_rfl) rfl (goes0 rfl) (fun K hK => ?_)
 have hS14 : St _ _ [.blk b13 (.cells #[.int .i64 ((c.toNat : Nat) : Int), .int .i64 (0 : Int), .int .i64 (0 : Int), .bool false, .bool true, .int .i64 c, .int .i64 (0 : Int)] 80), _, _, _, _, .fz g] _ := hS13.cast (by rw [show ((c.toNat : Nat) : Int) = c from by omega]); clear hS13
 have hS15 : St _ _ [.blk b13 (.cells #[.int .i64 ((c.toNat : Nat) : Int), .int .i64 (0 : Int), .int .i64 (0 : Int), .bool false, .bool true, .int .i64 ((c.toNat : Nat) : Int), .int .i64 (0 : Int)] 80), _, _, _, _, .fz g] _ := hS14.cast (by rw [show ((c.toNat : Nat) : Int) = c from by omega]); clear hS14
 refine e_mapUp (zv := .pointer none) hS15 rfl rfl rfl (by kernel_rfl) (by first | rfl | trivial) (i := 2) rfl (tc_ins hT hA hB b13 (Tx.mk c.toNat 0 0 false true c.toNat 0)) (fun w16 (hS16 : St _ _ [_, _, .mp (.int .i64) mb (List.map tc (A ++ (n, b13, (Tx.mk c.toNat 0 0 false true c.toNat 0)) :: B)), _, _, .fz g] _) => ?_)
 clear hS15
 refine hK _ _ ⟨⟨trivial, fun h => absurd h (by decide)⟩, fun h => absurd h (by decide)⟩ ?_; clear hK K
 refine o_done (by kernel_rfl) ?_
 refine c_end0 (fn := Try.f28) rfl ?_
 have hS17 := hS16.fr3; clear hS16
 have hS18 := hS17.fr1; clear hS17
 have hS19 : St _ _ [.pk (List.map tb (A ++ (n, b13, (Tx.mk c.toNat 0 0 false true c.toNat 0)) :: B)), _, _, _, .fz g] _ := tb_put (q := (n, b13, (Tx.mk c.toNat 0 0 false true c.toNat 0))) hS18; clear hS18
 have hS20 := hS19.fr4; clear hS19
 have hS21 := hS20.fr4; clear hS20
 have hS22 := hS21.fr2; clear hS21
 have hS23 := hS22.fr4; clear hS22
 have hS24 := hS23.fr4; clear hS23
 have hS25 : St _ _ [co k kw nd inc cnt mb oa O oc (A ++ (n, b13, (Tx.mk c.toNat 0 0 false true c.toNat 0)) :: B), .fz g] _ := co_close hS24; clear hS24
 exact ⟨_, _, rfl, ⟨_, (A ++ (n, b13, (Tx.mk c.toNat 0 0 false true c.toNat 0)) :: B), rfl, hT.ins hA hB ⟨⟨by show c.toNat < 65536; omega, by show 0 < 65536; omega, by show 0 < 65536; omega, by show c.toNat < 65536; omega, by show 0 < 5; omega⟩, hn0⟩, by rw [rp_1 ⟨by omega, by omega, by omega⟩, setT_miss hA hB (b := b13)]⟩, hS25⟩
 have hc11b := hc11
 try simp only [zbb] at hc11
 refine wp_skip ?_
 refine c_end0 (fn := Try.f28) rfl ?_
 have hS26 : St _ _ [co k kw nd inc cnt mb oa O oc (A ++ B), .fz g] _ := co_close hS2; clear hS2
 exact ⟨_, _, rfl, ⟨_, (A ++ B), rfl, hT, by rw [rp_3 (by omega)]⟩, hS26⟩
 have hg10b := hg10
 try simp only [zbb] at hg10
 refine l_off rfl rfl rfl hg10b ?_
 refine l_off rfl rfl rfl hg10b ?_
 refine l_q rfl rfl (q_pickF rfl hg10b rfl) ?_
 refine l_nil ?_
 refine hK8 _ _ ?_
 refine c_condF rfl rfl ?_
 refine wp_skip ?_
 refine c_end0 (fn := Try.f28) rfl ?_
 have hS28 : St _ _ [_, .fz g] _ := co_close hS2; clear hS2
 exact ⟨_, _, rfl, ⟨_, (A ++ B), rfl, hT, by rw [rp_3 (by omega)]⟩, hS28⟩
 have hg9b := hg9
 try simp only [zbb] at hg9
 refine l_off rfl rfl rfl hg9b ?_
 refine l_off rfl rfl rfl hg9b ?_
 refine l_q rfl rfl (q_pickF rfl hg9b rfl) ?_
 refine l_q rfl rfl (q_moveB rfl) ?_
 refine l_off rfl rfl rfl rfl ?_
 refine l_off rfl rfl rfl rfl ?_
 refine l_q rfl rfl (q_pickF rfl rfl rfl) ?_
 refine l_nil ?_
 refine hK8 _ _ ?_
 refine c_condF rfl rfl ?_
 refine wp_skip ?_
 refine c_end0 (fn := Try.f28) rfl ?_
 have hS30 : St _ _ [_, .fz g] _ := co_close hS2; clear hS2
 exact ⟨_, _, rfl, ⟨_, (A ++ B), rfl, hT, by rw [rp_3 (by omega)]⟩, hS30⟩
theorem replay_ok (k kw : Nat) (nd : Int) (inc cnt mb : Nat) (oa : Option Addr) (O : List Lo) (oc : Nat) (T : List (Int × Nat × Tx)) (hT : TOk T) (g : Gh) (hO : LOk g O) (hol0 : O.length ≤ 100000) (hinc : inc ≤ 1000000) (ns : List Int) (hns : ∀ x ∈ ns, 0 ≤ x ∧ x ≤ 1099511627776) (nl : Nat) (hnl : ns.length = nl) (an : Option Addr) (cn : Nat) (w : World) (g2 : Gh) (hg2 : Rog [co k kw nd inc cnt mb oa O oc T, .fz g] w g2) (hG : SlG g2 an (iv ns)) (hS : St w (owns [co k kw nd inc cnt mb oa O oc T, .fz g]) [co k kw nd inc cnt mb oa O oc T, .fz g] w) :
    Calls Try.prog 28 #[pV k, .slice an nl cn] w (Post w [co k kw nd inc cnt mb oa O oc T, .fz g] fun v G => CoR k kw nd cnt mb oa O oc g (replayF ns (inc, absT T)) G) := by
  subst hnl
  by_cases h2 : ns.length = 2
  · obtain ⟨a, n, rfl⟩ := two_of h2
    have hn := hns n (by simp)
    rcases hT.split n with ⟨A, b, t, B, rfl⟩ | ⟨A, B, rfl, hA, hB⟩
    · exact replay_2h k kw nd inc cnt mb oa O oc a n A b t B hT g hO hol0 hinc (by omega) an cn w g2 hg2 hG hS
    · exact replay_2m k kw nd inc cnt mb oa O oc a n A B hA hB hT g hO hol0 hinc (by omega) an cn w g2 hg2 hG hS
  · by_cases h3 : ns.length = 3
    · obtain ⟨a, n, c, rfl⟩ := three_of h3
      have hn := hns n (by simp)
      rcases hT.split n with ⟨A, b, t, B, rfl⟩ | ⟨A, B, rfl, hA, hB⟩
      · exact replay_3h k kw nd inc cnt mb oa O oc a n c A b t B hT g hO hol0 hinc (by omega) an cn w g2 hg2 hG hS
      · exact replay_3m k kw nd inc cnt mb oa O oc a n c A B hA hB hT g hO hol0 hinc (by omega) an cn w g2 hg2 hG hS
    · exact replay_0 k kw nd inc cnt mb oa O oc T hT g hO hol0 ns h2 h3 ns.length rfl an cn w g2 hg2 hG hS

end Go.Proofs.Yteojpdijmnpmgaa
namespace Go.Proofs.Yteojpdijmnpmgaa
open Go.RowKit
theorem rdB_at {R : List (Nat × List Nat)} (h : Inc R) {i : Nat} {r : Nat × List Nat} (hr : R[i]? = some r) : rdB R ((r.1 : Nat) : Int) = r.2 := by
  unfold rdB; rw [h.find hr]; rfl
theorem replayR_step {R : List (Nat × List Nat)} {i : Nat} {r : Nat × List Nat} (hr : R[i]? = some r) (st : Nat × List (Int × Tx)) : replayR (R.take (i + 1)) st = replayF (readL r.2) (replayR (R.take i) st) := by
  rw [List.take_add_one, hr]; exact replayR_app _ _ _
theorem nums_at' {rs : List Rc} {i : Nat} {x : Int} (h : (nums rs)[i]? = some x) : ∃ r, rs[i]? = some r ∧ ((r.n : Nat) : Int) = x := by
  unfold nums at h
  rw [List.getElem?_map] at h
  cases hr : rs[i]? with
  | none => rw [hr] at h; cases h
  | some r => rw [hr] at h; exact ⟨r, rfl, by simpa using h⟩
attribute [local irreducible] Oper.wp Sem.run Code.wp wpList wpAnyO callFunc execOp Calls
attribute [local irreducible] toU short rencs renc rowE encRow rightB zig unzig decRw risB lastN bitsOf nodesTo readL recB ofL sends getT delT setT waL waE waN waR apL apE replayF replayR rdB rdE scan nums
set_option maxHeartbeats 2000000 in
set_option maxRecDepth 100000 in
theorem open_ok (nd : Int) (hnd : 0 ≤ nd ∧ nd < 16) (kd : Nat) (da : Option Addr) (dc : Nat) (l : List Nat) (bb s : Nat) (hl : Bytes l) (hbb : bb + l.length ≤ 500000000) (hs : s ≤ l.length) (g : Gh) (hll : l.length ≤ 1040000) (hRn : (scan l bb).1.length ≤ 450000) (hinc : (replayR (scan l bb).1 (0, [])).1 ≤ 65536)  (w : World) (hS : St w (owns [dk kd da dc l bb s, .fz g]) [dk kd da dc l bb s, .fz g] w) : Calls Try.prog 9 #[pV kd, .int .i64 nd] w (Post w [dk kd da dc l bb s, .fz g] fun v G => ∃ k kw mb wa' wc' inc T rs' da' dc' g', v = .tuple #[pV k, .int .i64 0] ∧ G = [co k kw nd inc 0 mb none [] 0 T, wk kw kd wa' wc' rs', dk kd da' dc' (recL (l.take (scan l bb).2) [0, (inc : Int)]) bb (recL (l.take (scan l bb).2) [0, (inc : Int)]).length, .fz g'] ∧ Gle g g' ∧ TOk T ∧ (inc, absT T) = replayR (scan l bb).1 (0, []) ∧ RsOk g' rs' ∧ rs'.length ≤ (scan l bb).1.length + 1) := by
 refine c_enter Try.func9 rfl rfl rfl ?_
 refine wp_seq_k (fun K1 hK1 => ?_)
 refine wp_region_lit ?_
 refine l_q rfl rfl (q_assignP rfl) ?_
 refine l_q rfl rfl (q_assignI rfl) ?_
 refine l_nil ?_
 refine hK1 _ _ ?_
 refine wp_seq_k (fun K2 hK2 => ?_)
 refine wp_seq_k (fun K3 hK3 => ?_)
 refine wp_region_lit ?_
 refine l_q rfl rfl (q_moveI rfl) ?_
 refine l_q rfl rfl (q_lss rfl rfl) ?_
 refine l_q rfl rfl (q_moveB rfl) ?_
 refine l_on rfl rfl (decide_eq_false (by omega)) ?_
 refine l_q rfl rfl (q_moveI rfl) ?_
 refine l_on rfl rfl (decide_eq_false (by omega)) ?_
 refine l_q rfl rfl (q_geq rfl rfl) ?_
 refine l_q rfl rfl (q_pickF rfl (decide_eq_false (by omega)) rfl) ?_
 refine l_nil ?_
 refine hK3 _ _ ?_
 refine c_condF rfl (decide_eq_false (by omega)) ?_
 refine wp_skip ?_
 refine hK2 _ _ ?_
 refine wp_seq_k (fun K6 hK6 => ?_)
 refine wp_region_lit ?_
 refine l_q rfl rfl (q_moveP rfl) ?_
 refine l_e rfl (fun K hK => ?_)
 have hsl7 := scan_le l.length l bb (Nat.le_refl _)
 refine e_call (by kernel_rfl) (wOpen_ok _ _ _ _ _ _ _ hl (by first | omega | (simp only [zll] <;> omega)) (by first | omega | (simp only [zll] <;> omega)) (by first | omega | (simp only [zll] <;> omega)) _ (St.begin (Γ := [_, _]) hS)) rfl (after_M (Γ1 := [_, _]) hS (fun v7 G7 w7 hv7 hS7 => ?_))
 clear hS
 obtain ⟨k7, ad7, cp7, rs7, da7, dc7, g7, rfl, rfl, hle7, hrs7, hab7⟩ := hv7
 have hS8 : St _ _ [wk k7 kd ad7 cp7 rs7, dk kd da7 dc7 (l.take (scan l bb).2) bb ((scan l bb).2), .fz g7] _ := hS7; clear hS7
 refine hK _ _ ?_; clear hK K
 refine l_q rfl rfl (q_move rfl) ?_
 refine l_q rfl rfl (q_extract rfl rfl) ?_
 refine l_q rfl rfl (q_extract rfl rfl) ?_
 refine l_q rfl rfl (q_assignP rfl) ?_
 refine l_q rfl rfl (q_assignI rfl) ?_
 refine l_nil ?_
 refine hK6 _ _ ?_
 refine wp_seq_k (fun K9 hK9 => ?_)
 refine wp_seq_k (fun K10 hK10 => ?_)
 refine wp_region_lit ?_
 refine l_q rfl rfl (q_moveI rfl) ?_
 refine l_q rfl rfl (q_neq rfl rfl) ?_
 refine l_nil ?_
 refine hK10 _ _ ?_
 refine c_condF rfl (by decide) ?_
 refine wp_skip ?_
 refine hK9 _ _ ?_
 refine wp_seq_k (fun K12 hK12 => ?_)
 have hwl : (l.take (scan l bb).2).length = (scan l bb).2 := by rw [List.length_take]; have := scan_le l.length l bb (Nat.le_refl _); omega
 have hrl : rs7.length = (scan l bb).1.length := by rw [← hab7, List.length_map]
 have hRl := (scan_len l.length l bb (Nat.le_refl _)).1
 have hInc := scan_inc l.length l bb (Nat.le_refl _)
 refine wp_region_lit ?_
 refine l_q rfl rfl (q_moveP rfl) ?_
 refine l_q rfl rfl (q_moveI rfl) ?_
 refine l_e rfl (fun K hK => ?_)
 refine e_makeMap hS8 (.int .i64) (fun m13 w13 (hS13 : St _ _ [.mp (.int .i64) m13 [], _, _, .fz g7] _) => ?_)
 clear hS8
 refine hK _ _ ?_; clear hK K
 refine l_q rfl rfl (q_build (ps := [(0, 1), (1, 1), (2, 1), (3, 1), (4, 1), (5, 1)]) (zv := .agg #[.pointer none, .int .i64 0, .int .i64 0, .int .i64 0, .map none, .slice none 0 0]) (by kernel_rfl) (by kernel_rfl) rfl (by repeat' (first | exact trivial | refine ⟨fun _ => by first | rfl | assumption | exact one_if (by assumption), ?_⟩ | refine ⟨fun ⟨_, h⟩ => by simp at h, ?_⟩)) rfl) ?_
 refine l_e rfl (fun K hK => ?_)
 refine e_boxA hS13 rfl (fun b14 w14 (hS14 : St _ _ [.blk b14 (.cells #[.pointer (some ⟨k7, 0, none⟩), .int .i64 nd, .int .i64 (0 : Int), .int .i64 (0 : Int), .map (some m13), .slice none 0 0] 68), _, _, _, .fz g7] _) => ?_)
 clear hS13
 refine hK _ _ ?_; clear hK K
 refine l_q rfl rfl (q_assignP rfl) ?_
 refine l_nil ?_
 refine hK12 _ _ ?_
 refine wp_seq_k (fun K15 hK15 => ?_)
 refine wp_seq_k (fun K16 hK16 => ?_)
 refine wp_region_lit ?_
 refine l_q rfl rfl (q_moveP rfl) ?_
 refine l_e rfl (fun K hK => ?_)
 have hS18 := hS14.fr2; clear hS14
 refine e_call (by kernel_rfl) (wNumbers_ok _ _ _ _ _ (by first | omega | (simp only [zll] <;> omega)) _ (St.begin (Γ := [_]) hS18)) rfl (after_M (Γ1 := [_]) hS18 (fun v17 G17 w17 hv17 hS17 => ?_))
 clear hS18
 obtain ⟨ad17, cp17, rfl, rfl⟩ := hv17
 have hS19 : St _ _ [.ow 3 1 ad17 rs7.length cp17 (iv (nums rs7)), _, _, _, _, .fz g7] _ := hS17; clear hS17
 refine hK _ _ ?_; clear hK K
 refine l_q rfl rfl (q_lenSl (e := 3) rfl (by kernel_rfl)) ?_
 refine l_q rfl rfl (q_moveI rfl) ?_
 refine l_nil ?_
 refine hK16 _ _ ?_
 refine wp_block ?_
 have hS20 := hS19.ow_nil 42 5; clear hS19
 have hS21 : St _ _ [.pk (List.map tb []), .ow 42 5 none 0 0 (List.flatMap lo []), _, _, _, _, _, .fz g7] _ := St.pk (Γ1 := []) hS20; clear hS20
 have hS22 := hS21.fr1; clear hS21
 have hS23 := hS22.fr1; clear hS22
 have hS24 := hS23.fr5; clear hS23
 have hS25 := hS24.fr5; clear hS24
 have hS26 : St _ _ [co b14 k7 nd 0 0 m13 none [] 0 [], _, _, _, .fz g7] _ := co_close (k := b14) (kw := k7) (nd := nd) (inc := 0) (cnt := 0) (mb := m13) (oa := none) (O := []) (oc := 0) (T := []) hS25; clear hS25
 have hS27 := hS26.fr1; clear hS26
 have hS28 := hS27.fr4; clear hS27
 have hS29 := hS28.fr4; clear hS28
 have hS30 := hS29.fr4; clear hS29
 have hS31 := hS30.fr4; clear hS30
 refine c_loop (τ := Nat × Nat × (List (Int × Nat × Tx))) [(10, 12), (37, 51)] (fun x => (fun (i : Nat) (inc : Nat) (T : List (Int × Nat × Tx)) => [(37, .int .i64 (i : Int))]) x.1 x.2.1 x.2.2) (fun x w' => (fun (i : Nat) (inc : Nat) (T : List (Int × Nat × Tx)) => St w (owns [dk kd da dc l bb s, .fz g]) [co b14 k7 nd inc 0 m13 none [] 0 T, wk k7 kd ad7 cp7 rs7, dk kd da7 dc7 (l.take (scan l bb).2) bb ((scan l bb).2), .fz g7, .ow 3 1 ad17 rs7.length cp17 (iv (nums rs7))] w' ∧ i ≤ rs7.length ∧ TOk T ∧ (inc, absT T) = replayR ((scan l bb).1.take i) (0, []) ∧ inc ≤ i) x.1 x.2.1 x.2.2) (fun x => (fun (i : Nat) (inc : Nat) (T : List (Int × Nat × Tx)) => rs7.length - i) x.1 x.2.1 x.2.2) (⟨0, 0, []⟩) ?_ (by repeat' (first | exact trivial | refine ⟨by first | rfl | exact int_succ _ | assumption, ?_⟩)) (fun x32 j32 w32 hJ32 K32 hK32 => ?_)
 exact ⟨hS31, Nat.zero_le _, TOk.nil, (by show ((0 : Nat), ([] : List (Int × Tx))) = replayR [] (0, []); rw [replayR_nil]), Nat.le_refl _⟩
 obtain ⟨i, inc, T⟩ := x32
 obtain ⟨hS32, hi, hT, hst, hin⟩ := hJ32
 try dsimp only at hS32 hi hT hst hin ⊢
 refine wp_seq_k (fun K33 hK33 => ?_)
 refine wp_region_lit ?_
 refine l_q rfl rfl (q_lss rfl rfl) ?_
 refine l_nil ?_
 refine hK33 _ _ ?_
 refine wp_seq_k (fun K34 hK34 => ?_)
 refine c_cond rfl (fun hc35 => ?_) (fun hc35 => ?_)
 have hc35b := hc35
 try simp only [zbb] at hc35
 refine wp_skip ?_
 refine hK34 _ _ ?_
 refine wp_seq_k (fun K36 hK36 => ?_)
 refine wp_block ?_
 refine wp_seq_k (fun K37 hK37 => ?_)
 refine wp_region_lit ?_
 refine l_q rfl rfl (q_ixG (e := 3) (m := 1) (j := i) rfl rfl (by kernel_rfl) (by kernel_rfl) (by first | rfl | omega) (by omega) (hS32.owG (i := 4) rfl) (by first | (rw [iv_len, nums_len]; omega) | omega)) ?_
 obtain ⟨x38, hx38⟩ : ∃ x, ((nums rs7))[i]? = some x := ⟨_, List.getElem?_eq_getElem (by first | omega | (rw [nums_len]; omega) | (simp <;> omega))⟩
 refine l_q rfl rfl (q_load1 rfl (by kernel_rfl) (SlG.cell (hS32.owG (i := 4) rfl) (Gle.refl _) (at1 (iv_at hx38)))) ?_
 refine l_q rfl rfl (q_assignI rfl) ?_
 refine l_nil ?_
 refine hK37 _ _ ?_
 refine wp_seq_k (fun K39 hK39 => ?_)
 obtain ⟨r, hr, hrn⟩ := nums_at' hx38
 have hrR : (scan l bb).1[i]? = some r.abs := by rw [← hab7, List.getElem?_map, hr]; rfl
 have hrd : rdB (List.map Rc.abs rs7) x38 = r.b := by rw [hab7, ← hrn]; exact rdB_at hInc hrR
 have hrok := hrs7 r (List.mem_of_getElem? hr)
 have hrdl : (rdB (List.map Rc.abs rs7) x38).length ≤ 4096 := by rw [hrd]; exact hrok.2.2.1
 refine wp_region_lit ?_
 refine l_q rfl rfl (q_moveP rfl) ?_
 refine l_q rfl rfl (q_moveI rfl) ?_
 refine l_e rfl (fun K hK => ?_)
 have hS41 := hS32.fr3; clear hS32
 have hS42 := hS41.fr2; clear hS41
 refine e_call (by kernel_rfl) (wRead_ok _ _ _ _ _ _ (by first | omega | (simp only [zll] <;> omega)) hrs7 _ _ (St.begin (Γ := [_, _]) hS42)) rfl (after_M (Γ1 := [_, _]) hS42 (fun v40 G40 w40 hv40 hS40 => ?_))
 clear hS42
 obtain ⟨ad40, cp40, rfl, rfl⟩ := hv40
 have hS43 : St _ _ [.ow 5 1 ad40 ((rdB (List.map Rc.abs rs7) x38).length) cp40 (bv (rdB (List.map Rc.abs rs7) x38)), _, .fz g7, co b14 k7 nd inc 0 m13 none [] 0 T, _, _] _ := hS40; clear hS40
 refine hK _ _ ?_; clear hK K
 refine l_q rfl rfl (q_move rfl) ?_
 refine l_q rfl rfl (q_extract rfl rfl) ?_
 refine l_q rfl rfl (q_extract rfl rfl) ?_
 refine l_q rfl rfl (q_assignS rfl) ?_
 refine l_q rfl rfl (q_assignI rfl) ?_
 refine l_nil ?_
 refine hK39 _ _ ?_
 refine wp_region_lit ?_
 refine l_q rfl rfl (q_moveP rfl) ?_
 refine l_q rfl rfl (q_moveS rfl) ?_
 refine l_e rfl (fun K hK => ?_)
 have hrd44 := readL_len (rdB (List.map Rc.abs rs7) x38)
 have hcp44 := (hS43.owLen (i := 0) rfl).2.1
 refine e_call (by kernel_rfl) (read_ok (rdB (List.map Rc.abs rs7) x38) (rdB_bytes hrs7 _) ((rdB (List.map Rc.abs rs7) x38).length) (by first | omega | (simp only [zll] <;> omega)) (by first | omega | (simp only [zll] <;> omega)) _ _ (by first | omega | (simp only [zll] <;> omega)) _ (hS43.owG (i := 0) rfl)) rfl (after_N hS43 (fun v44 G44 w44 hv44 hS44 => ?_))
 clear hS43
 obtain ⟨oa44, oc44, rfl, rfl⟩ := hv44
 have hS45 : St _ _ [.ow 3 1 oa44 ((readL (rdB (List.map Rc.abs rs7) x38)).length) oc44 (iv (readL (rdB (List.map Rc.abs rs7) x38))), _, _, .fz g7, _, _, _] _ := hS44; clear hS44
 refine hK _ _ ?_; clear hK K
 refine l_e rfl (fun K hK => ?_)
 have hS47 := hS45.fr3; clear hS45
 have hS48 := hS47.fr4; clear hS47
 obtain ⟨g49, hg49, hG49⟩ := St.rogO (Γ1 := [_, _]) (i := 0) hS48 rfl
 refine e_call (by kernel_rfl) (replay_ok b14 k7 nd inc 0 m13 none [] 0 T hT g7 LOk.nil (by decide) (by omega) (readL (rdB (List.map Rc.abs rs7) x38)) (fun x hx => readL_in hx) _ rfl _ _ _ _ hg49 hG49 (St.begin (Γ := [_, _]) hS48)) rfl (after_M (Γ1 := [_, _]) hS48 (fun v46 G46 w46 hv46 hS46 => ?_))
 clear hS48
 obtain ⟨inc46, T46, rfl, hT46, hst46⟩ := hv46
 have hS50 : St _ _ [co b14 k7 nd inc46 0 m13 none [] 0 T46, .fz g7, _, _, _, _, _] _ := hS46; clear hS46
 refine hK _ _ ?_; clear hK K
 refine l_nil ?_
 refine hK36 _ _ ?_
 refine wp_region_lit ?_
 refine l_q rfl rfl (q_addx rfl rfl (by first | decide | omega) (by first | decide | omega)) ?_
 refine l_q rfl rfl (q_moveI rfl) ?_
 refine l_nil ?_
 have hS51 := hS50.fr6; clear hS50
 have hS52 := hS51.fr2; clear hS51
 have hS53 := hS52.fr6; clear hS52
 have hS54 := hS53.fr6; clear hS53
 have hS55 := hS54.fr4; clear hS54
 have hS56 : St _ _ [_, _, _, .fz g7, _] _ := hS55.only 5; clear hS55
 refine hK32 _ _ (came (⟨(i + 1), inc46, T46⟩) (by repeat' (first | exact Agree.refl _ _ | refine Agree.up ?_ rfl | refine Agree.hav2 ?_ rfl | refine Agree.ups2 ?_ rfl)) (by repeat' (first | exact trivial | refine ⟨by first | rfl | exact int_succ _ | assumption, ?_⟩)) ?_)
 have hst' : (inc46, absT T46) = replayR ((scan l bb).1.take (i + 1)) (0, []) := by rw [hst46, hst, replayR_step hrR, show r.abs.2 = r.b from rfl, ← hrd]
 have hin : inc46 ≤ i + 1 := by have := rep_inc (readL (rdB (List.map Rc.abs rs7) x38)) (inc, absT T); rw [← hst46] at this; dsimp only at this; omega
 exact ⟨⟨hS56, (by show i + 1 ≤ rs7.length; omega), hT46, hst', hin⟩, by (show rs7.length - (i + 1) < rs7.length - i); omega⟩
 have hc35b := hc35
 try simp only [zbb] at hc35
 refine wp_exit ?_
 refine hK15 _ _ ?_
 refine wp_seq_k (fun K57 hK57 => ?_)
 refine wp_seq_k (fun K58 hK58 => ?_)
 have hiN : i = (scan l bb).1.length := by omega
 rw [hiN, List.take_length] at hst
 rw [← hst] at hinc
 dsimp only at hinc
 have hS59 := co_open hS32; clear hS32
 have hfit := (rec_fits (l := l.take (scan l bb).2) (ns := [(0 : Int), (inc : Int)]) (Nat.le_of_ble_eq_true rfl) (by intro x hx; simp only [List.mem_cons, List.not_mem_nil, or_false] at hx; rcases hx with rfl | rfl <;> omega) (by omega))
 refine wp_region_lit ?_
 refine l_q rfl rfl (q_moveP rfl) ?_
 refine l_q rfl rfl (q_nilCheck rfl) ?_
 refine l_q rfl rfl (q_fieldAddr (ft := 3) (o := 2) rfl (by kernel_rfl)) ?_
 refine l_q rfl rfl (q_load1 rfl (by kernel_rfl) (hS59.cell (i := 0) rfl rfl)) ?_
 refine l_q rfl rfl (q_gtr rfl rfl) ?_
 refine l_nil ?_
 refine hK58 _ _ ?_
 refine c_cond rfl (fun hc60 => ?_) (fun hc60 => ?_)
 have hc60b := hc60
 try simp only [zbb] at hc60
 exfalso; omega
 have hc60b := hc60
 try simp only [zbb] at hc60
 refine wp_skip ?_
 refine hK57 _ _ ?_
 refine wp_seq_k (fun K61 hK61 => ?_)
 refine wp_seq_k (fun K62 hK62 => ?_)
 refine wp_region_lit ?_
 refine l_q rfl rfl (q_moveP rfl) ?_
 refine l_q rfl rfl (q_moveP rfl) ?_
 refine l_q rfl rfl (q_nilCheck rfl) ?_
 refine l_q rfl rfl (q_fieldAddr (ft := 3) (o := 2) rfl (by kernel_rfl)) ?_
 refine l_q rfl rfl (q_load1 rfl (by kernel_rfl) (hS59.cell (i := 0) rfl rfl)) ?_
 refine l_e rfl (fun K hK => ?_)
 refine e_buildSlice1 (e := 3) (zv := .int .i64 0) (xs := [_, .tmp 62]) hS59 (by kernel_rfl) (by kernel_rfl) (by kernel_rfl) rfl rfl rfl rfl (allone (by repeat' (first | exact trivial | refine ⟨by first | rfl | assumption, ?_⟩))) rfl (fun b63 w63 (hS63 : St _ _ [.blk b63 (.cells #[.int .i64 (0 : Int), .int .i64 (inc : Int)] 3), .blk b14 (.cells #[.pointer (some ⟨k7, 0, none⟩), .int .i64 nd, .int .i64 (inc : Int), .int .i64 ((0 : Nat) : Int), .map (some m13), .slice none ([].length) 0] 68), .mp (.int .i64) m13 (List.map tc T), .pk (List.map tb T), .ow 42 5 none ([].length) 0 (List.flatMap lo []), _, _, .fz g7, _] _) => ?_)
 clear hS59
 have hS63o : St _ _ [.ow 3 1 (some ⟨b63, 0, none⟩) 2 2 (iv [(0 : Int), (inc : Int)]), _, _, _, _, _, _, .fz g7, _] _ := hS63.blkOw' (i := 0) (m := 2) (size := 1) (xs := iv [(0 : Int), (inc : Int)]) rfl rfl rfl (by decide); clear hS63
 refine hK _ _ ?_; clear hK K
 refine l_e rfl (fun K hK => ?_)
 have hns64 : ∀ x ∈ [(0 : Int), (inc : Int)], -9223372036854775808 ≤ x ∧ x ≤ 9223372036854775807 := by intro x hx; simp only [List.mem_cons, List.not_mem_nil, or_false] at hx; rcases hx with rfl | rfl <;> omega
 have hrl64 := rowE_len (recs_ok hns64)
 refine e_call (by kernel_rfl) (record_ok [(0 : Int), (inc : Int)] hns64 2 (by first | omega | (simp only [zll] <;> omega)) (by first | omega | (simp only [zll] <;> omega)) _ _ _ (hS63o.owG (i := 0) rfl)) rfl (after_N hS63o (fun v64 G64 w64 hv64 hS64 => ?_))
 clear hS63o
 obtain ⟨oa64, oc64, rfl, rfl⟩ := hv64
 have hS65 : St _ _ [.ow 5 1 oa64 (((rowE ([(0 : Int), (inc : Int)].map vI)).1).length) oc64 (bv ((rowE ([(0 : Int), (inc : Int)].map vI)).1)), _, _, _, _, _, _, _, .fz g7, _] _ := hS64; clear hS64
 refine hK _ _ ?_; clear hK K
 refine l_e rfl (fun K hK => ?_)
 have hS67 := hS65.fr8; clear hS65
 have hS68 := hS67.fr8; clear hS67
 have hS69 := hS68.fr8; clear hS68
 obtain ⟨g70, hg70, hG70⟩ := St.rogO (Γ1 := [_, _, _]) (i := 0) hS69 rfl
 refine e_call (by kernel_rfl) (wAppend_ok _ _ _ _ _ _ _ _ _ _ _ (by first | omega | (simp only [zll] <;> omega)) (Bytes.take hl) (by first | omega | (simp only [zll] <;> omega)) (by first | omega | (simp only [zll] <;> omega)) hrs7 _ ((rowE ([(0 : Int), (inc : Int)].map vI)).1) (rowE_bytes (recs_ok hns64)) _ _ (by first | omega | (simp only [zll] <;> omega)) hG70 _ hg70 (St.begin (Γ := [_, _, _]) hS69)) rfl (after_M (Γ1 := [_, _, _]) hS69 (fun v66 G66 w66 hv66 hS66 => ?_))
 clear hS69
 obtain ⟨ad66, cp66, rs66, da66, dc66, g66, rfl, rfl, hle66, hrs66, hab66⟩ := hv66
 have hS71 : St _ _ [wk k7 kd ad66 cp66 rs66, dk kd da66 dc66 (waL (l.take (scan l bb).2) ((rowE ([(0 : Int), (inc : Int)].map vI)).1)) bb ((scan l bb).2), .fz g66, _, _, _, _, _, _, _] _ := hS66; clear hS66
 have hL66 := waL_len (l.take (scan l bb).2) ((rowE ([(0 : Int), (inc : Int)].map vI)).1)
 refine hK _ _ ?_; clear hK K
 refine l_q rfl rfl (q_move rfl) ?_
 refine l_q rfl rfl (q_extract rfl rfl) ?_
 refine l_q rfl rfl (q_extract rfl rfl) ?_
 refine l_q rfl rfl (q_assignI rfl) ?_
 refine l_q rfl rfl (q_assignI rfl) ?_
 refine l_nil ?_
 refine hK62 _ _ ?_
 refine wp_seq_k (fun K72 hK72 => ?_)
 refine wp_region_lit ?_
 refine l_q rfl rfl (q_moveI rfl) ?_
 refine l_q rfl rfl (q_neq rfl rfl) ?_
 refine l_nil ?_
 refine hK72 _ _ ?_
 refine c_cond rfl (fun hc73 => ?_) (fun hc73 => ?_)
 have hc73b := hc73
 try simp only [zbb] at hc73
 exfalso; have hfw : waE (l.take (scan l bb).2) (rowE ([(0 : Int), (inc : Int)].map vI)).1 = 0 := hfit.1; omega
 have hc73b := hc73
 try simp only [zbb] at hc73
 refine wp_skip ?_
 refine hK61 _ _ ?_
 refine wp_seq_k (fun K74 hK74 => ?_)
 refine wp_region_lit ?_
 refine l_q rfl rfl (q_moveP rfl) ?_
 refine l_q rfl rfl (q_moveP rfl) ?_
 refine l_e rfl (fun K hK => ?_)
 refine e_call (by kernel_rfl) (wSync_ok _ _ _ _ _ _ _ _ _ _ _ (St.begin (Γ := [_, _]) hS71)) rfl (after_M (Γ1 := [_, _]) hS71 (fun v75 G75 w75 hv75 hS75 => ?_))
 clear hS71
 obtain ⟨rfl, rfl⟩ := hv75
 have hS76 : St _ _ [_, dk kd da66 dc66 (waL (l.take (scan l bb).2) ((rowE ([(0 : Int), (inc : Int)].map vI)).1)) bb ((waL (l.take (scan l bb).2) ((rowE ([(0 : Int), (inc : Int)].map vI)).1)).length), .fz g66, _, _, _, _, _, _, _] _ := hS75; clear hS75
 refine hK _ _ ?_; clear hK K
 refine l_q rfl rfl (q_assignP rfl) ?_
 refine l_q rfl rfl (q_assignI rfl) ?_
 refine l_nil ?_
 refine hK74 _ _ ?_
 refine wp_ret ?_
 refine c_ret2 rfl rfl rfl ?_
 have hfit1 := hfit.1
 have hS77 := hS76.fr2; clear hS76
 have hS78 := hS77.fr2; clear hS77
 have hS79 := hS78.fr2; clear hS78
 have hS80 := hS79.fr8; clear hS79
 have hS81 := hS80.fr8; clear hS80
 have hS82 := hS81.fr8; clear hS81
 have hS83 := hS82.fr8; clear hS82
 have hS84 : St _ _ [_, _, _, _, _, _, .fz g66] _ := hS83.only 7; clear hS83
 have hS85 : St _ _ [_, _, _, .fz g66] _ := co_close (k := b14) (kw := k7) (nd := nd) (inc := inc) (cnt := 0) (mb := m13) (oa := none) (O := []) (oc := 0) (T := T) hS84; clear hS84
 exact ⟨_, _, rfl, ⟨_, _, _, _, _, inc, T, _, _, _, _, rfl, rfl, hle7.trans hle66, hT, hst, hrs66, by have := rs_len hab66; omega⟩, hS85⟩
set_option maxRecDepth 100000 in
theorem open_arg (nd : Int) (hnd : ¬(0 ≤ nd ∧ nd < 16)) (p : Value) (w : World) : Calls Try.prog 9 #[p, .int .i64 nd] w (PostR w fun v => v = .tuple #[.pointer none, .int .i64 1]) := by
 have hS := St.start w
 refine c_enter Try.func9 rfl rfl rfl ?_
 refine wp_seq_k (fun K1 hK1 => ?_)
 refine wp_region_lit ?_
 refine l_q rfl rfl (q_assignP rfl) ?_
 refine l_q rfl rfl (q_assignI rfl) ?_
 refine l_nil ?_
 refine hK1 _ _ ?_
 refine wp_seq_k (fun K2 hK2 => ?_)
 refine wp_seq_k (fun K3 hK3 => ?_)
 refine wp_region_lit ?_
 refine l_q rfl rfl (q_moveI rfl) ?_
 refine l_q rfl rfl (q_lss rfl rfl) ?_
 refine l_q rfl rfl (q_moveB rfl) ?_
 refine g_splitL (t := 17) rfl (fun hg4 => ?_) (fun hg4 => ?_)
 have hg4b := hg4
 try simp only [zbb] at hg4
 refine l_off rfl rfl rfl hg4b ?_
 refine l_off rfl rfl rfl hg4b ?_
 refine l_q rfl rfl (q_pickT rfl hg4b rfl) ?_
 refine l_nil ?_
 refine hK3 _ _ ?_
 refine c_condT rfl rfl ?_
 refine wp_seq_k (fun K6 hK6 => ?_)
 refine wp_region_lit ?_
 refine l_q rfl rfl (q_assignP rfl) ?_
 refine l_q rfl rfl (q_assignI rfl) ?_
 refine l_nil ?_
 refine hK6 _ _ ?_
 refine wp_ret ?_
 refine c_ret2 rfl rfl rfl ?_
 exact ⟨_, rfl, rfl, hS.drop⟩
 have hg4b := hg4
 try simp only [zbb] at hg4
 refine l_on rfl rfl hg4b ?_
 refine l_q rfl rfl (q_moveI rfl) ?_
 refine l_on rfl rfl hg4b ?_
 refine l_q rfl rfl (q_geq rfl rfl) ?_
 refine l_q rfl rfl (q_pickF rfl hg4b rfl) ?_
 refine l_nil ?_
 refine hK3 _ _ ?_
 refine c_cond rfl (fun hc7 => ?_) (fun hc7 => ?_)
 have hc7b := hc7
 try simp only [zbb] at hc7
 refine wp_seq_k (fun K8 hK8 => ?_)
 refine wp_region_lit ?_
 refine l_q rfl rfl (q_assignP rfl) ?_
 refine l_q rfl rfl (q_assignI rfl) ?_
 refine l_nil ?_
 refine hK8 _ _ ?_
 refine wp_ret ?_
 refine c_ret2 rfl rfl rfl ?_
 exact ⟨_, rfl, rfl, hS.drop⟩
 have hc7b := hc7
 try simp only [zbb] at hc7
 exfalso; omega
end Go.Proofs.Yteojpdijmnpmgaa
namespace Go.Proofs.Yteojpdijmnpmgaa
open Go.RowKit
theorem abs_nil {T : List (Int × Nat × Tx)} (h : absT T = []) : T = [] := List.map_eq_nil_iff.1 h
theorem abs_one {T : List (Int × Nat × Tx)} {n : Int} {t : Tx} (h : absT T = [(n, t)]) : ∃ b, T = [(n, b, t)] := by
  obtain ⟨⟨a, b, c⟩, hq, he⟩ := List.map_eq_singleton_iff.1 h
  injection he with h1 h2
  dsimp only at h1 h2
  subst h1 h2
  exact ⟨b, hq⟩
theorem val3 {α β γ : Type} {x : α × β × γ} {a a' : α} {b b' : β} {c c' : γ} (h : x = (a, b, c)) (e : x = (a', b', c')) : a = a' ∧ b = b' ∧ c = c' := by
  rw [h] at e; injection e with h1 h2; injection h2 with h2 h3; exact ⟨h1, h2, h3⟩
theorem los_nil {O : List Lo} (h : O.map Lo.l = []) : O = [] := List.map_eq_nil_iff.1 h
theorem los_len {O : List Lo} {L : List Lr} (h : O.map Lo.l = L) : O.length = L.length := by rw [← h, List.length_map]
theorem los_at {O : List Lo} {L : List Lr} (h : O.map Lo.l = L) {i : Nat} {x : Lo} (hx : O[i]? = some x) : L[i]? = some x.l := by rw [← h, List.getElem?_map, hx]; rfl
theorem get_one (n : Int) (t : Tx) : getT [(n, t)] n = some t := by unfold getT; rw [List.find?_cons_of_pos (by simp)]; rfl
theorem set_nil (n : Int) (t : Tx) : setT [] n t = [(n, t)] := rfl
theorem set_one (n : Int) (t t' : Tx) : setT [(n, t)] n t' = [(n, t')] := by
  unfold setT
  rw [List.filter_cons_of_neg (by simp), List.filter_cons_of_neg (by simp)]; rfl
theorem ask_one {nd n : Int} {L : List Int} {O : List Lr} {t : Tx} {u : Nat} (h : t.asked = false) (h2 : t.com = false) (hL : ofL L = (u, true)) : askF nd n L [(n, t)] O = (0, [(n, ⟨u, t.yes, t.read, true, t.com, t.tell, t.ticks⟩)], O ++ sends 1 nd n (nodesTo u 16) u) := by
  rw [ask_do (get_one n t) h h2 (by rw [hL]), set_one, hL]
theorem of01 : ofL [(0 : Int), (1 : Int)] = (3, true) := by decide
theorem nodes3 : nodesTo 3 16 = [0, 1] := by decide
theorem sta_nil (n : Int) : staT (getT [] n) = 0 := rfl
theorem sta_one {n : Int} {t : Tx} (h : t.com = false) : staT (getT [(n, t)] n) = 1 := by rw [get_one, staT_no h]
theorem numB0 (nd : Int) : numB nd 0 0 = nd := by unfold numB; omega
theorem numB_mod {nd : Int} (h : 0 ≤ nd ∧ nd < 16) (i c : Nat) : Int.tmod (numB nd i c) 16 = nd := by
  have h0 : 0 ≤ numB nd i c := by unfold numB; omega
  rw [Int.tmod_eq_emod_of_nonneg h0]
  unfold numB; omega
theorem numB_cnt (nd : Int) (i c : Nat) : numB nd i c < numB nd i (c + 1) := by unfold numB; omega
theorem numB_inc {nd : Int} {i c : Nat} (h : c < 65536) : numB nd i c < numB nd (i + 1) 0 := by unfold numB; omega
theorem get_set (A : List (Int × Tx)) (n : Int) (t : Tx) : getT (setT A n t) n = some t := by
  unfold getT setT
  rw [List.find?_append, List.find?_eq_none.2 (fun q hq => ?_), Option.none_or, List.find?_cons_of_pos (by simp)]
  · rfl
  · have := of_decide_eq_true (List.mem_filter.1 hq).2
    simp; omega
theorem pw_all (l : List Nat) (c : Int) : pwN l l.length c = l.length ∧ l.take (pwN l l.length c) = l := by
  have h : pwN l l.length c = l.length := by have := pwN_le (l := l) (s := l.length) c (Nat.le_refl _); omega
  exact ⟨h, by rw [h, List.take_length]⟩
/-- How a disk grows. -/
def Grew (l : List Nat) (s : Nat) (l' : List Nat) (s' : Nat) : Prop := Bytes l' ∧ s' ≤ l'.length ∧ l'.length ≤ l.length + 3382 ∧ l.length ≤ l'.length
theorem Grew.refl {l : List Nat} {s : Nat} (h : Bytes l) (hs : s ≤ l.length) : Grew l s l s := ⟨h, hs, by omega, Nat.le_refl _⟩
theorem rec_grew {l : List Nat} {ns : List Int} (h : Bytes l) (hn : ∀ x ∈ ns, -9223372036854775808 ≤ x ∧ x ≤ 9223372036854775807) : Bytes (recL l ns) ∧ (recL l ns).length ≤ l.length + 3382 ∧ l.length ≤ (recL l ns).length := by
  have h1 := waL_len l (rowE (ns.map vI)).1
  have h2 := rowE_len (recs_ok hn)
  have h3 : recL l ns = waL l (rowE (ns.map vI)).1 := rfl
  rw [h3]
  exact ⟨waL_bytes h (rowE_bytes (recs_ok hn)), by omega, h1.1⟩
end Go.Proofs.Yteojpdijmnpmgaa
namespace Go.Proofs.Yteojpdijmnpmgaa
open Go.RowKit
theorem disk0 {l0 : List Nat} (h : l0 = recL [] [0, 0]) : Bytes l0 ∧ DiskIs l0 (1, []) ∧ l0.length ≤ 3382 := by
  have hd : DiskIs (recL [] [0, 0]) (replayF [0, 0] (0, [])) := DiskIs.nil.rec (by decide) (by decide) (by intro x hx; simp only [List.mem_cons, List.not_mem_nil, or_false] at hx; rcases hx with rfl | rfl <;> decide) (by decide)
  have hr := (rec_fits (l := []) (ns := [0, 0]) (by decide) (by intro x hx; simp only [List.mem_cons, List.not_mem_nil, or_false] at hx; rcases hx with rfl | rfl <;> decide) (by decide)).2.2
  rw [← h] at hd hr
  exact ⟨hd.1, hd, by have : ([] : List Nat).length = 0 := rfl; omega⟩
attribute [local irreducible] Oper.wp Sem.run Code.wp wpList wpAnyO callFunc execOp Calls
attribute [local irreducible] toU short rencs renc rowE encRow rightB zig unzig decRw risB lastN bitsOf nodesTo readL recB ofL sends getT delT setT waL waE waN waR apL apE replayF replayR rdB rdE scan nums askF numB
theorem ask_any (k kw : Nat) (nd : Int) (inc cnt mb : Nat) (oa : Option Addr) (O : List Lo) (oc : Nat) (T : List (Int × Nat × Tx)) (hT : TOk T) (g : Gh) (hO : LOk g O) (hol0 : O.length ≤ 100000) (n : Int) (L : List Int) (m : Nat) (hm : L.length = m) (hml : m ≤ 2000000) (an : Option Addr) (cn : Nat) (w : World) (g2 : Gh) (hg2 : Rog [co k kw nd inc cnt mb oa O oc T, .fz g] w g2) (hG : SlG g2 an (iv L)) (hS : St w (owns [co k kw nd inc cnt mb oa O oc T, .fz g]) [co k kw nd inc cnt mb oa O oc T, .fz g] w) :
    Calls Try.prog 13 #[pV k, .int .i64 n, .slice an m cn] w (Post w [co k kw nd inc cnt mb oa O oc T, .fz g] fun v G => ∃ a oa' oc' O' T' g', v = .int .i64 a ∧ G = [co k kw nd inc cnt mb oa' O' oc' T', .fz g'] ∧ Gle g g' ∧ LOk g' O' ∧ TOk T' ∧ askF nd n L (absT T) (O.map Lo.l) = (a, absT T', O'.map Lo.l)) := by
  refine (ask_ok k kw nd inc cnt mb oa O oc T hT g hO hol0 n L m hm hml an cn w g2 hg2 hG hS).mono ?_
  rintro _ w' ⟨v, G, he, ⟨oa', oc', O', T', g', h1, h2, h3, h4, h5, h6, h7⟩, hS'⟩
  exact ⟨v, G, he, ⟨_, oa', oc', O', T', g', h1, h2, h3, h4, h5, by rw [h6, h7]⟩, hS'⟩

theorem state_any (k kw : Nat) (nd : Int) (inc cnt mb : Nat) (oa : Option Addr) (O : List Lo) (oc : Nat) (T : List (Int × Nat × Tx)) (hT : TOk T) (g : Gh) (hO : LOk g O) (hol0 : O.length ≤ 100000) (n : Int) (w : World) (hS : St w (owns [co k kw nd inc cnt mb oa O oc T, .fz g]) [co k kw nd inc cnt mb oa O oc T, .fz g] w) :
    Calls Try.prog 17 #[pV k, .int .i64 n] w (Post w [co k kw nd inc cnt mb oa O oc T, .fz g] fun v G => ∃ a, v = .int .i64 a ∧ G = [co k kw nd inc cnt mb oa O oc T, .fz g] ∧ staT (getT (absT T) n) = a) := by
  refine (state_ok k kw nd inc cnt mb oa O oc T hT g hO hol0 n w hS).mono ?_
  rintro _ w' ⟨v, G, he, ⟨h1, h2⟩, hS'⟩
  exact ⟨v, G, he, ⟨_, h1, h2, rfl⟩, hS'⟩

end Go.Proofs.Yteojpdijmnpmgaa
namespace Go.Proofs.Yteojpdijmnpmgaa
open Go.RowKit
/-- Bools in a row. -/
def bo1 (b : Bool) : List Value := [.bool b]
theorem q_bc {P : Program} {n : Nat} {f : Nat → Value} {o : Oper} {w : World} {a b : Bool} (h : a = b) (hr : Run P n f o w (.bool a)) : Run P n f o w (.bool b) := by rw [← h]; exact hr
theorem mem_take_succ {L : List Int} {i : Nat} {x y : Int} (h : L[i]? = some y) : x ∈ L.take (i + 1) ↔ x ∈ L.take i ∨ x = y := by
  rw [List.take_add_one, h]; simp
attribute [local irreducible] Oper.wp Sem.run Code.wp wpList wpAnyO callFunc execOp Calls
attribute [local irreducible] pickN
set_option maxRecDepth 100000 in
theorem has13_ok (L : List Int) (y : Int) (n : Nat) (hn : L.length = n) (hm : n ≤ 2000000) (an : Option Addr) (cn : Nat) (w : World) (hG : SlG (hw w) an (iv L)) : Calls Try.prog 20 #[.slice an n cn, .int .i64 y] w (PostR w fun v => v = .bool (decide (y ∈ L))) := by
 have hS := St.start w
 subst hn
 refine c_enter Try.func20 rfl rfl rfl ?_
 refine wp_seq_k (fun K1 hK1 => ?_)
 refine wp_region_lit ?_
 refine l_q rfl rfl (q_assignB rfl) ?_
 refine l_nil ?_
 refine hK1 _ _ ?_
 refine wp_seq_k (fun K2 hK2 => ?_)
 refine wp_seq_k (fun K3 hK3 => ?_)
 refine wp_region_lit ?_
 refine l_q rfl rfl (q_assignI rfl) ?_
 refine l_nil ?_
 refine hK3 _ _ ?_
 refine wp_block ?_
 refine c_loop (τ := Nat) [(4, 17)] (fun x => (fun (i : Nat) => [(5, .int .i64 (i : Int))]) x) (fun x w' => (fun (i : Nat) => St w (fun _ => False) [] w' ∧ i ≤ L.length ∧ ¬(y ∈ L.take i)) x) (fun x => (fun (i : Nat) => L.length - i) x) (0) ?_ (by repeat' (first | exact trivial | refine ⟨by first | rfl | exact int_succ _ | assumption, ?_⟩)) (fun i j4 w4 hJ4 K4 hK4 => ?_)
 exact ⟨hS, Nat.zero_le _, by simp⟩
 obtain ⟨hS4, hi, hno⟩ := hJ4
 try dsimp only at hS4 hi hno ⊢
 refine wp_seq_k (fun K5 hK5 => ?_)
 refine wp_seq_k (fun K6 hK6 => ?_)
 refine wp_region_lit ?_
 refine l_q rfl rfl (q_moveI rfl) ?_
 refine l_q rfl rfl (q_moveS rfl) ?_
 refine l_q rfl rfl (q_lenSl (e := 3) rfl (by kernel_rfl)) ?_
 refine l_q rfl rfl (q_lss rfl rfl) ?_
 refine l_nil ?_
 refine hK6 _ _ ?_
 refine c_cond rfl (fun hc7 => ?_) (fun hc7 => ?_)
 have hc7b := hc7
 try simp only [zbb] at hc7
 refine wp_skip ?_
 refine hK5 _ _ ?_
 refine wp_seq_k (fun K8 hK8 => ?_)
 refine wp_block ?_
 refine wp_seq_k (fun K9 hK9 => ?_)
 refine wp_region_lit ?_
 refine l_q rfl rfl (q_moveS rfl) ?_
 refine l_q rfl rfl (q_moveI rfl) ?_
 refine l_q rfl rfl (q_ixG (e := 3) (m := 1) (j := i) rfl rfl (by kernel_rfl) (by kernel_rfl) (by first | rfl | omega) (by omega) hG (by rw [iv_len]; first | omega | (simp only [zll] <;> omega))) ?_
 obtain ⟨x10, hx10⟩ : ∃ x, (L)[i]? = some x := ⟨_, List.getElem?_eq_getElem (by first | omega | (simp only [zll] <;> omega) | (simp <;> omega))⟩
 refine l_q rfl rfl (q_load1 rfl (by kernel_rfl) (SlG.cell (hG.mono hS4.base) (Gle.refl _) (at1 (iv_at hx10)))) ?_
 refine l_q rfl rfl (q_moveI rfl) ?_
 refine l_q rfl rfl (q_eql rfl rfl) ?_
 refine l_nil ?_
 refine hK9 _ _ ?_
 refine c_cond rfl (fun hc11 => ?_) (fun hc11 => ?_)
 have hc11b := hc11
 try simp only [zbb] at hc11
 refine wp_seq_k (fun K12 hK12 => ?_)
 refine wp_region_lit ?_
 refine l_q rfl rfl (q_assignB rfl) ?_
 refine l_nil ?_
 refine hK12 _ _ ?_
 refine wp_ret ?_
 refine c_ret1 rfl rfl ?_
 have hx : y ∈ L := by have := List.mem_of_getElem? hx10; rwa [show x10 = y by omega] at this
 exact ⟨_, rfl, congrArg Value.bool (decide_eq_true hx).symm, hS4.drop⟩
 have hc11b := hc11
 try simp only [zbb] at hc11
 refine wp_skip ?_
 refine hK8 _ _ ?_
 refine wp_region_lit ?_
 refine l_q rfl rfl (q_moveI rfl) ?_
 refine l_q rfl rfl (q_addx rfl rfl (by first | decide | omega) (by first | decide | omega)) ?_
 refine l_q rfl rfl (q_assignI rfl) ?_
 refine l_nil ?_
 refine hK4 _ _ (came ((i + 1)) (by repeat' (first | exact Agree.refl _ _ | refine Agree.up ?_ rfl | refine Agree.hav2 ?_ rfl | refine Agree.ups2 ?_ rfl)) (by repeat' (first | exact trivial | refine ⟨by first | rfl | exact int_succ _ | assumption, ?_⟩)) ?_)
 exact ⟨⟨hS4, (by show i + 1 ≤ L.length; omega), fun h => (by rcases (mem_take_succ hx10).1 h with h | h; exact hno h; omega)⟩, by (show L.length - (i + 1) < L.length - i); omega⟩
 have hc7b := hc7
 try simp only [zbb] at hc7
 refine wp_exit ?_
 refine hK2 _ _ ?_
 refine wp_seq_k (fun K13 hK13 => ?_)
 refine wp_region_lit ?_
 refine l_q rfl rfl (q_assignB rfl) ?_
 refine l_nil ?_
 refine hK13 _ _ ?_
 refine wp_ret ?_
 refine c_ret1 rfl rfl ?_
 have hx : ¬y ∈ L := by rw [List.take_of_length_le (by omega)] at hno; exact hno
 exact ⟨_, rfl, congrArg Value.bool (decide_eq_false hx).symm, hS4.drop⟩
end Go.Proofs.Yteojpdijmnpmgaa
namespace Go.Proofs.Yteojpdijmnpmgaa
open Go.RowKit
attribute [local irreducible] Oper.wp Sem.run Code.wp wpList wpAnyO callFunc execOp Calls
attribute [local irreducible] toU short rencs renc rowE encRow rightB zig unzig decRw risB lastN bitsOf nodesTo readL recB ofL sends getT delT setT waL waE waN waR apL apE replayF replayR rdB rdE scan nums askF numB staT pickN
set_option maxHeartbeats 1000000 in
set_option maxRecDepth 100000 in
theorem alive13_ok (w : World) : Calls Try.prog 11 #[] w (PostR w fun v => v = .bool true) := by
 have hS := St.start w
 refine c_enter Try.func11 rfl rfl rfl ?_
 refine wp_seq_k (fun K1 hK1 => ?_)
 refine wp_region_lit ?_
 refine l_q rfl rfl (q_assignB rfl) ?_
 refine l_nil ?_
 refine hK1 _ _ ?_
 refine wp_seq_k (fun K2 hK2 => ?_)
 refine wp_region_lit ?_
 refine l_e rfl (fun K hK => ?_)
 refine e_call (by kernel_rfl) (dNew_ok _) rfl (after_N hS (fun v3 G3 w3 hv3 hS3 => ?_))
 clear hS
 obtain ⟨k3, rfl, rfl⟩ := hv3
 have hS4 : St _ _ [dk k3 none 0 [] 0 0] _ := hS3; clear hS3
 refine hK _ _ ?_; clear hK K
 have hS5 := hS4.fz0; clear hS4
 refine l_e rfl (fun K hK => ?_)
 have hS7 := hS5.fr1; clear hS5
 refine e_call (by kernel_rfl) (open_ok (2 : Int) (by decide) _ _ _ [] 0 0 Bytes.nil (by first | omega | (simp only [zll] <;> omega)) (by first | omega | (simp only [zll] <;> omega)) _ (by first | omega | (simp only [zll] <;> omega)) (by rw [scan_nil]; exact Nat.zero_le _) (by rw [scan_nil]; show (replayR [] (0, [])).1 ≤ 65536; rw [replayR_nil]; exact Nat.zero_le _) _ (St.begin (Γ := [_, _]) hS7)) rfl (after_M (Γ1 := [_, _]) hS7 (fun v6 G6 w6 hv6 hS6 => ?_))
 clear hS7
 obtain ⟨k6, kw6, mb6, wa6, wc6, inc6, T6, rs6, da6, dc6, g6, rfl, rfl, hle6, hT6, hst6, hrs6, hrl6⟩ := hv6
 have hS8 : St _ _ [co k6 kw6 (2 : Int) inc6 0 mb6 none [] 0 T6, wk kw6 k3 wa6 wc6 rs6, dk k3 da6 dc6 (recL ([].take (scan [] 0).2) [0, (inc6 : Int)]) 0 ((recL ([].take (scan [] 0).2) [0, (inc6 : Int)]).length), .fz g6] _ := hS6; clear hS6
 refine hK _ _ ?_; clear hK K
 have hsn0 : scan [] 0 = ([], 0) := scan_nil 0
 rw [hsn0, replayR_nil] at hst6
 have hi0 : inc6 = 0 := congrArg Prod.fst hst6
 have hT0 : T6 = [] := abs_nil (congrArg Prod.snd hst6)
 rw [hsn0] at hrl6
 subst hi0 hT0
 obtain ⟨l0, hl0e⟩ : ∃ l0, l0 = recL [] [0, 0] := ⟨_, rfl⟩
 have hS9 : St _ _ [co k6 kw6 (2 : Int) 0 0 mb6 none [] 0 [], _, dk k3 da6 dc6 l0 0 l0.length, .fz g6] _ := hS8.cast (by rw [hl0e, hsn0]; rfl); clear hS8
 obtain ⟨hl0, hd0, hlen0⟩ := disk0 hl0e
 have hrl6' : rs6.length ≤ 1 := hrl6
 refine l_q rfl rfl (q_move rfl) ?_
 refine l_q rfl rfl (q_extract rfl rfl) ?_
 refine l_q rfl rfl (q_extract rfl rfl) ?_
 refine l_q rfl rfl (q_assignP rfl) ?_
 refine l_q rfl rfl (q_assignI rfl) ?_
 refine l_nil ?_
 refine hK2 _ _ ?_
 refine wp_seq_k (fun K10 hK10 => ?_)
 refine wp_seq_k (fun K11 hK11 => ?_)
 refine wp_region_lit ?_
 refine l_q rfl rfl (q_moveI rfl) ?_
 refine l_q rfl rfl (q_neq rfl rfl) ?_
 refine l_q rfl rfl (q_moveB rfl) ?_
 refine l_on rfl rfl (by decide) ?_
 refine l_q rfl rfl (q_moveP rfl) ?_
 refine l_on rfl rfl (by decide) ?_
 refine l_q rfl rfl (q_peq rfl (by kernel_rfl)) ?_
 refine l_q rfl rfl (q_pickF rfl (by decide) rfl) ?_
 refine l_nil ?_
 refine hK11 _ _ ?_
 refine c_condF rfl rfl ?_
 refine wp_skip ?_
 refine hK10 _ _ ?_
 refine wp_seq_k (fun K13 hK13 => ?_)
 refine wp_region_lit ?_
 refine l_q rfl rfl (q_moveP rfl) ?_
 refine l_e rfl (fun K hK => ?_)
 have hS15 := hS9.fr3; clear hS9
 have hS16 := hS15.fr1; clear hS15
 refine e_call (by kernel_rfl) (begin_ok k6 kw6 (2 : Int) 0 0 mb6 none [] 0 [] TOk.nil g6 LOk.nil (by first | omega | (simp only [zll] <;> omega)) (2 : Int) (by first | omega | (simp only [zll] <;> omega)) (by first | omega | (simp only [zll] <;> omega)) (by decide) (numB0 _).symm _ (St.begin (Γ := [_, _]) hS16)) rfl (after_M (Γ1 := [_, _]) hS16 (fun v14 G14 w14 hv14 hS14 => ?_))
 clear hS16
 obtain ⟨oa14, oc14, O14, T14, g14, rfl, rfl, hle14, hO14, hT14, hab14, hOe14⟩ := hv14
 have hS17 : St _ _ [co k6 kw6 (2 : Int) 0 (0 + 1) mb6 oa14 O14 oc14 T14, .fz g14, _, _] _ := hS14; clear hS14
 have hR14_2 := RsOk.mono hrs6 hle14
 refine hK _ _ ?_; clear hK K
 obtain ⟨b14, eN14⟩ := abs_one (hab14.trans (set_nil _ _))
 subst eN14
 have eM14 := los_nil hOe14
 subst eM14
 refine l_q rfl rfl (q_move rfl) ?_
 refine l_q rfl rfl (q_extract rfl rfl) ?_
 refine l_q rfl rfl (q_extract rfl rfl) ?_
 refine l_q rfl rfl (q_assignI rfl) ?_
 refine l_q rfl rfl (q_assignI rfl) ?_
 refine l_nil ?_
 refine hK13 _ _ ?_
 refine wp_seq_k (fun K18 hK18 => ?_)
 refine wp_region_lit ?_
 refine l_q rfl rfl (q_moveP rfl) ?_
 refine l_q rfl rfl (q_moveI rfl) ?_
 refine l_e rfl (fun K hK => ?_)
 refine e_buildSlice1 (e := 3) (zv := .int .i64 0) (xs := [_, _]) hS17 (by kernel_rfl) (by kernel_rfl) (by kernel_rfl) rfl rfl rfl rfl (allone (by repeat' (first | exact trivial | refine ⟨by first | rfl | assumption, ?_⟩))) rfl (fun b19 w19 (hS19 : St _ _ [.blk b19 (.cells #[.int .i64 (0 : Int), .int .i64 (1 : Int)] 3), co k6 kw6 (2 : Int) 0 (0 + 1) mb6 oa14 [] oc14 [((2 : Int), b14, zeroTx)], .fz g14, _, _] _) => ?_)
 clear hS17
 have hS19o : St _ _ [.ow 3 1 (some ⟨b19, 0, none⟩) 2 2 (iv [(0 : Int), (1 : Int)]), _, .fz g14, _, _] _ := hS19.blkOw' (i := 0) (m := 2) (size := 1) (xs := iv [(0 : Int), (1 : Int)]) rfl rfl rfl (by decide); clear hS19
 refine hK _ _ ?_; clear hK K
 refine l_e rfl (fun K hK => ?_)
 have hS21 := hS19o.fr2; clear hS19o
 have hS22 := hS21.fr2; clear hS21
 obtain ⟨g23, hg23, hG23⟩ := St.rogO (Γ1 := [_, _]) (i := 0) hS22 rfl
 refine e_call (by kernel_rfl) (ask_any k6 kw6 (2 : Int) 0 (0 + 1) mb6 oa14 [] oc14 [((2 : Int), b14, zeroTx)] hT14 g14 hO14 (by first | omega | (simp only [zll] <;> omega)) (2 : Int) [(0 : Int), (1 : Int)] 2 (by first | omega | (simp only [zll] <;> omega)) (by first | omega | (simp only [zll] <;> omega)) (some ⟨b19, 0, none⟩) 2 _ _ hg23 hG23 (St.begin (Γ := [_, _]) hS22)) rfl (after_M (Γ1 := [_, _]) hS22 (fun v20 G20 w20 hv20 hS20 => ?_))
 clear hS22
 obtain ⟨a20, oa20, oc20, O20, T20, g20, rfl, rfl, hle20, hO20, hT20, hE20⟩ := hv20
 have hS24 : St _ _ [co k6 kw6 (2 : Int) 0 (0 + 1) mb6 oa20 O20 oc20 T20, .fz g20, _, _, _] _ := hS20; clear hS20
 have hR20_3 := RsOk.mono hR14_2 hle20
 refine hK _ _ ?_; clear hK K
 obtain ⟨ea20, eT20, eO20⟩ := val3 hE20 (ask_one (u := 3) rfl rfl of01)
 subst ea20
 obtain ⟨b20, eN20⟩ := abs_one eT20
 subst eN20
 rw [nodes3] at eO20
 have eO20 : O20.map Lo.l = [Lr.mk 1 2 0 2 (nodesTo 3 16), Lr.mk 1 2 1 2 (nodesTo 3 16)] := eO20.trans (by unfold sends; rfl)
 have hol20 := los_len eO20
 have hol20 : O20.length = 2 := hol20
 refine l_q rfl rfl (q_assignI rfl) ?_
 refine l_nil ?_
 refine hK18 _ _ ?_
 refine wp_seq_k (fun K25 hK25 => ?_)
 refine wp_region_lit ?_
 refine l_q rfl rfl (q_moveP rfl) ?_
 refine l_e rfl (fun K hK => ?_)
 refine e_call (by kernel_rfl) (out_ok k6 kw6 (2 : Int) 0 (0 + 1) mb6 oa20 O20 oc20 [((2 : Int), b20, (Tx.mk 3 zeroTx.yes zeroTx.read true zeroTx.com zeroTx.tell zeroTx.ticks))] hT20 g20 hO20 (by first | omega | (simp only [zll] <;> omega)) _ (St.begin (Γ := [_, _]) hS24)) rfl (after_M (Γ1 := [_, _]) hS24 (fun v26 G26 w26 hv26 hS26 => ?_))
 clear hS24
 obtain ⟨rfl, rfl⟩ := hv26
 have hS27 : St _ _ [.ow 42 5 oa20 O20.length oc20 (List.flatMap lo O20), co k6 kw6 (2 : Int) 0 (0 + 1) mb6 none [] 0 [((2 : Int), b20, (Tx.mk 3 zeroTx.yes zeroTx.read true zeroTx.com zeroTx.tell zeroTx.ticks))], .fz g20, _, _, _] _ := hS26; clear hS26
 refine hK _ _ ?_; clear hK K
 refine l_q rfl rfl (q_assignS rfl) ?_
 refine l_nil ?_
 refine hK25 _ _ ?_
 refine wp_seq_k (fun K28 hK28 => ?_)
 refine wp_region_lit ?_
 refine l_q rfl rfl (q_moveI rfl) ?_
 refine l_q rfl rfl (q_eql rfl rfl) ?_
 refine l_q rfl rfl (q_moveB rfl) ?_
 refine l_on rfl rfl (by decide) ?_
 refine l_q rfl rfl (q_moveI rfl) ?_
 refine l_on rfl rfl (by decide) ?_
 refine l_q rfl rfl (q_eql rfl rfl) ?_
 refine l_q rfl rfl (q_pickT rfl (by decide) rfl) ?_
 refine l_q rfl rfl (q_moveB rfl) ?_
 refine l_on rfl rfl (by decide) ?_
 refine l_q rfl rfl (q_moveI rfl) ?_
 refine l_on rfl rfl (by decide) ?_
 refine l_q rfl rfl (q_eql rfl rfl) ?_
 refine l_q rfl rfl (q_pickT rfl (by decide) rfl) ?_
 refine l_q rfl rfl (q_moveB rfl) ?_
 refine g_splitL (t := 39) rfl (fun hg29 => ?_) (fun hg29 => ?_)
 have hg29b := hg29
 try simp only [zbb] at hg29
 refine l_on rfl rfl hg29b ?_
 refine l_q rfl rfl (q_moveS rfl) ?_
 refine l_on rfl rfl hg29b ?_
 refine l_q rfl rfl (q_lenSl (e := 42) rfl (by kernel_rfl)) ?_
 refine l_on rfl rfl hg29b ?_
 refine l_q rfl rfl (q_eql rfl rfl) ?_
 refine l_q rfl rfl (q_pickT rfl hg29b rfl) ?_
 refine l_q rfl rfl (q_moveB rfl) ?_
 refine g_splitL (t := 44) rfl (fun hg30 => ?_) (fun hg30 => ?_)
 have hg30b := hg30
 try simp only [zbb] at hg30
 refine l_on rfl rfl hg30b ?_
 refine l_q rfl rfl (q_moveS rfl) ?_
 refine l_on rfl rfl hg30b ?_
 refine l_q rfl rfl (q_ixG (e := 42) (m := 5) (j := 1) rfl rfl (by kernel_rfl) (by kernel_rfl) (by first | rfl | omega) (by omega) (hS27.owG (i := 0) rfl) (by rw [rows_len (c := lo) (m := 5) (fun _ => rfl)]; first | omega | (simp only [zll] <;> omega))) ?_
 refine l_on rfl rfl hg30b ?_
 refine l_q rfl rfl (q_fieldG (ft := 3) (o := 2) rfl (by kernel_rfl)) ?_
 refine l_on rfl rfl hg30b ?_
 obtain ⟨x31, hx31⟩ : ∃ x, (O20)[1]? = some x := ⟨_, List.getElem?_eq_getElem (by first | omega | (simp only [zll] <;> omega) | (simp <;> omega))⟩
 have hlx_x31 := (hO20 x31 (List.mem_of_getElem? hx31)).2
 refine l_q rfl rfl (q_load1 rfl (by kernel_rfl) (SlG.cell (hS27.owG (i := 0) rfl) (Gle.refl _) (row_at hx31 (c := lo) (m := 5) (fun _ => rfl) (j := 2) rfl))) ?_
 have hl1 := los_at eO20 hx31
 have hl1 : Lr.mk 1 2 1 2 (nodesTo 3 16) = x31.l := Option.some.inj hl1
 have hlt : x31.l.t = 1 := by rw [← hl1]
 have hlk : x31.l.k = 1 := by rw [← hl1]
 refine l_on rfl rfl hg30b ?_
 refine l_q rfl rfl (q_eql rfl rfl) ?_
 refine l_q rfl rfl (q_pickT rfl hg30b rfl) ?_
 refine l_q rfl rfl (q_moveB rfl) ?_
 refine g_splitL (t := 51) rfl (fun hg32 => ?_) (fun hg32 => ?_)
 have hg32b := hg32
 try simp only [zbb] at hg32
 refine l_on rfl rfl hg32b ?_
 refine l_q rfl rfl (q_moveS rfl) ?_
 refine l_on rfl rfl hg32b ?_
 refine l_q rfl rfl (q_ixG (e := 42) (m := 5) (j := 1) rfl rfl (by kernel_rfl) (by kernel_rfl) (by first | rfl | omega) (by omega) (hS27.owG (i := 0) rfl) (by rw [rows_len (c := lo) (m := 5) (fun _ => rfl)]; first | omega | (simp only [zll] <;> omega))) ?_
 refine l_on rfl rfl hg32b ?_
 refine l_q rfl rfl (q_fieldG (ft := 40) (o := 0) rfl (by kernel_rfl)) ?_
 refine l_on rfl rfl hg32b ?_
 refine l_q rfl rfl (q_load1 rfl (by kernel_rfl) (SlG.cell (hS27.owG (i := 0) rfl) (Gle.refl _) (row_at hx31 (c := lo) (m := 5) (fun _ => rfl) (j := 0) rfl))) ?_
 refine l_on rfl rfl hg32b ?_
 refine l_q rfl rfl (q_eql rfl rfl) ?_
 refine l_q rfl rfl (q_pickT rfl hg32b rfl) ?_
 refine l_q rfl rfl (q_moveB rfl) ?_
 refine g_splitL (t := 58) rfl (fun hg33 => ?_) (fun hg33 => ?_)
 have hg33b := hg33
 try simp only [zbb] at hg33
 refine l_on rfl rfl hg33b ?_
 refine l_q rfl rfl (q_moveP rfl) ?_
 refine l_on rfl rfl hg33b ?_
 refine l_q rfl rfl (q_moveI rfl) ?_
 refine l_on rfl rfl hg33b ?_
 refine l_e rfl (fun K hK => ?_)
 have hS35 := hS27.fr2; clear hS27
 have hS36 := hS35.fr2; clear hS35
 refine e_call (by kernel_rfl) (state_any k6 kw6 (2 : Int) 0 (0 + 1) mb6 none [] 0 [((2 : Int), b20, (Tx.mk 3 zeroTx.yes zeroTx.read true zeroTx.com zeroTx.tell zeroTx.ticks))] hT20 g20 LOk.nil (by first | omega | (simp only [zll] <;> omega)) (2 : Int) _ (St.begin (Γ := [_, _]) hS36)) rfl (after_M (Γ1 := [_, _]) hS36 (fun v34 G34 w34 hv34 hS34 => ?_))
 clear hS36
 obtain ⟨a34, rfl, rfl, hE34⟩ := hv34
 have hS37 : St _ _ [_, .fz g20, _, _, _, _] _ := hS34; clear hS34
 refine hK _ _ ?_; clear hK K
 have hst34 := hE34.symm.trans (sta_one rfl)
 refine l_on rfl rfl hg33b ?_
 refine l_q rfl rfl (q_eql rfl rfl) ?_
 refine l_q rfl rfl (q_pickT rfl hg33b rfl) ?_
 refine l_q rfl rfl (q_assignB rfl) ?_
 refine l_nil ?_
 refine hK28 _ _ ?_
 refine wp_ret ?_
 refine c_ret1 rfl rfl ?_
 first | exact ⟨_, rfl, rfl, hS37.drop⟩ | exact ⟨_, rfl, congrArg Value.bool (decide_eq_true (by omega)), hS37.drop⟩
 have hg33b := hg33
 try simp only [zbb] at hg33
 exfalso; first | omega | exact hg33 trivial | exact absurd hg33 (by decide)
 have hg32b := hg32
 try simp only [zbb] at hg32
 exfalso; first | omega | exact hg32 trivial | exact absurd hg32 (by decide)
 have hg30b := hg30
 try simp only [zbb] at hg30
 exfalso; first | omega | exact hg30 trivial | exact absurd hg30 (by decide)
 have hg29b := hg29
 try simp only [zbb] at hg29
 exfalso; first | omega | exact hg29 trivial | exact absurd hg29 (by decide)
end Go.Proofs.Yteojpdijmnpmgaa
namespace Go.Proofs.Yteojpdijmnpmgaa
open Go.RowKit Go.ChangeShapes Go.WideShapes Go.Deep
theorem slG_of {W : World} {a : Addr} : ∀ {xs : List Value}, (∀ j u, xs[j]? = some u → W.cell? (a.add j) = some u) → SlG (hw W) (some a) xs
  | [], _ => .inl rfl
  | v :: xs, h => by
    have h0 := h 0 v rfl
    obtain ⟨b, off, sp⟩ := a
    have hsp : sp = none := by
      cases sp with
      | none => rfl
      | some q => simp [World.cell?, Addr.add] at h0; split at h0 <;> simp at h0
    subst hsp
    rw [addr_add] at h0
    unfold World.cell? at h0
    split at h0
    · rename_i arr T fz hb
      refine .inr ⟨b, off, arr, T, fz, rfl, hb, fun j u hu => ?_⟩
      have h1 := h j u hu
      rw [addr_add] at h1
      simpa [World.cell?, hb] using h1
    · cases h0
theorem all_of {α : Type} {Q : Nat → α → Prop} : ∀ (n : Nat), (∀ i, i < n → ∃ x, Q i x) → ∃ l : List α, l.length = n ∧ ∀ i x, l[i]? = some x → Q i x
  | 0, _ => ⟨[], rfl, fun i x h => by simp at h⟩
  | n + 1, h => by
    obtain ⟨l, hl, hq⟩ := all_of n fun i hi => h i (by omega)
    obtain ⟨x, hx⟩ := h n (by omega)
    refine ⟨l ++ [x], by rw [List.length_append, hl]; rfl, fun i y hy => ?_⟩
    by_cases hi : i < n
    · rw [List.getElem?_append_left (by omega)] at hy; exact hq i y hy
    · have hin : i = n := by
        have := (List.getElem?_eq_some_iff.1 hy).1
        rw [List.length_append, hl] at this
        simp at this; omega
      subst hin
      rw [List.getElem?_append_right (by omega), hl, Nat.sub_self] at hy
      simp at hy; subst hy; exact hx
section
variable {H : Type} {enc : TypeId × Value → H} {P : Program} {W : World} {base : Nat} {spare : Nat → Bool} {held : Bool}
/-- A slice whose elements are known by their cells. -/
theorem opn_rows {α : Type} {f : α → List Value} {Q : α → Prop} {t e : TypeId} {C : Nat} (ht : P.underlying t = some (.slice e)) (hC : P.cellsOf e = C) (hp : 0 < C) (hf : ∀ x, (f x).length = C)
    (helem : ∀ n c y, DataW.trod enc P W base spare held n e c = some y → ∃ x, c = f x ∧ Q x) {fuel : Nat} {ad : Option Addr} {len cap : Nat} {x : DataW H × List MemPlace} (h : DataW.trod enc P W base spare held fuel t [.slice ad len cap] = some x) :
    ∃ l : List α, l.length = len ∧ SlG (hw W) ad (List.flatMap f l) ∧ (∀ x ∈ l, Q x) ∧ len ≤ cap ∧ cap ≤ maxLen := by
  rcases open_slice ht h with ⟨h0, _⟩ | ⟨a, len', cap', m, n, D, Pl, hcs, hb, hl, hm, hmm, hx, hi⟩
  · injection h0 with h0 _; injection h0 with h1 h2 h3; subst h1 h2 h3
    refine ⟨[], rfl, .inl rfl, ?_, Nat.le_refl _, Nat.zero_le _⟩
    intro x hx; cases hx
  · injection hcs with hcs _; injection hcs with h1 h2 h3; subst h1 h2 h3
    have hlm : len ≤ m := by rw [hmm]; split <;> omega
    obtain ⟨l, hll, hq⟩ := all_of (Q := fun i x => (∀ j u, (f x)[j]? = some u → W.cell? (a.add (i * C + j)) = some u) ∧ Q x) len fun i hi' => by
      obtain ⟨cs', hc, ht'⟩ := hi i (by omega)
      rw [hC] at hc
      obtain ⟨_, hcl, hat⟩ := World.cells?_some hc
      obtain ⟨x, rfl, hqx⟩ := helem _ _ _ ht'
      refine ⟨x, fun j u hu => ?_, hqx⟩
      have hj : j < C := by rw [← hf x]; exact (List.getElem?_eq_some_iff.1 hu).1
      rw [← Go.Deep.add_add, hat j hj, hu]
    refine ⟨l, hll, slG_of fun j u hu => ?_, fun x hx => ?_, hl, hm⟩
    · have hjl : j < (List.flatMap f l).length := (List.getElem?_eq_some_iff.1 hu).1
      rw [rows_len hf, hll] at hjl
      have hdiv : j / C < len := Nat.div_lt_of_lt_mul (by rw [Nat.mul_comm]; exact hjl)
      obtain ⟨x, hx⟩ : ∃ x, l[j / C]? = some x := ⟨_, List.getElem?_eq_getElem (by omega)⟩
      have hmod : j % C < (f x).length := by rw [hf]; exact Nat.mod_lt _ hp
      have h1 := row_at hx hf (j := j % C) (List.getElem?_eq_getElem hmod)
      rw [Nat.mul_comm, Nat.div_add_mod] at h1
      rw [hu] at h1
      have h2 := (hq _ _ hx).1 (j % C) u (by rw [List.getElem?_eq_getElem hmod, ← h1])
      rw [Nat.mul_comm, Nat.div_add_mod] at h2
      exact h2
    · obtain ⟨i, hi', rfl⟩ := List.getElem_of_mem hx
      exact (hq i _ (List.getElem?_eq_getElem hi')).2
theorem bnd_i64 {k : Int} (h : (Lit.int .i64 k).wf = true) : -9223372036854775808 ≤ k ∧ k ≤ 9223372036854775807 := by
  simp [Lit.wf, IntKind.min, IntKind.max, IntKind.bits, IntKind.signed] at h
  omega
end
end Go.Proofs.Yteojpdijmnpmgaa
namespace Go.Proofs.Yteojpdijmnpmgaa
open Go.RowKit Go.ChangeShapes Go.WideShapes
theorem own7 : ownKnob Try.prog.godebug = none := by kernel_rfl
theorem laidOut7 : laidOutB Try.prog = true := by kernel_rfl
section
variable {H : Type} {enc : TypeId × Value → H} {W : World} {base : Nat} {spare : Nat → Bool} {held : Bool}
theorem opn_bools {ad : Option Addr} {len cap : Nat} {d : DataW H} {p : List MemPlace} (h : DataW.Trod enc Try.prog W base spare held 53 (.slice ad len cap) d p) : ∃ l : List Bool, l.length = len ∧ SlG (hw W) ad (List.flatMap bo1 l) ∧ (∀ x ∈ l, True) ∧ len ≤ cap := by
  obtain ⟨fu, h⟩ := h
  obtain ⟨l, h1, h2, h3, h4, h5⟩ := opn_rows (C := 1) (f := bo1) (Q := fun _ => True) Try.underlying53 (by kernel_rfl) (by decide) (fun _ => rfl) (fun n c y hy => by
    obtain ⟨b, rfl, _⟩ := DataW.trod_bool Try.underlying4 hy
    exact ⟨b, rfl, trivial⟩) h
  exact ⟨l, h1, h2, h3, h4⟩
end
end Go.Proofs.Yteojpdijmnpmgaa
