/- Texts that the claim needs, part 5. -/
import Derived.Test.YteojpdijmnpmgaaZDe4
set_option linter.unusedVariables false
set_option linter.unusedSimpArgs false
namespace Go.Proofs.Yteojpdijmnpmgaa
open Go.RowKit
/-- The transactions, without where they are. -/
def absT (T : List (Int × Nat × Tx)) : List (Int × Tx) := T.map fun q => (q.1, q.2.2)
theorem absT_app (A B : List (Int × Nat × Tx)) : absT (A ++ B) = absT A ++ absT B := List.map_append
def TxOk (t : Tx) : Prop := t.nodes < 65536 ∧ t.yes < 65536 ∧ t.read < 65536 ∧ t.tell < 65536 ∧ t.ticks < 5
def TOk (T : List (Int × Nat × Tx)) : Prop := (T.Pairwise fun p q => p.1 < q.1) ∧ ∀ q ∈ T, TxOk q.2.2 ∧ 0 ≤ q.1 ∧ q.1 ≤ 2199023255552
theorem TOk.nil : TOk [] := ⟨.nil, fun q h => by cases h⟩
def getT (T : List (Int × Tx)) (n : Int) : Option Tx := (T.find? fun q => decide (q.1 = n)).map Prod.snd
def delT (T : List (Int × Tx)) (n : Int) : List (Int × Tx) := T.filter fun q => decide (q.1 ≠ n)
def setT (T : List (Int × Tx)) (n : Int) (t : Tx) : List (Int × Tx) := (T.filter fun q => decide (q.1 < n)) ++ (n, t) :: T.filter fun q => decide (n < q.1)
section
variable {A B T : List (Int × Nat × Tx)} {n : Int} {b b' : Nat} {t t' : Tx}
theorem TOk.sides (h : TOk (A ++ (n, b, t) :: B)) : (∀ q ∈ A, q.1 < n) ∧ ∀ q ∈ B, n < q.1 := by
  obtain ⟨hp, _⟩ := h
  rw [List.pairwise_append] at hp
  exact ⟨fun q hq => hp.2.2 q hq _ (.head _), fun q hq => (List.pairwise_cons.1 hp.2.1).1 q hq⟩
theorem TOk.del (h : TOk (A ++ (n, b, t) :: B)) : TOk (A ++ B) := by
  obtain ⟨hp, hk⟩ := h
  refine ⟨?_, fun q hq => hk q ?_⟩
  · rw [List.pairwise_append] at hp ⊢
    exact ⟨hp.1, (List.pairwise_cons.1 hp.2.1).2, fun a ha c hc => hp.2.2 a ha c (.tail _ hc)⟩
  · rcases List.mem_append.1 hq with hq | hq
    · exact List.mem_append_left _ hq
    · exact List.mem_append_right _ (.tail _ hq)
theorem TOk.ins (h : TOk (A ++ B)) (hA : ∀ q ∈ A, q.1 < n) (hB : ∀ q ∈ B, n < q.1) (ht : TxOk t ∧ 0 ≤ n ∧ n ≤ 2199023255552) : TOk (A ++ (n, b, t) :: B) := by
  obtain ⟨hp, hk⟩ := h
  refine ⟨?_, fun q hq => ?_⟩
  · rw [List.pairwise_append] at hp ⊢
    refine ⟨hp.1, List.pairwise_cons.2 ⟨fun q hq => hB q hq, hp.2.1⟩, fun a ha c hc => ?_⟩
    rcases List.mem_cons.1 hc with rfl | hc
    · exact hA a ha
    · exact hp.2.2 a ha c hc
  · rcases List.mem_append.1 hq with hq | hq
    · exact hk q (List.mem_append_left _ hq)
    · rcases List.mem_cons.1 hq with rfl | hq
      · exact ht
      · exact hk q (List.mem_append_right _ hq)
theorem TOk.set (h : TOk (A ++ (n, b, t) :: B)) (ht : TxOk t') : TOk (A ++ (n, b', t') :: B) := h.del.ins h.sides.1 h.sides.2 ⟨ht, (h.2 (n, b, t) (List.mem_append_right _ (.head _))).2⟩
/-- A number is one of them, or parts them. -/
theorem TOk.split (h : TOk T) (n : Int) : (∃ A b t B, T = A ++ (n, b, t) :: B) ∨ ∃ A B, T = A ++ B ∧ (∀ q ∈ A, q.1 < n) ∧ ∀ q ∈ B, n < q.1 := by
  induction T with
  | nil => exact .inr ⟨[], [], rfl, fun q h => (by cases h), fun q h => (by cases h)⟩
  | cons q T ih =>
    have hp := List.pairwise_cons.1 h.1
    rcases Int.lt_trichotomy n q.1 with hl | he | hl
    · refine .inr ⟨[], q :: T, rfl, fun q h => (by cases h), fun x hx => ?_⟩
      rcases List.mem_cons.1 hx with rfl | hx
      · exact hl
      · have := hp.1 x hx; omega
    · subst he; exact .inl ⟨[], q.2.1, q.2.2, T, rfl⟩
    · rcases ih ⟨hp.2, fun x hx => h.2 x (.tail _ hx)⟩ with ⟨A, b, t, B, e⟩ | ⟨A, B, e, hA, hB⟩
      · subst e; exact .inl ⟨q :: A, b, t, B, rfl⟩
      · subst e; refine .inr ⟨q :: A, B, rfl, fun x hx => ?_, hB⟩
        rcases List.mem_cons.1 hx with rfl | hx
        · exact hl
        · exact hA x hx
theorem sides_ne (hA : ∀ q ∈ A, q.1 < n) (hB : ∀ q ∈ B, n < q.1) : ∀ q ∈ A ++ B, q.1 ≠ n := fun q hq => by
  rcases List.mem_append.1 hq with hq | hq
  · have := hA q hq; omega
  · have := hB q hq; omega
theorem getT_miss (h : ∀ q ∈ T, q.1 ≠ n) : getT (absT T) n = none := by
  unfold getT absT
  rw [List.find?_eq_none.2 fun q hq => ?_]
  · rfl
  · obtain ⟨x, hx, rfl⟩ := List.mem_map.1 hq
    have := h x hx
    simpa using this
theorem getT_hit (h : TOk (A ++ (n, b, t) :: B)) : getT (absT (A ++ (n, b, t) :: B)) n = some t := by
  have hA := h.sides.1
  unfold getT
  rw [absT_app, List.find?_append, List.find?_eq_none.2 fun q hq => ?_]
  · rw [Option.none_or]
    show Option.map Prod.snd (List.find? _ ((n, t) :: absT B)) = _
    rw [List.find?_cons_of_pos (by simp)]; rfl
  · obtain ⟨x, hx, rfl⟩ := List.mem_map.1 hq
    have := hA x hx
    simp; omega
theorem filt_all {L : List (Int × Nat × Tx)} {p : Int → Bool} (h : ∀ q ∈ L, p q.1 = true) : (absT L).filter (fun q => p q.1) = absT L := List.filter_eq_self.2 fun q hq => by
  obtain ⟨x, hx, rfl⟩ := List.mem_map.1 hq; exact h x hx
theorem filt_no {L : List (Int × Nat × Tx)} {p : Int → Bool} (h : ∀ q ∈ L, p q.1 = false) : (absT L).filter (fun q => p q.1) = [] := List.filter_eq_nil_iff.2 fun q hq => by
  obtain ⟨x, hx, rfl⟩ := List.mem_map.1 hq; rw [h x hx]; decide
theorem delT_miss (h : ∀ q ∈ T, q.1 ≠ n) : delT (absT T) n = absT T := filt_all (p := fun z => decide (z ≠ n)) fun q hq => decide_eq_true (h q hq)
theorem delT_hit (h : TOk (A ++ (n, b, t) :: B)) : delT (absT (A ++ (n, b, t) :: B)) n = absT (A ++ B) := by
  obtain ⟨hA, hB⟩ := h.sides
  unfold delT
  rw [absT_app, absT_app, List.filter_append]
  rw [filt_all (p := fun z => decide (z ≠ n)) fun q hq => decide_eq_true (by have := hA q hq; omega)]
  show _ ++ List.filter _ ((n, t) :: absT B) = _
  rw [List.filter_cons_of_neg (by simp), filt_all (p := fun z => decide (z ≠ n)) fun q hq => decide_eq_true (by have := hB q hq; omega)]
theorem setT_miss (hA : ∀ q ∈ A, q.1 < n) (hB : ∀ q ∈ B, n < q.1) : setT (absT (A ++ B)) n t = absT (A ++ (n, b, t) :: B) := by
  unfold setT
  rw [absT_app, absT_app, List.filter_append, List.filter_append]
  rw [filt_all (p := fun z => decide (z < n)) fun q hq => decide_eq_true (hA q hq), filt_no (L := B) (p := fun z => decide (z < n)) fun q hq => decide_eq_false (by have := hB q hq; omega), filt_no (L := A) (p := fun z => decide (n < z)) fun q hq => decide_eq_false (by have := hA q hq; omega), filt_all (p := fun z => decide (n < z)) fun q hq => decide_eq_true (hB q hq), List.append_nil]
  rfl
theorem setT_hit (h : TOk (A ++ (n, b, t) :: B)) : setT (absT (A ++ (n, b, t) :: B)) n t' = absT (A ++ (n, b', t') :: B) := by
  obtain ⟨hA, hB⟩ := h.sides
  rw [← setT_miss (b := b') hA hB]
  unfold setT
  rw [absT_app, absT_app, List.filter_append, List.filter_append, List.filter_append, List.filter_append]
  show (_ ++ List.filter _ ((n, t) :: absT B)) ++ _ :: (_ ++ List.filter _ ((n, t) :: absT B)) = _
  rw [List.filter_cons_of_neg (by simp), List.filter_cons_of_neg (by simp)]
theorem tc_inj : CInj tc (fun _ => True) := fun a b _ _ h => by
  have : Value.int .i64 a.1 = Value.int .i64 b.1 := h
  injection this
theorem TOk.apart (h : TOk T) : T.Pairwise fun a b => a.1 ≠ b.1 := h.1.imp fun h => by omega
theorem tc_miss (h : ∀ q ∈ T, q.1 ≠ n) : ∀ q ∈ List.map tc T, q.1 ≠ .int .i64 n := look_miss (k := n) tc_inj (fun _ _ => trivial) trivial (fun _ => rfl) h
theorem tc_del (h : TOk (A ++ (n, b, t) :: B)) : MDel (List.map tc (A ++ (n, b, t) :: B)) (.int .i64 n) (List.map tc (A ++ B)) :=
  MDel.of (ok := fun _ => True) h.apart tc_inj (fun _ _ => trivial) trivial (fun _ => rfl) (by
    obtain ⟨hA, hB⟩ := h.sides
    unfold mdel
    rw [List.filter_append, List.filter_cons_of_neg (by simp), List.filter_eq_self.2 fun q hq => (by have := hA q hq; simp; omega), List.filter_eq_self.2 fun q hq => (by have := hB q hq; simp; omega)])
theorem tc_ins (h : TOk (A ++ B)) (hA : ∀ q ∈ A, q.1 < n) (hB : ∀ q ∈ B, n < q.1) (b : Nat) (t : Tx) : MUp (List.map tc (A ++ B)) (.int .i64 n) (pV b) (List.map tc (A ++ (n, b, t) :: B)) :=
  MUp.of (ok := fun _ => True) (k := n) (x := (b, t)) h.apart tc_inj (fun _ _ => trivial) trivial rfl (fun _ => rfl) (by
    unfold mset
    rw [List.filter_eq_self.2 fun q hq => (by have := sides_ne hA hB q hq; simpa using this)]
    exact List.perm_middle)
theorem tc_set (h : TOk (A ++ (n, b, t) :: B)) (b' : Nat) (t' : Tx) : MUp (List.map tc (A ++ (n, b, t) :: B)) (.int .i64 n) (pV b') (List.map tc (A ++ (n, b', t') :: B)) :=
  MUp.of (ok := fun _ => True) (k := n) (x := (b', t')) h.apart tc_inj (fun _ _ => trivial) trivial rfl (fun _ => rfl) (by
    obtain ⟨hA, hB⟩ := h.sides
    unfold mset
    rw [List.filter_append, List.filter_cons_of_neg (by simp), List.filter_eq_self.2 fun q hq => (by have := hA q hq; simp; omega), List.filter_eq_self.2 fun q hq => (by have := hB q hq; simp; omega)]
    exact List.perm_middle)
end
/-- A coordinator: its block, the map, the transactions, the letters. -/
def co (k kw : Nat) (nd : Int) (inc cnt mb : Nat) (oa : Option Addr) (O : List Lo) (oc : Nat) (T : List (Int × Nat × Tx)) : Ch := .pk [.blk k (cO kw nd inc cnt mb oa O.length oc), .mp (.int .i64) mb (List.map tc T), .pk (List.map tb T), .ow 42 5 oa O.length oc (List.flatMap lo O)]
section
variable {w0 w : World} {D : Nat → Prop} {Γ : List Ch} {k kw inc cnt mb oc : Nat} {nd : Int} {oa : Option Addr} {O : List Lo} {T A B : List (Int × Nat × Tx)} {q : Int × Nat × Tx}
theorem co_open (h : St w0 D (co k kw nd inc cnt mb oa O oc T :: Γ) w) : St w0 D (.blk k (cO kw nd inc cnt mb oa O.length oc) :: .mp (.int .i64) mb (List.map tc T) :: .pk (List.map tb T) :: .ow 42 5 oa O.length oc (List.flatMap lo O) :: Γ) w := h.unpk
theorem co_close (h : St w0 D (.blk k (cO kw nd inc cnt mb oa O.length oc) :: .mp (.int .i64) mb (List.map tc T) :: .pk (List.map tb T) :: .ow 42 5 oa O.length oc (List.flatMap lo O) :: Γ) w) : St w0 D (co k kw nd inc cnt mb oa O oc T :: Γ) w := h.pk
theorem mp_t {n : Int} {b : Nat} {t t' : Tx} (h : St w0 D (.mp (.int .i64) mb (List.map tc (A ++ (n, b, t) :: B)) :: Γ) w) : St w0 D (.mp (.int .i64) mb (List.map tc (A ++ (n, b, t') :: B)) :: Γ) w := by
  rw [List.map_append, List.map_cons] at h ⊢; exact h
theorem tb_take (h : St w0 D (.pk (List.map tb (A ++ q :: B)) :: Γ) w) : St w0 D (tb q :: .pk (List.map tb (A ++ B)) :: Γ) w := by
  rw [List.map_append, List.map_cons] at h
  rw [List.map_append]; exact h.pkTake
theorem tb_put (h : St w0 D (tb q :: .pk (List.map tb (A ++ B)) :: Γ) w) : St w0 D (.pk (List.map tb (A ++ q :: B)) :: Γ) w := by
  rw [List.map_append] at h
  rw [List.map_append, List.map_cons]; exact h.pkPut
end
attribute [local irreducible] Oper.wp Sem.run Code.wp wpList wpAnyO callFunc execOp Calls
attribute [local irreducible] toU short rencs renc rowE encRow rightB zig unzig decRw rightL risB lastN bitsOf nodesTo readL recB ofL sends
/-- A transaction's state. -/
def staT : Option Tx → Int
  | none => 0
  | some t => if t.com = true then 2 else 1
theorem staT_yes {t : Tx} (h : t.com = true) : staT (some t) = 2 := if_pos h
theorem staT_no {t : Tx} (h : t.com = false) : staT (some t) = 1 := if_neg (by rw [h]; decide)

set_option maxRecDepth 100000 in
theorem state_hit (k kw : Nat) (nd : Int) (inc cnt mb : Nat) (oa : Option Addr) (O : List Lo) (oc : Nat) (n : Int) (A : List (Int × Nat × Tx)) (b : Nat) (t : Tx) (B : List (Int × Nat × Tx)) (hT : TOk (A ++ (n, b, t) :: B)) (g : Gh) (hO : LOk g O) (hol0 : O.length ≤ 100000)  (w : World) (hS : St w (owns [co k kw nd inc cnt mb oa O oc (A ++ (n, b, t) :: B), .fz g]) [co k kw nd inc cnt mb oa O oc (A ++ (n, b, t) :: B), .fz g] w) : Calls Try.prog 17 #[pV k, .int .i64 n] w (Post w [co k kw nd inc cnt mb oa O oc (A ++ (n, b, t) :: B), .fz g] fun v G => v = .int .i64 (staT (getT (absT (A ++ (n, b, t) :: B)) n)) ∧ G = [co k kw nd inc cnt mb oa O oc (A ++ (n, b, t) :: B), .fz g]) := by
 have hTn := (hT.2 (n, b, t) (List.mem_append_right _ (.head _))).1
 have ht1 : t.nodes < 65536 := hTn.1
 have ht2 : t.yes < 65536 := hTn.2.1
 have ht3 : t.read < 65536 := hTn.2.2.1
 have ht4 : t.tell < 65536 := hTn.2.2.2.1
 have ht5 : t.ticks < 5 := hTn.2.2.2.2
 have hn0 : 0 ≤ n ∧ n ≤ 2199023255552 := (hT.2 (n, b, t) (List.mem_append_right _ (.head _))).2
 refine c_enter Try.func17 rfl rfl rfl ?_
 refine wp_seq_k (fun K1 hK1 => ?_)
 have hS2 := co_open hS; clear hS
 have hS3 := hS2.fr2; clear hS2
 have hS4 : St _ _ [.blk b (.cells #[.int .i64 ((t.nodes : Nat) : Int), .int .i64 ((t.yes : Nat) : Int), .int .i64 ((t.read : Nat) : Int), .bool t.asked, .bool t.com, .int .i64 ((t.tell : Nat) : Int), .int .i64 ((t.ticks : Nat) : Int)] 80), .pk (List.map tb (A ++ B)), .blk k (.cells #[.pointer (some ⟨kw, 0, none⟩), .int .i64 nd, .int .i64 (inc : Int), .int .i64 (cnt : Int), .map (some mb), .slice oa O.length oc] 68), .mp (.int .i64) mb (List.map tc (A ++ (n, b, t) :: B)), .ow 42 5 oa O.length oc (List.flatMap lo O), .fz g] _ := tb_take hS3; clear hS3
 refine wp_region_lit ?_
 refine l_q rfl rfl (q_assignI rfl) ?_
 refine l_nil ?_
 refine hK1 _ _ ?_
 refine wp_seq_k (fun K5 hK5 => ?_)
 refine wp_seq_k (fun K6 hK6 => ?_)
 refine wp_region_lit ?_
 refine l_q rfl rfl (q_moveP rfl) ?_
 refine l_q rfl rfl (q_peq rfl (by kernel_rfl)) ?_
 refine l_nil ?_
 refine hK6 _ _ ?_
 refine c_condF rfl rfl ?_
 refine wp_skip ?_
 refine hK5 _ _ ?_
 refine wp_seq_k (fun K8 hK8 => ?_)
 refine wp_region_lit ?_
 refine l_q rfl rfl (q_moveP rfl) ?_
 refine l_q rfl rfl (q_nilCheck rfl) ?_
 refine l_q rfl rfl (q_fieldAddr (ft := 66) (o := 4) rfl (by kernel_rfl)) ?_
 refine l_q rfl rfl (q_load1 rfl (by kernel_rfl) (hS4.cell (i := 2) rfl rfl)) ?_
 refine l_q rfl rfl (q_moveI rfl) ?_
 refine l_q rfl rfl (q_lookHit (zv := .pointer none) rfl rfl (by kernel_rfl) (by first | rfl | trivial) (hS4.map (i := 3) rfl) (look_hit (k := n) (x := (b, t)) (List.mem_append_right _ (.head _)) rfl)) ?_
 refine l_q rfl rfl (q_move rfl) ?_
 refine l_q rfl rfl (q_extract rfl rfl) ?_
 refine l_q rfl rfl (q_extract rfl rfl) ?_
 refine l_q rfl rfl (q_assignP rfl) ?_
 refine l_q rfl rfl (q_assignB rfl) ?_
 refine l_nil ?_
 refine hK8 _ _ ?_
 refine wp_seq_k (fun K9 hK9 => ?_)
 refine wp_block ?_
 refine wp_seq_k (fun K10 hK10 => ?_)
 refine wp_region_lit ?_
 refine l_q rfl rfl (q_moveB rfl) ?_
 refine l_q rfl rfl (q_not rfl) ?_
 refine l_q rfl rfl (q_assignB rfl) ?_
 refine l_nil ?_
 refine hK10 _ _ ?_
 refine c_condF rfl rfl ?_
 refine wp_seq_k (fun K12 hK12 => ?_)
 refine wp_region_lit ?_
 refine l_q rfl rfl (q_moveP rfl) ?_
 refine l_q rfl rfl (q_nilCheck rfl) ?_
 refine l_q rfl rfl (q_fieldAddr (ft := 4) (o := 4) rfl (by kernel_rfl)) ?_
 refine l_q rfl rfl (q_load1 rfl (by kernel_rfl) (hS4.cell (i := 0) rfl rfl)) ?_
 refine l_q rfl rfl (q_assignB rfl) ?_
 refine l_nil ?_
 refine hK12 _ _ ?_
 refine c_cond rfl (fun hc13 => ?_) (fun hc13 => ?_)
 have hc13b := hc13
 try simp only [zbb] at hc13
 refine wp_seq_k (fun K14 hK14 => ?_)
 refine wp_region_lit ?_
 refine l_q rfl rfl (q_assignI rfl) ?_
 refine l_nil ?_
 refine hK14 _ _ ?_
 refine wp_ret ?_
 refine c_ret1 rfl rfl ?_
 have hS15 : St _ _ [.pk (List.map tb (A ++ (n, b, t) :: B)), _, _, _, .fz g] _ := tb_put (q := (n, b, t)) hS4; clear hS4
 have hS16 := hS15.fr4; clear hS15
 have hS17 := hS16.fr4; clear hS16
 have hS18 := hS17.fr2; clear hS17
 have hS19 := hS18.fr4; clear hS18
 have hS20 := hS19.fr4; clear hS19
 have hS21 : St _ _ [co k kw nd inc cnt mb oa O oc (A ++ (n, b, t) :: B), .fz g] _ := co_close hS20; clear hS20
 exact ⟨_, _, rfl, ⟨(by rw [getT_hit hT]; first | exact congrArg (Value.int .i64) (staT_yes (by simp_all)).symm | exact congrArg (Value.int .i64) (staT_no (by simp_all)).symm), rfl⟩, hS21⟩
 have hc13b := hc13
 try simp only [zbb] at hc13
 refine wp_skip ?_
 refine hK9 _ _ ?_
 refine wp_seq_k (fun K22 hK22 => ?_)
 refine wp_region_lit ?_
 refine l_q rfl rfl (q_assignI rfl) ?_
 refine l_nil ?_
 refine hK22 _ _ ?_
 refine wp_ret ?_
 refine c_ret1 rfl rfl ?_
 have hS23 : St _ _ [_, _, _, _, .fz g] _ := tb_put (q := (n, b, t)) hS4; clear hS4
 have hS24 := hS23.fr4; clear hS23
 have hS25 := hS24.fr4; clear hS24
 have hS26 := hS25.fr2; clear hS25
 have hS27 := hS26.fr4; clear hS26
 have hS28 := hS27.fr4; clear hS27
 have hS29 : St _ _ [_, .fz g] _ := co_close hS28; clear hS28
 exact ⟨_, _, rfl, ⟨(by rw [getT_hit hT]; first | exact congrArg (Value.int .i64) (staT_yes (by simp_all)).symm | exact congrArg (Value.int .i64) (staT_no (by simp_all)).symm), rfl⟩, hS29⟩
set_option maxRecDepth 100000 in
theorem state_miss (k kw : Nat) (nd : Int) (inc cnt mb : Nat) (oa : Option Addr) (O : List Lo) (oc : Nat) (n : Int) (T : List (Int × Nat × Tx)) (hn : ∀ q ∈ T, q.1 ≠ n) (hT : TOk T) (g : Gh) (hO : LOk g O) (hol0 : O.length ≤ 100000)  (w : World) (hS : St w (owns [co k kw nd inc cnt mb oa O oc T, .fz g]) [co k kw nd inc cnt mb oa O oc T, .fz g] w) : Calls Try.prog 17 #[pV k, .int .i64 n] w (Post w [co k kw nd inc cnt mb oa O oc T, .fz g] fun v G => v = .int .i64 (staT (getT (absT T) n)) ∧ G = [co k kw nd inc cnt mb oa O oc T, .fz g]) := by
 refine c_enter Try.func17 rfl rfl rfl ?_
 refine wp_seq_k (fun K1 hK1 => ?_)
 have hS2 := co_open hS; clear hS
 refine wp_region_lit ?_
 refine l_q rfl rfl (q_assignI rfl) ?_
 refine l_nil ?_
 refine hK1 _ _ ?_
 refine wp_seq_k (fun K3 hK3 => ?_)
 refine wp_seq_k (fun K4 hK4 => ?_)
 refine wp_region_lit ?_
 refine l_q rfl rfl (q_moveP rfl) ?_
 refine l_q rfl rfl (q_peq rfl (by kernel_rfl)) ?_
 refine l_nil ?_
 refine hK4 _ _ ?_
 refine c_condF rfl rfl ?_
 refine wp_skip ?_
 refine hK3 _ _ ?_
 refine wp_seq_k (fun K6 hK6 => ?_)
 refine wp_region_lit ?_
 refine l_q rfl rfl (q_moveP rfl) ?_
 refine l_q rfl rfl (q_nilCheck rfl) ?_
 refine l_q rfl rfl (q_fieldAddr (ft := 66) (o := 4) rfl (by kernel_rfl)) ?_
 refine l_q rfl rfl (q_load1 rfl (by kernel_rfl) (hS2.cell (i := 0) rfl rfl)) ?_
 refine l_q rfl rfl (q_moveI rfl) ?_
 refine l_q rfl rfl (q_lookMiss (zv := .pointer none) rfl rfl (by kernel_rfl) (by first | rfl | trivial) (hS2.map (i := 1) rfl) (tc_miss hn)) ?_
 refine l_q rfl rfl (q_move rfl) ?_
 refine l_q rfl rfl (q_extract rfl rfl) ?_
 refine l_q rfl rfl (q_extract rfl rfl) ?_
 refine l_q rfl rfl (q_assignP rfl) ?_
 refine l_q rfl rfl (q_assignB rfl) ?_
 refine l_nil ?_
 refine hK6 _ _ ?_
 refine wp_seq_k (fun K7 hK7 => ?_)
 refine wp_block ?_
 refine wp_seq_k (fun K8 hK8 => ?_)
 refine wp_region_lit ?_
 refine l_q rfl rfl (q_moveB rfl) ?_
 refine l_q rfl rfl (q_not rfl) ?_
 refine l_q rfl rfl (q_assignB rfl) ?_
 refine l_nil ?_
 refine hK8 _ _ ?_
 refine c_condT rfl rfl ?_
 refine wp_seq_k (fun K10 hK10 => ?_)
 refine wp_region_lit ?_
 refine l_q rfl rfl (q_assignI rfl) ?_
 refine l_nil ?_
 refine hK10 _ _ ?_
 refine wp_ret ?_
 refine c_ret1 rfl rfl ?_
 have hS11 : St _ _ [co k kw nd inc cnt mb oa O oc T, .fz g] _ := co_close hS2; clear hS2
 exact ⟨_, _, rfl, ⟨(by rw [getT_miss hn]; rfl), rfl⟩, hS11⟩
end Go.Proofs.Yteojpdijmnpmgaa
namespace Go.Proofs.Yteojpdijmnpmgaa
open Go.RowKit
/-- What a method leaves. -/
def CoP (k kw : Nat) (nd : Int) (inc mb : Nat) (g : Gh) (v0 : Value) (r : Nat × List (Int × Tx) × List Lr) (v : Value) (G : List Ch) : Prop := ∃ oa' oc' O' T' g', v = v0 ∧ G = [co k kw nd inc r.1 mb oa' O' oc' T', .fz g'] ∧ Gle g g' ∧ LOk g' O' ∧ TOk T' ∧ absT T' = r.2.1 ∧ O'.map Lo.l = r.2.2
def zeroTx : Tx := ⟨0, 0, 0, false, false, 0, 0⟩
def numB (nd : Int) (inc cnt : Nat) : Int := 16 * ((65536 * inc + cnt : Nat) : Int) + nd
def askF (nd n : Int) (L : List Int) (T : List (Int × Tx)) (O : List Lr) : Int × List (Int × Tx) × List Lr :=
  match getT T n with
  | none => (131, T, O)
  | some t => if t.asked = true ∨ t.com = true then (131, T, O)
    else if (ofL L).2 = false then (1, T, O)
    else (0, setT T n ⟨(ofL L).1, t.yes, t.read, true, t.com, t.tell, t.ticks⟩, O ++ sends 1 nd n (nodesTo (ofL L).1 16) (ofL L).1)
theorem ask_none {nd n : Int} {L : List Int} {T : List (Int × Tx)} {O : List Lr} (h : getT T n = none) : askF nd n L T O = (131, T, O) := by unfold askF; rw [h]
theorem ask_was {nd n : Int} {L : List Int} {T : List (Int × Tx)} {O : List Lr} {t : Tx} (h : getT T n = some t) (hc : t.asked = true ∨ t.com = true) : askF nd n L T O = (131, T, O) := by unfold askF; rw [h]; exact if_pos hc
theorem ask_bad {nd n : Int} {L : List Int} {T : List (Int × Tx)} {O : List Lr} {t : Tx} (h : getT T n = some t) (hc : t.asked = false) (hc2 : t.com = false) (hL : (ofL L).2 = false) : askF nd n L T O = (1, T, O) := by unfold askF; rw [h]; exact (if_neg (by rw [hc, hc2]; decide)).trans (if_pos hL)
theorem ask_do {nd n : Int} {L : List Int} {T : List (Int × Tx)} {O : List Lr} {t : Tx} (h : getT T n = some t) (hc : t.asked = false) (hc2 : t.com = false) (hL : (ofL L).2 = true) : askF nd n L T O = (0, setT T n ⟨(ofL L).1, t.yes, t.read, true, t.com, t.tell, t.ticks⟩, O ++ sends 1 nd n (nodesTo (ofL L).1 16) (ofL L).1) := by unfold askF; rw [h]; exact (if_neg (by rw [hc, hc2]; decide)).trans (if_neg (by rw [hL]; decide))
theorem ofL_lt (L : List Int) : (ofL L).1 < 65536 := by
  unfold ofL
  split
  · rename_i h; exact bits_16 h
  · decide
attribute [local irreducible] Oper.wp Sem.run Code.wp wpList wpAnyO callFunc execOp Calls
attribute [local irreducible] toU short rencs renc rowE encRow rightB zig unzig decRw rightL risB lastN bitsOf nodesTo readL recB ofL sends getT delT setT
set_option maxRecDepth 100000 in
theorem abort_ok (k kw : Nat) (nd : Int) (inc cnt mb : Nat) (oa : Option Addr) (O : List Lo) (oc : Nat) (n : Int) (A : List (Int × Nat × Tx)) (b : Nat) (t : Tx) (B : List (Int × Nat × Tx)) (hT : TOk (A ++ (n, b, t) :: B)) (g : Gh) (hO : LOk g O) (hol0 : O.length ≤ 100000) (tell : Nat) (htl : tell < 65536)  (w : World) (hS : St w (owns [.blk k (.cells #[pV kw, .int .i64 nd, .int .i64 (inc : Int), .int .i64 (cnt : Int), .map (some mb), .slice oa O.length oc] 68), .mp (.int .i64) mb (List.map tc (A ++ (n, b, t) :: B)), .ow 42 5 oa O.length oc (List.flatMap lo O), .fz g]) [.blk k (.cells #[pV kw, .int .i64 nd, .int .i64 (inc : Int), .int .i64 (cnt : Int), .map (some mb), .slice oa O.length oc] 68), .mp (.int .i64) mb (List.map tc (A ++ (n, b, t) :: B)), .ow 42 5 oa O.length oc (List.flatMap lo O), .fz g] w) : Calls Try.prog 35 #[pV k, .int .i64 n, .int .i64 (tell : Int)] w (Post w [.blk k (.cells #[pV kw, .int .i64 nd, .int .i64 (inc : Int), .int .i64 (cnt : Int), .map (some mb), .slice oa O.length oc] 68), .mp (.int .i64) mb (List.map tc (A ++ (n, b, t) :: B)), .ow 42 5 oa O.length oc (List.flatMap lo O), .fz g] fun v G => ∃ oa' oc' O' g', G = [.blk k (cO kw nd inc cnt mb oa' O'.length oc'), .mp (.int .i64) mb (List.map tc (A ++ B)), .ow 42 5 oa' O'.length oc' (List.flatMap lo O'), .fz g'] ∧ Gle g g' ∧ LOk g' O' ∧ O'.map Lo.l = O.map Lo.l ++ sends 6 nd n (nodesTo tell 16) 0) := by
 refine c_enter Try.func35 rfl rfl rfl ?_
 refine wp_seq_k (fun K1 hK1 => ?_)
 refine wp_region_lit ?_
 refine l_q rfl rfl (q_moveP rfl) ?_
 refine l_q rfl rfl (q_moveI rfl) ?_
 refine l_q rfl rfl (q_moveI rfl) ?_
 refine l_e rfl (fun K hK => ?_)
 have hS3 := hS.fr3; clear hS
 have hS4 := hS3.fr3; clear hS3
 have hS5 := hS4.fr2; clear hS4
 refine e_call (by kernel_rfl) (send_ok k _ nd _ _ _ _ _ _ _ hO (by first | omega | (simp only [zll] <;> omega)) (6 : Int) n tell 0 (by first | omega | (simp only [zll] <;> omega)) (by first | omega | (simp only [zll] <;> omega)) _ (St.begin (Γ := [_, _, _]) hS5)) rfl (after_M (Γ1 := [_, _, _]) hS5 (fun v2 G2 w2 hv2 hS2 => ?_))
 clear hS5
 obtain ⟨oa2, oc2, O2, g2, rfl, hle2, hO2, hOe2⟩ := hv2
 have hS6 : St _ _ [.blk k (.cells #[.pointer (some ⟨kw, 0, none⟩), .int .i64 nd, .int .i64 (inc : Int), .int .i64 (cnt : Int), .map (some mb), .slice oa2 O2.length oc2] 68), .ow 42 5 oa2 O2.length oc2 (List.flatMap lo O2), .fz g2, .mp (.int .i64) mb (List.map tc (A ++ (n, b, t) :: B))] _ := hS2; clear hS2
 have hOl2 : O2.length ≤ O.length + 16 := sends_len hOe2
 refine hK _ _ ?_; clear hK K
 refine l_nil ?_
 refine hK1 _ _ ?_
 refine wp_region_lit ?_
 refine l_q rfl rfl (q_moveP rfl) ?_
 refine l_q rfl rfl (q_nilCheck rfl) ?_
 refine l_q rfl rfl (q_fieldAddr (ft := 66) (o := 4) rfl (by kernel_rfl)) ?_
 refine l_q rfl rfl (q_load1 rfl (by kernel_rfl) (hS6.cell (i := 0) rfl rfl)) ?_
 refine l_q rfl rfl (q_moveI rfl) ?_
 refine l_e rfl (fun K hK => ?_)
 refine e_mapDel (zv := .pointer none) hS6 rfl rfl (by kernel_rfl) (by first | rfl | trivial) (i := 3) rfl (tc_del hT) (fun w7 (hS7 : St _ _ [_, _, .fz g2, .mp (.int .i64) mb (List.map tc (A ++ B))] _) => ?_)
 clear hS6
 refine hK _ _ ?_; clear hK K
 refine l_nil ?_
 refine c_end0 (fn := Try.f35) rfl ?_
 have hS8 := hS7.fr2; clear hS7
 have hS9 := hS8.fr2; clear hS8
 have hS10 := hS9.fr3; clear hS9
 have hS11 := hS10.fr3; clear hS10
 exact ⟨_, _, rfl, ⟨_, _, O2, _, rfl, hle2, hO2, hOe2⟩, hS11⟩
end Go.Proofs.Yteojpdijmnpmgaa
namespace Go.Proofs.Yteojpdijmnpmgaa
open Go.RowKit
theorem q_izc {P : Program} {n : Nat} {f : Nat → Value} {o : Oper} {w : World} {k : IntKind} {a b : Int} (h : a = b) (hr : Run P n f o w (.int k a)) : Run P n f o w (.int k b) := by rw [← h]; exact hr
theorem zero_ok : TxOk (Tx.mk 0 0 0 false false 0 0) := ⟨by decide, by decide, by decide, by decide, by decide⟩
theorem numB_bd {nd : Int} {inc cnt : Nat} (hi : inc ≤ 65537) (hc : cnt < 65536) (hnd : 0 ≤ nd ∧ nd < 16) : 0 ≤ numB nd inc cnt ∧ numB nd inc cnt ≤ 2199023255552 := by unfold numB; omega
attribute [local irreducible] Oper.wp Sem.run Code.wp wpList wpAnyO callFunc execOp Calls
attribute [local irreducible] toU short rencs renc rowE encRow rightB zig unzig decRw rightL risB lastN bitsOf nodesTo readL recB ofL sends getT delT setT
set_option maxRecDepth 100000 in
theorem begin_hit (k kw : Nat) (nd : Int) (inc cnt mb : Nat) (oa : Option Addr) (O : List Lo) (oc : Nat) (n : Int) (A : List (Int × Nat × Tx)) (b : Nat) (t : Tx) (B : List (Int × Nat × Tx)) (hT : TOk (A ++ (n, b, t) :: B)) (g : Gh) (hO : LOk g O) (hol0 : O.length ≤ 100000) (hi : inc ≤ 65537) (hc : cnt < 65536) (hnd : 0 ≤ nd ∧ nd < 16) (hn : n = numB nd inc cnt)  (w : World) (hS : St w (owns [co k kw nd inc cnt mb oa O oc (A ++ (n, b, t) :: B), .fz g]) [co k kw nd inc cnt mb oa O oc (A ++ (n, b, t) :: B), .fz g] w) : Calls Try.prog 12 #[pV k] w (Post w [co k kw nd inc cnt mb oa O oc (A ++ (n, b, t) :: B), .fz g] fun v G => CoP k kw nd inc mb g (.tuple #[.int .i64 n, .int .i64 0]) (cnt + 1, setT (absT (A ++ (n, b, t) :: B)) n (Tx.mk 0 0 0 false false 0 0), O.map Lo.l) v G) := by
 have hTn := (hT.2 (n, b, t) (List.mem_append_right _ (.head _))).1
 have ht1 : t.nodes < 65536 := hTn.1
 have ht2 : t.yes < 65536 := hTn.2.1
 have ht3 : t.read < 65536 := hTn.2.2.1
 have ht4 : t.tell < 65536 := hTn.2.2.2.1
 have ht5 : t.ticks < 5 := hTn.2.2.2.2
 refine c_enter Try.func12 rfl rfl rfl ?_
 refine wp_seq_k (fun K1 hK1 => ?_)
 have hS2 := co_open hS; clear hS
 have hS3 := hS2.fr2; clear hS2
 have hS4 : St _ _ [.blk b (.cells #[.int .i64 ((t.nodes : Nat) : Int), .int .i64 ((t.yes : Nat) : Int), .int .i64 ((t.read : Nat) : Int), .bool t.asked, .bool t.com, .int .i64 ((t.tell : Nat) : Int), .int .i64 ((t.ticks : Nat) : Int)] 80), .pk (List.map tb (A ++ B)), .blk k (.cells #[.pointer (some ⟨kw, 0, none⟩), .int .i64 nd, .int .i64 (inc : Int), .int .i64 (cnt : Int), .map (some mb), .slice oa O.length oc] 68), .mp (.int .i64) mb (List.map tc (A ++ (n, b, t) :: B)), .ow 42 5 oa O.length oc (List.flatMap lo O), .fz g] _ := tb_take hS3; clear hS3
 refine wp_region_lit ?_
 refine l_q rfl rfl (q_assignI rfl) ?_
 refine l_q rfl rfl (q_assignI rfl) ?_
 refine l_nil ?_
 refine hK1 _ _ ?_
 refine wp_seq_k (fun K5 hK5 => ?_)
 refine wp_block ?_
 refine wp_seq_k (fun K6 hK6 => ?_)
 refine wp_region_lit ?_
 refine l_q rfl rfl (q_moveP rfl) ?_
 refine l_q rfl rfl (q_peq rfl (by kernel_rfl)) ?_
 refine l_q rfl rfl (q_assignB rfl) ?_
 refine l_nil ?_
 refine hK6 _ _ ?_
 refine c_condF rfl rfl ?_
 refine wp_seq_k (fun K8 hK8 => ?_)
 refine wp_region_lit ?_
 refine l_q rfl rfl (q_moveP rfl) ?_
 refine l_q rfl rfl (q_nilCheck rfl) ?_
 refine l_q rfl rfl (q_fieldAddr (ft := 3) (o := 3) rfl (by kernel_rfl)) ?_
 refine l_q rfl rfl (q_load1 rfl (by kernel_rfl) (hS4.cell (i := 2) rfl rfl)) ?_
 refine l_q rfl rfl (q_geq rfl rfl) ?_
 refine l_q rfl rfl (q_assignB rfl) ?_
 refine l_nil ?_
 refine hK8 _ _ ?_
 refine c_condF rfl (decide_eq_false (by omega)) ?_
 refine wp_skip ?_
 refine hK5 _ _ ?_
 refine wp_seq_k (fun K10 hK10 => ?_)
 refine r_any (by kernel_rfl) hS4 (fun w11 hS11 => ?_)
 clear hS4
 refine o_pure (i := 0) (fun _ _ => trivial) rfl rfl (by kernel_rfl) (goes0 rfl) (QOk.then QOk.body) (fun w => q_moveP rfl) ?_
 refine o_pure (i := 1) (fun _ _ => trivial) rfl rfl (by kernel_rfl) (goes0 rfl) (QOk.then QOk.body) (fun w => q_nilCheck rfl) ?_
 refine o_pure (i := 2) (fun _ _ => trivial) rfl rfl (by kernel_rfl) (goes0 rfl) (QOk.then QOk.body) (fun w => q_fieldAddr (ft := 3) (o := 2) rfl (by kernel_rfl)) ?_
 refine o_held (i := 3) [4, 9, 10, 15, 16] (fun _ _ => trivial) rfl rfl (by kernel_rfl) (goes0 rfl) (QOk.then QOk.body) (q_load1 rfl (by kernel_rfl) (hS11.cell (i := 2) rfl rfl)) ?_
 refine o_pure (i := 4) (fun j w => ⟨(fun _ _ => trivial) j w, fun _ h => h⟩) rfl rfl (by kernel_rfl) (goes0 rfl) (QOk.then QOk.body) (fun w => q_mulx rfl rfl (by first | decide | omega) (by first | decide | omega)) ?_
 refine o_pure (i := 5) (fun j w => ⟨(fun _ _ => trivial) j w, fun _ h => h⟩) rfl rfl (by kernel_rfl) (goes0 rfl) (QOk.then QOk.body) (fun w => q_moveP rfl) ?_
 refine o_pure (i := 6) (fun j w => ⟨(fun _ _ => trivial) j w, fun _ h => h⟩) rfl rfl (by kernel_rfl) (goes0 rfl) (QOk.then QOk.body) (fun w => q_nilCheck rfl) ?_
 refine o_pure (i := 7) (fun j w => ⟨(fun _ _ => trivial) j w, fun _ h => h⟩) rfl rfl (by kernel_rfl) (goes0 rfl) (QOk.then QOk.body) (fun w => q_fieldAddr (ft := 3) (o := 3) rfl (by kernel_rfl)) ?_
 refine o_held (i := 8) [9, 10, 15, 16] (fun j w => ⟨(fun _ _ => trivial) j w, fun _ h => h⟩) rfl rfl (by kernel_rfl) (goes0 rfl) (QOk.then QOk.body) (q_load1 rfl (by kernel_rfl) (hS11.cell (i := 2) rfl rfl)) ?_
 refine o_pure (i := 9) (fun j w => ⟨(fun j w => ⟨(fun _ _ => trivial) j w, fun _ h => h⟩) j w, fun _ h => h⟩) rfl rfl (by kernel_rfl) (goes0 rfl) (QOk.then QOk.body) (fun w => q_addx rfl rfl (by first | decide | omega) (by first | decide | omega)) ?_
 refine o_pure (i := 10) (fun j w => ⟨(fun j w => ⟨(fun _ _ => trivial) j w, fun _ h => h⟩) j w, fun _ h => h⟩) rfl rfl (by kernel_rfl) (goes0 rfl) (QOk.then QOk.body) (fun w => q_mulx rfl rfl (by first | decide | omega) (by first | decide | omega)) ?_
 refine o_pure (i := 11) (fun j w => ⟨(fun j w => ⟨(fun _ _ => trivial) j w, fun _ h => h⟩) j w, fun _ h => h⟩) rfl rfl (by kernel_rfl) (goes0 rfl) (QOk.then QOk.body) (fun w => q_moveP rfl) ?_
 refine o_pure (i := 12) (fun j w => ⟨(fun j w => ⟨(fun _ _ => trivial) j w, fun _ h => h⟩) j w, fun _ h => h⟩) rfl rfl (by kernel_rfl) (goes0 rfl) (QOk.then QOk.body) (fun w => q_nilCheck rfl) ?_
 refine o_pure (i := 13) (fun j w => ⟨(fun j w => ⟨(fun _ _ => trivial) j w, fun _ h => h⟩) j w, fun _ h => h⟩) rfl rfl (by kernel_rfl) (goes0 rfl) (QOk.then QOk.body) (fun w => q_fieldAddr (ft := 3) (o := 1) rfl (by kernel_rfl)) ?_
 refine o_held (i := 14) [15, 16] (fun j w => ⟨(fun j w => ⟨(fun _ _ => trivial) j w, fun _ h => h⟩) j w, fun _ h => h⟩) rfl rfl (by kernel_rfl) (goes0 rfl) (QOk.then QOk.body) (q_load1 rfl (by kernel_rfl) (hS11.cell (i := 2) rfl rfl)) ?_
 refine o_pure (i := 15) (fun j w => ⟨(fun j w => ⟨(fun j w => ⟨(fun _ _ => trivial) j w, fun _ h => h⟩) j w, fun _ h => h⟩) j w, fun _ h => h⟩) rfl rfl (by kernel_rfl) (goes0 rfl) (QOk.then QOk.body) (fun w => q_izc (b := n) (by rw [hn]; unfold numB; omega) (q_addx rfl rfl (by omega) (by omega))) ?_
 refine o_pure (i := 16) (fun j w => ⟨(fun j w => ⟨(fun j w => ⟨(fun _ _ => trivial) j w, fun _ h => h⟩) j w, fun _ h => h⟩) j w, fun _ h => h⟩) rfl rfl (by kernel_rfl) (goes0 rfl) (QOk.then QOk.body) (fun w => q_assignI rfl) ?_
 refine o_done (by kernel_rfl) ?_
 refine hK10 _ _ ?_
 refine wp_seq_k (fun K12 hK12 => ?_)
 refine wp_region_lit ?_
 refine l_q rfl rfl (q_moveP rfl) ?_
 refine l_q rfl rfl (q_nilCheck rfl) ?_
 refine l_q rfl rfl (q_fieldAddr (ft := 3) (o := 3) rfl (by kernel_rfl)) ?_
 refine l_q rfl rfl (q_load1 rfl (by kernel_rfl) (hS11.cell (i := 2) rfl rfl)) ?_
 refine l_q rfl rfl (q_addx rfl rfl (by first | decide | omega) (by first | decide | omega)) ?_
 refine l_q rfl rfl (q_nilCheck rfl) ?_
 refine l_q rfl rfl (q_fieldAddr (ft := 3) (o := 3) rfl (by kernel_rfl)) ?_
 refine l_e rfl (fun K hK => ?_)
 refine e_store1 hS11 rfl rfl (by kernel_rfl) (by first | rfl | assumption) (i := 2) rfl rfl (fun w13 (hS13 : St _ _ [_, _, .blk k (.cells #[.pointer (some ⟨kw, 0, none⟩), .int .i64 nd, .int .i64 (inc : Int), .int .i64 ((cnt : Int) + (1 : Int)), .map (some mb), .slice oa O.length oc] 68), _, _, .fz g] _) => ?_)
 clear hS11
 refine hK _ _ ?_; clear hK K
 refine l_nil ?_
 refine hK12 _ _ ?_
 refine wp_seq_k (fun K14 hK14 => ?_)
 refine wp_region_lit ?_
 refine l_q rfl rfl (q_moveP rfl) ?_
 refine l_q rfl rfl (q_nilCheck rfl) ?_
 refine l_q rfl rfl (q_fieldAddr (ft := 66) (o := 4) rfl (by kernel_rfl)) ?_
 refine l_q rfl rfl (q_load1 rfl (by kernel_rfl) (hS13.cell (i := 2) rfl rfl)) ?_
 refine l_q rfl rfl (q_moveI rfl) ?_
 refine l_q rfl rfl (q_build (ps := [(0, 1), (1, 1), (2, 1), (3, 1), (4, 1), (5, 1), (6, 1)]) (zv := .agg #[.int .i64 0, .int .i64 0, .int .i64 0, .bool false, .bool false, .int .i64 0, .int .i64 0]) (by kernel_rfl) (by kernel_rfl) rfl (by repeat' (first | exact trivial | refine ⟨fun _ => by first | rfl | assumption | exact one_if (by assumption), ?_⟩ | refine ⟨fun ⟨_, h⟩ => by simp at h, ?_⟩)) rfl) ?_
 refine l_e rfl (fun K hK => ?_)
 refine e_boxA hS13 rfl (fun b15 w15 (hS15 : St _ _ [.blk b15 (.cells #[.int .i64 (0 : Int), .int .i64 (0 : Int), .int .i64 (0 : Int), .bool false, .bool false, .int .i64 (0 : Int), .int .i64 (0 : Int)] 80), _, _, _, _, _, .fz g] _) => ?_)
 clear hS13
 refine hK _ _ ?_; clear hK K
 refine l_e rfl (fun K hK => ?_)
 refine e_mapUp (zv := .pointer none) hS15 rfl rfl rfl (by kernel_rfl) (by first | rfl | trivial) (i := 4) rfl (tc_set hT b15 (Tx.mk 0 0 0 false false 0 0)) (fun w16 (hS16 : St _ _ [_, _, _, _, .mp (.int .i64) mb (List.map tc (A ++ (n, b15, (Tx.mk 0 0 0 false false 0 0)) :: B)), _, .fz g] _) => ?_)
 clear hS15
 refine hK _ _ ?_; clear hK K
 refine l_nil ?_
 refine hK14 _ _ ?_
 refine wp_seq_k (fun K17 hK17 => ?_)
 refine wp_region_lit ?_
 refine l_q rfl rfl (q_moveI rfl) ?_
 refine l_q rfl rfl (q_assignI rfl) ?_
 refine l_q rfl rfl (q_assignI rfl) ?_
 refine l_nil ?_
 refine hK17 _ _ ?_
 refine wp_ret ?_
 refine c_ret2 rfl rfl rfl ?_
 have hS18 := hS16.fr2; clear hS16
 have hS19 := hS18.fr1; clear hS18
 have hS20 : St _ _ [.pk (List.map tb (A ++ (n, b15, (Tx.mk 0 0 0 false false 0 0)) :: B)), _, _, _, _, .fz g] _ := tb_put (q := (n, b15, (Tx.mk 0 0 0 false false 0 0))) hS19; clear hS19
 have hS21 := hS20.fr5; clear hS20
 have hS22 := hS21.fr5; clear hS21
 have hS23 := hS22.fr2; clear hS22
 have hS24 := hS23.fr5; clear hS23
 have hS25 := hS24.fr5; clear hS24
 have hS26 : St _ _ [_, _, _, _, .fz g] _ := hS25.only 5; clear hS25
 have hS27 : St _ _ [co k kw nd inc (cnt + 1) mb oa O oc (A ++ (n, b15, (Tx.mk 0 0 0 false false 0 0)) :: B), .fz g] _ := co_close hS26; clear hS26
 exact ⟨_, _, rfl, ⟨_, _, O, _, g, rfl, rfl, Gle.refl _, hO, hT.set zero_ok, (setT_hit hT).symm, rfl⟩, hS27⟩
set_option maxRecDepth 100000 in
theorem begin_miss (k kw : Nat) (nd : Int) (inc cnt mb : Nat) (oa : Option Addr) (O : List Lo) (oc : Nat) (n : Int) (A B : List (Int × Nat × Tx)) (hA : ∀ q ∈ A, q.1 < n) (hB : ∀ q ∈ B, n < q.1) (hT : TOk (A ++ B)) (g : Gh) (hO : LOk g O) (hol0 : O.length ≤ 100000) (hi : inc ≤ 65537) (hc : cnt < 65536) (hnd : 0 ≤ nd ∧ nd < 16) (hn : n = numB nd inc cnt)  (w : World) (hS : St w (owns [co k kw nd inc cnt mb oa O oc (A ++ B), .fz g]) [co k kw nd inc cnt mb oa O oc (A ++ B), .fz g] w) : Calls Try.prog 12 #[pV k] w (Post w [co k kw nd inc cnt mb oa O oc (A ++ B), .fz g] fun v G => CoP k kw nd inc mb g (.tuple #[.int .i64 n, .int .i64 0]) (cnt + 1, setT (absT (A ++ B)) n (Tx.mk 0 0 0 false false 0 0), O.map Lo.l) v G) := by
 refine c_enter Try.func12 rfl rfl rfl ?_
 refine wp_seq_k (fun K1 hK1 => ?_)
 have hS2 := co_open hS; clear hS
 refine wp_region_lit ?_
 refine l_q rfl rfl (q_assignI rfl) ?_
 refine l_q rfl rfl (q_assignI rfl) ?_
 refine l_nil ?_
 refine hK1 _ _ ?_
 refine wp_seq_k (fun K3 hK3 => ?_)
 refine wp_block ?_
 refine wp_seq_k (fun K4 hK4 => ?_)
 refine wp_region_lit ?_
 refine l_q rfl rfl (q_moveP rfl) ?_
 refine l_q rfl rfl (q_peq rfl (by kernel_rfl)) ?_
 refine l_q rfl rfl (q_assignB rfl) ?_
 refine l_nil ?_
 refine hK4 _ _ ?_
 refine c_condF rfl rfl ?_
 refine wp_seq_k (fun K6 hK6 => ?_)
 refine wp_region_lit ?_
 refine l_q rfl rfl (q_moveP rfl) ?_
 refine l_q rfl rfl (q_nilCheck rfl) ?_
 refine l_q rfl rfl (q_fieldAddr (ft := 3) (o := 3) rfl (by kernel_rfl)) ?_
 refine l_q rfl rfl (q_load1 rfl (by kernel_rfl) (hS2.cell (i := 0) rfl rfl)) ?_
 refine l_q rfl rfl (q_geq rfl rfl) ?_
 refine l_q rfl rfl (q_assignB rfl) ?_
 refine l_nil ?_
 refine hK6 _ _ ?_
 refine c_condF rfl (decide_eq_false (by omega)) ?_
 refine wp_skip ?_
 refine hK3 _ _ ?_
 refine wp_seq_k (fun K8 hK8 => ?_)
 refine r_any (by kernel_rfl) hS2 (fun w9 hS9 => ?_)
 clear hS2
 refine o_pure (i := 0) (fun _ _ => trivial) rfl rfl (by kernel_rfl) (goes0 rfl) (QOk.then QOk.body) (fun w => q_moveP rfl) ?_
 refine o_pure (i := 1) (fun _ _ => trivial) rfl rfl (by kernel_rfl) (goes0 rfl) (QOk.then QOk.body) (fun w => q_nilCheck rfl) ?_
 refine o_pure (i := 2) (fun _ _ => trivial) rfl rfl (by kernel_rfl) (goes0 rfl) (QOk.then QOk.body) (fun w => q_fieldAddr (ft := 3) (o := 2) rfl (by kernel_rfl)) ?_
 refine o_held (i := 3) [4, 9, 10, 15, 16] (fun _ _ => trivial) rfl rfl (by kernel_rfl) (goes0 rfl) (QOk.then QOk.body) (q_load1 rfl (by kernel_rfl) (hS9.cell (i := 0) rfl rfl)) ?_
 refine o_pure (i := 4) (fun j w => ⟨(fun _ _ => trivial) j w, fun _ h => h⟩) rfl rfl (by kernel_rfl) (goes0 rfl) (QOk.then QOk.body) (fun w => q_mulx rfl rfl (by first | decide | omega) (by first | decide | omega)) ?_
 refine o_pure (i := 5) (fun j w => ⟨(fun _ _ => trivial) j w, fun _ h => h⟩) rfl rfl (by kernel_rfl) (goes0 rfl) (QOk.then QOk.body) (fun w => q_moveP rfl) ?_
 refine o_pure (i := 6) (fun j w => ⟨(fun _ _ => trivial) j w, fun _ h => h⟩) rfl rfl (by kernel_rfl) (goes0 rfl) (QOk.then QOk.body) (fun w => q_nilCheck rfl) ?_
 refine o_pure (i := 7) (fun j w => ⟨(fun _ _ => trivial) j w, fun _ h => h⟩) rfl rfl (by kernel_rfl) (goes0 rfl) (QOk.then QOk.body) (fun w => q_fieldAddr (ft := 3) (o := 3) rfl (by kernel_rfl)) ?_
 refine o_held (i := 8) [9, 10, 15, 16] (fun j w => ⟨(fun _ _ => trivial) j w, fun _ h => h⟩) rfl rfl (by kernel_rfl) (goes0 rfl) (QOk.then QOk.body) (q_load1 rfl (by kernel_rfl) (hS9.cell (i := 0) rfl rfl)) ?_
 refine o_pure (i := 9) (fun j w => ⟨(fun j w => ⟨(fun _ _ => trivial) j w, fun _ h => h⟩) j w, fun _ h => h⟩) rfl rfl (by kernel_rfl) (goes0 rfl) (QOk.then QOk.body) (fun w => q_addx rfl rfl (by first | decide | omega) (by first | decide | omega)) ?_
 refine o_pure (i := 10) (fun j w => ⟨(fun j w => ⟨(fun _ _ => trivial) j w, fun _ h => h⟩) j w, fun _ h => h⟩) rfl rfl (by kernel_rfl) (goes0 rfl) (QOk.then QOk.body) (fun w => q_mulx rfl rfl (by first | decide | omega) (by first | decide | omega)) ?_
 refine o_pure (i := 11) (fun j w => ⟨(fun j w => ⟨(fun _ _ => trivial) j w, fun _ h => h⟩) j w, fun _ h => h⟩) rfl rfl (by kernel_rfl) (goes0 rfl) (QOk.then QOk.body) (fun w => q_moveP rfl) ?_
 refine o_pure (i := 12) (fun j w => ⟨(fun j w => ⟨(fun _ _ => trivial) j w, fun _ h => h⟩) j w, fun _ h => h⟩) rfl rfl (by kernel_rfl) (goes0 rfl) (QOk.then QOk.body) (fun w => q_nilCheck rfl) ?_
 refine o_pure (i := 13) (fun j w => ⟨(fun j w => ⟨(fun _ _ => trivial) j w, fun _ h => h⟩) j w, fun _ h => h⟩) rfl rfl (by kernel_rfl) (goes0 rfl) (QOk.then QOk.body) (fun w => q_fieldAddr (ft := 3) (o := 1) rfl (by kernel_rfl)) ?_
 refine o_held (i := 14) [15, 16] (fun j w => ⟨(fun j w => ⟨(fun _ _ => trivial) j w, fun _ h => h⟩) j w, fun _ h => h⟩) rfl rfl (by kernel_rfl) (goes0 rfl) (QOk.then QOk.body) (q_load1 rfl (by kernel_rfl) (hS9.cell (i := 0) rfl rfl)) ?_
 refine o_pure (i := 15) (fun j w => ⟨(fun j w => ⟨(fun j w => ⟨(fun _ _ => trivial) j w, fun _ h => h⟩) j w, fun _ h => h⟩) j w, fun _ h => h⟩) rfl rfl (by kernel_rfl) (goes0 rfl) (QOk.then QOk.body) (fun w => q_izc (b := n) (by rw [hn]; unfold numB; omega) (q_addx rfl rfl (by omega) (by omega))) ?_
 refine o_pure (i := 16) (fun j w => ⟨(fun j w => ⟨(fun j w => ⟨(fun _ _ => trivial) j w, fun _ h => h⟩) j w, fun _ h => h⟩) j w, fun _ h => h⟩) rfl rfl (by kernel_rfl) (goes0 rfl) (QOk.then QOk.body) (fun w => q_assignI rfl) ?_
 refine o_done (by kernel_rfl) ?_
 refine hK8 _ _ ?_
 refine wp_seq_k (fun K10 hK10 => ?_)
 refine wp_region_lit ?_
 refine l_q rfl rfl (q_moveP rfl) ?_
 refine l_q rfl rfl (q_nilCheck rfl) ?_
 refine l_q rfl rfl (q_fieldAddr (ft := 3) (o := 3) rfl (by kernel_rfl)) ?_
 refine l_q rfl rfl (q_load1 rfl (by kernel_rfl) (hS9.cell (i := 0) rfl rfl)) ?_
 refine l_q rfl rfl (q_addx rfl rfl (by first | decide | omega) (by first | decide | omega)) ?_
 refine l_q rfl rfl (q_nilCheck rfl) ?_
 refine l_q rfl rfl (q_fieldAddr (ft := 3) (o := 3) rfl (by kernel_rfl)) ?_
 refine l_e rfl (fun K hK => ?_)
 refine e_store1 hS9 rfl rfl (by kernel_rfl) (by first | rfl | assumption) (i := 0) rfl rfl (fun w11 (hS11 : St _ _ [.blk k (.cells #[.pointer (some ⟨kw, 0, none⟩), .int .i64 nd, .int .i64 (inc : Int), .int .i64 ((cnt : Int) + (1 : Int)), .map (some mb), .slice oa O.length oc] 68), .mp (.int .i64) mb (List.map tc (A ++ B)), .pk (List.map tb (A ++ B)), .ow 42 5 oa O.length oc (List.flatMap lo O), .fz g] _) => ?_)
 clear hS9
 refine hK _ _ ?_; clear hK K
 refine l_nil ?_
 refine hK10 _ _ ?_
 refine wp_seq_k (fun K12 hK12 => ?_)
 refine wp_region_lit ?_
 refine l_q rfl rfl (q_moveP rfl) ?_
 refine l_q rfl rfl (q_nilCheck rfl) ?_
 refine l_q rfl rfl (q_fieldAddr (ft := 66) (o := 4) rfl (by kernel_rfl)) ?_
 refine l_q rfl rfl (q_load1 rfl (by kernel_rfl) (hS11.cell (i := 0) rfl rfl)) ?_
 refine l_q rfl rfl (q_moveI rfl) ?_
 refine l_q rfl rfl (q_build (ps := [(0, 1), (1, 1), (2, 1), (3, 1), (4, 1), (5, 1), (6, 1)]) (zv := .agg #[.int .i64 0, .int .i64 0, .int .i64 0, .bool false, .bool false, .int .i64 0, .int .i64 0]) (by kernel_rfl) (by kernel_rfl) rfl (by repeat' (first | exact trivial | refine ⟨fun _ => by first | rfl | assumption | exact one_if (by assumption), ?_⟩ | refine ⟨fun ⟨_, h⟩ => by simp at h, ?_⟩)) rfl) ?_
 refine l_e rfl (fun K hK => ?_)
 refine e_boxA hS11 rfl (fun b13 w13 (hS13 : St _ _ [.blk b13 (.cells #[.int .i64 (0 : Int), .int .i64 (0 : Int), .int .i64 (0 : Int), .bool false, .bool false, .int .i64 (0 : Int), .int .i64 (0 : Int)] 80), _, _, _, _, .fz g] _) => ?_)
 clear hS11
 refine hK _ _ ?_; clear hK K
 refine l_e rfl (fun K hK => ?_)
 refine e_mapUp (zv := .pointer none) hS13 rfl rfl rfl (by kernel_rfl) (by first | rfl | trivial) (i := 2) rfl (tc_ins hT hA hB b13 (Tx.mk 0 0 0 false false 0 0)) (fun w14 (hS14 : St _ _ [_, _, .mp (.int .i64) mb (List.map tc (A ++ (n, b13, (Tx.mk 0 0 0 false false 0 0)) :: B)), _, _, .fz g] _) => ?_)
 clear hS13
 refine hK _ _ ?_; clear hK K
 refine l_nil ?_
 refine hK12 _ _ ?_
 refine wp_seq_k (fun K15 hK15 => ?_)
 refine wp_region_lit ?_
 refine l_q rfl rfl (q_moveI rfl) ?_
 refine l_q rfl rfl (q_assignI rfl) ?_
 refine l_q rfl rfl (q_assignI rfl) ?_
 refine l_nil ?_
 refine hK15 _ _ ?_
 refine wp_ret ?_
 refine c_ret2 rfl rfl rfl ?_
 have hS16 := hS14.fr3; clear hS14
 have hS17 := hS16.fr1; clear hS16
 have hS18 : St _ _ [.pk (List.map tb (A ++ (n, b13, (Tx.mk 0 0 0 false false 0 0)) :: B)), _, _, _, .fz g] _ := tb_put (q := (n, b13, (Tx.mk 0 0 0 false false 0 0))) hS17; clear hS17
 have hS19 := hS18.fr4; clear hS18
 have hS20 := hS19.fr4; clear hS19
 have hS21 := hS20.fr2; clear hS20
 have hS22 := hS21.fr4; clear hS21
 have hS23 := hS22.fr4; clear hS22
 have hS24 : St _ _ [co k kw nd inc (cnt + 1) mb oa O oc (A ++ (n, b13, (Tx.mk 0 0 0 false false 0 0)) :: B), .fz g] _ := co_close hS23; clear hS23
 exact ⟨_, _, rfl, ⟨_, _, O, _, g, rfl, rfl, Gle.refl _, hO, hT.ins hA hB ⟨zero_ok, by rw [hn]; exact numB_bd hi hc hnd⟩, (setT_miss hA hB).symm, rfl⟩, hS24⟩
set_option maxRecDepth 100000 in
theorem ask_hit (k kw : Nat) (nd : Int) (inc cnt mb : Nat) (oa : Option Addr) (O : List Lo) (oc : Nat) (n : Int) (A : List (Int × Nat × Tx)) (b : Nat) (t : Tx) (B : List (Int × Nat × Tx)) (hT : TOk (A ++ (n, b, t) :: B)) (g : Gh) (hO : LOk g O) (hol0 : O.length ≤ 100000) (L : List Int) (m : Nat) (hm : L.length = m) (hml : m ≤ 2000000) (an : Option Addr) (cn : Nat) (w : World) (g2 : Gh) (hg2 : Rog [co k kw nd inc cnt mb oa O oc (A ++ (n, b, t) :: B), .fz g] w g2) (hG : SlG g2 an (iv L)) (hS : St w (owns [co k kw nd inc cnt mb oa O oc (A ++ (n, b, t) :: B), .fz g]) [co k kw nd inc cnt mb oa O oc (A ++ (n, b, t) :: B), .fz g] w) : Calls Try.prog 13 #[pV k, .int .i64 n, .slice an m cn] w (Post w [co k kw nd inc cnt mb oa O oc (A ++ (n, b, t) :: B), .fz g] fun v G => CoP k kw nd inc mb g (.int .i64 (askF nd n L (absT (A ++ (n, b, t) :: B)) (O.map Lo.l)).1) (cnt, (askF nd n L (absT (A ++ (n, b, t) :: B)) (O.map Lo.l)).2) v G) := by
 subst hm
 have hof := ofL_lt L
 have hTn := (hT.2 (n, b, t) (List.mem_append_right _ (.head _))).1
 have ht1 : t.nodes < 65536 := hTn.1
 have ht2 : t.yes < 65536 := hTn.2.1
 have ht3 : t.read < 65536 := hTn.2.2.1
 have ht4 : t.tell < 65536 := hTn.2.2.2.1
 have ht5 : t.ticks < 5 := hTn.2.2.2.2
 refine c_enter Try.func13 rfl rfl rfl ?_
 refine wp_seq_k (fun K1 hK1 => ?_)
 have hS2 := co_open hS; clear hS
 have hS3 := hS2.fr2; clear hS2
 have hS4 : St _ _ [.blk b (.cells #[.int .i64 ((t.nodes : Nat) : Int), .int .i64 ((t.yes : Nat) : Int), .int .i64 ((t.read : Nat) : Int), .bool t.asked, .bool t.com, .int .i64 ((t.tell : Nat) : Int), .int .i64 ((t.ticks : Nat) : Int)] 80), .pk (List.map tb (A ++ B)), .blk k (.cells #[.pointer (some ⟨kw, 0, none⟩), .int .i64 nd, .int .i64 (inc : Int), .int .i64 (cnt : Int), .map (some mb), .slice oa O.length oc] 68), .mp (.int .i64) mb (List.map tc (A ++ (n, b, t) :: B)), .ow 42 5 oa O.length oc (List.flatMap lo O), .fz g] _ := tb_take hS3; clear hS3
 refine wp_region_lit ?_
 refine l_q rfl rfl (q_assignI rfl) ?_
 refine l_nil ?_
 refine hK1 _ _ ?_
 refine wp_seq_k (fun K5 hK5 => ?_)
 refine wp_seq_k (fun K6 hK6 => ?_)
 refine wp_region_lit ?_
 refine l_q rfl rfl (q_moveP rfl) ?_
 refine l_q rfl rfl (q_peq rfl (by kernel_rfl)) ?_
 refine l_nil ?_
 refine hK6 _ _ ?_
 refine c_condF rfl rfl ?_
 refine wp_skip ?_
 refine hK5 _ _ ?_
 refine wp_seq_k (fun K8 hK8 => ?_)
 refine wp_region_lit ?_
 refine l_q rfl rfl (q_moveP rfl) ?_
 refine l_q rfl rfl (q_nilCheck rfl) ?_
 refine l_q rfl rfl (q_fieldAddr (ft := 66) (o := 4) rfl (by kernel_rfl)) ?_
 refine l_q rfl rfl (q_load1 rfl (by kernel_rfl) (hS4.cell (i := 2) rfl rfl)) ?_
 refine l_q rfl rfl (q_moveI rfl) ?_
 refine l_q rfl rfl (q_lookHit (zv := .pointer none) rfl rfl (by kernel_rfl) (by first | rfl | trivial) (hS4.map (i := 3) rfl) (look_hit (k := n) (x := (b, t)) (List.mem_append_right _ (.head _)) rfl)) ?_
 refine l_q rfl rfl (q_move rfl) ?_
 refine l_q rfl rfl (q_extract rfl rfl) ?_
 refine l_q rfl rfl (q_extract rfl rfl) ?_
 refine l_q rfl rfl (q_assignP rfl) ?_
 refine l_q rfl rfl (q_assignB rfl) ?_
 refine l_nil ?_
 refine hK8 _ _ ?_
 refine wp_seq_k (fun K9 hK9 => ?_)
 refine wp_seq_k (fun K10 hK10 => ?_)
 refine wp_region_lit ?_
 refine l_q rfl rfl (q_moveB rfl) ?_
 refine l_q rfl rfl (q_not rfl) ?_
 refine l_q rfl rfl (q_moveB rfl) ?_
 refine l_on rfl rfl rfl ?_
 refine l_q rfl rfl (q_moveP rfl) ?_
 refine l_on rfl rfl rfl ?_
 refine l_q rfl rfl (q_nilCheck rfl) ?_
 refine l_on rfl rfl rfl ?_
 refine l_q rfl rfl (q_fieldAddr (ft := 4) (o := 3) rfl (by kernel_rfl)) ?_
 refine l_on rfl rfl rfl ?_
 refine l_q rfl rfl (q_load1 rfl (by kernel_rfl) (hS4.cell (i := 0) rfl rfl)) ?_
 refine l_q rfl rfl (q_pickF rfl rfl rfl) ?_
 refine l_q rfl rfl (q_moveB rfl) ?_
 refine g_splitL (t := 30) rfl (fun hg11 => ?_) (fun hg11 => ?_)
 have hg11b := hg11
 try simp only [zbb] at hg11
 refine l_off rfl rfl rfl hg11b ?_
 refine l_off rfl rfl rfl hg11b ?_
 refine l_off rfl rfl rfl hg11b ?_
 refine l_off rfl rfl rfl hg11b ?_
 refine l_q rfl rfl (q_pickT rfl hg11b rfl) ?_
 refine l_nil ?_
 refine hK10 _ _ ?_
 refine c_condT rfl rfl ?_
 refine wp_seq_k (fun K13 hK13 => ?_)
 refine wp_region_lit ?_
 refine l_q rfl rfl (q_assignI rfl) ?_
 refine l_nil ?_
 refine hK13 _ _ ?_
 refine wp_ret ?_
 refine c_ret1 rfl rfl ?_
 have hS14 : St _ _ [.pk (List.map tb (A ++ (n, b, t) :: B)), _, _, _, .fz g] _ := tb_put (q := (n, b, t)) hS4; clear hS4
 have hS15 := hS14.fr4; clear hS14
 have hS16 := hS15.fr4; clear hS15
 have hS17 := hS16.fr2; clear hS16
 have hS18 := hS17.fr4; clear hS17
 have hS19 := hS18.fr4; clear hS18
 have hS20 : St _ _ [co k kw nd inc cnt mb oa O oc (A ++ (n, b, t) :: B), .fz g] _ := co_close hS19; clear hS19
 exact ⟨_, _, rfl, ⟨_, _, O, _, g, by rw [ask_was (getT_hit hT) (by simp_all)]; rfl, by rw [ask_was (getT_hit hT) (by simp_all)], Gle.refl _, hO, hT, by rw [ask_was (getT_hit hT) (by simp_all)], by rw [ask_was (getT_hit hT) (by simp_all)]⟩, hS20⟩
 have hg11b := hg11
 try simp only [zbb] at hg11
 refine l_on rfl rfl hg11b ?_
 refine l_q rfl rfl (q_moveP rfl) ?_
 refine l_on rfl rfl hg11b ?_
 refine l_q rfl rfl (q_nilCheck rfl) ?_
 refine l_on rfl rfl hg11b ?_
 refine l_q rfl rfl (q_fieldAddr (ft := 4) (o := 4) rfl (by kernel_rfl)) ?_
 refine l_on rfl rfl hg11b ?_
 refine l_q rfl rfl (q_load1 rfl (by kernel_rfl) (hS4.cell (i := 0) rfl rfl)) ?_
 refine l_q rfl rfl (q_pickF rfl hg11b rfl) ?_
 refine l_nil ?_
 refine hK10 _ _ ?_
 refine c_cond rfl (fun hc21 => ?_) (fun hc21 => ?_)
 have hc21b := hc21
 try simp only [zbb] at hc21
 refine wp_seq_k (fun K22 hK22 => ?_)
 refine wp_region_lit ?_
 refine l_q rfl rfl (q_assignI rfl) ?_
 refine l_nil ?_
 refine hK22 _ _ ?_
 refine wp_ret ?_
 refine c_ret1 rfl rfl ?_
 have hS23 : St _ _ [_, _, _, _, .fz g] _ := tb_put (q := (n, b, t)) hS4; clear hS4
 have hS24 := hS23.fr4; clear hS23
 have hS25 := hS24.fr4; clear hS24
 have hS26 := hS25.fr2; clear hS25
 have hS27 := hS26.fr4; clear hS26
 have hS28 := hS27.fr4; clear hS27
 have hS29 : St _ _ [_, .fz g] _ := co_close hS28; clear hS28
 exact ⟨_, _, rfl, ⟨_, _, O, _, g, by rw [ask_was (getT_hit hT) (by simp_all)]; rfl, by rw [ask_was (getT_hit hT) (by simp_all)], Gle.refl _, hO, hT, by rw [ask_was (getT_hit hT) (by simp_all)], by rw [ask_was (getT_hit hT) (by simp_all)]⟩, hS29⟩
 have hc21b := hc21
 try simp only [zbb] at hc21
 refine wp_skip ?_
 refine hK9 _ _ ?_
 refine wp_seq_k (fun K30 hK30 => ?_)
 refine wp_region_lit ?_
 refine l_q rfl rfl (q_moveS rfl) ?_
 refine l_e rfl (fun K hK => ?_)
 refine e_call (by kernel_rfl) (of_ok L L.length rfl hml _ _ _ (hG.mono (hg2.le hS4))) rfl (after_R hS4 (fun v31 w31 hv31 hS31 => ?_))
 clear hS4
 obtain rfl := hv31
 refine hK _ _ ?_; clear hK K
 refine l_q rfl rfl (q_move rfl) ?_
 refine l_q rfl rfl (q_extract rfl rfl) ?_
 refine l_q rfl rfl (q_extract rfl rfl) ?_
 refine l_q rfl rfl (q_assignI rfl) ?_
 refine l_q rfl rfl (q_assignB rfl) ?_
 refine l_nil ?_
 refine hK30 _ _ ?_
 refine wp_seq_k (fun K32 hK32 => ?_)
 refine wp_seq_k (fun K33 hK33 => ?_)
 refine wp_region_lit ?_
 refine l_q rfl rfl (q_moveB rfl) ?_
 refine l_q rfl rfl (q_not rfl) ?_
 refine l_nil ?_
 refine hK33 _ _ ?_
 refine c_cond rfl (fun hc34 => ?_) (fun hc34 => ?_)
 have hc34b := hc34
 try simp only [zbb] at hc34
 refine wp_seq_k (fun K35 hK35 => ?_)
 refine wp_region_lit ?_
 refine l_q rfl rfl (q_assignI rfl) ?_
 refine l_nil ?_
 refine hK35 _ _ ?_
 refine wp_ret ?_
 refine c_ret1 rfl rfl ?_
 have hS36 : St _ _ [_, _, _, _, .fz g] _ := tb_put (q := (n, b, t)) hS31; clear hS31
 have hS37 := hS36.fr4; clear hS36
 have hS38 := hS37.fr4; clear hS37
 have hS39 := hS38.fr2; clear hS38
 have hS40 := hS39.fr4; clear hS39
 have hS41 := hS40.fr4; clear hS40
 have hS42 : St _ _ [_, .fz g] _ := co_close hS41; clear hS41
 exact ⟨_, _, rfl, ⟨_, _, O, _, g, by rw [ask_bad (getT_hit hT) (by simp_all) (by simp_all) (by simp_all)]; rfl, by rw [ask_bad (getT_hit hT) (by simp_all) (by simp_all) (by simp_all)], Gle.refl _, hO, hT, by rw [ask_bad (getT_hit hT) (by simp_all) (by simp_all) (by simp_all)], by rw [ask_bad (getT_hit hT) (by simp_all) (by simp_all) (by simp_all)]⟩, hS42⟩
 have hc34b := hc34
 try simp only [zbb] at hc34
 refine wp_skip ?_
 refine hK32 _ _ ?_
 refine wp_seq_k (fun K43 hK43 => ?_)
 refine wp_region_lit ?_
 refine l_q rfl rfl (q_moveP rfl) ?_
 refine l_q rfl rfl (q_moveP rfl) ?_
 refine l_q rfl rfl (q_moveI rfl) ?_
 refine l_q rfl rfl (q_nilCheck rfl) ?_
 refine l_q rfl rfl (q_fieldAddr (ft := 78) (o := 0) rfl (by kernel_rfl)) ?_
 refine l_e rfl (fun K hK => ?_)
 refine e_store1 hS31 rfl rfl (by kernel_rfl) (by first | rfl | assumption) (i := 0) rfl rfl (fun w44 (hS44 : St _ _ [.blk b (.cells #[.int .i64 (((ofL L).1 : Nat) : Int), .int .i64 ((t.yes : Nat) : Int), .int .i64 ((t.read : Nat) : Int), .bool t.asked, .bool t.com, .int .i64 ((t.tell : Nat) : Int), .int .i64 ((t.ticks : Nat) : Int)] 80), _, _, _, _, .fz g] _) => ?_)
 clear hS31
 refine hK _ _ ?_; clear hK K
 refine l_q rfl rfl (q_nilCheck rfl) ?_
 refine l_q rfl rfl (q_fieldAddr (ft := 4) (o := 3) rfl (by kernel_rfl)) ?_
 refine l_e rfl (fun K hK => ?_)
 refine e_store1 hS44 rfl rfl (by kernel_rfl) (by first | rfl | assumption) (i := 0) rfl rfl (fun w45 (hS45 : St _ _ [.blk b (.cells #[.int .i64 (((ofL L).1 : Nat) : Int), .int .i64 ((t.yes : Nat) : Int), .int .i64 ((t.read : Nat) : Int), .bool true, .bool t.com, .int .i64 ((t.tell : Nat) : Int), .int .i64 ((t.ticks : Nat) : Int)] 80), _, _, _, _, .fz g] _) => ?_)
 clear hS44
 refine hK _ _ ?_; clear hK K
 refine l_nil ?_
 refine hK43 _ _ ?_
 refine wp_seq_k (fun K46 hK46 => ?_)
 refine wp_region_lit ?_
 refine l_q rfl rfl (q_moveP rfl) ?_
 refine l_q rfl rfl (q_moveI rfl) ?_
 refine l_q rfl rfl (q_moveI rfl) ?_
 refine l_q rfl rfl (q_moveI rfl) ?_
 refine l_e rfl (fun K hK => ?_)
 have hS48 := hS45.fr5; clear hS45
 have hS49 := hS48.fr5; clear hS48
 have hS50 := hS49.fr4; clear hS49
 refine e_call (by kernel_rfl) (send_ok k _ nd _ _ _ _ _ _ _ hO (by first | omega | (simp only [zll] <;> omega)) (1 : Int) n ((ofL L).1) ((ofL L).1) (by first | omega | (simp only [zll] <;> omega)) (by first | omega | (simp only [zll] <;> omega)) _ (St.begin (Γ := [_, _, _]) hS50)) rfl (after_M (Γ1 := [_, _, _]) hS50 (fun v47 G47 w47 hv47 hS47 => ?_))
 clear hS50
 obtain ⟨oa47, oc47, O47, g47, rfl, hle47, hO47, hOe47⟩ := hv47
 have hS51 : St _ _ [.blk k (.cells #[.pointer (some ⟨kw, 0, none⟩), .int .i64 nd, .int .i64 (inc : Int), .int .i64 (cnt : Int), .map (some mb), .slice oa47 O47.length oc47] 68), .ow 42 5 oa47 O47.length oc47 (List.flatMap lo O47), .fz g47, _, _, _] _ := hS47; clear hS47
 have hOl47 : O47.length ≤ O.length + 16 := sends_len hOe47
 refine hK _ _ ?_; clear hK K
 refine l_nil ?_
 refine hK46 _ _ ?_
 refine wp_seq_k (fun K52 hK52 => ?_)
 refine wp_region_lit ?_
 refine l_q rfl rfl (q_assignI rfl) ?_
 refine l_nil ?_
 refine hK52 _ _ ?_
 refine wp_ret ?_
 refine c_ret1 rfl rfl ?_
 have hS53 := hS51.fr4; clear hS51
 have hS54 := hS53.fr4; clear hS53
 have hS55 : St _ _ [.pk (List.map tb (A ++ (n, b, (Tx.mk ((ofL L).1) t.yes t.read true t.com t.tell t.ticks)) :: B)), _, _, .fz g47, _] _ := tb_put (q := (n, b, (Tx.mk ((ofL L).1) t.yes t.read true t.com t.tell t.ticks))) hS54; clear hS54
 have hS56 := hS55.fr4; clear hS55
 have hS57 : St _ _ [.mp (.int .i64) mb (List.map tc (A ++ (n, b, (Tx.mk ((ofL L).1) t.yes t.read true t.com t.tell t.ticks)) :: B)), _, _, _, .fz g47] _ := mp_t (t' := (Tx.mk ((ofL L).1) t.yes t.read true t.com t.tell t.ticks)) hS56; clear hS56
 have hS58 := hS57.fr4; clear hS57
 have hS59 := hS58.fr4; clear hS58
 have hS60 := hS59.fr3; clear hS59
 have hS61 := hS60.fr3; clear hS60
 have hS62 := hS61.fr4; clear hS61
 have hS63 : St _ _ [co k kw nd inc cnt mb oa47 O47 oc47 (A ++ (n, b, (Tx.mk ((ofL L).1) t.yes t.read true t.com t.tell t.ticks)) :: B), .fz g47] _ := co_close hS62; clear hS62
 exact ⟨_, _, rfl, ⟨_, _, O47, (A ++ (n, b, (Tx.mk ((ofL L).1) t.yes t.read true t.com t.tell t.ticks)) :: B), _, by rw [ask_do (getT_hit hT) (by simp_all) (by simp_all) (by simp_all)]; rfl, by rw [ask_do (getT_hit hT) (by simp_all) (by simp_all) (by simp_all)], hle47, hO47, hT.set ⟨hof, ht2, ht3, ht4, ht5⟩, by rw [ask_do (getT_hit hT) (by simp_all) (by simp_all) (by simp_all)]; first | exact (setT_hit hT).symm | (simp only [*]; exact (setT_hit hT).symm), by rw [ask_do (getT_hit hT) (by simp_all) (by simp_all) (by simp_all)]; exact hOe47⟩, hS63⟩
set_option maxRecDepth 100000 in
theorem ask_miss (k kw : Nat) (nd : Int) (inc cnt mb : Nat) (oa : Option Addr) (O : List Lo) (oc : Nat) (n : Int) (T : List (Int × Nat × Tx)) (hn : ∀ q ∈ T, q.1 ≠ n) (hT : TOk T) (g : Gh) (hO : LOk g O) (hol0 : O.length ≤ 100000) (L : List Int) (m : Nat) (hm : L.length = m) (hml : m ≤ 2000000) (an : Option Addr) (cn : Nat) (w : World) (g2 : Gh) (hg2 : Rog [co k kw nd inc cnt mb oa O oc T, .fz g] w g2) (hG : SlG g2 an (iv L)) (hS : St w (owns [co k kw nd inc cnt mb oa O oc T, .fz g]) [co k kw nd inc cnt mb oa O oc T, .fz g] w) : Calls Try.prog 13 #[pV k, .int .i64 n, .slice an m cn] w (Post w [co k kw nd inc cnt mb oa O oc T, .fz g] fun v G => CoP k kw nd inc mb g (.int .i64 (askF nd n L (absT T) (O.map Lo.l)).1) (cnt, (askF nd n L (absT T) (O.map Lo.l)).2) v G) := by
 subst hm
 refine c_enter Try.func13 rfl rfl rfl ?_
 refine wp_seq_k (fun K1 hK1 => ?_)
 have hS2 := co_open hS; clear hS
 refine wp_region_lit ?_
 refine l_q rfl rfl (q_assignI rfl) ?_
 refine l_nil ?_
 refine hK1 _ _ ?_
 refine wp_seq_k (fun K3 hK3 => ?_)
 refine wp_seq_k (fun K4 hK4 => ?_)
 refine wp_region_lit ?_
 refine l_q rfl rfl (q_moveP rfl) ?_
 refine l_q rfl rfl (q_peq rfl (by kernel_rfl)) ?_
 refine l_nil ?_
 refine hK4 _ _ ?_
 refine c_condF rfl rfl ?_
 refine wp_skip ?_
 refine hK3 _ _ ?_
 refine wp_seq_k (fun K6 hK6 => ?_)
 refine wp_region_lit ?_
 refine l_q rfl rfl (q_moveP rfl) ?_
 refine l_q rfl rfl (q_nilCheck rfl) ?_
 refine l_q rfl rfl (q_fieldAddr (ft := 66) (o := 4) rfl (by kernel_rfl)) ?_
 refine l_q rfl rfl (q_load1 rfl (by kernel_rfl) (hS2.cell (i := 0) rfl rfl)) ?_
 refine l_q rfl rfl (q_moveI rfl) ?_
 refine l_q rfl rfl (q_lookMiss (zv := .pointer none) rfl rfl (by kernel_rfl) (by first | rfl | trivial) (hS2.map (i := 1) rfl) (tc_miss hn)) ?_
 refine l_q rfl rfl (q_move rfl) ?_
 refine l_q rfl rfl (q_extract rfl rfl) ?_
 refine l_q rfl rfl (q_extract rfl rfl) ?_
 refine l_q rfl rfl (q_assignP rfl) ?_
 refine l_q rfl rfl (q_assignB rfl) ?_
 refine l_nil ?_
 refine hK6 _ _ ?_
 refine wp_seq_k (fun K7 hK7 => ?_)
 refine wp_seq_k (fun K8 hK8 => ?_)
 refine wp_region_lit ?_
 refine l_q rfl rfl (q_moveB rfl) ?_
 refine l_q rfl rfl (q_not rfl) ?_
 refine l_q rfl rfl (q_moveB rfl) ?_
 refine l_off rfl rfl rfl rfl ?_
 refine l_off rfl rfl rfl rfl ?_
 refine l_off rfl rfl rfl rfl ?_
 refine l_off rfl rfl rfl rfl ?_
 refine l_q rfl rfl (q_pickT rfl rfl rfl) ?_
 refine l_q rfl rfl (q_moveB rfl) ?_
 refine l_off rfl rfl rfl rfl ?_
 refine l_off rfl rfl rfl rfl ?_
 refine l_off rfl rfl rfl rfl ?_
 refine l_off rfl rfl rfl rfl ?_
 refine l_q rfl rfl (q_pickT rfl rfl rfl) ?_
 refine l_nil ?_
 refine hK8 _ _ ?_
 refine c_condT rfl rfl ?_
 refine wp_seq_k (fun K10 hK10 => ?_)
 refine wp_region_lit ?_
 refine l_q rfl rfl (q_assignI rfl) ?_
 refine l_nil ?_
 refine hK10 _ _ ?_
 refine wp_ret ?_
 refine c_ret1 rfl rfl ?_
 have hS11 : St _ _ [co k kw nd inc cnt mb oa O oc T, .fz g] _ := co_close hS2; clear hS2
 exact ⟨_, _, rfl, ⟨_, _, O, _, g, by rw [ask_none (getT_miss hn)]; rfl, by rw [ask_none (getT_miss hn)], Gle.refl _, hO, hT, by rw [ask_none (getT_miss hn)], by rw [ask_none (getT_miss hn)]⟩, hS11⟩
set_option maxRecDepth 100000 in
theorem out_ok (k kw : Nat) (nd : Int) (inc cnt mb : Nat) (oa : Option Addr) (O : List Lo) (oc : Nat) (T : List (Int × Nat × Tx)) (hT : TOk T) (g : Gh) (hO : LOk g O) (hol0 : O.length ≤ 100000)  (w : World) (hS : St w (owns [co k kw nd inc cnt mb oa O oc T, .fz g]) [co k kw nd inc cnt mb oa O oc T, .fz g] w) : Calls Try.prog 14 #[pV k] w (Post w [co k kw nd inc cnt mb oa O oc T, .fz g] fun v G => v = .slice oa O.length oc ∧ G = [.ow 42 5 oa O.length oc (List.flatMap lo O), co k kw nd inc cnt mb none [] 0 T, .fz g]) := by
 refine c_enter Try.func14 rfl rfl rfl ?_
 refine wp_seq_k (fun K1 hK1 => ?_)
 have hS2 := co_open hS; clear hS
 refine wp_region_lit ?_
 refine l_q rfl rfl (q_assignS rfl) ?_
 refine l_nil ?_
 refine hK1 _ _ ?_
 refine wp_seq_k (fun K3 hK3 => ?_)
 refine wp_seq_k (fun K4 hK4 => ?_)
 refine wp_region_lit ?_
 refine l_q rfl rfl (q_moveP rfl) ?_
 refine l_q rfl rfl (q_peq rfl (by kernel_rfl)) ?_
 refine l_nil ?_
 refine hK4 _ _ ?_
 refine c_condF rfl rfl ?_
 refine wp_skip ?_
 refine hK3 _ _ ?_
 refine wp_seq_k (fun K6 hK6 => ?_)
 refine wp_region_lit ?_
 refine l_q rfl rfl (q_moveP rfl) ?_
 refine l_q rfl rfl (q_nilCheck rfl) ?_
 refine l_q rfl rfl (q_fieldAddr (ft := 36) (o := 5) rfl (by kernel_rfl)) ?_
 refine l_q rfl rfl (q_load1 rfl (by kernel_rfl) (hS2.cell (i := 0) rfl rfl)) ?_
 refine l_q rfl rfl (q_assignS rfl) ?_
 refine l_nil ?_
 refine hK6 _ _ ?_
 refine wp_seq_k (fun K7 hK7 => ?_)
 refine wp_region_lit ?_
 refine l_q rfl rfl (q_moveP rfl) ?_
 refine l_q rfl rfl (q_nilCheck rfl) ?_
 refine l_q rfl rfl (q_fieldAddr (ft := 36) (o := 5) rfl (by kernel_rfl)) ?_
 refine l_e rfl (fun K hK => ?_)
 refine e_store1 hS2 rfl rfl (by kernel_rfl) (by first | rfl | assumption) (i := 0) rfl rfl (fun w8 (hS8 : St _ _ [.blk k (.cells #[.pointer (some ⟨kw, 0, none⟩), .int .i64 nd, .int .i64 (inc : Int), .int .i64 (cnt : Int), .map (some mb), .slice none 0 0] 68), .mp (.int .i64) mb (List.map tc T), .pk (List.map tb T), .ow 42 5 oa O.length oc (List.flatMap lo O), .fz g] _) => ?_)
 clear hS2
 refine hK _ _ ?_; clear hK K
 refine l_nil ?_
 refine hK7 _ _ ?_
 refine wp_seq_k (fun K9 hK9 => ?_)
 refine wp_region_lit ?_
 refine l_q rfl rfl (q_moveS rfl) ?_
 refine l_q rfl rfl (q_assignS rfl) ?_
 refine l_nil ?_
 refine hK9 _ _ ?_
 refine wp_ret ?_
 refine c_ret1 rfl rfl ?_
 have hS10 := hS8.ow_nil 42 5; clear hS8
 have hS11 := hS10.fr5; clear hS10
 have hS12 := hS11.fr5; clear hS11
 have hS13 := hS12.fr2; clear hS12
 have hS14 := hS13.fr5; clear hS13
 have hS15 := hS14.fr5; clear hS14
 have hS16 := hS15.fr5; clear hS15
 have hS17 : St _ _ [co k kw nd inc cnt mb none ([] : List Lo) 0 T, _, .fz g] _ := co_close hS16; clear hS16
 have hS18 := hS17.fr2; clear hS17
 have hS19 := hS18.fr1; clear hS18
 have hS20 := hS19.fr2; clear hS19
 exact ⟨_, _, rfl, ⟨rfl, rfl⟩, hS20⟩
end Go.Proofs.Yteojpdijmnpmgaa
namespace Go.Proofs.Yteojpdijmnpmgaa
open Go Go.RowKit Go.Maps Go.Sort Go.Shelf
attribute [local irreducible] Oper.wp Sem.run Code.wp wpList wpAnyO callFunc execOp Calls
attribute [local irreducible] toU short rencs renc rowE encRow rightB zig unzig decRw rightL risB lastN bitsOf nodesTo readL recB ofL sends getT delT setT
theorem state_ok (k kw : Nat) (nd : Int) (inc cnt mb : Nat) (oa : Option Addr) (O : List Lo) (oc : Nat) (T : List (Int × Nat × Tx)) (hT : TOk T) (g : Gh) (hO : LOk g O) (hol0 : O.length ≤ 100000) (n : Int) (w : World) (hS : St w (owns [co k kw nd inc cnt mb oa O oc T, .fz g]) [co k kw nd inc cnt mb oa O oc T, .fz g] w) :
    Calls Try.prog 17 #[pV k, .int .i64 n] w (Post w [co k kw nd inc cnt mb oa O oc T, .fz g] fun v G => v = .int .i64 (staT (getT (absT T) n)) ∧ G = [co k kw nd inc cnt mb oa O oc T, .fz g]) := by
  rcases hT.split n with ⟨A, b, t, B, rfl⟩ | ⟨A, B, rfl, hA, hB⟩
  · exact state_hit k kw nd inc cnt mb oa O oc n A b t B hT g hO hol0 w hS
  · exact state_miss k kw nd inc cnt mb oa O oc n (A ++ B) (sides_ne hA hB) hT g hO hol0 w hS
theorem ask_ok (k kw : Nat) (nd : Int) (inc cnt mb : Nat) (oa : Option Addr) (O : List Lo) (oc : Nat) (T : List (Int × Nat × Tx)) (hT : TOk T) (g : Gh) (hO : LOk g O) (hol0 : O.length ≤ 100000) (n : Int) (L : List Int) (m : Nat) (hm : L.length = m) (hml : m ≤ 2000000) (an : Option Addr) (cn : Nat) (w : World) (g2 : Gh) (hg2 : Rog [co k kw nd inc cnt mb oa O oc T, .fz g] w g2) (hG : SlG g2 an (iv L)) (hS : St w (owns [co k kw nd inc cnt mb oa O oc T, .fz g]) [co k kw nd inc cnt mb oa O oc T, .fz g] w) :
    Calls Try.prog 13 #[pV k, .int .i64 n, .slice an m cn] w (Post w [co k kw nd inc cnt mb oa O oc T, .fz g] fun v G => CoP k kw nd inc mb g (.int .i64 (askF nd n L (absT T) (O.map Lo.l)).1) (cnt, (askF nd n L (absT T) (O.map Lo.l)).2) v G) := by
  rcases hT.split n with ⟨A, b, t, B, rfl⟩ | ⟨A, B, rfl, hA, hB⟩
  · exact ask_hit k kw nd inc cnt mb oa O oc n A b t B hT g hO hol0 L m hm hml an cn w g2 hg2 hG hS
  · exact ask_miss k kw nd inc cnt mb oa O oc n (A ++ B) (sides_ne hA hB) hT g hO hol0 L m hm hml an cn w g2 hg2 hG hS
theorem begin_ok (k kw : Nat) (nd : Int) (inc cnt mb : Nat) (oa : Option Addr) (O : List Lo) (oc : Nat) (T : List (Int × Nat × Tx)) (hT : TOk T) (g : Gh) (hO : LOk g O) (hol0 : O.length ≤ 100000) (n : Int) (hi : inc ≤ 65537) (hc : cnt < 65536) (hnd : 0 ≤ nd ∧ nd < 16) (hn : n = numB nd inc cnt) (w : World) (hS : St w (owns [co k kw nd inc cnt mb oa O oc T, .fz g]) [co k kw nd inc cnt mb oa O oc T, .fz g] w) :
    Calls Try.prog 12 #[pV k] w (Post w [co k kw nd inc cnt mb oa O oc T, .fz g] fun v G => CoP k kw nd inc mb g (.tuple #[.int .i64 n, .int .i64 0]) (cnt + 1, setT (absT T) n (Tx.mk 0 0 0 false false 0 0), O.map Lo.l) v G) := by
  rcases hT.split n with ⟨A, b, t, B, rfl⟩ | ⟨A, B, rfl, hA, hB⟩
  · exact begin_hit k kw nd inc cnt mb oa O oc n A b t B hT g hO hol0 hi hc hnd hn w hS
  · exact begin_miss k kw nd inc cnt mb oa O oc n A B hA hB hT g hO hol0 hi hc hnd hn w hS
end Go.Proofs.Yteojpdijmnpmgaa
namespace Go.Proofs.Yteojpdijmnpmgaa
open Go.RowKit
theorem waL_bytes {l m : List Nat} (h : Bytes l) (h' : Bytes m) : Bytes (waL l m) := by
  unfold waL
  split
  · exact apL_bytes h (fr_bytes h')
  · exact h
theorem waL_len (l m : List Nat) : l.length ≤ (waL l m).length ∧ (waL l m).length ≤ l.length + m.length + 5 := by
  unfold waL
  split
  · have := apL_len l (fr m); rw [fr_len] at this; omega
  · omega
theorem rdB_bytes {g : Gh} {rs : List Rc} (h : RsOk g rs) (z : Int) : Bytes (rdB (rs.map Rc.abs) z) := by
  unfold rdB rdO
  cases hf : (rs.map Rc.abs).find? (fun r => decide (((r.1 : Nat) : Int) = z)) with
  | none => exact Bytes.nil
  | some r =>
    obtain ⟨q, hq, rfl⟩ := List.mem_map.1 (List.mem_of_find?_eq_some hf)
    exact (h q hq).2.1
/-- What the disk's bytes are behind a record. -/
abbrev recL (l : List Nat) (ns : List Int) : List Nat := waL l (rowE (ns.map vI)).1
abbrev recE (l : List Nat) (ns : List Int) : Nat := waE l (rowE (ns.map vI)).1
/-- What done answers, and leaves of the transactions and of the disk's bytes. -/
def doneF (n : Int) (t : Tx) (one : Nat) (T : List (Int × Tx)) (l : List Nat) : Int × List (Int × Tx) × List Nat :=
  if t.tell ^^^ (t.tell &&& one) = t.tell then (0, T, l)
  else if t.tell ^^^ (t.tell &&& one) = 0 then (if recE l [2, n] = 0 then (0, delT T n, recL l [2, n]) else ((recE l [2, n] : Int), T, recL l [2, n]))
  else (0, setT T n ⟨t.nodes, t.yes, t.read, t.asked, t.com, t.tell ^^^ (t.tell &&& one), t.ticks⟩, l)
section
variable {n : Int} {t : Tx} {one : Nat} {T : List (Int × Tx)} {l : List Nat}
theorem done_1 (h : t.tell ^^^ (t.tell &&& one) = t.tell) : doneF n t one T l = (0, T, l) := if_pos h
theorem done_2 (h : ¬t.tell ^^^ (t.tell &&& one) = t.tell) (h2 : t.tell ^^^ (t.tell &&& one) = 0) (h3 : ¬recE l [2, n] = 0) : doneF n t one T l = ((recE l [2, n] : Int), T, recL l [2, n]) := (if_neg h).trans ((if_pos h2).trans (if_neg h3))
theorem done_3 (h : ¬t.tell ^^^ (t.tell &&& one) = t.tell) (h2 : t.tell ^^^ (t.tell &&& one) = 0) (h3 : recE l [2, n] = 0) : doneF n t one T l = (0, delT T n, recL l [2, n]) := (if_neg h).trans ((if_pos h2).trans (if_pos h3))
theorem done_4 (h : ¬t.tell ^^^ (t.tell &&& one) = t.tell) (h2 : ¬t.tell ^^^ (t.tell &&& one) = 0) : doneF n t one T l = (0, setT T n ⟨t.nodes, t.yes, t.read, t.asked, t.com, t.tell ^^^ (t.tell &&& one), t.ticks⟩, l) := (if_neg h).trans (if_neg h2)
end
/-- What a method leaves that may write. -/
def CoW (k kw : Nat) (nd : Int) (inc mb kd bb : Nat) (rs : List Rc) (g : Gh) (v0 : Value) (r : Nat × List (Int × Tx) × List Lr × List Nat × Nat) (v : Value) (G : List Ch) : Prop :=
  ∃ oa' oc' O' T' wa' wc' rs' da' dc' g', v = v0 ∧ G = [co k kw nd inc r.1 mb oa' O' oc' T', wk kw kd wa' wc' rs', dk kd da' dc' r.2.2.2.1 bb r.2.2.2.2, .fz g'] ∧ Gle g g' ∧ LOk g' O' ∧ TOk T' ∧ absT T' = r.2.1 ∧ O'.map Lo.l = r.2.2.1 ∧ RsOk g' rs' ∧ rs'.length ≤ rs.length + 1
theorem pow_le16 {m : Nat} (h : m < 16) : 1 * 2 ^ m ≤ 32768 := by
  have := Nat.pow_le_pow_right (n := 2) (by decide) (show m ≤ 15 by omega)
  omega
theorem waR_len (R : List (Nat × List Nat)) (l m : List Nat) (b : Nat) : (waR R l m b).length ≤ R.length + 1 := by
  unfold waR
  split
  · rw [List.length_append]; exact Nat.le_refl _
  · omega
theorem rs_len {rs rs' : List Rc} {l m : List Nat} {b : Nat} (h : rs'.map Rc.abs = waR (rs.map Rc.abs) l m b) : rs'.length ≤ rs.length + 1 := by
  have h1 := congrArg List.length h
  have h2 := waR_len (rs.map Rc.abs) l m b
  rw [List.length_map] at h1 h2; omega
attribute [local irreducible] Oper.wp Sem.run Code.wp wpList wpAnyO callFunc execOp Calls
attribute [local irreducible] toU short rencs renc rowE encRow rightB zig unzig decRw rightL risB lastN bitsOf nodesTo readL recB ofL sends getT delT setT waL waE waN waR apL apE
set_option maxRecDepth 100000 in
theorem done_ok (k kw : Nat) (nd : Int) (inc cnt mb : Nat) (oa : Option Addr) (O : List Lo) (oc : Nat) (n : Int) (A : List (Int × Nat × Tx)) (b : Nat) (t : Tx) (B : List (Int × Nat × Tx)) (hT : TOk (A ++ (n, b, t) :: B)) (g : Gh) (hO : LOk g O) (hol0 : O.length ≤ 100000) (kd : Nat) (wa : Option Addr) (wc : Nat) (rs : List Rc) (da : Option Addr) (dc : Nat) (l : List Nat) (bb s : Nat) (hrl : rs.length ≤ 500000) (hl : Bytes l) (hbb : bb + l.length ≤ 500000000) (hs : s ≤ l.length) (hR : RsOk g rs) (lk : Int) (m : Nat) (hm : m < 16) (lt : Int) (an : Option Addr) (nl cn : Nat)  (w : World) (hS : St w (owns [.blk k (.cells #[pV kw, .int .i64 nd, .int .i64 (inc : Int), .int .i64 (cnt : Int), .map (some mb), .slice oa O.length oc] 68), .mp (.int .i64) mb (List.map tc (A ++ (n, b, t) :: B)), .blk b (.cells #[.int .i64 ((t.nodes : Nat) : Int), .int .i64 ((t.yes : Nat) : Int), .int .i64 ((t.read : Nat) : Int), .bool t.asked, .bool t.com, .int .i64 ((t.tell : Nat) : Int), .int .i64 ((t.ticks : Nat) : Int)] 80), .pk (List.map tb (A ++ B)), .ow 42 5 oa O.length oc (List.flatMap lo O), wk kw kd wa wc rs, dk kd da dc l bb s, .fz g]) [.blk k (.cells #[pV kw, .int .i64 nd, .int .i64 (inc : Int), .int .i64 (cnt : Int), .map (some mb), .slice oa O.length oc] 68), .mp (.int .i64) mb (List.map tc (A ++ (n, b, t) :: B)), .blk b (.cells #[.int .i64 ((t.nodes : Nat) : Int), .int .i64 ((t.yes : Nat) : Int), .int .i64 ((t.read : Nat) : Int), .bool t.asked, .bool t.com, .int .i64 ((t.tell : Nat) : Int), .int .i64 ((t.ticks : Nat) : Int)] 80), .pk (List.map tb (A ++ B)), .ow 42 5 oa O.length oc (List.flatMap lo O), wk kw kd wa wc rs, dk kd da dc l bb s, .fz g] w) : Calls Try.prog 38 #[pV k, pV b, .agg #[.int .i64 lk, .int .i64 (m : Int), .int .i64 lt, .int .i64 n, .slice an nl cn]] w (Post w [.blk k (.cells #[pV kw, .int .i64 nd, .int .i64 (inc : Int), .int .i64 (cnt : Int), .map (some mb), .slice oa O.length oc] 68), .mp (.int .i64) mb (List.map tc (A ++ (n, b, t) :: B)), .blk b (.cells #[.int .i64 ((t.nodes : Nat) : Int), .int .i64 ((t.yes : Nat) : Int), .int .i64 ((t.read : Nat) : Int), .bool t.asked, .bool t.com, .int .i64 ((t.tell : Nat) : Int), .int .i64 ((t.ticks : Nat) : Int)] 80), .pk (List.map tb (A ++ B)), .ow 42 5 oa O.length oc (List.flatMap lo O), wk kw kd wa wc rs, dk kd da dc l bb s, .fz g] fun v G => CoW k kw nd inc mb kd bb rs g (.int .i64 (doneF n t (1 * 2 ^ m) (absT (A ++ (n, b, t) :: B)) l).1) (cnt, (doneF n t (1 * 2 ^ m) (absT (A ++ (n, b, t) :: B)) l).2.1, O.map Lo.l, (doneF n t (1 * 2 ^ m) (absT (A ++ (n, b, t) :: B)) l).2.2, s) v G) := by
 have hTn := (hT.2 (n, b, t) (List.mem_append_right _ (.head _))).1
 have ht1 : t.nodes < 65536 := hTn.1
 have ht2 : t.yes < 65536 := hTn.2.1
 have ht3 : t.read < 65536 := hTn.2.2.1
 have ht4 : t.tell < 65536 := hTn.2.2.2.1
 have ht5 : t.ticks < 5 := hTn.2.2.2.2
 have hn0 : 0 ≤ n ∧ n ≤ 2199023255552 := (hT.2 (n, b, t) (List.mem_append_right _ (.head _))).2
 refine c_enter Try.func38 rfl rfl rfl ?_
 refine wp_seq_k (fun K1 hK1 => ?_)
 refine wp_region_lit ?_
 refine l_e rfl (fun K hK => ?_)
 refine e_boxA hS rfl (fun b2 w2 (hS2 : St _ _ [.blk b2 (.cells #[.int .i64 lk, .int .i64 (m : Int), .int .i64 lt, .int .i64 n, .slice an nl cn] 42), .blk k (.cells #[.pointer (some ⟨kw, 0, none⟩), .int .i64 nd, .int .i64 (inc : Int), .int .i64 (cnt : Int), .map (some mb), .slice oa O.length oc] 68), .mp (.int .i64) mb (List.map tc (A ++ (n, b, t) :: B)), .blk b (.cells #[.int .i64 ((t.nodes : Nat) : Int), .int .i64 ((t.yes : Nat) : Int), .int .i64 ((t.read : Nat) : Int), .bool t.asked, .bool t.com, .int .i64 ((t.tell : Nat) : Int), .int .i64 ((t.ticks : Nat) : Int)] 80), .pk (List.map tb (A ++ B)), .ow 42 5 oa O.length oc (List.flatMap lo O), wk kw kd wa wc rs, dk kd da dc l bb s, .fz g] _) => ?_)
 clear hS
 refine hK _ _ ?_; clear hK K
 refine l_q rfl rfl (q_assignI rfl) ?_
 refine l_nil ?_
 refine hK1 _ _ ?_
 refine wp_seq_k (fun K3 hK3 => ?_)
 have hp16 : 1 * 2 ^ m ≤ 32768 := pow_le16 hm
 have hst : t.tell ^^^ (t.tell &&& (1 * 2 ^ m)) < 65536 := sub_lt ht4
 refine r_any (by kernel_rfl) hS2 (fun w4 hS4 => ?_)
 clear hS2
 refine o_pure (i := 0) (fun _ _ => trivial) rfl rfl (by kernel_rfl) (goes0 rfl) (QOk.then QOk.body) (fun w => q_moveP rfl) ?_
 refine o_pure (i := 1) (fun _ _ => trivial) rfl rfl (by kernel_rfl) (goes0 rfl) (QOk.then QOk.body) (fun w => q_nilCheck rfl) ?_
 refine o_pure (i := 2) (fun _ _ => trivial) rfl rfl (by kernel_rfl) (goes0 rfl) (QOk.then QOk.body) (fun w => q_fieldAddr (ft := 78) (o := 5) rfl (by kernel_rfl)) ?_
 refine o_held (i := 3) [7, 8] (fun _ _ => trivial) rfl rfl (by kernel_rfl) (goes0 rfl) (QOk.then QOk.body) (q_load1 rfl (by kernel_rfl) (hS4.cell (i := 3) rfl rfl)) ?_
 refine o_pure (i := 4) (fun j w => ⟨(fun _ _ => trivial) j w, fun _ h => h⟩) rfl rfl (by kernel_rfl) (goes0 rfl) (QOk.then QOk.body) (fun w => q_fieldAddr (ft := 3) (o := 1) rfl (by kernel_rfl)) ?_
 refine o_held (i := 5) [6, 7, 8] (fun j w => ⟨(fun _ _ => trivial) j w, fun _ h => h⟩) rfl rfl (by kernel_rfl) (goes0 rfl) (QOk.then QOk.body) (q_load1 rfl (by kernel_rfl) (hS4.cell (i := 0) rfl rfl)) ?_
 refine o_pure (i := 6) (fun j w => ⟨(fun j w => ⟨(fun _ _ => trivial) j w, fun _ h => h⟩) j w, fun _ h => h⟩) rfl rfl (by kernel_rfl) (goes0 rfl) (QOk.then QOk.body) (fun w => q_shlN (k := .i64) (a := 1) (b := m) rfl rfl (by show _ ≤ 64; omega) (wrap_fit_i64 (by omega))) ?_
 refine o_pure (i := 7) (fun j w => ⟨(fun j w => ⟨(fun _ _ => trivial) j w, fun _ h => h⟩) j w, fun _ h => h⟩) rfl rfl (by kernel_rfl) (goes0 rfl) (QOk.then QOk.body) (fun w => q_andNotN (a := t.tell) (b := (1 * 2 ^ m)) 63 rfl rfl (by show _ < 9223372036854775808; omega) (by show _ < 9223372036854775808; omega) (.inr (by decide))) ?_
 refine o_pure (i := 8) (fun j w => ⟨(fun j w => ⟨(fun _ _ => trivial) j w, fun _ h => h⟩) j w, fun _ h => h⟩) rfl rfl (by kernel_rfl) (goes0 rfl) (QOk.then QOk.body) (fun w => q_assignI rfl) ?_
 refine o_done (by kernel_rfl) ?_
 refine hK3 _ _ ?_
 refine wp_seq_k (fun K5 hK5 => ?_)
 refine wp_seq_k (fun K6 hK6 => ?_)
 refine wp_region_lit ?_
 refine l_q rfl rfl (q_moveI rfl) ?_
 refine l_q rfl rfl (q_moveP rfl) ?_
 refine l_q rfl rfl (q_nilCheck rfl) ?_
 refine l_q rfl rfl (q_fieldAddr (ft := 78) (o := 5) rfl (by kernel_rfl)) ?_
 refine l_q rfl rfl (q_load1 rfl (by kernel_rfl) (hS4.cell (i := 3) rfl rfl)) ?_
 refine l_q rfl rfl (q_eql rfl rfl) ?_
 refine l_nil ?_
 refine hK6 _ _ ?_
 refine c_cond rfl (fun hc7 => ?_) (fun hc7 => ?_)
 have hc7b := hc7
 try simp only [zbb] at hc7
 refine wp_seq_k (fun K8 hK8 => ?_)
 refine wp_region_lit ?_
 refine l_q rfl rfl (q_assignI rfl) ?_
 refine l_nil ?_
 refine hK8 _ _ ?_
 refine wp_ret ?_
 refine c_ret1 rfl rfl ?_
 have hS9 := hS4.fr4; clear hS4
 have hS10 := hS9.fr4; clear hS9
 have hS11 : St _ _ [.pk (List.map tb (A ++ (n, b, t) :: B)), _, _, _, _, _, _, .fz g] _ := tb_put (q := (n, b, t)) hS10; clear hS10
 have hS12 := hS11.fr7; clear hS11
 have hS13 := hS12.fr7; clear hS12
 have hS14 := hS13.fr7; clear hS13
 have hS15 := hS14.fr7; clear hS14
 have hS16 := hS15.fr4; clear hS15
 have hS17 := hS16.fr7; clear hS16
 have hS18 := hS17.fr7; clear hS17
 have hS19 : St _ _ [_, _, _, _, _, _, .fz g] _ := hS18.only 7; clear hS18
 have hS20 : St _ _ [co k kw nd inc cnt mb oa O oc (A ++ (n, b, t) :: B), _, _, .fz g] _ := co_close hS19; clear hS19
 exact ⟨_, _, rfl, ⟨_, _, O, (A ++ (n, b, t) :: B), _, _, _, _, _, _, by rw [done_1 (by omega)]; rfl, by rw [done_1 (by omega)], Gle.refl _, hO, hT, by rw [done_1 (by omega)], rfl, hR, Nat.le_succ _⟩, hS20⟩
 have hc7b := hc7
 try simp only [zbb] at hc7
 refine wp_skip ?_
 refine hK5 _ _ ?_
 refine wp_seq_k (fun K21 hK21 => ?_)
 refine wp_seq_k (fun K22 hK22 => ?_)
 refine wp_region_lit ?_
 refine l_q rfl rfl (q_moveI rfl) ?_
 refine l_q rfl rfl (q_eql rfl rfl) ?_
 refine l_nil ?_
 refine hK22 _ _ ?_
 refine c_cond rfl (fun hc23 => ?_) (fun hc23 => ?_)
 have hc23b := hc23
 try simp only [zbb] at hc23
 refine wp_seq_k (fun K24 hK24 => ?_)
 refine wp_seq_k (fun K25 hK25 => ?_)
 refine r_any (by kernel_rfl) hS4 (fun w26 hS26 => ?_)
 clear hS4
 refine o_pure (i := 0) (fun _ _ => trivial) rfl rfl (by kernel_rfl) (goes0 rfl) (QOk.then (QOk.then (QOk.then QOk.body))) (fun w => q_moveP rfl) ?_
 refine o_pure (i := 1) (fun _ _ => trivial) rfl rfl (by kernel_rfl) (goes0 rfl) (QOk.then (QOk.then (QOk.then QOk.body))) (fun w => q_nilCheck rfl) ?_
 refine o_pure (i := 2) (fun _ _ => trivial) rfl rfl (by kernel_rfl) (goes0 rfl) (QOk.then (QOk.then (QOk.then QOk.body))) (fun w => q_fieldAddr (ft := 63) (o := 0) rfl (by kernel_rfl)) ?_
 refine o_held (i := 3) [8, 9, 10, 11, 12, 13] (fun _ _ => trivial) rfl rfl (by kernel_rfl) (goes0 rfl) (QOk.then (QOk.then (QOk.then QOk.body))) (q_load1 rfl (by kernel_rfl) (hS26.cell (i := 1) rfl rfl)) ?_
 refine o_pure (i := 4) (fun j w => ⟨(fun _ _ => trivial) j w, fun _ h => h⟩) rfl rfl (by kernel_rfl) (goes0 rfl) (QOk.then (QOk.then (QOk.then QOk.body))) (fun w => q_fieldAddr (ft := 3) (o := 3) rfl (by kernel_rfl)) ?_
 refine o_held (i := 5) [6, 7, 8, 9, 10, 11, 12, 13] (fun j w => ⟨(fun _ _ => trivial) j w, fun _ h => h⟩) rfl rfl (by kernel_rfl) (goes0 rfl) (QOk.then (QOk.then (QOk.then QOk.body))) (q_load1 rfl (by kernel_rfl) (hS26.cell (i := 0) rfl rfl)) ?_
 refine o_eff (i := 6) (by kernel_rfl) rfl (goes0 rfl) (fun K hK => ?_)
 refine e_buildSlice1 (e := 3) (zv := .int .i64 0) (xs := [_, .tmp 32]) hS26 (by kernel_rfl) (by kernel_rfl) (by kernel_rfl) rfl rfl rfl rfl (allone (by repeat' (first | exact trivial | refine ⟨by first | rfl | assumption, ?_⟩))) rfl (fun b27 w27 (hS27 : St _ _ [.blk b27 (.cells #[.int .i64 (2 : Int), .int .i64 n] 3), _, _, _, _, _, _, _, _, .fz g] _) => ?_)
 clear hS26
 have hS27o : St _ _ [.ow 3 1 (some ⟨b27, 0, none⟩) 2 2 (iv [(2 : Int), n]), _, _, _, _, _, _, _, _, .fz g] _ := hS27.blkOw' (i := 0) (m := 2) (size := 1) (xs := iv [(2 : Int), n]) rfl rfl rfl (by decide); clear hS27
 refine hK _ _ ⟨⟨trivial, fun _ _ => by first | exact q_load1 rfl (by kernel_rfl) (hS27o.cell (i := 2) rfl rfl)⟩, fun h => absurd h (by decide)⟩ ?_; clear hK K
 refine o_eff (i := 7) (by kernel_rfl) rfl (goes0 rfl) (fun K hK => ?_)
 have hns28 : ∀ x ∈ [(2 : Int), n], -9223372036854775808 ≤ x ∧ x ≤ 9223372036854775807 := by intro x hx; simp only [List.mem_cons, List.not_mem_nil, or_false] at hx; rcases hx with rfl | rfl <;> omega
 have hrl28 := rowE_len (recs_ok hns28)
 refine e_call (by kernel_rfl) (record_ok [(2 : Int), n] hns28 2 (by first | omega | (simp only [zll] <;> omega)) (by first | omega | (simp only [zll] <;> omega)) _ _ _ (hS27o.owG (i := 0) rfl)) rfl (after_N hS27o (fun v28 G28 w28 hv28 hS28 => ?_))
 clear hS27o
 obtain ⟨oa28, oc28, rfl, rfl⟩ := hv28
 have hS29 : St _ _ [.ow 5 1 oa28 (((rowE ([(2 : Int), n].map vI)).1).length) oc28 (bv ((rowE ([(2 : Int), n].map vI)).1)), _, _, _, _, _, _, _, _, _, .fz g] _ := hS28; clear hS28
 refine hK _ _ ⟨⟨trivial, fun _ _ => by first | exact q_load1 rfl (by kernel_rfl) (hS29.cell (i := 3) rfl rfl)⟩, fun h => absurd h (by decide)⟩ ?_; clear hK K
 refine o_eff (i := 8) (by kernel_rfl) rfl (goes0 rfl) (fun K hK => ?_)
 have hS31 : St _ _ [.fz g, _, _, _, _, _, _, _, _, _, _] _ := hS29.front (k := 10) rfl rfl; clear hS29
 have hS32 : St _ _ [_, .fz g, _, _, _, _, _, _, _, _, _] _ := hS31.front (k := 10) rfl rfl; clear hS31
 have hS33 : St _ _ [_, _, .fz g, _, _, _, _, _, _, _, _] _ := hS32.front (k := 10) rfl rfl; clear hS32
 obtain ⟨g34, hg34, hG34⟩ := St.rogO (Γ1 := [_, _, _]) (i := 0) hS33 rfl
 refine e_call (by kernel_rfl) (wAppend_ok _ _ _ _ _ _ _ _ _ _ _ (by first | omega | (simp only [zll] <;> omega)) hl (by first | omega | (simp only [zll] <;> omega)) (by first | omega | (simp only [zll] <;> omega)) hR _ ((rowE ([(2 : Int), n].map vI)).1) (rowE_bytes (recs_ok hns28)) _ _ (by first | omega | (simp only [zll] <;> omega)) hG34 _ hg34 (St.begin (Γ := [_, _, _]) hS33)) rfl (after_M (Γ1 := [_, _, _]) hS33 (fun v30 G30 w30 hv30 hS30 => ?_))
 clear hS33
 obtain ⟨ad30, cp30, rs30, da30, dc30, g30, rfl, rfl, hle30, hrs30, hab30⟩ := hv30
 have hS35 : St _ _ [wk kw kd ad30 cp30 rs30, dk kd da30 dc30 (waL l ((rowE ([(2 : Int), n].map vI)).1)) bb s, .fz g30, _, _, _, _, _, _, _, _] _ := hS30; clear hS30
 have hL30 := waL_len l ((rowE ([(2 : Int), n].map vI)).1)
 have hOm30 := LOk.mono hO hle30
 refine hK _ _ ⟨⟨trivial, fun h => absurd h (by decide)⟩, fun h => absurd h (by decide)⟩ ?_; clear hK K
 refine o_pure (i := 9) (fun j w => ⟨(fun j w => ⟨(fun _ _ => trivial) j w, fun _ h => h⟩) j w, fun _ h => h⟩) rfl rfl (by kernel_rfl) (goes0 rfl) (QOk.then (QOk.then (QOk.then QOk.body))) (fun w => q_move rfl) ?_
 refine o_pure (i := 10) (fun j w => ⟨(fun j w => ⟨(fun _ _ => trivial) j w, fun _ h => h⟩) j w, fun _ h => h⟩) rfl rfl (by kernel_rfl) (goes0 rfl) (QOk.then (QOk.then (QOk.then QOk.body))) (fun w => q_extract rfl rfl) ?_
 refine o_pure (i := 11) (fun j w => ⟨(fun j w => ⟨(fun _ _ => trivial) j w, fun _ h => h⟩) j w, fun _ h => h⟩) rfl rfl (by kernel_rfl) (goes0 rfl) (QOk.then (QOk.then (QOk.then QOk.body))) (fun w => q_extract rfl rfl) ?_
 refine o_pure (i := 12) (fun j w => ⟨(fun j w => ⟨(fun _ _ => trivial) j w, fun _ h => h⟩) j w, fun _ h => h⟩) rfl rfl (by kernel_rfl) (goes0 rfl) (QOk.then (QOk.then (QOk.then QOk.body))) (fun w => q_assignI rfl) ?_
 refine o_pure (i := 13) (fun j w => ⟨(fun j w => ⟨(fun _ _ => trivial) j w, fun _ h => h⟩) j w, fun _ h => h⟩) rfl rfl (by kernel_rfl) (goes0 rfl) (QOk.then (QOk.then (QOk.then QOk.body))) (fun w => q_assignI rfl) ?_
 refine o_done (by kernel_rfl) ?_
 refine hK25 _ _ ?_
 refine wp_seq_k (fun K36 hK36 => ?_)
 refine wp_region_lit ?_
 refine l_q rfl rfl (q_moveI rfl) ?_
 refine l_q rfl rfl (q_neq rfl rfl) ?_
 refine l_nil ?_
 refine hK36 _ _ ?_
 refine c_cond rfl (fun hc37 => ?_) (fun hc37 => ?_)
 have hc37b := hc37
 try simp only [zbb] at hc37
 refine wp_seq_k (fun K38 hK38 => ?_)
 refine wp_region_lit ?_
 refine l_q rfl rfl (q_moveI rfl) ?_
 refine l_q rfl rfl (q_assignI rfl) ?_
 refine l_nil ?_
 refine hK38 _ _ ?_
 refine wp_ret ?_
 refine c_ret1 rfl rfl ?_
 have hS39 := hS35.fr9; clear hS35
 have hS40 := hS39.fr9; clear hS39
 have hS41 : St _ _ [_, _, _, .fz g30, _, _, _, _, _, _] _ := tb_put (q := (n, b, t)) hS40; clear hS40
 have hS42 := hS41.fr3; clear hS41
 have hS43 := hS42.fr3; clear hS42
 have hS44 := hS43.fr3; clear hS43
 have hS45 := hS44.fr9; clear hS44
 have hS46 := hS45.fr4; clear hS45
 have hS47 := hS46.fr9; clear hS46
 have hS48 := hS47.fr9; clear hS47
 have hS49 : St _ _ [_, _, _, _, _, _, .fz g30] _ := hS48.only 7; clear hS48
 have hS50 : St _ _ [_, _, _, .fz g30] _ := co_close hS49; clear hS49
 exact ⟨_, _, rfl, ⟨_, _, O, (A ++ (n, b, t) :: B), _, _, _, _, _, _, by rw [done_2 (by omega) (by omega) (by show ¬waE l (rowE ([2, n].map vI)).1 = 0; omega)]; rfl, by rw [done_2 (by omega) (by omega) (by show ¬waE l (rowE ([2, n].map vI)).1 = 0; omega)], hle30, hOm30, hT, by rw [done_2 (by omega) (by omega) (by show ¬waE l (rowE ([2, n].map vI)).1 = 0; omega)], rfl, hrs30, rs_len hab30⟩, hS50⟩
 have hc37b := hc37
 try simp only [zbb] at hc37
 refine wp_skip ?_
 refine hK24 _ _ ?_
 refine r_any (by kernel_rfl) hS35 (fun w51 hS51 => ?_)
 clear hS35
 refine o_pure (i := 0) (fun _ _ => trivial) rfl rfl (by kernel_rfl) (goes0 rfl) (QOk.then QOk.body) (fun w => q_moveP rfl) ?_
 refine o_pure (i := 1) (fun _ _ => trivial) rfl rfl (by kernel_rfl) (goes0 rfl) (QOk.then QOk.body) (fun w => q_nilCheck rfl) ?_
 refine o_pure (i := 2) (fun _ _ => trivial) rfl rfl (by kernel_rfl) (goes0 rfl) (QOk.then QOk.body) (fun w => q_fieldAddr (ft := 66) (o := 4) rfl (by kernel_rfl)) ?_
 refine o_held (i := 3) [6] (fun _ _ => trivial) rfl rfl (by kernel_rfl) (goes0 rfl) (QOk.then QOk.body) (q_load1 rfl (by kernel_rfl) (hS51.cell (i := 6) rfl rfl)) ?_
 refine o_pure (i := 4) (fun j w => ⟨(fun _ _ => trivial) j w, fun _ h => h⟩) rfl rfl (by kernel_rfl) (goes0 rfl) (QOk.then QOk.body) (fun w => q_fieldAddr (ft := 3) (o := 3) rfl (by kernel_rfl)) ?_
 refine o_held (i := 5) [6] (fun j w => ⟨(fun _ _ => trivial) j w, fun _ h => h⟩) rfl rfl (by kernel_rfl) (goes0 rfl) (QOk.then QOk.body) (q_load1 rfl (by kernel_rfl) (hS51.cell (i := 5) rfl rfl)) ?_
 refine o_eff (i := 6) (by kernel_rfl) rfl (goes0 rfl) (fun K hK => ?_)
 refine e_mapDel (zv := .pointer none) hS51 rfl rfl (by kernel_rfl) (by first | rfl | trivial) (i := 7) rfl (tc_del hT) (fun w52 (hS52 : St _ _ [_, _, .fz g30, _, _, _, _, .mp (.int .i64) mb (List.map tc (A ++ B)), _, _, _] _) => ?_)
 clear hS51
 refine hK _ _ ⟨⟨trivial, fun h => absurd h (by decide)⟩, fun h => absurd h (by decide)⟩ ?_; clear hK K
 refine o_done (by kernel_rfl) ?_
 refine hK21 _ _ ?_
 refine wp_seq_k (fun K53 hK53 => ?_)
 refine wp_region_lit ?_
 refine l_q rfl rfl (q_moveP rfl) ?_
 refine l_q rfl rfl (q_moveI rfl) ?_
 refine l_q rfl rfl (q_nilCheck rfl) ?_
 refine l_q rfl rfl (q_fieldAddr (ft := 78) (o := 5) rfl (by kernel_rfl)) ?_
 refine l_e rfl (fun K hK => ?_)
 refine e_store1 hS52 rfl rfl (by kernel_rfl) (by first | rfl | assumption) (i := 8) rfl rfl (fun w54 (hS54 : St _ _ [_, _, .fz g30, _, _, _, _, _, .blk b (.cells #[.int .i64 ((t.nodes : Nat) : Int), .int .i64 ((t.yes : Nat) : Int), .int .i64 ((t.read : Nat) : Int), .bool t.asked, .bool t.com, .int .i64 (((t.tell ^^^ (t.tell &&& (1 * 2 ^ m))) : Nat) : Int), .int .i64 ((t.ticks : Nat) : Int)] 80), _, _] _) => ?_)
 clear hS52
 refine hK _ _ ?_; clear hK K
 refine l_nil ?_
 refine hK53 _ _ ?_
 refine wp_seq_k (fun K55 hK55 => ?_)
 refine wp_region_lit ?_
 refine l_q rfl rfl (q_assignI rfl) ?_
 refine l_nil ?_
 refine hK55 _ _ ?_
 refine wp_ret ?_
 refine c_ret1 rfl rfl ?_
 have hS56 := hS54.fr2; clear hS54
 have hS57 := hS56.fr2; clear hS56
 have hS58 := hS57.fr2; clear hS57
 have hS59 : St _ _ [_, _, _, .fz g30, _, _, _, _, _, _, _] _ := hS58.front (k := 10) rfl rfl; clear hS58
 have hS60 : St _ _ [_, _, _, _, .fz g30, _, _, _, _, _, _] _ := hS59.front (k := 10) rfl rfl; clear hS59
 have hS61 := hS60.fr9; clear hS60
 have hS62 := hS61.fr9; clear hS61
 have hS63 : St _ _ [_, _, _, _, _, _, .fz g30] _ := hS62.only 7; clear hS62
 have hS64 : St _ _ [co k kw nd inc cnt mb oa O oc (A ++ B), _, _, .fz g30] _ := co_close hS63; clear hS63
 exact ⟨_, _, rfl, ⟨_, _, O, (A ++ B), _, _, _, _, _, _, by rw [done_3 (by omega) (by omega) (by show waE l (rowE ([2, n].map vI)).1 = 0; omega)]; rfl, by rw [done_3 (by omega) (by omega) (by show waE l (rowE ([2, n].map vI)).1 = 0; omega)], hle30, hOm30, hT.del, by rw [done_3 (by omega) (by omega) (by show waE l (rowE ([2, n].map vI)).1 = 0; omega)]; exact (delT_hit hT).symm, rfl, hrs30, rs_len hab30⟩, hS64⟩
 have hc23b := hc23
 try simp only [zbb] at hc23
 refine wp_skip ?_
 refine hK21 _ _ ?_
 refine wp_seq_k (fun K65 hK65 => ?_)
 refine wp_region_lit ?_
 refine l_q rfl rfl (q_moveP rfl) ?_
 refine l_q rfl rfl (q_moveI rfl) ?_
 refine l_q rfl rfl (q_nilCheck rfl) ?_
 refine l_q rfl rfl (q_fieldAddr (ft := 78) (o := 5) rfl (by kernel_rfl)) ?_
 refine l_e rfl (fun K hK => ?_)
 refine e_store1 hS4 rfl rfl (by kernel_rfl) (by first | rfl | assumption) (i := 3) rfl rfl (fun w66 (hS66 : St _ _ [_, _, _, _, _, _, _, _, .fz g] _) => ?_)
 clear hS4
 refine hK _ _ ?_; clear hK K
 refine l_nil ?_
 refine hK65 _ _ ?_
 refine wp_seq_k (fun K67 hK67 => ?_)
 refine wp_region_lit ?_
 refine l_q rfl rfl (q_assignI rfl) ?_
 refine l_nil ?_
 refine hK67 _ _ ?_
 refine wp_ret ?_
 refine c_ret1 rfl rfl ?_
 have hS68 := hS66.fr4; clear hS66
 have hS69 := hS68.fr4; clear hS68
 have hS70 : St _ _ [.pk (List.map tb (A ++ (n, b, (Tx.mk t.nodes t.yes t.read t.asked t.com (t.tell ^^^ (t.tell &&& (1 * 2 ^ m))) t.ticks)) :: B)), _, _, _, _, _, _, .fz g] _ := tb_put (q := (n, b, (Tx.mk t.nodes t.yes t.read t.asked t.com (t.tell ^^^ (t.tell &&& (1 * 2 ^ m))) t.ticks))) hS69; clear hS69
 have hS71 := hS70.fr3; clear hS70
 have hS72 : St _ _ [.mp (.int .i64) mb (List.map tc (A ++ (n, b, (Tx.mk t.nodes t.yes t.read t.asked t.com (t.tell ^^^ (t.tell &&& (1 * 2 ^ m))) t.ticks)) :: B)), _, _, _, _, _, _, .fz g] _ := mp_t (t' := (Tx.mk t.nodes t.yes t.read t.asked t.com (t.tell ^^^ (t.tell &&& (1 * 2 ^ m))) t.ticks)) hS71; clear hS71
 have hS73 := hS72.fr7; clear hS72
 have hS74 := hS73.fr7; clear hS73
 have hS75 := hS74.fr7; clear hS74
 have hS76 := hS75.fr7; clear hS75
 have hS77 := hS76.fr5; clear hS76
 have hS78 := hS77.fr5; clear hS77
 have hS79 := hS78.fr7; clear hS78
 have hS80 : St _ _ [_, _, _, _, _, _, .fz g] _ := hS79.only 7; clear hS79
 have hS81 : St _ _ [co k kw nd inc cnt mb oa O oc (A ++ (n, b, (Tx.mk t.nodes t.yes t.read t.asked t.com (t.tell ^^^ (t.tell &&& (1 * 2 ^ m))) t.ticks)) :: B), _, _, .fz g] _ := co_close hS80; clear hS80
 exact ⟨_, _, rfl, ⟨_, _, O, (A ++ (n, b, (Tx.mk t.nodes t.yes t.read t.asked t.com (t.tell ^^^ (t.tell &&& (1 * 2 ^ m))) t.ticks)) :: B), _, _, _, _, _, _, by rw [done_4 (by omega) (by omega)]; rfl, by rw [done_4 (by omega) (by omega)], Gle.refl _, hO, (hT.set ⟨ht1, ht2, ht3, hst, ht5⟩), by rw [done_4 (by omega) (by omega)]; exact (setT_hit hT).symm, rfl, hR, Nat.le_succ _⟩, hS81⟩
end Go.Proofs.Yteojpdijmnpmgaa
namespace Go.Proofs.Yteojpdijmnpmgaa
open Go.RowKit
/-- What decided leaves where nothing fails: the transactions, the letters, the disk's bytes, how many are safe. -/
def decF (nd n : Int) (t : Tx) (T : List (Int × Tx)) (O : List Lr) (l : List Nat) (s : Nat) : List (Int × Tx) × List Lr × List Nat × Nat :=
  if t.yes ||| t.read = t.nodes then
    (if t.yes = 0 then (delT T n, O, l, s) else (setT T n (Tx.mk t.yes 0 0 false true t.yes 0), O ++ sends 5 nd n (nodesTo t.yes 16) 0, recL l [1, n, (t.yes : Int)], (recL l [1, n, (t.yes : Int)]).length))
  else (T, O, l, s)
section
variable {nd n : Int} {t : Tx} {T : List (Int × Tx)} {O : List Lr} {l : List Nat} {s : Nat}
theorem dec_1 (h : ¬t.yes ||| t.read = t.nodes) : decF nd n t T O l s = (T, O, l, s) := if_neg h
theorem dec_2 (h : t.yes ||| t.read = t.nodes) (h2 : t.yes = 0) : decF nd n t T O l s = (delT T n, O, l, s) := (if_pos h).trans (if_pos h2)
theorem dec_3 (h : t.yes ||| t.read = t.nodes) (h2 : ¬t.yes = 0) : decF nd n t T O l s = (setT T n (Tx.mk t.yes 0 0 false true t.yes 0), O ++ sends 5 nd n (nodesTo t.yes 16) 0, recL l [1, n, (t.yes : Int)], (recL l [1, n, (t.yes : Int)]).length) := (if_pos h).trans (if_neg h2)
end
attribute [local irreducible] Oper.wp Sem.run Code.wp wpList wpAnyO callFunc execOp Calls
attribute [local irreducible] toU short rencs renc rowE encRow rightB zig unzig decRw rightL risB lastN bitsOf nodesTo readL recB ofL sends getT delT setT waL waE waN waR apL apE
set_option maxRecDepth 100000 in
theorem decided_good (k kw : Nat) (nd : Int) (inc cnt mb : Nat) (oa : Option Addr) (O : List Lo) (oc : Nat) (n : Int) (A : List (Int × Nat × Tx)) (b : Nat) (t : Tx) (B : List (Int × Nat × Tx)) (hT : TOk (A ++ (n, b, t) :: B)) (g : Gh) (hO : LOk g O) (hol0 : O.length ≤ 100000) (kd : Nat) (wa : Option Addr) (wc : Nat) (rs : List Rc) (da : Option Addr) (dc : Nat) (l : List Nat) (bb s : Nat) (hrl : rs.length ≤ 500000) (hl : Bytes l) (hbb : bb + l.length ≤ 500000000) (hs : s ≤ l.length) (hR : RsOk g rs) (hg : t.yes ||| t.read = t.nodes → ¬t.yes = 0 → recE l [1, n, ((t.yes : Nat) : Int)] = 0)  (w : World) (hS : St w (owns [.blk k (.cells #[pV kw, .int .i64 nd, .int .i64 (inc : Int), .int .i64 (cnt : Int), .map (some mb), .slice oa O.length oc] 68), .mp (.int .i64) mb (List.map tc (A ++ (n, b, t) :: B)), .blk b (.cells #[.int .i64 ((t.nodes : Nat) : Int), .int .i64 ((t.yes : Nat) : Int), .int .i64 ((t.read : Nat) : Int), .bool t.asked, .bool t.com, .int .i64 ((t.tell : Nat) : Int), .int .i64 ((t.ticks : Nat) : Int)] 80), .pk (List.map tb (A ++ B)), .ow 42 5 oa O.length oc (List.flatMap lo O), wk kw kd wa wc rs, dk kd da dc l bb s, .fz g]) [.blk k (.cells #[pV kw, .int .i64 nd, .int .i64 (inc : Int), .int .i64 (cnt : Int), .map (some mb), .slice oa O.length oc] 68), .mp (.int .i64) mb (List.map tc (A ++ (n, b, t) :: B)), .blk b (.cells #[.int .i64 ((t.nodes : Nat) : Int), .int .i64 ((t.yes : Nat) : Int), .int .i64 ((t.read : Nat) : Int), .bool t.asked, .bool t.com, .int .i64 ((t.tell : Nat) : Int), .int .i64 ((t.ticks : Nat) : Int)] 80), .pk (List.map tb (A ++ B)), .ow 42 5 oa O.length oc (List.flatMap lo O), wk kw kd wa wc rs, dk kd da dc l bb s, .fz g] w) : Calls Try.prog 59 #[pV k, .int .i64 n, pV b] w (Post w [.blk k (.cells #[pV kw, .int .i64 nd, .int .i64 (inc : Int), .int .i64 (cnt : Int), .map (some mb), .slice oa O.length oc] 68), .mp (.int .i64) mb (List.map tc (A ++ (n, b, t) :: B)), .blk b (.cells #[.int .i64 ((t.nodes : Nat) : Int), .int .i64 ((t.yes : Nat) : Int), .int .i64 ((t.read : Nat) : Int), .bool t.asked, .bool t.com, .int .i64 ((t.tell : Nat) : Int), .int .i64 ((t.ticks : Nat) : Int)] 80), .pk (List.map tb (A ++ B)), .ow 42 5 oa O.length oc (List.flatMap lo O), wk kw kd wa wc rs, dk kd da dc l bb s, .fz g] fun v G => CoW k kw nd inc mb kd bb rs g (.int .i64 0) (cnt, (decF nd n t (absT (A ++ (n, b, t) :: B)) (O.map Lo.l) l s).1, (decF nd n t (absT (A ++ (n, b, t) :: B)) (O.map Lo.l) l s).2.1, (decF nd n t (absT (A ++ (n, b, t) :: B)) (O.map Lo.l) l s).2.2.1, (decF nd n t (absT (A ++ (n, b, t) :: B)) (O.map Lo.l) l s).2.2.2) v G) := by
 have hTn := (hT.2 (n, b, t) (List.mem_append_right _ (.head _))).1
 have ht1 : t.nodes < 65536 := hTn.1
 have ht2 : t.yes < 65536 := hTn.2.1
 have ht3 : t.read < 65536 := hTn.2.2.1
 have ht4 : t.tell < 65536 := hTn.2.2.2.1
 have ht5 : t.ticks < 5 := hTn.2.2.2.2
 have hn0 : 0 ≤ n ∧ n ≤ 2199023255552 := (hT.2 (n, b, t) (List.mem_append_right _ (.head _))).2
 refine c_enter Try.func59 rfl rfl rfl ?_
 refine wp_seq_k (fun K1 hK1 => ?_)
 refine wp_region_lit ?_
 refine l_q rfl rfl (q_assignI rfl) ?_
 refine l_nil ?_
 refine hK1 _ _ ?_
 refine wp_seq_k (fun K2 hK2 => ?_)
 refine wp_block ?_
 refine wp_seq_k (fun K3 hK3 => ?_)
 refine r_any (by kernel_rfl) hS (fun w4 hS4 => ?_)
 clear hS
 refine o_pure (i := 0) (fun _ _ => trivial) rfl rfl (by kernel_rfl) (goes0 rfl) (QOk.then (QOk.inBlock (QOk.then QOk.body))) (fun w => q_moveP rfl) ?_
 refine o_pure (i := 1) (fun _ _ => trivial) rfl rfl (by kernel_rfl) (goes0 rfl) (QOk.then (QOk.inBlock (QOk.then QOk.body))) (fun w => q_nilCheck rfl) ?_
 refine o_pure (i := 2) (fun _ _ => trivial) rfl rfl (by kernel_rfl) (goes0 rfl) (QOk.then (QOk.inBlock (QOk.then QOk.body))) (fun w => q_fieldAddr (ft := 78) (o := 1) rfl (by kernel_rfl)) ?_
 refine o_held (i := 3) [8, 13, 14] (fun _ _ => trivial) rfl rfl (by kernel_rfl) (goes0 rfl) (QOk.then (QOk.inBlock (QOk.then QOk.body))) (q_load1 rfl (by kernel_rfl) (hS4.cell (i := 2) rfl rfl)) ?_
 refine o_pure (i := 4) (fun j w => ⟨(fun _ _ => trivial) j w, fun _ h => h⟩) rfl rfl (by kernel_rfl) (goes0 rfl) (QOk.then (QOk.inBlock (QOk.then QOk.body))) (fun w => q_moveP rfl) ?_
 refine o_pure (i := 5) (fun j w => ⟨(fun _ _ => trivial) j w, fun _ h => h⟩) rfl rfl (by kernel_rfl) (goes0 rfl) (QOk.then (QOk.inBlock (QOk.then QOk.body))) (fun w => q_nilCheck rfl) ?_
 refine o_pure (i := 6) (fun j w => ⟨(fun _ _ => trivial) j w, fun _ h => h⟩) rfl rfl (by kernel_rfl) (goes0 rfl) (QOk.then (QOk.inBlock (QOk.then QOk.body))) (fun w => q_fieldAddr (ft := 78) (o := 2) rfl (by kernel_rfl)) ?_
 refine o_held (i := 7) [8, 13, 14] (fun j w => ⟨(fun _ _ => trivial) j w, fun _ h => h⟩) rfl rfl (by kernel_rfl) (goes0 rfl) (QOk.then (QOk.inBlock (QOk.then QOk.body))) (q_load1 rfl (by kernel_rfl) (hS4.cell (i := 2) rfl rfl)) ?_
 refine o_pure (i := 8) (fun j w => ⟨(fun j w => ⟨(fun _ _ => trivial) j w, fun _ h => h⟩) j w, fun _ h => h⟩) rfl rfl (by kernel_rfl) (goes0 rfl) (QOk.then (QOk.inBlock (QOk.then QOk.body))) (fun w => q_orS (a := t.yes) (b := t.read) 63 rfl rfl (by show _ < 9223372036854775808; omega) (by show _ < 9223372036854775808; omega) (.inr (by decide))) ?_
 refine o_pure (i := 9) (fun j w => ⟨(fun j w => ⟨(fun _ _ => trivial) j w, fun _ h => h⟩) j w, fun _ h => h⟩) rfl rfl (by kernel_rfl) (goes0 rfl) (QOk.then (QOk.inBlock (QOk.then QOk.body))) (fun w => q_moveP rfl) ?_
 refine o_pure (i := 10) (fun j w => ⟨(fun j w => ⟨(fun _ _ => trivial) j w, fun _ h => h⟩) j w, fun _ h => h⟩) rfl rfl (by kernel_rfl) (goes0 rfl) (QOk.then (QOk.inBlock (QOk.then QOk.body))) (fun w => q_nilCheck rfl) ?_
 refine o_pure (i := 11) (fun j w => ⟨(fun j w => ⟨(fun _ _ => trivial) j w, fun _ h => h⟩) j w, fun _ h => h⟩) rfl rfl (by kernel_rfl) (goes0 rfl) (QOk.then (QOk.inBlock (QOk.then QOk.body))) (fun w => q_fieldAddr (ft := 78) (o := 0) rfl (by kernel_rfl)) ?_
 refine o_held (i := 12) [13, 14] (fun j w => ⟨(fun j w => ⟨(fun _ _ => trivial) j w, fun _ h => h⟩) j w, fun _ h => h⟩) rfl rfl (by kernel_rfl) (goes0 rfl) (QOk.then (QOk.inBlock (QOk.then QOk.body))) (q_load1 rfl (by kernel_rfl) (hS4.cell (i := 2) rfl rfl)) ?_
 refine o_pure (i := 13) (fun j w => ⟨(fun j w => ⟨(fun j w => ⟨(fun _ _ => trivial) j w, fun _ h => h⟩) j w, fun _ h => h⟩) j w, fun _ h => h⟩) rfl rfl (by kernel_rfl) (goes0 rfl) (QOk.then (QOk.inBlock (QOk.then QOk.body))) (fun w => q_neq rfl rfl) ?_
 refine o_pure (i := 14) (fun j w => ⟨(fun j w => ⟨(fun j w => ⟨(fun _ _ => trivial) j w, fun _ h => h⟩) j w, fun _ h => h⟩) j w, fun _ h => h⟩) rfl rfl (by kernel_rfl) (goes0 rfl) (QOk.then (QOk.inBlock (QOk.then QOk.body))) (fun w => q_assignB rfl) ?_
 refine o_done (by kernel_rfl) ?_
 refine hK3 _ _ ?_
 refine c_cond rfl (fun hc5 => ?_) (fun hc5 => ?_)
 have hc5b := hc5
 try simp only [zbb] at hc5
 refine wp_seq_k (fun K6 hK6 => ?_)
 refine wp_region_lit ?_
 refine l_q rfl rfl (q_assignI rfl) ?_
 refine l_nil ?_
 refine hK6 _ _ ?_
 refine wp_ret ?_
 refine c_ret1 rfl rfl ?_
 have hS7 := hS4.fr3; clear hS4
 have hS8 := hS7.fr3; clear hS7
 have hS9 : St _ _ [.pk (List.map tb (A ++ (n, b, t) :: B)), .blk k (.cells #[.pointer (some ⟨kw, 0, none⟩), .int .i64 nd, .int .i64 (inc : Int), .int .i64 (cnt : Int), .map (some mb), .slice oa O.length oc] 68), .mp (.int .i64) mb (List.map tc (A ++ (n, b, t) :: B)), .ow 42 5 oa O.length oc (List.flatMap lo O), wk kw kd wa wc rs, dk kd da dc l bb s, .fz g] _ := tb_put (q := (n, b, t)) hS8; clear hS8
 have hS10 := hS9.fr6; clear hS9
 have hS11 := hS10.fr6; clear hS10
 have hS12 := hS11.fr6; clear hS11
 have hS13 := hS12.fr6; clear hS12
 have hS14 := hS13.fr4; clear hS13
 have hS15 := hS14.fr6; clear hS14
 have hS16 := hS15.fr6; clear hS15
 have hS17 : St _ _ [co k kw nd inc cnt mb oa O oc (A ++ (n, b, t) :: B), _, _, .fz g] _ := co_close hS16; clear hS16
 exact ⟨_, _, rfl, ⟨_, _, O, (A ++ (n, b, t) :: B), _, _, _, _, _, _, rfl, by rw [dec_1 (by omega)], Gle.refl _, hO, hT, by rw [dec_1 (by omega)], by rw [dec_1 (by omega)], hR, Nat.le_succ _⟩, hS17⟩
 have hc5b := hc5
 try simp only [zbb] at hc5
 refine wp_seq_k (fun K18 hK18 => ?_)
 refine wp_region_lit ?_
 refine l_q rfl rfl (q_moveP rfl) ?_
 refine l_q rfl rfl (q_nilCheck rfl) ?_
 refine l_q rfl rfl (q_fieldAddr (ft := 78) (o := 1) rfl (by kernel_rfl)) ?_
 refine l_q rfl rfl (q_load1 rfl (by kernel_rfl) (hS4.cell (i := 2) rfl rfl)) ?_
 refine l_q rfl rfl (q_eql rfl rfl) ?_
 refine l_q rfl rfl (q_assignB rfl) ?_
 refine l_nil ?_
 refine hK18 _ _ ?_
 refine c_cond rfl (fun hc19 => ?_) (fun hc19 => ?_)
 have hc19b := hc19
 try simp only [zbb] at hc19
 refine wp_seq_k (fun K20 hK20 => ?_)
 refine wp_region_lit ?_
 refine l_q rfl rfl (q_moveP rfl) ?_
 refine l_q rfl rfl (q_nilCheck rfl) ?_
 refine l_q rfl rfl (q_fieldAddr (ft := 66) (o := 4) rfl (by kernel_rfl)) ?_
 refine l_q rfl rfl (q_load1 rfl (by kernel_rfl) (hS4.cell (i := 0) rfl rfl)) ?_
 refine l_q rfl rfl (q_moveI rfl) ?_
 refine l_e rfl (fun K hK => ?_)
 refine e_mapDel (zv := .pointer none) hS4 rfl rfl (by kernel_rfl) (by first | rfl | trivial) (i := 1) rfl (tc_del hT) (fun w21 (hS21 : St _ _ [_, .mp (.int .i64) mb (List.map tc (A ++ B)), .blk b (.cells #[.int .i64 ((t.nodes : Nat) : Int), .int .i64 ((t.yes : Nat) : Int), .int .i64 ((t.read : Nat) : Int), .bool t.asked, .bool t.com, .int .i64 ((t.tell : Nat) : Int), .int .i64 ((t.ticks : Nat) : Int)] 80), .pk (List.map tb (A ++ B)), _, _, _, .fz g] _) => ?_)
 clear hS4
 refine hK _ _ ?_; clear hK K
 refine l_nil ?_
 refine hK20 _ _ ?_
 refine wp_seq_k (fun K22 hK22 => ?_)
 refine wp_region_lit ?_
 refine l_q rfl rfl (q_assignI rfl) ?_
 refine l_nil ?_
 refine hK22 _ _ ?_
 refine wp_ret ?_
 refine c_ret1 rfl rfl ?_
 have hS23 := hS21.fr7; clear hS21
 have hS24 := hS23.fr7; clear hS23
 have hS25 := hS24.fr7; clear hS24
 have hS26 := hS25.fr7; clear hS25
 have hS27 := hS26.fr7; clear hS26
 have hS28 := hS27.fr6; clear hS27
 have hS29 := hS28.fr6; clear hS28
 have hS30 : St _ _ [_, _, _, _, _, _, .fz g] _ := hS29.only 7; clear hS29
 have hS31 : St _ _ [co k kw nd inc cnt mb oa O oc (A ++ B), _, _, .fz g] _ := co_close hS30; clear hS30
 exact ⟨_, _, rfl, ⟨_, _, O, (A ++ B), _, _, _, _, _, _, rfl, by rw [dec_2 (by omega) (by omega)], Gle.refl _, hO, hT.del, by rw [dec_2 (by omega) (by omega)]; exact (delT_hit hT).symm, by rw [dec_2 (by omega) (by omega)], hR, Nat.le_succ _⟩, hS31⟩
 have hc19b := hc19
 try simp only [zbb] at hc19
 refine wp_skip ?_
 refine hK2 _ _ ?_
 refine wp_seq_k (fun K32 hK32 => ?_)
 refine wp_seq_k (fun K33 hK33 => ?_)
 have hyn : ((t.yes : Nat) : Int) ≤ 65535 := by omega
 refine r_any (by kernel_rfl) hS4 (fun w34 hS34 => ?_)
 clear hS4
 refine o_pure (i := 0) (fun _ _ => trivial) rfl rfl (by kernel_rfl) (goes0 rfl) (QOk.then (QOk.then QOk.body)) (fun w => q_moveP rfl) ?_
 refine o_pure (i := 1) (fun _ _ => trivial) rfl rfl (by kernel_rfl) (goes0 rfl) (QOk.then (QOk.then QOk.body)) (fun w => q_nilCheck rfl) ?_
 refine o_pure (i := 2) (fun _ _ => trivial) rfl rfl (by kernel_rfl) (goes0 rfl) (QOk.then (QOk.then QOk.body)) (fun w => q_fieldAddr (ft := 63) (o := 0) rfl (by kernel_rfl)) ?_
 refine o_held (i := 3) [11, 12, 13, 14, 15, 16] (fun _ _ => trivial) rfl rfl (by kernel_rfl) (goes0 rfl) (QOk.then (QOk.then QOk.body)) (q_load1 rfl (by kernel_rfl) (hS34.cell (i := 0) rfl rfl)) ?_
 refine o_pure (i := 4) (fun j w => ⟨(fun _ _ => trivial) j w, fun _ h => h⟩) rfl rfl (by kernel_rfl) (goes0 rfl) (QOk.then (QOk.then QOk.body)) (fun w => q_moveI rfl) ?_
 refine o_pure (i := 5) (fun j w => ⟨(fun _ _ => trivial) j w, fun _ h => h⟩) rfl rfl (by kernel_rfl) (goes0 rfl) (QOk.then (QOk.then QOk.body)) (fun w => q_moveP rfl) ?_
 refine o_pure (i := 6) (fun j w => ⟨(fun _ _ => trivial) j w, fun _ h => h⟩) rfl rfl (by kernel_rfl) (goes0 rfl) (QOk.then (QOk.then QOk.body)) (fun w => q_nilCheck rfl) ?_
 refine o_pure (i := 7) (fun j w => ⟨(fun _ _ => trivial) j w, fun _ h => h⟩) rfl rfl (by kernel_rfl) (goes0 rfl) (QOk.then (QOk.then QOk.body)) (fun w => q_fieldAddr (ft := 78) (o := 1) rfl (by kernel_rfl)) ?_
 refine o_held (i := 8) [9, 10, 11, 12, 13, 14, 15, 16] (fun j w => ⟨(fun _ _ => trivial) j w, fun _ h => h⟩) rfl rfl (by kernel_rfl) (goes0 rfl) (QOk.then (QOk.then QOk.body)) (q_load1 rfl (by kernel_rfl) (hS34.cell (i := 2) rfl rfl)) ?_
 refine o_eff (i := 9) (by kernel_rfl) rfl (goes0 rfl) (fun K hK => ?_)
 refine e_buildSlice1 (e := 3) (zv := .int .i64 0) (xs := [_, .tmp 40, .tmp 44]) hS34 (by kernel_rfl) (by kernel_rfl) (by kernel_rfl) rfl rfl rfl rfl (allone (by repeat' (first | exact trivial | refine ⟨by first | rfl | assumption, ?_⟩))) rfl (fun b35 w35 (hS35 : St _ _ [.blk b35 (.cells #[.int .i64 (1 : Int), .int .i64 n, .int .i64 ((t.yes : Nat) : Int)] 3), _, _, _, _, _, _, _, .fz g] _) => ?_)
 clear hS34
 have hS35o : St _ _ [.ow 3 1 (some ⟨b35, 0, none⟩) 3 3 (iv [(1 : Int), n, ((t.yes : Nat) : Int)]), _, _, _, _, _, _, _, .fz g] _ := hS35.blkOw' (i := 0) (m := 3) (size := 1) (xs := iv [(1 : Int), n, ((t.yes : Nat) : Int)]) rfl rfl rfl (by decide); clear hS35
 refine hK _ _ ⟨⟨trivial, fun _ _ => by first | exact q_load1 rfl (by kernel_rfl) (hS35o.cell (i := 1) rfl rfl)⟩, fun h => absurd h (by decide)⟩ ?_; clear hK K
 refine o_eff (i := 10) (by kernel_rfl) rfl (goes0 rfl) (fun K hK => ?_)
 have hns36 : ∀ x ∈ [(1 : Int), n, ((t.yes : Nat) : Int)], -9223372036854775808 ≤ x ∧ x ≤ 9223372036854775807 := by intro x hx; simp only [List.mem_cons, List.not_mem_nil, or_false] at hx; rcases hx with rfl | rfl | rfl <;> omega
 have hrl36 := rowE_len (recs_ok hns36)
 refine e_call (by kernel_rfl) (record_ok [(1 : Int), n, ((t.yes : Nat) : Int)] hns36 3 (by first | omega | (simp only [zll] <;> omega)) (by first | omega | (simp only [zll] <;> omega)) _ _ _ (hS35o.owG (i := 0) rfl)) rfl (after_N hS35o (fun v36 G36 w36 hv36 hS36 => ?_))
 clear hS35o
 obtain ⟨oa36, oc36, rfl, rfl⟩ := hv36
 have hS37 : St _ _ [.ow 5 1 oa36 (((rowE ([(1 : Int), n, ((t.yes : Nat) : Int)].map vI)).1).length) oc36 (bv ((rowE ([(1 : Int), n, ((t.yes : Nat) : Int)].map vI)).1)), _, _, _, _, _, _, _, _, .fz g] _ := hS36; clear hS36
 refine hK _ _ ⟨⟨trivial, fun _ _ => by first | exact q_load1 rfl (by kernel_rfl) (hS37.cell (i := 2) rfl rfl)⟩, fun h => absurd h (by decide)⟩ ?_; clear hK K
 refine o_eff (i := 11) (by kernel_rfl) rfl (goes0 rfl) (fun K hK => ?_)
 have hS39 := hS37.fr9; clear hS37
 have hS40 := hS39.fr9; clear hS39
 have hS41 := hS40.fr9; clear hS40
 obtain ⟨g42, hg42, hG42⟩ := St.rogO (Γ1 := [_, _, _]) (i := 0) hS41 rfl
 refine e_call (by kernel_rfl) (wAppend_ok _ _ _ _ _ _ _ _ _ _ _ (by first | omega | (simp only [zll] <;> omega)) hl (by first | omega | (simp only [zll] <;> omega)) (by first | omega | (simp only [zll] <;> omega)) hR _ ((rowE ([(1 : Int), n, ((t.yes : Nat) : Int)].map vI)).1) (rowE_bytes (recs_ok hns36)) _ _ (by first | omega | (simp only [zll] <;> omega)) hG42 _ hg42 (St.begin (Γ := [_, _, _]) hS41)) rfl (after_M (Γ1 := [_, _, _]) hS41 (fun v38 G38 w38 hv38 hS38 => ?_))
 clear hS41
 obtain ⟨ad38, cp38, rs38, da38, dc38, g38, rfl, rfl, hle38, hrs38, hab38⟩ := hv38
 have hS43 : St _ _ [wk kw kd ad38 cp38 rs38, dk kd da38 dc38 (waL l ((rowE ([(1 : Int), n, ((t.yes : Nat) : Int)].map vI)).1)) bb s, .fz g38, _, _, _, _, _, _, _] _ := hS38; clear hS38
 have hL38 := waL_len l ((rowE ([(1 : Int), n, ((t.yes : Nat) : Int)].map vI)).1)
 have hOm38 := LOk.mono hO hle38
 refine hK _ _ ⟨⟨trivial, fun h => absurd h (by decide)⟩, fun h => absurd h (by decide)⟩ ?_; clear hK K
 refine o_pure (i := 12) (fun j w => ⟨(fun j w => ⟨(fun _ _ => trivial) j w, fun _ h => h⟩) j w, fun _ h => h⟩) rfl rfl (by kernel_rfl) (goes0 rfl) (QOk.then (QOk.then QOk.body)) (fun w => q_move rfl) ?_
 refine o_pure (i := 13) (fun j w => ⟨(fun j w => ⟨(fun _ _ => trivial) j w, fun _ h => h⟩) j w, fun _ h => h⟩) rfl rfl (by kernel_rfl) (goes0 rfl) (QOk.then (QOk.then QOk.body)) (fun w => q_extract rfl rfl) ?_
 refine o_pure (i := 14) (fun j w => ⟨(fun j w => ⟨(fun _ _ => trivial) j w, fun _ h => h⟩) j w, fun _ h => h⟩) rfl rfl (by kernel_rfl) (goes0 rfl) (QOk.then (QOk.then QOk.body)) (fun w => q_extract rfl rfl) ?_
 refine o_pure (i := 15) (fun j w => ⟨(fun j w => ⟨(fun _ _ => trivial) j w, fun _ h => h⟩) j w, fun _ h => h⟩) rfl rfl (by kernel_rfl) (goes0 rfl) (QOk.then (QOk.then QOk.body)) (fun w => q_assignI rfl) ?_
 refine o_pure (i := 16) (fun j w => ⟨(fun j w => ⟨(fun _ _ => trivial) j w, fun _ h => h⟩) j w, fun _ h => h⟩) rfl rfl (by kernel_rfl) (goes0 rfl) (QOk.then (QOk.then QOk.body)) (fun w => q_assignI rfl) ?_
 refine o_done (by kernel_rfl) ?_
 refine hK33 _ _ ?_
 refine wp_seq_k (fun K44 hK44 => ?_)
 refine wp_region_lit ?_
 refine l_q rfl rfl (q_moveI rfl) ?_
 refine l_q rfl rfl (q_neq rfl rfl) ?_
 refine l_nil ?_
 refine hK44 _ _ ?_
 refine c_cond rfl (fun hc45 => ?_) (fun hc45 => ?_)
 have hc45b := hc45
 try simp only [zbb] at hc45
 exact absurd (hg (by omega) (by omega)) (by show ¬waE l (rowE ([1, n, ((t.yes : Nat) : Int)].map vI)).1 = 0; omega)
 have hc45b := hc45
 try simp only [zbb] at hc45
 refine wp_skip ?_
 refine hK32 _ _ ?_
 refine wp_seq_k (fun K46 hK46 => ?_)
 refine r_any (by kernel_rfl) hS43 (fun w47 hS47 => ?_)
 clear hS43
 refine o_pure (i := 0) (fun _ _ => trivial) rfl rfl (by kernel_rfl) (goes0 rfl) (QOk.then QOk.body) (fun w => q_moveP rfl) ?_
 refine o_pure (i := 1) (fun _ _ => trivial) rfl rfl (by kernel_rfl) (goes0 rfl) (QOk.then QOk.body) (fun w => q_moveP rfl) ?_
 refine o_pure (i := 2) (fun _ _ => trivial) rfl rfl (by kernel_rfl) (goes0 rfl) (QOk.then QOk.body) (fun w => q_nilCheck rfl) ?_
 refine o_pure (i := 3) (fun _ _ => trivial) rfl rfl (by kernel_rfl) (goes0 rfl) (QOk.then QOk.body) (fun w => q_fieldAddr (ft := 78) (o := 1) rfl (by kernel_rfl)) ?_
 refine o_held (i := 4) [9, 10, 11] (fun _ _ => trivial) rfl rfl (by kernel_rfl) (goes0 rfl) (QOk.then QOk.body) (q_load1 rfl (by kernel_rfl) (hS47.cell (i := 7) rfl rfl)) ?_
 refine o_pure (i := 5) (fun j w => ⟨(fun _ _ => trivial) j w, fun _ h => h⟩) rfl rfl (by kernel_rfl) (goes0 rfl) (QOk.then QOk.body) (fun w => q_moveP rfl) ?_
 refine o_pure (i := 6) (fun j w => ⟨(fun _ _ => trivial) j w, fun _ h => h⟩) rfl rfl (by kernel_rfl) (goes0 rfl) (QOk.then QOk.body) (fun w => q_nilCheck rfl) ?_
 refine o_pure (i := 7) (fun j w => ⟨(fun _ _ => trivial) j w, fun _ h => h⟩) rfl rfl (by kernel_rfl) (goes0 rfl) (QOk.then QOk.body) (fun w => q_fieldAddr (ft := 78) (o := 1) rfl (by kernel_rfl)) ?_
 refine o_held (i := 8) [9, 10, 11] (fun j w => ⟨(fun _ _ => trivial) j w, fun _ h => h⟩) rfl rfl (by kernel_rfl) (goes0 rfl) (QOk.then QOk.body) (q_load1 rfl (by kernel_rfl) (hS47.cell (i := 7) rfl rfl)) ?_
 refine o_pure (i := 9) (fun j w => ⟨(fun j w => ⟨(fun _ _ => trivial) j w, fun _ h => h⟩) j w, fun _ h => h⟩) rfl rfl (by kernel_rfl) (goes0 rfl) (QOk.then QOk.body) (fun w => q_build (ps := [(0, 1), (1, 1), (2, 1), (3, 1), (4, 1), (5, 1), (6, 1)]) (zv := .agg #[.int .i64 0, .int .i64 0, .int .i64 0, .bool false, .bool false, .int .i64 0, .int .i64 0]) (by kernel_rfl) (by kernel_rfl) rfl (by repeat' (first | exact trivial | refine ⟨fun _ => by first | rfl | assumption | exact one_if (by assumption), ?_⟩ | refine ⟨fun ⟨_, h⟩ => by simp at h, ?_⟩)) rfl) ?_
 refine o_pure (i := 10) (fun j w => ⟨(fun j w => ⟨(fun _ _ => trivial) j w, fun _ h => h⟩) j w, fun _ h => h⟩) rfl rfl (by kernel_rfl) (goes0 rfl) (QOk.then QOk.body) (fun w => q_nilCheck rfl) ?_
 refine o_eff (i := 11) (by kernel_rfl) rfl (goes0 rfl) (fun K hK => ?_)
 refine e_storeA hS47 rfl rfl (by kernel_rfl) (by repeat' (first | exact trivial | refine ⟨by first | rfl | assumption | exact one_if (by assumption), ?_⟩)) (i := 7) rfl rfl (fun w48 (hS48 : St _ _ [_, _, .fz g38, _, _, _, _, .blk b (.cells #[.int .i64 ((t.yes : Nat) : Int), .int .i64 (0 : Int), .int .i64 (0 : Int), .bool false, .bool true, .int .i64 ((t.yes : Nat) : Int), .int .i64 (0 : Int)] 80), _, _] _) => ?_)
 clear hS47
 refine hK _ _ ⟨⟨trivial, fun h => absurd h (by decide)⟩, fun h => absurd h (by decide)⟩ ?_; clear hK K
 refine o_done (by kernel_rfl) ?_
 refine hK46 _ _ ?_
 refine wp_seq_k (fun K49 hK49 => ?_)
 refine wp_region_lit ?_
 refine l_q rfl rfl (q_moveP rfl) ?_
 refine l_q rfl rfl (q_moveI rfl) ?_
 refine l_q rfl rfl (q_moveP rfl) ?_
 refine l_q rfl rfl (q_nilCheck rfl) ?_
 refine l_q rfl rfl (q_fieldAddr (ft := 78) (o := 5) rfl (by kernel_rfl)) ?_
 refine l_q rfl rfl (q_load1 rfl (by kernel_rfl) (hS48.cell (i := 7) rfl rfl)) ?_
 refine l_e rfl (fun K hK => ?_)
 have hS51 := hS48.fr2; clear hS48
 have hS52 := hS51.fr9; clear hS51
 have hS53 := hS52.fr6; clear hS52
 refine e_call (by kernel_rfl) (send_ok k _ nd _ _ _ _ _ _ _ hOm38 (by first | omega | (simp only [zll] <;> omega)) (5 : Int) n t.yes 0 (by first | omega | (simp only [zll] <;> omega)) (by first | omega | (simp only [zll] <;> omega)) _ (St.begin (Γ := [_, _, _]) hS53)) rfl (after_M (Γ1 := [_, _, _]) hS53 (fun v50 G50 w50 hv50 hS50 => ?_))
 clear hS53
 obtain ⟨oa50, oc50, O50, g50, rfl, hle50, hO50, hOe50⟩ := hv50
 have hS54 : St _ _ [.blk k (.cells #[.pointer (some ⟨kw, 0, none⟩), .int .i64 nd, .int .i64 (inc : Int), .int .i64 (cnt : Int), .map (some mb), .slice oa50 O50.length oc50] 68), .ow 42 5 oa50 O50.length oc50 (List.flatMap lo O50), .fz g50, _, _, _, _, _, _, _] _ := hS50; clear hS50
 have hOl50 : O50.length ≤ O.length + 16 := sends_len hOe50
 refine hK _ _ ?_; clear hK K
 refine l_nil ?_
 refine hK49 _ _ ?_
 refine wp_seq_k (fun K55 hK55 => ?_)
 refine wp_region_lit ?_
 refine l_q rfl rfl (q_moveP rfl) ?_
 refine l_q rfl rfl (q_nilCheck rfl) ?_
 refine l_q rfl rfl (q_fieldAddr (ft := 63) (o := 0) rfl (by kernel_rfl)) ?_
 refine l_q rfl rfl (q_load1 rfl (by kernel_rfl) (hS54.cell (i := 0) rfl rfl)) ?_
 refine l_e rfl (fun K hK => ?_)
 have hS57 := hS54.fr4; clear hS54
 have hS58 := hS57.fr4; clear hS57
 refine e_call (by kernel_rfl) (wSync_ok _ _ _ _ _ _ _ _ _ _ _ (St.begin (Γ := [_, _]) hS58)) rfl (after_M (Γ1 := [_, _]) hS58 (fun v56 G56 w56 hv56 hS56 => ?_))
 clear hS58
 obtain ⟨rfl, rfl⟩ := hv56
 have hS59 : St _ _ [_, dk kd da38 dc38 (waL l ((rowE ([(1 : Int), n, ((t.yes : Nat) : Int)].map vI)).1)) bb ((waL l ((rowE ([(1 : Int), n, ((t.yes : Nat) : Int)].map vI)).1)).length), _, _, .fz g50, _, _, _, _, _] _ := hS56; clear hS56
 refine hK _ _ ?_; clear hK K
 refine l_q rfl rfl (q_assignI rfl) ?_
 refine l_nil ?_
 refine hK55 _ _ ?_
 refine wp_ret ?_
 refine c_ret1 rfl rfl ?_
 have hS60 := hS59.fr9; clear hS59
 have hS61 := hS60.fr9; clear hS60
 have hS62 : St _ _ [.pk (List.map tb (A ++ (n, b, (Tx.mk t.yes 0 0 false true t.yes 0)) :: B)), _, _, _, _, .fz g50, _, _, _] _ := tb_put (q := (n, b, (Tx.mk t.yes 0 0 false true t.yes 0))) hS61; clear hS61
 have hS63 := hS62.fr8; clear hS62
 have hS64 : St _ _ [.mp (.int .i64) mb (List.map tc (A ++ (n, b, (Tx.mk t.yes 0 0 false true t.yes 0)) :: B)), _, _, _, _, _, .fz g50, _, _] _ := mp_t (t' := (Tx.mk t.yes 0 0 false true t.yes 0)) hS63; clear hS63
 have hS65 := hS64.fr6; clear hS64
 have hS66 := hS65.fr4; clear hS65
 have hS67 := hS66.fr4; clear hS66
 have hS68 := hS67.fr6; clear hS67
 have hS69 := hS68.fr5; clear hS68
 have hS70 := hS69.fr5; clear hS69
 have hS71 := hS70.fr6; clear hS70
 have hS72 : St _ _ [_, _, _, _, _, _, .fz g50] _ := hS71.only 7; clear hS71
 have hS73 : St _ _ [co k kw nd inc cnt mb oa50 O50 oc50 (A ++ (n, b, (Tx.mk t.yes 0 0 false true t.yes 0)) :: B), _, _, .fz g50] _ := co_close hS72; clear hS72
 exact ⟨_, _, rfl, ⟨_, _, O50, (A ++ (n, b, (Tx.mk t.yes 0 0 false true t.yes 0)) :: B), _, _, _, _, _, _, rfl, by rw [dec_3 (by omega) (by omega)], hle38.trans hle50, hO50, (hT.set ⟨ht2, (by show 0 < 65536; decide), (by show 0 < 65536; decide), ht2, (by show 0 < 5; decide)⟩), by rw [dec_3 (by omega) (by omega)]; exact (setT_hit hT).symm, by rw [dec_3 (by omega) (by omega)]; exact hOe50, RsOk.mono hrs38 hle50, rs_len hab38⟩, hS73⟩
set_option maxRecDepth 100000 in
theorem decided_bad (k kw : Nat) (nd : Int) (inc cnt mb : Nat) (oa : Option Addr) (O : List Lo) (oc : Nat) (n : Int) (A : List (Int × Nat × Tx)) (b : Nat) (t : Tx) (B : List (Int × Nat × Tx)) (hT : TOk (A ++ (n, b, t) :: B)) (g : Gh) (hO : LOk g O) (hol0 : O.length ≤ 100000) (kd : Nat) (wa : Option Addr) (wc : Nat) (rs : List Rc) (da : Option Addr) (dc : Nat) (l : List Nat) (bb s : Nat) (hrl : rs.length ≤ 500000) (hl : Bytes l) (hbb : bb + l.length ≤ 500000000) (hs : s ≤ l.length) (hR : RsOk g rs) (hb1 : t.yes ||| t.read = t.nodes) (hb2 : ¬t.yes = 0) (hb3 : ¬waE l (rowE ([1, n, ((t.yes : Nat) : Int)].map vI)).1 = 0)  (w : World) (hS : St w (owns [.blk k (.cells #[pV kw, .int .i64 nd, .int .i64 (inc : Int), .int .i64 (cnt : Int), .map (some mb), .slice oa O.length oc] 68), .mp (.int .i64) mb (List.map tc (A ++ (n, b, t) :: B)), .blk b (.cells #[.int .i64 ((t.nodes : Nat) : Int), .int .i64 ((t.yes : Nat) : Int), .int .i64 ((t.read : Nat) : Int), .bool t.asked, .bool t.com, .int .i64 ((t.tell : Nat) : Int), .int .i64 ((t.ticks : Nat) : Int)] 80), .pk (List.map tb (A ++ B)), .ow 42 5 oa O.length oc (List.flatMap lo O), wk kw kd wa wc rs, dk kd da dc l bb s, .fz g]) [.blk k (.cells #[pV kw, .int .i64 nd, .int .i64 (inc : Int), .int .i64 (cnt : Int), .map (some mb), .slice oa O.length oc] 68), .mp (.int .i64) mb (List.map tc (A ++ (n, b, t) :: B)), .blk b (.cells #[.int .i64 ((t.nodes : Nat) : Int), .int .i64 ((t.yes : Nat) : Int), .int .i64 ((t.read : Nat) : Int), .bool t.asked, .bool t.com, .int .i64 ((t.tell : Nat) : Int), .int .i64 ((t.ticks : Nat) : Int)] 80), .pk (List.map tb (A ++ B)), .ow 42 5 oa O.length oc (List.flatMap lo O), wk kw kd wa wc rs, dk kd da dc l bb s, .fz g] w) : Calls Try.prog 59 #[pV k, .int .i64 n, pV b] w (Post w [.blk k (.cells #[pV kw, .int .i64 nd, .int .i64 (inc : Int), .int .i64 (cnt : Int), .map (some mb), .slice oa O.length oc] 68), .mp (.int .i64) mb (List.map tc (A ++ (n, b, t) :: B)), .blk b (.cells #[.int .i64 ((t.nodes : Nat) : Int), .int .i64 ((t.yes : Nat) : Int), .int .i64 ((t.read : Nat) : Int), .bool t.asked, .bool t.com, .int .i64 ((t.tell : Nat) : Int), .int .i64 ((t.ticks : Nat) : Int)] 80), .pk (List.map tb (A ++ B)), .ow 42 5 oa O.length oc (List.flatMap lo O), wk kw kd wa wc rs, dk kd da dc l bb s, .fz g] fun v G => ∃ wa' wc' rs' da' dc' g', v = .int .i64 ((recE l [1, n, ((t.yes : Nat) : Int)] : Nat) : Int) ∧ G = [.blk k (cO kw nd inc cnt mb oa O.length oc), .mp (.int .i64) mb (List.map tc (A ++ (n, b, t) :: B)), .blk b (tO t), .pk (List.map tb (A ++ B)), .ow 42 5 oa O.length oc (List.flatMap lo O), wk kw kd wa' wc' rs', dk kd da' dc' (recL l [1, n, ((t.yes : Nat) : Int)]) bb s, .fz g'] ∧ Gle g g' ∧ RsOk g' rs' ∧ rs'.length ≤ rs.length + 1) := by
 have hTn := (hT.2 (n, b, t) (List.mem_append_right _ (.head _))).1
 have ht1 : t.nodes < 65536 := hTn.1
 have ht2 : t.yes < 65536 := hTn.2.1
 have ht3 : t.read < 65536 := hTn.2.2.1
 have ht4 : t.tell < 65536 := hTn.2.2.2.1
 have ht5 : t.ticks < 5 := hTn.2.2.2.2
 have hn0 : 0 ≤ n ∧ n ≤ 2199023255552 := (hT.2 (n, b, t) (List.mem_append_right _ (.head _))).2
 refine c_enter Try.func59 rfl rfl rfl ?_
 refine wp_seq_k (fun K1 hK1 => ?_)
 refine wp_region_lit ?_
 refine l_q rfl rfl (q_assignI rfl) ?_
 refine l_nil ?_
 refine hK1 _ _ ?_
 refine wp_seq_k (fun K2 hK2 => ?_)
 refine wp_block ?_
 refine wp_seq_k (fun K3 hK3 => ?_)
 refine r_any (by kernel_rfl) hS (fun w4 hS4 => ?_)
 clear hS
 refine o_pure (i := 0) (fun _ _ => trivial) rfl rfl (by kernel_rfl) (goes0 rfl) (QOk.then (QOk.inBlock (QOk.then QOk.body))) (fun w => q_moveP rfl) ?_
 refine o_pure (i := 1) (fun _ _ => trivial) rfl rfl (by kernel_rfl) (goes0 rfl) (QOk.then (QOk.inBlock (QOk.then QOk.body))) (fun w => q_nilCheck rfl) ?_
 refine o_pure (i := 2) (fun _ _ => trivial) rfl rfl (by kernel_rfl) (goes0 rfl) (QOk.then (QOk.inBlock (QOk.then QOk.body))) (fun w => q_fieldAddr (ft := 78) (o := 1) rfl (by kernel_rfl)) ?_
 refine o_held (i := 3) [8, 13, 14] (fun _ _ => trivial) rfl rfl (by kernel_rfl) (goes0 rfl) (QOk.then (QOk.inBlock (QOk.then QOk.body))) (q_load1 rfl (by kernel_rfl) (hS4.cell (i := 2) rfl rfl)) ?_
 refine o_pure (i := 4) (fun j w => ⟨(fun _ _ => trivial) j w, fun _ h => h⟩) rfl rfl (by kernel_rfl) (goes0 rfl) (QOk.then (QOk.inBlock (QOk.then QOk.body))) (fun w => q_moveP rfl) ?_
 refine o_pure (i := 5) (fun j w => ⟨(fun _ _ => trivial) j w, fun _ h => h⟩) rfl rfl (by kernel_rfl) (goes0 rfl) (QOk.then (QOk.inBlock (QOk.then QOk.body))) (fun w => q_nilCheck rfl) ?_
 refine o_pure (i := 6) (fun j w => ⟨(fun _ _ => trivial) j w, fun _ h => h⟩) rfl rfl (by kernel_rfl) (goes0 rfl) (QOk.then (QOk.inBlock (QOk.then QOk.body))) (fun w => q_fieldAddr (ft := 78) (o := 2) rfl (by kernel_rfl)) ?_
 refine o_held (i := 7) [8, 13, 14] (fun j w => ⟨(fun _ _ => trivial) j w, fun _ h => h⟩) rfl rfl (by kernel_rfl) (goes0 rfl) (QOk.then (QOk.inBlock (QOk.then QOk.body))) (q_load1 rfl (by kernel_rfl) (hS4.cell (i := 2) rfl rfl)) ?_
 refine o_pure (i := 8) (fun j w => ⟨(fun j w => ⟨(fun _ _ => trivial) j w, fun _ h => h⟩) j w, fun _ h => h⟩) rfl rfl (by kernel_rfl) (goes0 rfl) (QOk.then (QOk.inBlock (QOk.then QOk.body))) (fun w => q_orS (a := t.yes) (b := t.read) 63 rfl rfl (by show _ < 9223372036854775808; omega) (by show _ < 9223372036854775808; omega) (.inr (by decide))) ?_
 refine o_pure (i := 9) (fun j w => ⟨(fun j w => ⟨(fun _ _ => trivial) j w, fun _ h => h⟩) j w, fun _ h => h⟩) rfl rfl (by kernel_rfl) (goes0 rfl) (QOk.then (QOk.inBlock (QOk.then QOk.body))) (fun w => q_moveP rfl) ?_
 refine o_pure (i := 10) (fun j w => ⟨(fun j w => ⟨(fun _ _ => trivial) j w, fun _ h => h⟩) j w, fun _ h => h⟩) rfl rfl (by kernel_rfl) (goes0 rfl) (QOk.then (QOk.inBlock (QOk.then QOk.body))) (fun w => q_nilCheck rfl) ?_
 refine o_pure (i := 11) (fun j w => ⟨(fun j w => ⟨(fun _ _ => trivial) j w, fun _ h => h⟩) j w, fun _ h => h⟩) rfl rfl (by kernel_rfl) (goes0 rfl) (QOk.then (QOk.inBlock (QOk.then QOk.body))) (fun w => q_fieldAddr (ft := 78) (o := 0) rfl (by kernel_rfl)) ?_
 refine o_held (i := 12) [13, 14] (fun j w => ⟨(fun j w => ⟨(fun _ _ => trivial) j w, fun _ h => h⟩) j w, fun _ h => h⟩) rfl rfl (by kernel_rfl) (goes0 rfl) (QOk.then (QOk.inBlock (QOk.then QOk.body))) (q_load1 rfl (by kernel_rfl) (hS4.cell (i := 2) rfl rfl)) ?_
 refine o_pure (i := 13) (fun j w => ⟨(fun j w => ⟨(fun j w => ⟨(fun _ _ => trivial) j w, fun _ h => h⟩) j w, fun _ h => h⟩) j w, fun _ h => h⟩) rfl rfl (by kernel_rfl) (goes0 rfl) (QOk.then (QOk.inBlock (QOk.then QOk.body))) (fun w => q_neq rfl rfl) ?_
 refine o_pure (i := 14) (fun j w => ⟨(fun j w => ⟨(fun j w => ⟨(fun _ _ => trivial) j w, fun _ h => h⟩) j w, fun _ h => h⟩) j w, fun _ h => h⟩) rfl rfl (by kernel_rfl) (goes0 rfl) (QOk.then (QOk.inBlock (QOk.then QOk.body))) (fun w => q_assignB rfl) ?_
 refine o_done (by kernel_rfl) ?_
 refine hK3 _ _ ?_
 refine c_cond rfl (fun hc5 => ?_) (fun hc5 => ?_)
 have hc5b := hc5
 try simp only [zbb] at hc5
 exfalso; omega
 have hc5b := hc5
 try simp only [zbb] at hc5
 refine wp_seq_k (fun K6 hK6 => ?_)
 refine wp_region_lit ?_
 refine l_q rfl rfl (q_moveP rfl) ?_
 refine l_q rfl rfl (q_nilCheck rfl) ?_
 refine l_q rfl rfl (q_fieldAddr (ft := 78) (o := 1) rfl (by kernel_rfl)) ?_
 refine l_q rfl rfl (q_load1 rfl (by kernel_rfl) (hS4.cell (i := 2) rfl rfl)) ?_
 refine l_q rfl rfl (q_eql rfl rfl) ?_
 refine l_q rfl rfl (q_assignB rfl) ?_
 refine l_nil ?_
 refine hK6 _ _ ?_
 refine c_cond rfl (fun hc7 => ?_) (fun hc7 => ?_)
 have hc7b := hc7
 try simp only [zbb] at hc7
 exfalso; omega
 have hc7b := hc7
 try simp only [zbb] at hc7
 refine wp_skip ?_
 refine hK2 _ _ ?_
 refine wp_seq_k (fun K8 hK8 => ?_)
 refine wp_seq_k (fun K9 hK9 => ?_)
 have hyn : ((t.yes : Nat) : Int) ≤ 65535 := by omega
 refine r_any (by kernel_rfl) hS4 (fun w10 hS10 => ?_)
 clear hS4
 refine o_pure (i := 0) (fun _ _ => trivial) rfl rfl (by kernel_rfl) (goes0 rfl) (QOk.then (QOk.then QOk.body)) (fun w => q_moveP rfl) ?_
 refine o_pure (i := 1) (fun _ _ => trivial) rfl rfl (by kernel_rfl) (goes0 rfl) (QOk.then (QOk.then QOk.body)) (fun w => q_nilCheck rfl) ?_
 refine o_pure (i := 2) (fun _ _ => trivial) rfl rfl (by kernel_rfl) (goes0 rfl) (QOk.then (QOk.then QOk.body)) (fun w => q_fieldAddr (ft := 63) (o := 0) rfl (by kernel_rfl)) ?_
 refine o_held (i := 3) [11, 12, 13, 14, 15, 16] (fun _ _ => trivial) rfl rfl (by kernel_rfl) (goes0 rfl) (QOk.then (QOk.then QOk.body)) (q_load1 rfl (by kernel_rfl) (hS10.cell (i := 0) rfl rfl)) ?_
 refine o_pure (i := 4) (fun j w => ⟨(fun _ _ => trivial) j w, fun _ h => h⟩) rfl rfl (by kernel_rfl) (goes0 rfl) (QOk.then (QOk.then QOk.body)) (fun w => q_moveI rfl) ?_
 refine o_pure (i := 5) (fun j w => ⟨(fun _ _ => trivial) j w, fun _ h => h⟩) rfl rfl (by kernel_rfl) (goes0 rfl) (QOk.then (QOk.then QOk.body)) (fun w => q_moveP rfl) ?_
 refine o_pure (i := 6) (fun j w => ⟨(fun _ _ => trivial) j w, fun _ h => h⟩) rfl rfl (by kernel_rfl) (goes0 rfl) (QOk.then (QOk.then QOk.body)) (fun w => q_nilCheck rfl) ?_
 refine o_pure (i := 7) (fun j w => ⟨(fun _ _ => trivial) j w, fun _ h => h⟩) rfl rfl (by kernel_rfl) (goes0 rfl) (QOk.then (QOk.then QOk.body)) (fun w => q_fieldAddr (ft := 78) (o := 1) rfl (by kernel_rfl)) ?_
 refine o_held (i := 8) [9, 10, 11, 12, 13, 14, 15, 16] (fun j w => ⟨(fun _ _ => trivial) j w, fun _ h => h⟩) rfl rfl (by kernel_rfl) (goes0 rfl) (QOk.then (QOk.then QOk.body)) (q_load1 rfl (by kernel_rfl) (hS10.cell (i := 2) rfl rfl)) ?_
 refine o_eff (i := 9) (by kernel_rfl) rfl (goes0 rfl) (fun K hK => ?_)
 refine e_buildSlice1 (e := 3) (zv := .int .i64 0) (xs := [_, .tmp 40, .tmp 44]) hS10 (by kernel_rfl) (by kernel_rfl) (by kernel_rfl) rfl rfl rfl rfl (allone (by repeat' (first | exact trivial | refine ⟨by first | rfl | assumption, ?_⟩))) rfl (fun b11 w11 (hS11 : St _ _ [.blk b11 (.cells #[.int .i64 (1 : Int), .int .i64 n, .int .i64 ((t.yes : Nat) : Int)] 3), .blk k (.cells #[.pointer (some ⟨kw, 0, none⟩), .int .i64 nd, .int .i64 (inc : Int), .int .i64 (cnt : Int), .map (some mb), .slice oa O.length oc] 68), .mp (.int .i64) mb (List.map tc (A ++ (n, b, t) :: B)), .blk b (.cells #[.int .i64 ((t.nodes : Nat) : Int), .int .i64 ((t.yes : Nat) : Int), .int .i64 ((t.read : Nat) : Int), .bool t.asked, .bool t.com, .int .i64 ((t.tell : Nat) : Int), .int .i64 ((t.ticks : Nat) : Int)] 80), .pk (List.map tb (A ++ B)), .ow 42 5 oa O.length oc (List.flatMap lo O), wk kw kd wa wc rs, dk kd da dc l bb s, .fz g] _) => ?_)
 clear hS10
 have hS11o : St _ _ [.ow 3 1 (some ⟨b11, 0, none⟩) 3 3 (iv [(1 : Int), n, ((t.yes : Nat) : Int)]), _, _, _, _, _, _, _, .fz g] _ := hS11.blkOw' (i := 0) (m := 3) (size := 1) (xs := iv [(1 : Int), n, ((t.yes : Nat) : Int)]) rfl rfl rfl (by decide); clear hS11
 refine hK _ _ ⟨⟨trivial, fun _ _ => by first | exact q_load1 rfl (by kernel_rfl) (hS11o.cell (i := 1) rfl rfl)⟩, fun h => absurd h (by decide)⟩ ?_; clear hK K
 refine o_eff (i := 10) (by kernel_rfl) rfl (goes0 rfl) (fun K hK => ?_)
 have hns12 : ∀ x ∈ [(1 : Int), n, ((t.yes : Nat) : Int)], -9223372036854775808 ≤ x ∧ x ≤ 9223372036854775807 := by intro x hx; simp only [List.mem_cons, List.not_mem_nil, or_false] at hx; rcases hx with rfl | rfl | rfl <;> omega
 have hrl12 := rowE_len (recs_ok hns12)
 refine e_call (by kernel_rfl) (record_ok [(1 : Int), n, ((t.yes : Nat) : Int)] hns12 3 (by first | omega | (simp only [zll] <;> omega)) (by first | omega | (simp only [zll] <;> omega)) _ _ _ (hS11o.owG (i := 0) rfl)) rfl (after_N hS11o (fun v12 G12 w12 hv12 hS12 => ?_))
 clear hS11o
 obtain ⟨oa12, oc12, rfl, rfl⟩ := hv12
 have hS13 : St _ _ [.ow 5 1 oa12 (((rowE ([(1 : Int), n, ((t.yes : Nat) : Int)].map vI)).1).length) oc12 (bv ((rowE ([(1 : Int), n, ((t.yes : Nat) : Int)].map vI)).1)), _, _, _, _, _, _, _, _, .fz g] _ := hS12; clear hS12
 refine hK _ _ ⟨⟨trivial, fun _ _ => by first | exact q_load1 rfl (by kernel_rfl) (hS13.cell (i := 2) rfl rfl)⟩, fun h => absurd h (by decide)⟩ ?_; clear hK K
 refine o_eff (i := 11) (by kernel_rfl) rfl (goes0 rfl) (fun K hK => ?_)
 have hS15 := hS13.fr9; clear hS13
 have hS16 := hS15.fr9; clear hS15
 have hS17 := hS16.fr9; clear hS16
 obtain ⟨g18, hg18, hG18⟩ := St.rogO (Γ1 := [_, _, _]) (i := 0) hS17 rfl
 refine e_call (by kernel_rfl) (wAppend_ok _ _ _ _ _ _ _ _ _ _ _ (by first | omega | (simp only [zll] <;> omega)) hl (by first | omega | (simp only [zll] <;> omega)) (by first | omega | (simp only [zll] <;> omega)) hR _ ((rowE ([(1 : Int), n, ((t.yes : Nat) : Int)].map vI)).1) (rowE_bytes (recs_ok hns12)) _ _ (by first | omega | (simp only [zll] <;> omega)) hG18 _ hg18 (St.begin (Γ := [_, _, _]) hS17)) rfl (after_M (Γ1 := [_, _, _]) hS17 (fun v14 G14 w14 hv14 hS14 => ?_))
 clear hS17
 obtain ⟨ad14, cp14, rs14, da14, dc14, g14, rfl, rfl, hle14, hrs14, hab14⟩ := hv14
 have hS19 : St _ _ [wk kw kd ad14 cp14 rs14, dk kd da14 dc14 (waL l ((rowE ([(1 : Int), n, ((t.yes : Nat) : Int)].map vI)).1)) bb s, .fz g14, _, _, _, _, _, _, _] _ := hS14; clear hS14
 have hL14 := waL_len l ((rowE ([(1 : Int), n, ((t.yes : Nat) : Int)].map vI)).1)
 have hOm14 := LOk.mono hO hle14
 refine hK _ _ ⟨⟨trivial, fun h => absurd h (by decide)⟩, fun h => absurd h (by decide)⟩ ?_; clear hK K
 refine o_pure (i := 12) (fun j w => ⟨(fun j w => ⟨(fun _ _ => trivial) j w, fun _ h => h⟩) j w, fun _ h => h⟩) rfl rfl (by kernel_rfl) (goes0 rfl) (QOk.then (QOk.then QOk.body)) (fun w => q_move rfl) ?_
 refine o_pure (i := 13) (fun j w => ⟨(fun j w => ⟨(fun _ _ => trivial) j w, fun _ h => h⟩) j w, fun _ h => h⟩) rfl rfl (by kernel_rfl) (goes0 rfl) (QOk.then (QOk.then QOk.body)) (fun w => q_extract rfl rfl) ?_
 refine o_pure (i := 14) (fun j w => ⟨(fun j w => ⟨(fun _ _ => trivial) j w, fun _ h => h⟩) j w, fun _ h => h⟩) rfl rfl (by kernel_rfl) (goes0 rfl) (QOk.then (QOk.then QOk.body)) (fun w => q_extract rfl rfl) ?_
 refine o_pure (i := 15) (fun j w => ⟨(fun j w => ⟨(fun _ _ => trivial) j w, fun _ h => h⟩) j w, fun _ h => h⟩) rfl rfl (by kernel_rfl) (goes0 rfl) (QOk.then (QOk.then QOk.body)) (fun w => q_assignI rfl) ?_
 refine o_pure (i := 16) (fun j w => ⟨(fun j w => ⟨(fun _ _ => trivial) j w, fun _ h => h⟩) j w, fun _ h => h⟩) rfl rfl (by kernel_rfl) (goes0 rfl) (QOk.then (QOk.then QOk.body)) (fun w => q_assignI rfl) ?_
 refine o_done (by kernel_rfl) ?_
 refine hK9 _ _ ?_
 refine wp_seq_k (fun K20 hK20 => ?_)
 refine wp_region_lit ?_
 refine l_q rfl rfl (q_moveI rfl) ?_
 refine l_q rfl rfl (q_neq rfl rfl) ?_
 refine l_nil ?_
 refine hK20 _ _ ?_
 refine c_cond rfl (fun hc21 => ?_) (fun hc21 => ?_)
 have hc21b := hc21
 try simp only [zbb] at hc21
 refine wp_seq_k (fun K22 hK22 => ?_)
 refine wp_region_lit ?_
 refine l_q rfl rfl (q_moveI rfl) ?_
 refine l_q rfl rfl (q_assignI rfl) ?_
 refine l_nil ?_
 refine hK22 _ _ ?_
 refine wp_ret ?_
 refine c_ret1 rfl rfl ?_
 have hS23 := hS19.fr2; clear hS19
 have hS24 := hS23.fr2; clear hS23
 have hS25 := hS24.fr2; clear hS24
 have hS26 := hS25.fr9; clear hS25
 have hS27 := hS26.fr9; clear hS26
 have hS28 := hS27.fr9; clear hS27
 have hS29 := hS28.fr9; clear hS28
 have hS30 := hS29.fr9; clear hS29
 have hS31 : St _ _ [_, _, _, _, _, _, _, .fz g14] _ := hS30.only 8; clear hS30
 exact ⟨_, _, rfl, ⟨_, _, _, _, _, _, rfl, rfl, hle14, hrs14, rs_len hab14⟩, hS31⟩
 have hc21b := hc21
 try simp only [zbb] at hc21
 exfalso; omega
end Go.Proofs.Yteojpdijmnpmgaa
namespace Go.Proofs.Yteojpdijmnpmgaa
open Go.RowKit
/-- What a vote that counts comes to: t with it. -/
def vot2 (nd n : Int) (t : Tx) (T : List (Int × Tx)) (O : List Lr) (l : List Nat) (s : Nat) : Int × List (Int × Tx) × List Lr × List Nat × Nat :=
  if t.yes ||| t.read = t.nodes ∧ ¬t.yes = 0 ∧ ¬recE l [1, n, ((t.yes : Nat) : Int)] = 0 then (((recE l [1, n, ((t.yes : Nat) : Int)] : Nat) : Int), T, O, recL l [1, n, ((t.yes : Nat) : Int)], s)
  else (0, decF nd n t (setT T n t) O l s)
def votesF (nd n lk : Int) (t : Tx) (one : Nat) (T : List (Int × Tx)) (O : List Lr) (l : List Nat) (s : Nat) : Int × List (Int × Tx) × List Lr × List Nat × Nat :=
  if t.nodes &&& one = 0 ∨ ¬(t.yes ||| t.read) &&& one = 0 then (0, T, O, l, s)
  else if lk = 3 then (0, delT T n, O ++ sends 6 nd n (nodesTo (t.nodes ^^^ (t.nodes &&& one)) 16) 0, l, s)
  else if lk = 2 then vot2 nd n (Tx.mk t.nodes (t.yes ||| one) t.read t.asked t.com t.tell t.ticks) T O l s
  else vot2 nd n (Tx.mk t.nodes t.yes (t.read ||| one) t.asked t.com t.tell t.ticks) T O l s
section
variable {nd n lk : Int} {t : Tx} {one : Nat} {T : List (Int × Tx)} {O : List Lr} {l : List Nat} {s : Nat}
theorem vo_1 (h : t.nodes &&& one = 0 ∨ ¬(t.yes ||| t.read) &&& one = 0) : votesF nd n lk t one T O l s = (0, T, O, l, s) := if_pos h
theorem vo_2 (h : ¬(t.nodes &&& one = 0 ∨ ¬(t.yes ||| t.read) &&& one = 0)) (h2 : lk = 3) : votesF nd n lk t one T O l s = (0, delT T n, O ++ sends 6 nd n (nodesTo (t.nodes ^^^ (t.nodes &&& one)) 16) 0, l, s) := (if_neg h).trans (if_pos h2)
theorem vo_3 (h : ¬(t.nodes &&& one = 0 ∨ ¬(t.yes ||| t.read) &&& one = 0)) (h2 : lk = 2) : votesF nd n lk t one T O l s = vot2 nd n (Tx.mk t.nodes (t.yes ||| one) t.read t.asked t.com t.tell t.ticks) T O l s := (if_neg h).trans ((if_neg (by omega)).trans (if_pos h2))
theorem vo_4 (h : ¬(t.nodes &&& one = 0 ∨ ¬(t.yes ||| t.read) &&& one = 0)) (h2 : ¬lk = 3) (h3 : ¬lk = 2) : votesF nd n lk t one T O l s = vot2 nd n (Tx.mk t.nodes t.yes (t.read ||| one) t.asked t.com t.tell t.ticks) T O l s := (if_neg h).trans ((if_neg h2).trans (if_neg h3))
theorem v2_bad (h : t.yes ||| t.read = t.nodes ∧ ¬t.yes = 0 ∧ ¬recE l [1, n, ((t.yes : Nat) : Int)] = 0) : vot2 nd n t T O l s = (((recE l [1, n, ((t.yes : Nat) : Int)] : Nat) : Int), T, O, recL l [1, n, ((t.yes : Nat) : Int)], s) := if_pos h
theorem v2_ok (h : ¬(t.yes ||| t.read = t.nodes ∧ ¬t.yes = 0 ∧ ¬recE l [1, n, ((t.yes : Nat) : Int)] = 0)) : vot2 nd n t T O l s = (0, decF nd n t (setT T n t) O l s) := if_neg h
end
attribute [local irreducible] Oper.wp Sem.run Code.wp wpList wpAnyO callFunc execOp Calls
attribute [local irreducible] toU short rencs renc rowE encRow rightB zig unzig decRw rightL risB lastN bitsOf nodesTo readL recB ofL sends getT delT setT waL waE waN waR apL apE decF vot2
set_option maxHeartbeats 2000000 in
set_option maxRecDepth 100000 in
theorem votes_ok (k kw : Nat) (nd : Int) (inc cnt mb : Nat) (oa : Option Addr) (O : List Lo) (oc : Nat) (n : Int) (A : List (Int × Nat × Tx)) (b : Nat) (t : Tx) (B : List (Int × Nat × Tx)) (hT : TOk (A ++ (n, b, t) :: B)) (g : Gh) (hO : LOk g O) (hol0 : O.length ≤ 100000) (kd : Nat) (wa : Option Addr) (wc : Nat) (rs : List Rc) (da : Option Addr) (dc : Nat) (l : List Nat) (bb s : Nat) (hrl : rs.length ≤ 500000) (hl : Bytes l) (hbb : bb + l.length ≤ 500000000) (hs : s ≤ l.length) (hR : RsOk g rs) (lk : Int) (m : Nat) (hm : m < 16) (lt : Int) (an : Option Addr) (nl cn : Nat)  (w : World) (hS : St w (owns [.blk k (.cells #[pV kw, .int .i64 nd, .int .i64 (inc : Int), .int .i64 (cnt : Int), .map (some mb), .slice oa O.length oc] 68), .mp (.int .i64) mb (List.map tc (A ++ (n, b, t) :: B)), .blk b (.cells #[.int .i64 ((t.nodes : Nat) : Int), .int .i64 ((t.yes : Nat) : Int), .int .i64 ((t.read : Nat) : Int), .bool t.asked, .bool t.com, .int .i64 ((t.tell : Nat) : Int), .int .i64 ((t.ticks : Nat) : Int)] 80), .pk (List.map tb (A ++ B)), .ow 42 5 oa O.length oc (List.flatMap lo O), wk kw kd wa wc rs, dk kd da dc l bb s, .fz g]) [.blk k (.cells #[pV kw, .int .i64 nd, .int .i64 (inc : Int), .int .i64 (cnt : Int), .map (some mb), .slice oa O.length oc] 68), .mp (.int .i64) mb (List.map tc (A ++ (n, b, t) :: B)), .blk b (.cells #[.int .i64 ((t.nodes : Nat) : Int), .int .i64 ((t.yes : Nat) : Int), .int .i64 ((t.read : Nat) : Int), .bool t.asked, .bool t.com, .int .i64 ((t.tell : Nat) : Int), .int .i64 ((t.ticks : Nat) : Int)] 80), .pk (List.map tb (A ++ B)), .ow 42 5 oa O.length oc (List.flatMap lo O), wk kw kd wa wc rs, dk kd da dc l bb s, .fz g] w) : Calls Try.prog 37 #[pV k, pV b, .agg #[.int .i64 lk, .int .i64 (m : Int), .int .i64 lt, .int .i64 n, .slice an nl cn]] w (Post w [.blk k (.cells #[pV kw, .int .i64 nd, .int .i64 (inc : Int), .int .i64 (cnt : Int), .map (some mb), .slice oa O.length oc] 68), .mp (.int .i64) mb (List.map tc (A ++ (n, b, t) :: B)), .blk b (.cells #[.int .i64 ((t.nodes : Nat) : Int), .int .i64 ((t.yes : Nat) : Int), .int .i64 ((t.read : Nat) : Int), .bool t.asked, .bool t.com, .int .i64 ((t.tell : Nat) : Int), .int .i64 ((t.ticks : Nat) : Int)] 80), .pk (List.map tb (A ++ B)), .ow 42 5 oa O.length oc (List.flatMap lo O), wk kw kd wa wc rs, dk kd da dc l bb s, .fz g] fun v G => CoW k kw nd inc mb kd bb rs g (.int .i64 (votesF nd n lk t (1 * 2 ^ m) (absT (A ++ (n, b, t) :: B)) (O.map Lo.l) l s).1) (cnt, (votesF nd n lk t (1 * 2 ^ m) (absT (A ++ (n, b, t) :: B)) (O.map Lo.l) l s).2.1, (votesF nd n lk t (1 * 2 ^ m) (absT (A ++ (n, b, t) :: B)) (O.map Lo.l) l s).2.2.1, (votesF nd n lk t (1 * 2 ^ m) (absT (A ++ (n, b, t) :: B)) (O.map Lo.l) l s).2.2.2.1, (votesF nd n lk t (1 * 2 ^ m) (absT (A ++ (n, b, t) :: B)) (O.map Lo.l) l s).2.2.2.2) v G) := by
 have hTn := (hT.2 (n, b, t) (List.mem_append_right _ (.head _))).1
 have ht1 : t.nodes < 65536 := hTn.1
 have ht2 : t.yes < 65536 := hTn.2.1
 have ht3 : t.read < 65536 := hTn.2.2.1
 have ht4 : t.tell < 65536 := hTn.2.2.2.1
 have ht5 : t.ticks < 5 := hTn.2.2.2.2
 have hn0 : 0 ≤ n ∧ n ≤ 2199023255552 := (hT.2 (n, b, t) (List.mem_append_right _ (.head _))).2
 have hp16 : 1 * 2 ^ m ≤ 32768 := pow_le16 hm
 have hp65 : 1 * 2 ^ m < 65536 := by omega
 have hsn : t.nodes ^^^ (t.nodes &&& (1 * 2 ^ m)) < 65536 := sub_lt ht1
 have hyr : t.yes ||| t.read < 65536 := or_lt ht2 ht3
 refine c_enter Try.func37 rfl rfl rfl ?_
 refine wp_seq_k (fun K1 hK1 => ?_)
 refine wp_region_lit ?_
 refine l_e rfl (fun K hK => ?_)
 refine e_boxA hS rfl (fun b2 w2 (hS2 : St _ _ [.blk b2 (.cells #[.int .i64 lk, .int .i64 (m : Int), .int .i64 lt, .int .i64 n, .slice an nl cn] 42), .blk k (.cells #[.pointer (some ⟨kw, 0, none⟩), .int .i64 nd, .int .i64 (inc : Int), .int .i64 (cnt : Int), .map (some mb), .slice oa O.length oc] 68), .mp (.int .i64) mb (List.map tc (A ++ (n, b, t) :: B)), .blk b (.cells #[.int .i64 ((t.nodes : Nat) : Int), .int .i64 ((t.yes : Nat) : Int), .int .i64 ((t.read : Nat) : Int), .bool t.asked, .bool t.com, .int .i64 ((t.tell : Nat) : Int), .int .i64 ((t.ticks : Nat) : Int)] 80), .pk (List.map tb (A ++ B)), .ow 42 5 oa O.length oc (List.flatMap lo O), wk kw kd wa wc rs, dk kd da dc l bb s, .fz g] _) => ?_)
 clear hS
 refine hK _ _ ?_; clear hK K
 refine l_q rfl rfl (q_assignI rfl) ?_
 refine l_nil ?_
 refine hK1 _ _ ?_
 refine wp_seq_k (fun K3 hK3 => ?_)
 refine wp_region_lit ?_
 refine l_q rfl rfl (q_fieldAddr (ft := 3) (o := 1) rfl (by kernel_rfl)) ?_
 refine l_q rfl rfl (q_load1 rfl (by kernel_rfl) (hS2.cell (i := 0) rfl rfl)) ?_
 refine l_q rfl rfl (q_shlN (k := .i64) (a := 1) (b := m) rfl rfl (by show _ ≤ 64; omega) (wrap_fit_i64 (by omega))) ?_
 refine l_q rfl rfl (q_assignI rfl) ?_
 refine l_nil ?_
 refine hK3 _ _ ?_
 refine wp_seq_k (fun K4 hK4 => ?_)
 refine wp_seq_k (fun K5 hK5 => ?_)
 refine r_any (by kernel_rfl) hS2 (fun w6 hS6 => ?_)
 clear hS2
 refine o_pure (i := 0) (fun _ _ => trivial) rfl rfl (by kernel_rfl) (goes0 rfl) (QOk.then (QOk.then QOk.body)) (fun w => q_moveP rfl) ?_
 refine o_pure (i := 1) (fun _ _ => trivial) rfl rfl (by kernel_rfl) (goes0 rfl) (QOk.then (QOk.then QOk.body)) (fun w => q_nilCheck rfl) ?_
 refine o_pure (i := 2) (fun _ _ => trivial) rfl rfl (by kernel_rfl) (goes0 rfl) (QOk.then (QOk.then QOk.body)) (fun w => q_fieldAddr (ft := 78) (o := 0) rfl (by kernel_rfl)) ?_
 refine o_held (i := 3) [5, 6, 7, 8, 9, 10, 11, 12, 13, 14, 15, 16, 17, 18, 19, 20] (fun _ _ => trivial) rfl rfl (by kernel_rfl) (goes0 rfl) (QOk.then (QOk.then QOk.body)) (q_load1 rfl (by kernel_rfl) (hS6.cell (i := 3) rfl rfl)) ?_
 refine o_pure (i := 4) (fun j w => ⟨(fun _ _ => trivial) j w, fun _ h => h⟩) rfl rfl (by kernel_rfl) (goes0 rfl) (QOk.then (QOk.then QOk.body)) (fun w => q_moveI rfl) ?_
 refine o_pure (i := 5) (fun j w => ⟨(fun _ _ => trivial) j w, fun _ h => h⟩) rfl rfl (by kernel_rfl) (goes0 rfl) (QOk.then (QOk.then QOk.body)) (fun w => q_andN (a := t.nodes) (b := (1 * 2 ^ m)) 63 rfl rfl (by show _ < 9223372036854775808; omega) (by show _ < 9223372036854775808; omega) (.inr (by decide))) ?_
 refine o_pure (i := 6) (fun j w => ⟨(fun _ _ => trivial) j w, fun _ h => h⟩) rfl rfl (by kernel_rfl) (goes0 rfl) (QOk.then (QOk.then QOk.body)) (fun w => q_eql rfl rfl) ?_
 refine o_pure (i := 7) (fun j w => ⟨(fun _ _ => trivial) j w, fun _ h => h⟩) rfl rfl (by kernel_rfl) (goes0 rfl) (QOk.then (QOk.then QOk.body)) (fun w => q_moveB rfl) ?_
 refine g_splitO (t := 20) rfl (fun hg7 => ?_) (fun hg7 => ?_)
 have hg7b := hg7
 try simp only [zbb] at hg7
 refine o_off (i := 8) (fun j w => ⟨(fun _ _ => trivial) j w, fun _ h => h⟩) rfl rfl (by kernel_rfl) rfl rfl hg7b (QOk.then (QOk.then QOk.body)) ?_
 refine o_off (i := 9) (fun j w => ⟨(fun _ _ => trivial) j w, fun _ h => h⟩) rfl rfl (by kernel_rfl) rfl rfl hg7b (QOk.then (QOk.then QOk.body)) ?_
 refine o_off (i := 10) (fun j w => ⟨(fun _ _ => trivial) j w, fun _ h => h⟩) rfl rfl (by kernel_rfl) rfl rfl hg7b (QOk.then (QOk.then QOk.body)) ?_
 refine o_off (i := 11) (fun j w => ⟨(fun _ _ => trivial) j w, fun _ h => h⟩) rfl rfl (by kernel_rfl) rfl rfl hg7b (QOk.then (QOk.then QOk.body)) ?_
 refine o_off (i := 12) (fun j w => ⟨(fun _ _ => trivial) j w, fun _ h => h⟩) rfl rfl (by kernel_rfl) rfl rfl hg7b (QOk.then (QOk.then QOk.body)) ?_
 refine o_off (i := 13) (fun j w => ⟨(fun _ _ => trivial) j w, fun _ h => h⟩) rfl rfl (by kernel_rfl) rfl rfl hg7b (QOk.then (QOk.then QOk.body)) ?_
 refine o_off (i := 14) (fun j w => ⟨(fun _ _ => trivial) j w, fun _ h => h⟩) rfl rfl (by kernel_rfl) rfl rfl hg7b (QOk.then (QOk.then QOk.body)) ?_
 refine o_off (i := 15) (fun j w => ⟨(fun _ _ => trivial) j w, fun _ h => h⟩) rfl rfl (by kernel_rfl) rfl rfl hg7b (QOk.then (QOk.then QOk.body)) ?_
 refine o_off (i := 16) (fun j w => ⟨(fun _ _ => trivial) j w, fun _ h => h⟩) rfl rfl (by kernel_rfl) rfl rfl hg7b (QOk.then (QOk.then QOk.body)) ?_
 refine o_off (i := 17) (fun j w => ⟨(fun _ _ => trivial) j w, fun _ h => h⟩) rfl rfl (by kernel_rfl) rfl rfl hg7b (QOk.then (QOk.then QOk.body)) ?_
 refine o_off (i := 18) (fun j w => ⟨(fun _ _ => trivial) j w, fun _ h => h⟩) rfl rfl (by kernel_rfl) rfl rfl hg7b (QOk.then (QOk.then QOk.body)) ?_
 refine o_off (i := 19) (fun j w => ⟨(fun _ _ => trivial) j w, fun _ h => h⟩) rfl rfl (by kernel_rfl) rfl rfl hg7b (QOk.then (QOk.then QOk.body)) ?_
 refine o_pure (i := 20) (fun j w => ⟨(fun _ _ => trivial) j w, fun _ h => h⟩) rfl rfl (by kernel_rfl) (goes0 rfl) (QOk.then (QOk.then QOk.body)) (fun w => q_pickT rfl hg7b rfl) ?_
 refine o_done (by kernel_rfl) ?_
 refine hK5 _ _ ?_
 refine c_condT rfl rfl ?_
 refine wp_seq_k (fun K9 hK9 => ?_)
 refine wp_region_lit ?_
 refine l_q rfl rfl (q_assignI rfl) ?_
 refine l_nil ?_
 refine hK9 _ _ ?_
 refine wp_ret ?_
 refine c_ret1 rfl rfl ?_
 have hS10 := hS6.fr4; clear hS6
 have hS11 := hS10.fr4; clear hS10
 have hS12 : St _ _ [.pk (List.map tb (A ++ (n, b, t) :: B)), _, _, _, _, _, _, .fz g] _ := tb_put (q := (n, b, t)) hS11; clear hS11
 have hS13 := hS12.fr7; clear hS12
 have hS14 := hS13.fr7; clear hS13
 have hS15 := hS14.fr7; clear hS14
 have hS16 := hS15.fr7; clear hS15
 have hS17 := hS16.fr4; clear hS16
 have hS18 := hS17.fr7; clear hS17
 have hS19 := hS18.fr7; clear hS18
 have hS20 : St _ _ [_, _, _, _, _, _, .fz g] _ := hS19.only 7; clear hS19
 have hS21 : St _ _ [co k kw nd inc cnt mb oa O oc (A ++ (n, b, t) :: B), _, _, .fz g] _ := co_close hS20; clear hS20
 exact ⟨_, _, rfl, ⟨_, _, O, (A ++ (n, b, t) :: B), _, _, _, _, _, _, by rw [vo_1 (by omega)]; rfl, by rw [vo_1 (by omega)], Gle.refl _, hO, hT, by rw [vo_1 (by omega)], by rw [vo_1 (by omega)], hR, Nat.le_succ _⟩, hS21⟩
 have hg7b := hg7
 try simp only [zbb] at hg7
 refine o_pure (i := 8) (fun j w => ⟨(fun _ _ => trivial) j w, fun _ h => h⟩) rfl rfl (by kernel_rfl) (goes1 rfl rfl hg7b) (QOk.then (QOk.then QOk.body)) (fun w => q_moveP rfl) ?_
 refine o_pure (i := 9) (fun j w => ⟨(fun _ _ => trivial) j w, fun _ h => h⟩) rfl rfl (by kernel_rfl) (goes1 rfl rfl hg7b) (QOk.then (QOk.then QOk.body)) (fun w => q_nilCheck rfl) ?_
 refine o_pure (i := 10) (fun j w => ⟨(fun _ _ => trivial) j w, fun _ h => h⟩) rfl rfl (by kernel_rfl) (goes1 rfl rfl hg7b) (QOk.then (QOk.then QOk.body)) (fun w => q_fieldAddr (ft := 78) (o := 1) rfl (by kernel_rfl)) ?_
 refine o_held (i := 11) [16, 18, 19, 20] (fun j w => ⟨(fun _ _ => trivial) j w, fun _ h => h⟩) rfl rfl (by kernel_rfl) (goes1 rfl rfl hg7b) (QOk.then (QOk.then QOk.body)) (q_load1 rfl (by kernel_rfl) (hS6.cell (i := 3) rfl rfl)) ?_
 refine o_pure (i := 12) (fun j w => ⟨(fun j w => ⟨(fun _ _ => trivial) j w, fun _ h => h⟩) j w, fun _ h => h⟩) rfl rfl (by kernel_rfl) (goes1 rfl rfl hg7b) (QOk.then (QOk.then QOk.body)) (fun w => q_moveP rfl) ?_
 refine o_pure (i := 13) (fun j w => ⟨(fun j w => ⟨(fun _ _ => trivial) j w, fun _ h => h⟩) j w, fun _ h => h⟩) rfl rfl (by kernel_rfl) (goes1 rfl rfl hg7b) (QOk.then (QOk.then QOk.body)) (fun w => q_nilCheck rfl) ?_
 refine o_pure (i := 14) (fun j w => ⟨(fun j w => ⟨(fun _ _ => trivial) j w, fun _ h => h⟩) j w, fun _ h => h⟩) rfl rfl (by kernel_rfl) (goes1 rfl rfl hg7b) (QOk.then (QOk.then QOk.body)) (fun w => q_fieldAddr (ft := 78) (o := 2) rfl (by kernel_rfl)) ?_
 refine o_held (i := 15) [16, 18, 19, 20] (fun j w => ⟨(fun j w => ⟨(fun _ _ => trivial) j w, fun _ h => h⟩) j w, fun _ h => h⟩) rfl rfl (by kernel_rfl) (goes1 rfl rfl hg7b) (QOk.then (QOk.then QOk.body)) (q_load1 rfl (by kernel_rfl) (hS6.cell (i := 3) rfl rfl)) ?_
 refine o_pure (i := 16) (fun j w => ⟨(fun j w => ⟨(fun j w => ⟨(fun _ _ => trivial) j w, fun _ h => h⟩) j w, fun _ h => h⟩) j w, fun _ h => h⟩) rfl rfl (by kernel_rfl) (goes1 rfl rfl hg7b) (QOk.then (QOk.then QOk.body)) (fun w => q_orS (a := t.yes) (b := t.read) 63 rfl rfl (by show _ < 9223372036854775808; omega) (by show _ < 9223372036854775808; omega) (.inr (by decide))) ?_
 refine o_pure (i := 17) (fun j w => ⟨(fun j w => ⟨(fun j w => ⟨(fun _ _ => trivial) j w, fun _ h => h⟩) j w, fun _ h => h⟩) j w, fun _ h => h⟩) rfl rfl (by kernel_rfl) (goes1 rfl rfl hg7b) (QOk.then (QOk.then QOk.body)) (fun w => q_moveI rfl) ?_
 refine o_pure (i := 18) (fun j w => ⟨(fun j w => ⟨(fun j w => ⟨(fun _ _ => trivial) j w, fun _ h => h⟩) j w, fun _ h => h⟩) j w, fun _ h => h⟩) rfl rfl (by kernel_rfl) (goes1 rfl rfl hg7b) (QOk.then (QOk.then QOk.body)) (fun w => q_andN (a := (t.yes ||| t.read)) (b := (1 * 2 ^ m)) 63 rfl rfl (by show _ < 9223372036854775808; omega) (by show _ < 9223372036854775808; omega) (.inr (by decide))) ?_
 refine o_pure (i := 19) (fun j w => ⟨(fun j w => ⟨(fun j w => ⟨(fun _ _ => trivial) j w, fun _ h => h⟩) j w, fun _ h => h⟩) j w, fun _ h => h⟩) rfl rfl (by kernel_rfl) (goes1 rfl rfl hg7b) (QOk.then (QOk.then QOk.body)) (fun w => q_neq rfl rfl) ?_
 refine o_pure (i := 20) (fun j w => ⟨(fun j w => ⟨(fun j w => ⟨(fun _ _ => trivial) j w, fun _ h => h⟩) j w, fun _ h => h⟩) j w, fun _ h => h⟩) rfl rfl (by kernel_rfl) (goes0 rfl) (QOk.then (QOk.then QOk.body)) (fun w => q_pickF rfl hg7b rfl) ?_
 refine o_done (by kernel_rfl) ?_
 refine hK5 _ _ ?_
 refine c_cond rfl (fun hc22 => ?_) (fun hc22 => ?_)
 have hc22b := hc22
 try simp only [zbb] at hc22
 refine wp_seq_k (fun K23 hK23 => ?_)
 refine wp_region_lit ?_
 refine l_q rfl rfl (q_assignI rfl) ?_
 refine l_nil ?_
 refine hK23 _ _ ?_
 refine wp_ret ?_
 refine c_ret1 rfl rfl ?_
 have hS24 := hS6.fr4; clear hS6
 have hS25 := hS24.fr4; clear hS24
 have hS26 : St _ _ [_, _, _, _, _, _, _, .fz g] _ := tb_put (q := (n, b, t)) hS25; clear hS25
 have hS27 := hS26.fr7; clear hS26
 have hS28 := hS27.fr7; clear hS27
 have hS29 := hS28.fr7; clear hS28
 have hS30 := hS29.fr7; clear hS29
 have hS31 := hS30.fr4; clear hS30
 have hS32 := hS31.fr7; clear hS31
 have hS33 := hS32.fr7; clear hS32
 have hS34 : St _ _ [_, _, _, _, _, _, .fz g] _ := hS33.only 7; clear hS33
 have hS35 : St _ _ [_, _, _, .fz g] _ := co_close hS34; clear hS34
 exact ⟨_, _, rfl, ⟨_, _, O, (A ++ (n, b, t) :: B), _, _, _, _, _, _, by rw [vo_1 (by omega)]; rfl, by rw [vo_1 (by omega)], Gle.refl _, hO, hT, by rw [vo_1 (by omega)], by rw [vo_1 (by omega)], hR, Nat.le_succ _⟩, hS35⟩
 have hc22b := hc22
 try simp only [zbb] at hc22
 refine wp_skip ?_
 refine hK4 _ _ ?_
 refine wp_seq_k (fun K36 hK36 => ?_)
 refine wp_region_lit ?_
 refine l_q rfl rfl (q_moveP rfl) ?_
 refine l_q rfl rfl (q_nilCheck rfl) ?_
 refine l_q rfl rfl (q_loadA (m := 7) rfl (by kernel_rfl) (by kernel_rfl) (hS6.blk (i := 3) rfl) rfl rfl) ?_
 refine l_e rfl (fun K hK => ?_)
 refine e_alloc (zv := .agg #[.int .i64 0, .int .i64 0, .int .i64 0, .bool false, .bool false, .int .i64 0, .int .i64 0]) hS6 (by kernel_rfl) (fun b37 w37 (hS37 : St _ _ [.blk b37 (.cells #[.int .i64 (0 : Int), .int .i64 (0 : Int), .int .i64 (0 : Int), .bool false, .bool false, .int .i64 (0 : Int), .int .i64 (0 : Int)] 80), _, _, _, _, _, _, _, _, .fz g] _) => ?_)
 clear hS6
 refine hK _ _ ?_; clear hK K
 refine l_e rfl (fun K hK => ?_)
 refine e_storeA hS37 rfl rfl (by kernel_rfl) (by repeat' (first | exact trivial | refine ⟨by first | rfl | assumption | exact one_if (by assumption), ?_⟩)) (i := 0) rfl rfl (fun w38 (hS38 : St _ _ [.blk b37 (.cells #[.int .i64 ((t.nodes : Nat) : Int), .int .i64 ((t.yes : Nat) : Int), .int .i64 ((t.read : Nat) : Int), .bool t.asked, .bool t.com, .int .i64 ((t.tell : Nat) : Int), .int .i64 ((t.ticks : Nat) : Int)] 80), _, _, _, _, _, _, _, _, .fz g] _) => ?_)
 clear hS37
 refine hK _ _ ?_; clear hK K
 refine l_nil ?_
 refine hK36 _ _ ?_
 refine wp_seq_k (fun K39 hK39 => ?_)
 refine wp_seq_k (fun K40 hK40 => ?_)
 refine wp_region_lit ?_
 refine l_q rfl rfl (q_fieldAddr (ft := 40) (o := 0) rfl (by kernel_rfl)) ?_
 refine l_q rfl rfl (q_load1 rfl (by kernel_rfl) (hS38.cell (i := 1) rfl rfl)) ?_
 refine l_nil ?_
 refine hK40 _ _ ?_
 refine wp_block ?_
 refine wp_seq_k (fun K41 hK41 => ?_)
 refine wp_region_lit ?_
 refine l_q rfl rfl (q_eql rfl rfl) ?_
 refine l_q rfl rfl (q_assignB rfl) ?_
 refine l_nil ?_
 refine hK41 _ _ ?_
 refine c_cond rfl (fun hc42 => ?_) (fun hc42 => ?_)
 have hc42b := hc42
 try simp only [zbb] at hc42
 refine wp_seq_k (fun K43 hK43 => ?_)
 refine r_any (by kernel_rfl) hS38 (fun w44 hS44 => ?_)
 clear hS38
 refine o_pure (i := 0) (fun _ _ => trivial) rfl rfl (by kernel_rfl) (goes0 rfl) (QOk.then (QOk.inBlock (QOk.then QOk.body))) (fun w => q_moveP rfl) ?_
 refine o_pure (i := 1) (fun _ _ => trivial) rfl rfl (by kernel_rfl) (goes0 rfl) (QOk.then (QOk.inBlock (QOk.then QOk.body))) (fun w => q_fieldAddr (ft := 3) (o := 3) rfl (by kernel_rfl)) ?_
 refine o_held (i := 2) [9] (fun _ _ => trivial) rfl rfl (by kernel_rfl) (goes0 rfl) (QOk.then (QOk.inBlock (QOk.then QOk.body))) (q_load1 rfl (by kernel_rfl) (hS44.cell (i := 1) rfl rfl)) ?_
 refine o_pure (i := 3) (fun j w => ⟨(fun _ _ => trivial) j w, fun _ h => h⟩) rfl rfl (by kernel_rfl) (goes0 rfl) (QOk.then (QOk.inBlock (QOk.then QOk.body))) (fun w => q_moveP rfl) ?_
 refine o_pure (i := 4) (fun j w => ⟨(fun _ _ => trivial) j w, fun _ h => h⟩) rfl rfl (by kernel_rfl) (goes0 rfl) (QOk.then (QOk.inBlock (QOk.then QOk.body))) (fun w => q_nilCheck rfl) ?_
 refine o_pure (i := 5) (fun j w => ⟨(fun _ _ => trivial) j w, fun _ h => h⟩) rfl rfl (by kernel_rfl) (goes0 rfl) (QOk.then (QOk.inBlock (QOk.then QOk.body))) (fun w => q_fieldAddr (ft := 78) (o := 0) rfl (by kernel_rfl)) ?_
 refine o_held (i := 6) [8, 9] (fun j w => ⟨(fun _ _ => trivial) j w, fun _ h => h⟩) rfl rfl (by kernel_rfl) (goes0 rfl) (QOk.then (QOk.inBlock (QOk.then QOk.body))) (q_load1 rfl (by kernel_rfl) (hS44.cell (i := 4) rfl rfl)) ?_
 refine o_pure (i := 7) (fun j w => ⟨(fun j w => ⟨(fun _ _ => trivial) j w, fun _ h => h⟩) j w, fun _ h => h⟩) rfl rfl (by kernel_rfl) (goes0 rfl) (QOk.then (QOk.inBlock (QOk.then QOk.body))) (fun w => q_moveI rfl) ?_
 refine o_pure (i := 8) (fun j w => ⟨(fun j w => ⟨(fun _ _ => trivial) j w, fun _ h => h⟩) j w, fun _ h => h⟩) rfl rfl (by kernel_rfl) (goes0 rfl) (QOk.then (QOk.inBlock (QOk.then QOk.body))) (fun w => q_andNotN (a := t.nodes) (b := (1 * 2 ^ m)) 63 rfl rfl (by show _ < 9223372036854775808; omega) (by show _ < 9223372036854775808; omega) (.inr (by decide))) ?_
 refine o_eff (i := 9) (by kernel_rfl) rfl (goes0 rfl) (fun K hK => ?_)
 have hS46 := hS44.fr9; clear hS44
 have hS47 := hS46.fr7; clear hS46
 have hS48 := hS47.fr5; clear hS47
 have hS49 := hS48.fr5; clear hS48
 refine e_call (by kernel_rfl) (abort_ok k _ nd _ _ _ _ _ _ n A b t B hT _ hO (by first | omega | (simp only [zll] <;> omega)) (t.nodes ^^^ (t.nodes &&& (1 * 2 ^ m))) (by first | omega | (simp only [zll] <;> omega)) _ (St.begin (Γ := [_, _, _, _]) hS49)) rfl (after_M (Γ1 := [_, _, _, _]) hS49 (fun v45 G45 w45 hv45 hS45 => ?_))
 clear hS49
 obtain ⟨oa45, oc45, O45, g45, rfl, hle45, hO45, hOe45⟩ := hv45
 have hS50 : St _ _ [.blk k (.cells #[.pointer (some ⟨kw, 0, none⟩), .int .i64 nd, .int .i64 (inc : Int), .int .i64 (cnt : Int), .map (some mb), .slice oa45 O45.length oc45] 68), .mp (.int .i64) mb (List.map tc (A ++ B)), .ow 42 5 oa45 O45.length oc45 (List.flatMap lo O45), .fz g45, _, _, _, _, _, _] _ := hS45; clear hS45
 have hOl45 : O45.length ≤ O.length + 16 := sends_len hOe45
 refine hK _ _ ⟨⟨trivial, fun h => absurd h (by decide)⟩, fun h => absurd h (by decide)⟩ ?_; clear hK K
 refine o_done (by kernel_rfl) ?_
 refine hK43 _ _ ?_
 refine wp_seq_k (fun K51 hK51 => ?_)
 refine wp_region_lit ?_
 refine l_q rfl rfl (q_assignI rfl) ?_
 refine l_nil ?_
 refine hK51 _ _ ?_
 refine wp_ret ?_
 refine c_ret1 rfl rfl ?_
 have hS52 := hS50.fr3; clear hS50
 have hS53 := hS52.fr9; clear hS52
 have hS54 := hS53.fr9; clear hS53
 have hS55 := hS54.fr5; clear hS54
 have hS56 := hS55.fr9; clear hS55
 have hS57 := hS56.fr6; clear hS56
 have hS58 := hS57.fr6; clear hS57
 have hS59 : St _ _ [_, _, _, _, _, _, .fz g45] _ := hS58.only 7; clear hS58
 have hS60 : St _ _ [co k kw nd inc cnt mb oa45 O45 oc45 (A ++ B), _, _, .fz g45] _ := co_close hS59; clear hS59
 exact ⟨_, _, rfl, ⟨_, _, O45, (A ++ B), _, _, _, _, _, _, by rw [vo_2 (by omega) (by omega)]; rfl, by rw [vo_2 (by omega) (by omega)], hle45, hO45, hT.del, by rw [vo_2 (by omega) (by omega)]; exact (delT_hit hT).symm, by rw [vo_2 (by omega) (by omega)]; exact hOe45, hR.mono hle45, Nat.le_succ _⟩, hS60⟩
 have hc42b := hc42
 try simp only [zbb] at hc42
 refine wp_seq_k (fun K61 hK61 => ?_)
 refine wp_region_lit ?_
 refine l_q rfl rfl (q_eql rfl rfl) ?_
 refine l_q rfl rfl (q_assignB rfl) ?_
 refine l_nil ?_
 refine hK61 _ _ ?_
 refine c_cond rfl (fun hc62 => ?_) (fun hc62 => ?_)
 have hc62b := hc62
 try simp only [zbb] at hc62
 refine wp_region_lit ?_
 refine l_q rfl rfl (q_moveP rfl) ?_
 refine l_q rfl rfl (q_nilCheck rfl) ?_
 refine l_q rfl rfl (q_fieldAddr (ft := 78) (o := 1) rfl (by kernel_rfl)) ?_
 refine l_q rfl rfl (q_load1 rfl (by kernel_rfl) (hS38.cell (i := 4) rfl rfl)) ?_
 refine l_q rfl rfl (q_moveI rfl) ?_
 refine l_q rfl rfl (q_orS (a := t.yes) (b := (1 * 2 ^ m)) 63 rfl rfl (by show _ < 9223372036854775808; omega) (by show _ < 9223372036854775808; omega) (.inr (by decide))) ?_
 refine l_q rfl rfl (q_nilCheck rfl) ?_
 refine l_q rfl rfl (q_fieldAddr (ft := 78) (o := 1) rfl (by kernel_rfl)) ?_
 refine l_e rfl (fun K hK => ?_)
 refine e_store1 hS38 rfl rfl (by kernel_rfl) (by first | rfl | assumption) (i := 4) rfl rfl (fun w63 (hS63 : St _ _ [_, _, _, _, .blk b (.cells #[.int .i64 ((t.nodes : Nat) : Int), .int .i64 (((t.yes ||| (1 * 2 ^ m)) : Nat) : Int), .int .i64 ((t.read : Nat) : Int), .bool t.asked, .bool t.com, .int .i64 ((t.tell : Nat) : Int), .int .i64 ((t.ticks : Nat) : Int)] 80), _, _, _, _, .fz g] _) => ?_)
 clear hS38
 refine hK _ _ ?_; clear hK K
 refine l_nil ?_
 refine hK39 _ _ ?_
 refine wp_seq_k (fun K64 hK64 => ?_)
 have hT' : TOk (A ++ (n, b, (Tx.mk t.nodes (t.yes ||| (1 * 2 ^ m)) t.read t.asked t.com t.tell t.ticks)) :: B) := hT.set ⟨ht1, or_lt ht2 hp65, ht3, ht4, ht5⟩
 have hS65 := hS63.fr3; clear hS63
 have hS66 : St _ _ [.mp (.int .i64) mb (List.map tc (A ++ (n, b, (Tx.mk t.nodes (t.yes ||| (1 * 2 ^ m)) t.read t.asked t.com t.tell t.ticks)) :: B)), _, _, _, _, _, _, _, _, .fz g] _ := mp_t (t' := (Tx.mk t.nodes (t.yes ||| (1 * 2 ^ m)) t.read t.asked t.com t.tell t.ticks)) hS65; clear hS65
 refine wp_region_lit ?_
 refine l_q rfl rfl (q_moveP rfl) ?_
 refine l_q rfl rfl (q_fieldAddr (ft := 3) (o := 3) rfl (by kernel_rfl)) ?_
 refine l_q rfl rfl (q_load1 rfl (by kernel_rfl) (hS66.cell (i := 2) rfl rfl)) ?_
 refine l_q rfl rfl (q_moveP rfl) ?_
 by_cases hbad : ((Tx.mk t.nodes (t.yes ||| (1 * 2 ^ m)) t.read t.asked t.com t.tell t.ticks).yes ||| (Tx.mk t.nodes (t.yes ||| (1 * 2 ^ m)) t.read t.asked t.com t.tell t.ticks).read = (Tx.mk t.nodes (t.yes ||| (1 * 2 ^ m)) t.read t.asked t.com t.tell t.ticks).nodes ∧ ¬(Tx.mk t.nodes (t.yes ||| (1 * 2 ^ m)) t.read t.asked t.com t.tell t.ticks).yes = 0 ∧ ¬recE l [1, n, (((Tx.mk t.nodes (t.yes ||| (1 * 2 ^ m)) t.read t.asked t.com t.tell t.ticks).yes : Nat) : Int)] = 0)
 refine l_e rfl (fun K hK => ?_)
 have hS68 := hS66.fr9; clear hS66
 have hS69 := hS68.fr9; clear hS68
 have hS70 := hS69.fr9; clear hS69
 have hS71 := hS70.fr9; clear hS70
 have hS72 := hS71.fr9; clear hS71
 have hS73 := hS72.fr9; clear hS72
 have hS74 := hS73.fr6; clear hS73
 have hS75 := hS74.fr9; clear hS74
 refine e_call (by kernel_rfl) (decided_bad k kw nd inc cnt mb oa O oc n A b (Tx.mk t.nodes (t.yes ||| (1 * 2 ^ m)) t.read t.asked t.com t.tell t.ticks) B hT' g hO hol0 kd wa wc rs da dc l bb s hrl hl hbb hs hR hbad.1 hbad.2.1 hbad.2.2 _ (St.begin (Γ := [_, _, _, _, _, _, _, _]) hS75)) rfl (after_M (Γ1 := [_, _, _, _, _, _, _, _]) hS75 (fun v67 G67 w67 hv67 hS67 => ?_))
 clear hS75
 obtain ⟨wa67, wc67, rs67, da67, dc67, g67, rfl, rfl, hle67, hrs67, hrl67⟩ := hv67
 have hS76 : St _ _ [_, _, _, _, _, wk kw kd wa67 wc67 rs67, dk kd da67 dc67 (recL l [1, n, (((Tx.mk t.nodes (t.yes ||| (1 * 2 ^ m)) t.read t.asked t.com t.tell t.ticks).yes : Nat) : Int)]) bb s, .fz g67, _, _] _ := hS67; clear hS67
 refine hK _ _ ?_; clear hK K
 refine l_q rfl rfl (q_assignI rfl) ?_
 refine l_nil ?_
 refine hK64 _ _ ?_
 refine wp_seq_k (fun K77 hK77 => ?_)
 refine wp_seq_k (fun K78 hK78 => ?_)
 refine wp_region_lit ?_
 refine l_q rfl rfl (q_moveI rfl) ?_
 refine l_q rfl rfl (q_neq rfl rfl) ?_
 refine l_nil ?_
 refine hK78 _ _ ?_
 refine c_cond rfl (fun hc79 => ?_) (fun hc79 => ?_)
 have hc79b := hc79
 try simp only [zbb] at hc79
 refine wp_region_lit ?_
 refine l_q rfl rfl (q_moveP rfl) ?_
 refine l_q rfl rfl (q_loadA (m := 7) rfl (by kernel_rfl) (by kernel_rfl) (hS76.blk (i := 8) rfl) rfl rfl) ?_
 refine l_q rfl rfl (q_nilCheck rfl) ?_
 refine l_e rfl (fun K hK => ?_)
 refine e_storeA hS76 rfl rfl (by kernel_rfl) (by repeat' (first | exact trivial | refine ⟨by first | rfl | assumption | exact one_if (by assumption), ?_⟩)) (i := 2) rfl rfl (fun w80 (hS80 : St _ _ [_, _, _, _, _, _, _, .fz g67, _, _] _) => ?_)
 clear hS76
 refine hK _ _ ?_; clear hK K
 refine l_nil ?_
 refine hK77 _ _ ?_
 refine wp_seq_k (fun K81 hK81 => ?_)
 refine wp_region_lit ?_
 refine l_q rfl rfl (q_moveI rfl) ?_
 refine l_q rfl rfl (q_assignI rfl) ?_
 refine l_nil ?_
 refine hK81 _ _ ?_
 refine wp_ret ?_
 refine c_ret1 rfl rfl ?_
 have hS82 := hS80.fr3; clear hS80
 have hS83 := hS82.fr3; clear hS82
 have hS84 : St _ _ [_, _, _, _, _, _, .fz g67, _, _] _ := tb_put (q := (n, b, t)) hS83; clear hS83
 have hS85 := hS84.fr2; clear hS84
 have hS86 : St _ _ [_, _, _, _, _, _, .fz g67, _, _] _ := mp_t (t' := t) hS85; clear hS85
 have hS87 := hS86.fr6; clear hS86
 have hS88 := hS87.fr6; clear hS87
 have hS89 := hS88.fr6; clear hS88
 have hS90 := hS89.fr6; clear hS89
 have hS91 := hS90.fr5; clear hS90
 have hS92 := hS91.fr5; clear hS91
 have hS93 := hS92.fr6; clear hS92
 have hS94 : St _ _ [_, _, _, _, _, _, .fz g67] _ := hS93.only 7; clear hS93
 have hS95 : St _ _ [_, _, _, .fz g67] _ := co_close hS94; clear hS94
 exact ⟨_, _, rfl, ⟨_, _, O, (A ++ (n, b, t) :: B), _, _, _, _, _, _, by rw [vo_3 (by omega) (by omega), v2_bad hbad]; rfl, by rw [vo_3 (by omega) (by omega), v2_bad hbad], hle67, hO.mono hle67, hT, by rw [vo_3 (by omega) (by omega), v2_bad hbad], by rw [vo_3 (by omega) (by omega), v2_bad hbad], hrs67, hrl67⟩, hS95⟩
 have hc79b := hc79
 try simp only [zbb] at hc79
 exact absurd (by show recE l [1, n, (((Tx.mk t.nodes (t.yes ||| (1 * 2 ^ m)) t.read t.asked t.com t.tell t.ticks).yes : Nat) : Int)] = 0; first | omega | (have := hc79; simp_all; done)) hbad.2.2
 refine l_e rfl (fun K hK => ?_)
 have hS97 := hS66.fr9; clear hS66
 have hS98 := hS97.fr9; clear hS97
 have hS99 := hS98.fr9; clear hS98
 have hS100 := hS99.fr9; clear hS99
 have hS101 := hS100.fr9; clear hS100
 have hS102 := hS101.fr9; clear hS101
 have hS103 := hS102.fr6; clear hS102
 have hS104 := hS103.fr9; clear hS103
 refine e_call (by kernel_rfl) (decided_good k kw nd inc cnt mb oa O oc n A b (Tx.mk t.nodes (t.yes ||| (1 * 2 ^ m)) t.read t.asked t.com t.tell t.ticks) B hT' g hO hol0 kd wa wc rs da dc l bb s hrl hl hbb hs hR (fun h1 h2 => Classical.byContradiction fun h3 => hbad ⟨h1, h2, h3⟩) _ (St.begin (Γ := [_, _, _, _, _, _, _, _]) hS104)) rfl (after_M (Γ1 := [_, _, _, _, _, _, _, _]) hS104 (fun v96 G96 w96 hv96 hS96 => ?_))
 clear hS104
 obtain ⟨oa96, oc96, O96, T96, wa96, wc96, rs96, da96, dc96, g96, rfl, rfl, hle96, hO96, hT96, hab96, hOe96, hrs96, hrl96⟩ := hv96
 have hS105 : St _ _ [co k kw nd inc cnt mb oa96 O96 oc96 T96, wk kw kd wa96 wc96 rs96, dk kd da96 dc96 (decF nd n (Tx.mk t.nodes (t.yes ||| (1 * 2 ^ m)) t.read t.asked t.com t.tell t.ticks) (absT (A ++ (n, b, (Tx.mk t.nodes (t.yes ||| (1 * 2 ^ m)) t.read t.asked t.com t.tell t.ticks)) :: B)) (O.map Lo.l) l s).2.2.1 bb (decF nd n (Tx.mk t.nodes (t.yes ||| (1 * 2 ^ m)) t.read t.asked t.com t.tell t.ticks) (absT (A ++ (n, b, (Tx.mk t.nodes (t.yes ||| (1 * 2 ^ m)) t.read t.asked t.com t.tell t.ticks)) :: B)) (O.map Lo.l) l s).2.2.2, .fz g96, _, _] _ := hS96; clear hS96
 refine hK _ _ ?_; clear hK K
 refine l_q rfl rfl (q_assignI rfl) ?_
 refine l_nil ?_
 refine hK64 _ _ ?_
 refine wp_seq_k (fun K106 hK106 => ?_)
 refine wp_seq_k (fun K107 hK107 => ?_)
 refine wp_region_lit ?_
 refine l_q rfl rfl (q_moveI rfl) ?_
 refine l_q rfl rfl (q_neq rfl rfl) ?_
 refine l_nil ?_
 refine hK107 _ _ ?_
 refine c_condF rfl (by decide) ?_
 refine wp_skip ?_
 refine hK106 _ _ ?_
 refine wp_seq_k (fun K109 hK109 => ?_)
 refine wp_region_lit ?_
 refine l_q rfl rfl (q_moveI rfl) ?_
 refine l_q rfl rfl (q_assignI rfl) ?_
 refine l_nil ?_
 refine hK109 _ _ ?_
 refine wp_ret ?_
 refine c_ret1 rfl rfl ?_
 have hS110 : St _ _ [_, _, _, .fz g96] _ := hS105.only 4; clear hS105
 exact ⟨_, _, rfl, ⟨_, _, O96, T96, _, _, _, _, _, _, by rw [vo_3 (by omega) (by omega), v2_ok hbad, setT_hit (b' := b) hT]; rfl, by rw [vo_3 (by omega) (by omega), v2_ok hbad, setT_hit (b' := b) hT], hle96, hO96, hT96, by rw [vo_3 (by omega) (by omega), v2_ok hbad, setT_hit (b' := b) hT]; exact hab96, by rw [vo_3 (by omega) (by omega), v2_ok hbad, setT_hit (b' := b) hT]; exact hOe96, hrs96, hrl96⟩, hS110⟩
 have hc62b := hc62
 try simp only [zbb] at hc62
 refine wp_region_lit ?_
 refine l_q rfl rfl (q_moveP rfl) ?_
 refine l_q rfl rfl (q_nilCheck rfl) ?_
 refine l_q rfl rfl (q_fieldAddr (ft := 78) (o := 2) rfl (by kernel_rfl)) ?_
 refine l_q rfl rfl (q_load1 rfl (by kernel_rfl) (hS38.cell (i := 4) rfl rfl)) ?_
 refine l_q rfl rfl (q_moveI rfl) ?_
 refine l_q rfl rfl (q_orS (a := t.read) (b := (1 * 2 ^ m)) 63 rfl rfl (by show _ < 9223372036854775808; omega) (by show _ < 9223372036854775808; omega) (.inr (by decide))) ?_
 refine l_q rfl rfl (q_nilCheck rfl) ?_
 refine l_q rfl rfl (q_fieldAddr (ft := 78) (o := 2) rfl (by kernel_rfl)) ?_
 refine l_e rfl (fun K hK => ?_)
 refine e_store1 hS38 rfl rfl (by kernel_rfl) (by first | rfl | assumption) (i := 4) rfl rfl (fun w111 (hS111 : St _ _ [_, _, _, _, .blk b (.cells #[.int .i64 ((t.nodes : Nat) : Int), .int .i64 ((t.yes : Nat) : Int), .int .i64 (((t.read ||| (1 * 2 ^ m)) : Nat) : Int), .bool t.asked, .bool t.com, .int .i64 ((t.tell : Nat) : Int), .int .i64 ((t.ticks : Nat) : Int)] 80), _, _, _, _, .fz g] _) => ?_)
 clear hS38
 refine hK _ _ ?_; clear hK K
 refine l_nil ?_
 refine hK39 _ _ ?_
 refine wp_seq_k (fun K112 hK112 => ?_)
 have hT' : TOk (A ++ (n, b, (Tx.mk t.nodes t.yes (t.read ||| (1 * 2 ^ m)) t.asked t.com t.tell t.ticks)) :: B) := hT.set ⟨ht1, ht2, or_lt ht3 hp65, ht4, ht5⟩
 have hS113 := hS111.fr3; clear hS111
 have hS114 : St _ _ [.mp (.int .i64) mb (List.map tc (A ++ (n, b, (Tx.mk t.nodes t.yes (t.read ||| (1 * 2 ^ m)) t.asked t.com t.tell t.ticks)) :: B)), _, _, _, _, _, _, _, _, .fz g] _ := mp_t (t' := (Tx.mk t.nodes t.yes (t.read ||| (1 * 2 ^ m)) t.asked t.com t.tell t.ticks)) hS113; clear hS113
 refine wp_region_lit ?_
 refine l_q rfl rfl (q_moveP rfl) ?_
 refine l_q rfl rfl (q_fieldAddr (ft := 3) (o := 3) rfl (by kernel_rfl)) ?_
 refine l_q rfl rfl (q_load1 rfl (by kernel_rfl) (hS114.cell (i := 2) rfl rfl)) ?_
 refine l_q rfl rfl (q_moveP rfl) ?_
 by_cases hbad : ((Tx.mk t.nodes t.yes (t.read ||| (1 * 2 ^ m)) t.asked t.com t.tell t.ticks).yes ||| (Tx.mk t.nodes t.yes (t.read ||| (1 * 2 ^ m)) t.asked t.com t.tell t.ticks).read = (Tx.mk t.nodes t.yes (t.read ||| (1 * 2 ^ m)) t.asked t.com t.tell t.ticks).nodes ∧ ¬(Tx.mk t.nodes t.yes (t.read ||| (1 * 2 ^ m)) t.asked t.com t.tell t.ticks).yes = 0 ∧ ¬recE l [1, n, (((Tx.mk t.nodes t.yes (t.read ||| (1 * 2 ^ m)) t.asked t.com t.tell t.ticks).yes : Nat) : Int)] = 0)
 refine l_e rfl (fun K hK => ?_)
 have hS116 := hS114.fr9; clear hS114
 have hS117 := hS116.fr9; clear hS116
 have hS118 := hS117.fr9; clear hS117
 have hS119 := hS118.fr9; clear hS118
 have hS120 := hS119.fr9; clear hS119
 have hS121 := hS120.fr9; clear hS120
 have hS122 := hS121.fr6; clear hS121
 have hS123 := hS122.fr9; clear hS122
 refine e_call (by kernel_rfl) (decided_bad k kw nd inc cnt mb oa O oc n A b (Tx.mk t.nodes t.yes (t.read ||| (1 * 2 ^ m)) t.asked t.com t.tell t.ticks) B hT' g hO hol0 kd wa wc rs da dc l bb s hrl hl hbb hs hR hbad.1 hbad.2.1 hbad.2.2 _ (St.begin (Γ := [_, _, _, _, _, _, _, _]) hS123)) rfl (after_M (Γ1 := [_, _, _, _, _, _, _, _]) hS123 (fun v115 G115 w115 hv115 hS115 => ?_))
 clear hS123
 obtain ⟨wa115, wc115, rs115, da115, dc115, g115, rfl, rfl, hle115, hrs115, hrl115⟩ := hv115
 have hS124 : St _ _ [_, _, _, _, _, wk kw kd wa115 wc115 rs115, dk kd da115 dc115 (recL l [1, n, (((Tx.mk t.nodes t.yes (t.read ||| (1 * 2 ^ m)) t.asked t.com t.tell t.ticks).yes : Nat) : Int)]) bb s, .fz g115, _, _] _ := hS115; clear hS115
 refine hK _ _ ?_; clear hK K
 refine l_q rfl rfl (q_assignI rfl) ?_
 refine l_nil ?_
 refine hK112 _ _ ?_
 refine wp_seq_k (fun K125 hK125 => ?_)
 refine wp_seq_k (fun K126 hK126 => ?_)
 refine wp_region_lit ?_
 refine l_q rfl rfl (q_moveI rfl) ?_
 refine l_q rfl rfl (q_neq rfl rfl) ?_
 refine l_nil ?_
 refine hK126 _ _ ?_
 refine c_cond rfl (fun hc127 => ?_) (fun hc127 => ?_)
 have hc127b := hc127
 try simp only [zbb] at hc127
 refine wp_region_lit ?_
 refine l_q rfl rfl (q_moveP rfl) ?_
 refine l_q rfl rfl (q_loadA (m := 7) rfl (by kernel_rfl) (by kernel_rfl) (hS124.blk (i := 8) rfl) rfl rfl) ?_
 refine l_q rfl rfl (q_nilCheck rfl) ?_
 refine l_e rfl (fun K hK => ?_)
 refine e_storeA hS124 rfl rfl (by kernel_rfl) (by repeat' (first | exact trivial | refine ⟨by first | rfl | assumption | exact one_if (by assumption), ?_⟩)) (i := 2) rfl rfl (fun w128 (hS128 : St _ _ [_, _, _, _, _, _, _, .fz g115, _, _] _) => ?_)
 clear hS124
 refine hK _ _ ?_; clear hK K
 refine l_nil ?_
 refine hK125 _ _ ?_
 refine wp_seq_k (fun K129 hK129 => ?_)
 refine wp_region_lit ?_
 refine l_q rfl rfl (q_moveI rfl) ?_
 refine l_q rfl rfl (q_assignI rfl) ?_
 refine l_nil ?_
 refine hK129 _ _ ?_
 refine wp_ret ?_
 refine c_ret1 rfl rfl ?_
 have hS130 := hS128.fr3; clear hS128
 have hS131 := hS130.fr3; clear hS130
 have hS132 : St _ _ [_, _, _, _, _, _, .fz g115, _, _] _ := tb_put (q := (n, b, t)) hS131; clear hS131
 have hS133 := hS132.fr2; clear hS132
 have hS134 : St _ _ [_, _, _, _, _, _, .fz g115, _, _] _ := mp_t (t' := t) hS133; clear hS133
 have hS135 := hS134.fr6; clear hS134
 have hS136 := hS135.fr6; clear hS135
 have hS137 := hS136.fr6; clear hS136
 have hS138 := hS137.fr6; clear hS137
 have hS139 := hS138.fr5; clear hS138
 have hS140 := hS139.fr5; clear hS139
 have hS141 := hS140.fr6; clear hS140
 have hS142 : St _ _ [_, _, _, _, _, _, .fz g115] _ := hS141.only 7; clear hS141
 have hS143 : St _ _ [_, _, _, .fz g115] _ := co_close hS142; clear hS142
 exact ⟨_, _, rfl, ⟨_, _, O, (A ++ (n, b, t) :: B), _, _, _, _, _, _, by rw [vo_4 (by omega) (by omega) (by omega), v2_bad hbad]; rfl, by rw [vo_4 (by omega) (by omega) (by omega), v2_bad hbad], hle115, hO.mono hle115, hT, by rw [vo_4 (by omega) (by omega) (by omega), v2_bad hbad], by rw [vo_4 (by omega) (by omega) (by omega), v2_bad hbad], hrs115, hrl115⟩, hS143⟩
 have hc127b := hc127
 try simp only [zbb] at hc127
 exact absurd (by show recE l [1, n, (((Tx.mk t.nodes t.yes (t.read ||| (1 * 2 ^ m)) t.asked t.com t.tell t.ticks).yes : Nat) : Int)] = 0; first | omega | (have := hc127; simp_all; done)) hbad.2.2
 refine l_e rfl (fun K hK => ?_)
 have hS145 := hS114.fr9; clear hS114
 have hS146 := hS145.fr9; clear hS145
 have hS147 := hS146.fr9; clear hS146
 have hS148 := hS147.fr9; clear hS147
 have hS149 := hS148.fr9; clear hS148
 have hS150 := hS149.fr9; clear hS149
 have hS151 := hS150.fr6; clear hS150
 have hS152 := hS151.fr9; clear hS151
 refine e_call (by kernel_rfl) (decided_good k kw nd inc cnt mb oa O oc n A b (Tx.mk t.nodes t.yes (t.read ||| (1 * 2 ^ m)) t.asked t.com t.tell t.ticks) B hT' g hO hol0 kd wa wc rs da dc l bb s hrl hl hbb hs hR (fun h1 h2 => Classical.byContradiction fun h3 => hbad ⟨h1, h2, h3⟩) _ (St.begin (Γ := [_, _, _, _, _, _, _, _]) hS152)) rfl (after_M (Γ1 := [_, _, _, _, _, _, _, _]) hS152 (fun v144 G144 w144 hv144 hS144 => ?_))
 clear hS152
 obtain ⟨oa144, oc144, O144, T144, wa144, wc144, rs144, da144, dc144, g144, rfl, rfl, hle144, hO144, hT144, hab144, hOe144, hrs144, hrl144⟩ := hv144
 have hS153 : St _ _ [co k kw nd inc cnt mb oa144 O144 oc144 T144, wk kw kd wa144 wc144 rs144, dk kd da144 dc144 (decF nd n (Tx.mk t.nodes t.yes (t.read ||| (1 * 2 ^ m)) t.asked t.com t.tell t.ticks) (absT (A ++ (n, b, (Tx.mk t.nodes t.yes (t.read ||| (1 * 2 ^ m)) t.asked t.com t.tell t.ticks)) :: B)) (O.map Lo.l) l s).2.2.1 bb (decF nd n (Tx.mk t.nodes t.yes (t.read ||| (1 * 2 ^ m)) t.asked t.com t.tell t.ticks) (absT (A ++ (n, b, (Tx.mk t.nodes t.yes (t.read ||| (1 * 2 ^ m)) t.asked t.com t.tell t.ticks)) :: B)) (O.map Lo.l) l s).2.2.2, .fz g144, _, _] _ := hS144; clear hS144
 refine hK _ _ ?_; clear hK K
 refine l_q rfl rfl (q_assignI rfl) ?_
 refine l_nil ?_
 refine hK112 _ _ ?_
 refine wp_seq_k (fun K154 hK154 => ?_)
 refine wp_seq_k (fun K155 hK155 => ?_)
 refine wp_region_lit ?_
 refine l_q rfl rfl (q_moveI rfl) ?_
 refine l_q rfl rfl (q_neq rfl rfl) ?_
 refine l_nil ?_
 refine hK155 _ _ ?_
 refine c_condF rfl (by decide) ?_
 refine wp_skip ?_
 refine hK154 _ _ ?_
 refine wp_seq_k (fun K157 hK157 => ?_)
 refine wp_region_lit ?_
 refine l_q rfl rfl (q_moveI rfl) ?_
 refine l_q rfl rfl (q_assignI rfl) ?_
 refine l_nil ?_
 refine hK157 _ _ ?_
 refine wp_ret ?_
 refine c_ret1 rfl rfl ?_
 have hS158 : St _ _ [_, _, _, .fz g144] _ := hS153.only 4; clear hS153
 exact ⟨_, _, rfl, ⟨_, _, O144, T144, _, _, _, _, _, _, by rw [vo_4 (by omega) (by omega) (by omega), v2_ok hbad, setT_hit (b' := b) hT]; rfl, by rw [vo_4 (by omega) (by omega) (by omega), v2_ok hbad, setT_hit (b' := b) hT], hle144, hO144, hT144, by rw [vo_4 (by omega) (by omega) (by omega), v2_ok hbad, setT_hit (b' := b) hT]; exact hab144, by rw [vo_4 (by omega) (by omega) (by omega), v2_ok hbad, setT_hit (b' := b) hT]; exact hOe144, hrs144, hrl144⟩, hS158⟩
end Go.Proofs.Yteojpdijmnpmgaa
namespace Go.Proofs.Yteojpdijmnpmgaa
open Go.RowKit
/-- What Hear comes to, of a letter that is right, to the node, of one of its transactions. -/
def hearF (nd n lk : Int) (one : Nat) (T : List (Int × Tx)) (O : List Lr) (l : List Nat) (s : Nat) : Int × List (Int × Tx) × List Lr × List Nat × Nat :=
  match getT T n with
  | none => if lk = 2 ∨ lk = 8 then (0, T, O ++ sends 6 nd n (nodesTo one 16) 0, l, s) else (0, T, O, l, s)
  | some t =>
    if t.com = true then (if lk = 2 ∨ lk = 8 then (0, T, O ++ sends 5 nd n (nodesTo one 16) 0, l, s) else if lk = 7 then ((doneF n t one T l).1, (doneF n t one T l).2.1, O, (doneF n t one T l).2.2, s) else (0, T, O, l, s))
    else (if lk = 2 ∨ lk = 3 ∨ lk = 4 then votesF nd n lk t one T O l s else (0, T, O, l, s))
section
variable {nd n lk : Int} {t : Tx} {one : Nat} {T : List (Int × Tx)} {O : List Lr} {l : List Nat} {s : Nat}
theorem he_n1 (h : getT T n = none) (h2 : lk = 2 ∨ lk = 8) : hearF nd n lk one T O l s = (0, T, O ++ sends 6 nd n (nodesTo one 16) 0, l, s) := by unfold hearF; rw [h]; exact if_pos h2
theorem he_n0 (h : getT T n = none) (h2 : ¬(lk = 2 ∨ lk = 8)) : hearF nd n lk one T O l s = (0, T, O, l, s) := by unfold hearF; rw [h]; exact if_neg h2
theorem he_c1 (h : getT T n = some t) (hc : t.com = true) (h2 : lk = 2 ∨ lk = 8) : hearF nd n lk one T O l s = (0, T, O ++ sends 5 nd n (nodesTo one 16) 0, l, s) := by unfold hearF; rw [h]; exact (if_pos hc).trans (if_pos h2)
theorem he_c2 (h : getT T n = some t) (hc : t.com = true) (h2 : lk = 7) : hearF nd n lk one T O l s = ((doneF n t one T l).1, (doneF n t one T l).2.1, O, (doneF n t one T l).2.2, s) := by unfold hearF; rw [h]; exact (if_pos hc).trans ((if_neg (by omega)).trans (if_pos h2))
theorem he_c0 (h : getT T n = some t) (hc : t.com = true) (h2 : ¬(lk = 2 ∨ lk = 8)) (h3 : ¬lk = 7) : hearF nd n lk one T O l s = (0, T, O, l, s) := by unfold hearF; rw [h]; exact (if_pos hc).trans ((if_neg h2).trans (if_neg h3))
theorem he_v1 (h : getT T n = some t) (hc : t.com = false) (h2 : lk = 2 ∨ lk = 3 ∨ lk = 4) : hearF nd n lk one T O l s = votesF nd n lk t one T O l s := by unfold hearF; rw [h]; exact (if_neg (by rw [hc]; decide)).trans (if_pos h2)
theorem he_v0 (h : getT T n = some t) (hc : t.com = false) (h2 : ¬(lk = 2 ∨ lk = 3 ∨ lk = 4)) : hearF nd n lk one T O l s = (0, T, O, l, s) := by unfold hearF; rw [h]; exact (if_neg (by rw [hc]; decide)).trans (if_neg h2)
end
attribute [local irreducible] Oper.wp Sem.run Code.wp wpList wpAnyO callFunc execOp Calls
attribute [local irreducible] toU short rencs renc rowE encRow rightB zig unzig decRw rightL risB lastN bitsOf nodesTo readL recB ofL sends getT delT setT waL waE waN waR apL apE decF vot2 votesF doneF
set_option maxHeartbeats 2000000 in
set_option maxRecDepth 100000 in
theorem hear_hit (k kw : Nat) (nd : Int) (inc cnt mb : Nat) (oa : Option Addr) (O : List Lo) (oc : Nat) (n : Int) (A : List (Int × Nat × Tx)) (b : Nat) (t : Tx) (B : List (Int × Nat × Tx)) (hT : TOk (A ++ (n, b, t) :: B)) (g : Gh) (hO : LOk g O) (hol0 : O.length ≤ 100000) (kd : Nat) (wa : Option Addr) (wc : Nat) (rs : List Rc) (da : Option Addr) (dc : Nat) (l : List Nat) (bb s : Nat) (hrl : rs.length ≤ 500000) (hl : Bytes l) (hbb : bb + l.length ≤ 500000000) (hs : s ≤ l.length) (hR : RsOk g rs) (lk : Int) (m : Nat) (hm : m < 16) (L : List Int) (hr1 : rightL (Lr.mk lk (m : Int) nd n L) = true) (hx : Int.tmod n 16 = nd) (an : Option Addr) (nl cn : Nat) (hnl : L.length = nl) (hnm : nl ≤ 2000000) (w : World) (g2 : Gh) (hg2 : Rog [co k kw nd inc cnt mb oa O oc (A ++ (n, b, t) :: B), wk kw kd wa wc rs, dk kd da dc l bb s, .fz g] w g2) (hG : SlG g2 an (iv L)) (hS : St w (owns [co k kw nd inc cnt mb oa O oc (A ++ (n, b, t) :: B), wk kw kd wa wc rs, dk kd da dc l bb s, .fz g]) [co k kw nd inc cnt mb oa O oc (A ++ (n, b, t) :: B), wk kw kd wa wc rs, dk kd da dc l bb s, .fz g] w) : Calls Try.prog 16 #[pV k, .agg #[.int .i64 lk, .int .i64 (m : Int), .int .i64 nd, .int .i64 n, .slice an nl cn]] w (Post w [co k kw nd inc cnt mb oa O oc (A ++ (n, b, t) :: B), wk kw kd wa wc rs, dk kd da dc l bb s, .fz g] fun v G => CoW k kw nd inc mb kd bb rs g (.int .i64 (hearF nd n lk (1 * 2 ^ m) (absT (A ++ (n, b, t) :: B)) (O.map Lo.l) l s).1) (cnt, (hearF nd n lk (1 * 2 ^ m) (absT (A ++ (n, b, t) :: B)) (O.map Lo.l) l s).2.1, (hearF nd n lk (1 * 2 ^ m) (absT (A ++ (n, b, t) :: B)) (O.map Lo.l) l s).2.2.1, (hearF nd n lk (1 * 2 ^ m) (absT (A ++ (n, b, t) :: B)) (O.map Lo.l) l s).2.2.2.1, (hearF nd n lk (1 * 2 ^ m) (absT (A ++ (n, b, t) :: B)) (O.map Lo.l) l s).2.2.2.2) v G) := by
 subst hnl
 have hTn := (hT.2 (n, b, t) (List.mem_append_right _ (.head _))).1
 have ht1 : t.nodes < 65536 := hTn.1
 have ht2 : t.yes < 65536 := hTn.2.1
 have ht3 : t.read < 65536 := hTn.2.2.1
 have ht4 : t.tell < 65536 := hTn.2.2.2.1
 have ht5 : t.ticks < 5 := hTn.2.2.2.2
 have hn0 : 0 ≤ n ∧ n ≤ 2199023255552 := (hT.2 (n, b, t) (List.mem_append_right _ (.head _))).2
 have hp16 : 1 * 2 ^ m ≤ 32768 := pow_le16 hm
 refine c_enter Try.func16 rfl rfl rfl ?_
 refine wp_seq_k (fun K1 hK1 => ?_)
 have hS2 := co_open hS; clear hS
 have hS3 := hS2.fr2; clear hS2
 have hS4 : St _ _ [.blk b (.cells #[.int .i64 ((t.nodes : Nat) : Int), .int .i64 ((t.yes : Nat) : Int), .int .i64 ((t.read : Nat) : Int), .bool t.asked, .bool t.com, .int .i64 ((t.tell : Nat) : Int), .int .i64 ((t.ticks : Nat) : Int)] 80), .pk (List.map tb (A ++ B)), .blk k (.cells #[.pointer (some ⟨kw, 0, none⟩), .int .i64 nd, .int .i64 (inc : Int), .int .i64 (cnt : Int), .map (some mb), .slice oa O.length oc] 68), .mp (.int .i64) mb (List.map tc (A ++ (n, b, t) :: B)), .ow 42 5 oa O.length oc (List.flatMap lo O), wk kw kd wa wc rs, dk kd da dc l bb s, .fz g] _ := tb_take hS3; clear hS3
 refine wp_region_lit ?_
 refine l_e rfl (fun K hK => ?_)
 refine e_boxA hS4 rfl (fun b5 w5 (hS5 : St _ _ [.blk b5 (.cells #[.int .i64 lk, .int .i64 (m : Int), .int .i64 nd, .int .i64 n, .slice an L.length cn] 42), _, _, _, _, _, _, _, .fz g] _) => ?_)
 clear hS4
 refine hK _ _ ?_; clear hK K
 refine l_q rfl rfl (q_assignI rfl) ?_
 refine l_nil ?_
 refine hK1 _ _ ?_
 refine wp_seq_k (fun K6 hK6 => ?_)
 refine wp_block ?_
 refine wp_seq_k (fun K7 hK7 => ?_)
 refine wp_region_lit ?_
 refine l_q rfl rfl (q_moveP rfl) ?_
 refine l_q rfl rfl (q_peq rfl (by kernel_rfl)) ?_
 refine l_q rfl rfl (q_assignB rfl) ?_
 refine l_nil ?_
 refine hK7 _ _ ?_
 refine c_condF rfl rfl ?_
 refine wp_seq_k (fun K9 hK9 => ?_)
 refine r_any (by kernel_rfl) hS5 (fun w10 hS10 => ?_)
 clear hS5
 refine o_held (i := 0) [1, 2, 3, 4, 5, 6, 7, 8, 9, 10, 11, 12, 13, 14, 15, 16, 17, 18, 19, 20, 21, 22] (fun _ _ => trivial) rfl rfl (by kernel_rfl) (goes0 rfl) (QOk.then (QOk.inBlock (QOk.then QOk.body))) (q_loadA (m := 5) rfl (by kernel_rfl) (by kernel_rfl) (hS10.blk (i := 0) rfl) rfl rfl) ?_
 refine o_eff (i := 1) (by kernel_rfl) rfl (goes0 rfl) (fun K hK => ?_)
 refine e_call (by kernel_rfl) (lright_ok (Lr.mk lk (m : Int) nd n L) L.length (by first | omega | (simp only [zll] <;> omega)) (by first | omega | (simp only [zll] <;> omega)) _ _ _ (hG.mono (hg2.le hS10))) rfl (after_R hS10 (fun v11 w11 hv11 hS11 => ?_))
 clear hS10
 obtain rfl := hv11
 refine hK _ _ ⟨trivial, fun h => absurd h (by decide)⟩ ?_; clear hK K
 refine o_pure (i := 2) (fun j w => ⟨(fun _ _ => trivial) j w, fun _ h => h⟩) rfl rfl (by kernel_rfl) (goes0 rfl) (QOk.then (QOk.inBlock (QOk.then QOk.body))) (fun w => q_not rfl) ?_
 refine o_pure (i := 3) (fun j w => ⟨(fun _ _ => trivial) j w, fun _ h => h⟩) rfl rfl (by kernel_rfl) (goes0 rfl) (QOk.then (QOk.inBlock (QOk.then QOk.body))) (fun w => q_moveB rfl) ?_
 refine o_pure (i := 4) (fun j w => ⟨(fun _ _ => trivial) j w, fun _ h => h⟩) rfl rfl (by kernel_rfl) (goes1 rfl rfl (by rw [show _ = _ from hr1]; rfl)) (QOk.then (QOk.inBlock (QOk.then QOk.body))) (fun w => q_fieldAddr (ft := 3) (o := 2) rfl (by kernel_rfl)) ?_
 refine o_held (i := 5) [10, 11, 12, 13, 14, 15, 16, 17, 18, 19, 20, 21, 22] (fun j w => ⟨(fun _ _ => trivial) j w, fun _ h => h⟩) rfl rfl (by kernel_rfl) (goes1 rfl rfl (by rw [show _ = _ from hr1]; rfl)) (QOk.then (QOk.inBlock (QOk.then QOk.body))) (q_load1 rfl (by kernel_rfl) (hS11.cell (i := 0) rfl rfl)) ?_
 refine o_pure (i := 6) (fun j w => ⟨(fun j w => ⟨(fun _ _ => trivial) j w, fun _ h => h⟩) j w, fun _ h => h⟩) rfl rfl (by kernel_rfl) (goes1 rfl rfl (by rw [show _ = _ from hr1]; rfl)) (QOk.then (QOk.inBlock (QOk.then QOk.body))) (fun w => q_moveP rfl) ?_
 refine o_pure (i := 7) (fun j w => ⟨(fun j w => ⟨(fun _ _ => trivial) j w, fun _ h => h⟩) j w, fun _ h => h⟩) rfl rfl (by kernel_rfl) (goes1 rfl rfl (by rw [show _ = _ from hr1]; rfl)) (QOk.then (QOk.inBlock (QOk.then QOk.body))) (fun w => q_nilCheck rfl) ?_
 refine o_pure (i := 8) (fun j w => ⟨(fun j w => ⟨(fun _ _ => trivial) j w, fun _ h => h⟩) j w, fun _ h => h⟩) rfl rfl (by kernel_rfl) (goes1 rfl rfl (by rw [show _ = _ from hr1]; rfl)) (QOk.then (QOk.inBlock (QOk.then QOk.body))) (fun w => q_fieldAddr (ft := 3) (o := 1) rfl (by kernel_rfl)) ?_
 refine o_held (i := 9) [10, 11, 12, 13, 14, 15, 16, 17, 18, 19, 20, 21, 22] (fun j w => ⟨(fun j w => ⟨(fun _ _ => trivial) j w, fun _ h => h⟩) j w, fun _ h => h⟩) rfl rfl (by kernel_rfl) (goes1 rfl rfl (by rw [show _ = _ from hr1]; rfl)) (QOk.then (QOk.inBlock (QOk.then QOk.body))) (q_load1 rfl (by kernel_rfl) (hS11.cell (i := 3) rfl rfl)) ?_
 refine o_pure (i := 10) (fun j w => ⟨(fun j w => ⟨(fun j w => ⟨(fun _ _ => trivial) j w, fun _ h => h⟩) j w, fun _ h => h⟩) j w, fun _ h => h⟩) rfl rfl (by kernel_rfl) (goes1 rfl rfl (by rw [show _ = _ from hr1]; rfl)) (QOk.then (QOk.inBlock (QOk.then QOk.body))) (fun w => q_neq rfl rfl) ?_
 refine o_pure (i := 11) (fun j w => ⟨(fun j w => ⟨(fun j w => ⟨(fun _ _ => trivial) j w, fun _ h => h⟩) j w, fun _ h => h⟩) j w, fun _ h => h⟩) rfl rfl (by kernel_rfl) (goes0 rfl) (QOk.then (QOk.inBlock (QOk.then QOk.body))) (fun w => q_pickF rfl (by rw [show _ = _ from hr1]; rfl) rfl) ?_
 refine o_pure (i := 12) (fun j w => ⟨(fun j w => ⟨(fun j w => ⟨(fun _ _ => trivial) j w, fun _ h => h⟩) j w, fun _ h => h⟩) j w, fun _ h => h⟩) rfl rfl (by kernel_rfl) (goes0 rfl) (QOk.then (QOk.inBlock (QOk.then QOk.body))) (fun w => q_moveB rfl) ?_
 refine o_pure (i := 13) (fun j w => ⟨(fun j w => ⟨(fun j w => ⟨(fun _ _ => trivial) j w, fun _ h => h⟩) j w, fun _ h => h⟩) j w, fun _ h => h⟩) rfl rfl (by kernel_rfl) (goes1 rfl rfl (by simp)) (QOk.then (QOk.inBlock (QOk.then QOk.body))) (fun w => q_fieldAddr (ft := 3) (o := 3) rfl (by kernel_rfl)) ?_
 refine o_held (i := 14) [15, 20, 21, 22] (fun j w => ⟨(fun j w => ⟨(fun j w => ⟨(fun _ _ => trivial) j w, fun _ h => h⟩) j w, fun _ h => h⟩) j w, fun _ h => h⟩) rfl rfl (by kernel_rfl) (goes1 rfl rfl (by simp)) (QOk.then (QOk.inBlock (QOk.then QOk.body))) (q_load1 rfl (by kernel_rfl) (hS11.cell (i := 0) rfl rfl)) ?_
 refine o_pure (i := 15) (fun j w => ⟨(fun j w => ⟨(fun j w => ⟨(fun j w => ⟨(fun _ _ => trivial) j w, fun _ h => h⟩) j w, fun _ h => h⟩) j w, fun _ h => h⟩) j w, fun _ h => h⟩) rfl rfl (by kernel_rfl) (goes1 rfl rfl (by simp)) (QOk.then (QOk.inBlock (QOk.then QOk.body))) (fun w => q_rem rfl rfl (by first | decide | omega)) ?_
 refine o_pure (i := 16) (fun j w => ⟨(fun j w => ⟨(fun j w => ⟨(fun j w => ⟨(fun _ _ => trivial) j w, fun _ h => h⟩) j w, fun _ h => h⟩) j w, fun _ h => h⟩) j w, fun _ h => h⟩) rfl rfl (by kernel_rfl) (goes1 rfl rfl (by simp)) (QOk.then (QOk.inBlock (QOk.then QOk.body))) (fun w => q_moveP rfl) ?_
 refine o_pure (i := 17) (fun j w => ⟨(fun j w => ⟨(fun j w => ⟨(fun j w => ⟨(fun _ _ => trivial) j w, fun _ h => h⟩) j w, fun _ h => h⟩) j w, fun _ h => h⟩) j w, fun _ h => h⟩) rfl rfl (by kernel_rfl) (goes1 rfl rfl (by simp)) (QOk.then (QOk.inBlock (QOk.then QOk.body))) (fun w => q_nilCheck rfl) ?_
 refine o_pure (i := 18) (fun j w => ⟨(fun j w => ⟨(fun j w => ⟨(fun j w => ⟨(fun _ _ => trivial) j w, fun _ h => h⟩) j w, fun _ h => h⟩) j w, fun _ h => h⟩) j w, fun _ h => h⟩) rfl rfl (by kernel_rfl) (goes1 rfl rfl (by simp)) (QOk.then (QOk.inBlock (QOk.then QOk.body))) (fun w => q_fieldAddr (ft := 3) (o := 1) rfl (by kernel_rfl)) ?_
 refine o_held (i := 19) [20, 21, 22] (fun j w => ⟨(fun j w => ⟨(fun j w => ⟨(fun j w => ⟨(fun _ _ => trivial) j w, fun _ h => h⟩) j w, fun _ h => h⟩) j w, fun _ h => h⟩) j w, fun _ h => h⟩) rfl rfl (by kernel_rfl) (goes1 rfl rfl (by simp)) (QOk.then (QOk.inBlock (QOk.then QOk.body))) (q_load1 rfl (by kernel_rfl) (hS11.cell (i := 3) rfl rfl)) ?_
 refine o_pure (i := 20) (fun j w => ⟨(fun j w => ⟨(fun j w => ⟨(fun j w => ⟨(fun j w => ⟨(fun _ _ => trivial) j w, fun _ h => h⟩) j w, fun _ h => h⟩) j w, fun _ h => h⟩) j w, fun _ h => h⟩) j w, fun _ h => h⟩) rfl rfl (by kernel_rfl) (goes1 rfl rfl (by simp)) (QOk.then (QOk.inBlock (QOk.then QOk.body))) (fun w => q_neq rfl rfl) ?_
 refine o_pure (i := 21) (fun j w => ⟨(fun j w => ⟨(fun j w => ⟨(fun j w => ⟨(fun j w => ⟨(fun _ _ => trivial) j w, fun _ h => h⟩) j w, fun _ h => h⟩) j w, fun _ h => h⟩) j w, fun _ h => h⟩) j w, fun _ h => h⟩) rfl rfl (by kernel_rfl) (goes0 rfl) (QOk.then (QOk.inBlock (QOk.then QOk.body))) (fun w => q_pickF rfl (by simp) rfl) ?_
 refine o_pure (i := 22) (fun j w => ⟨(fun j w => ⟨(fun j w => ⟨(fun j w => ⟨(fun j w => ⟨(fun _ _ => trivial) j w, fun _ h => h⟩) j w, fun _ h => h⟩) j w, fun _ h => h⟩) j w, fun _ h => h⟩) j w, fun _ h => h⟩) rfl rfl (by kernel_rfl) (goes0 rfl) (QOk.then (QOk.inBlock (QOk.then QOk.body))) (fun w => q_assignB rfl) ?_
 refine o_done (by kernel_rfl) ?_
 refine hK9 _ _ ?_
 refine c_condF rfl (by rw [hx]; simp) ?_
 refine wp_skip ?_
 refine hK6 _ _ ?_
 refine wp_seq_k (fun K14 hK14 => ?_)
 refine r_any (by kernel_rfl) hS11 (fun w15 hS15 => ?_)
 clear hS11
 refine o_pure (i := 0) (fun _ _ => trivial) rfl rfl (by kernel_rfl) (goes0 rfl) (QOk.then QOk.body) (fun w => q_moveP rfl) ?_
 refine o_pure (i := 1) (fun _ _ => trivial) rfl rfl (by kernel_rfl) (goes0 rfl) (QOk.then QOk.body) (fun w => q_nilCheck rfl) ?_
 refine o_pure (i := 2) (fun _ _ => trivial) rfl rfl (by kernel_rfl) (goes0 rfl) (QOk.then QOk.body) (fun w => q_fieldAddr (ft := 66) (o := 4) rfl (by kernel_rfl)) ?_
 refine o_held (i := 3) [6, 7, 8, 9, 10, 11] (fun _ _ => trivial) rfl rfl (by kernel_rfl) (goes0 rfl) (QOk.then QOk.body) (q_load1 rfl (by kernel_rfl) (hS15.cell (i := 3) rfl rfl)) ?_
 refine o_pure (i := 4) (fun j w => ⟨(fun _ _ => trivial) j w, fun _ h => h⟩) rfl rfl (by kernel_rfl) (goes0 rfl) (QOk.then QOk.body) (fun w => q_fieldAddr (ft := 3) (o := 3) rfl (by kernel_rfl)) ?_
 refine o_held (i := 5) [6, 7, 8, 9, 10, 11] (fun j w => ⟨(fun _ _ => trivial) j w, fun _ h => h⟩) rfl rfl (by kernel_rfl) (goes0 rfl) (QOk.then QOk.body) (q_load1 rfl (by kernel_rfl) (hS15.cell (i := 0) rfl rfl)) ?_
 refine o_held (i := 6) [7, 8, 9, 10, 11] (fun j w => ⟨(fun j w => ⟨(fun _ _ => trivial) j w, fun _ h => h⟩) j w, fun _ h => h⟩) rfl rfl (by kernel_rfl) (goes0 rfl) (QOk.then QOk.body) (q_lookHit (zv := .pointer none) rfl rfl (by kernel_rfl) (by first | rfl | trivial) (hS15.map (i := 4) rfl) (look_hit (k := n) (x := (b, t)) (List.mem_append_right _ (.head _)) rfl)) ?_
 refine o_pure (i := 7) (fun j w => ⟨(fun j w => ⟨(fun j w => ⟨(fun _ _ => trivial) j w, fun _ h => h⟩) j w, fun _ h => h⟩) j w, fun _ h => h⟩) rfl rfl (by kernel_rfl) (goes0 rfl) (QOk.then QOk.body) (fun w => q_move rfl) ?_
 refine o_pure (i := 8) (fun j w => ⟨(fun j w => ⟨(fun j w => ⟨(fun _ _ => trivial) j w, fun _ h => h⟩) j w, fun _ h => h⟩) j w, fun _ h => h⟩) rfl rfl (by kernel_rfl) (goes0 rfl) (QOk.then QOk.body) (fun w => q_extract rfl rfl) ?_
 refine o_pure (i := 9) (fun j w => ⟨(fun j w => ⟨(fun j w => ⟨(fun _ _ => trivial) j w, fun _ h => h⟩) j w, fun _ h => h⟩) j w, fun _ h => h⟩) rfl rfl (by kernel_rfl) (goes0 rfl) (QOk.then QOk.body) (fun w => q_extract rfl rfl) ?_
 refine o_pure (i := 10) (fun j w => ⟨(fun j w => ⟨(fun j w => ⟨(fun _ _ => trivial) j w, fun _ h => h⟩) j w, fun _ h => h⟩) j w, fun _ h => h⟩) rfl rfl (by kernel_rfl) (goes0 rfl) (QOk.then QOk.body) (fun w => q_assignP rfl) ?_
 refine o_pure (i := 11) (fun j w => ⟨(fun j w => ⟨(fun j w => ⟨(fun _ _ => trivial) j w, fun _ h => h⟩) j w, fun _ h => h⟩) j w, fun _ h => h⟩) rfl rfl (by kernel_rfl) (goes0 rfl) (QOk.then QOk.body) (fun w => q_assignB rfl) ?_
 refine o_done (by kernel_rfl) ?_
 refine hK14 _ _ ?_
 refine wp_seq_k (fun K16 hK16 => ?_)
 refine wp_region_lit ?_
 refine l_q rfl rfl (q_moveB rfl) ?_
 refine l_q rfl rfl (q_moveB rfl) ?_
 refine l_on rfl rfl rfl ?_
 refine l_q rfl rfl (q_moveP rfl) ?_
 refine l_on rfl rfl rfl ?_
 refine l_q rfl rfl (q_nilCheck rfl) ?_
 refine l_on rfl rfl rfl ?_
 refine l_q rfl rfl (q_fieldAddr (ft := 4) (o := 4) rfl (by kernel_rfl)) ?_
 refine l_on rfl rfl rfl ?_
 refine l_q rfl rfl (q_load1 rfl (by kernel_rfl) (hS15.cell (i := 1) rfl rfl)) ?_
 refine l_on rfl rfl rfl ?_
 refine l_q rfl rfl (q_not rfl) ?_
 refine l_q rfl rfl (q_pickT rfl rfl rfl) ?_
 refine l_q rfl rfl (q_assignB rfl) ?_
 refine l_nil ?_
 refine hK16 _ _ ?_
 refine wp_seq_k (fun K17 hK17 => ?_)
 refine wp_seq_k (fun K18 hK18 => ?_)
 refine wp_region_lit ?_
 refine l_q rfl rfl (q_fieldAddr (ft := 40) (o := 0) rfl (by kernel_rfl)) ?_
 refine l_q rfl rfl (q_load1 rfl (by kernel_rfl) (hS15.cell (i := 0) rfl rfl)) ?_
 refine l_nil ?_
 refine hK18 _ _ ?_
 refine wp_block ?_
 refine wp_seq_k (fun K19 hK19 => ?_)
 refine wp_block ?_
 refine wp_seq_k (fun K20 hK20 => ?_)
 refine wp_block ?_
 refine wp_seq_k (fun K21 hK21 => ?_)
 refine wp_block ?_
 refine wp_seq_k (fun K22 hK22 => ?_)
 refine wp_block ?_
 refine wp_seq_k (fun K23 hK23 => ?_)
 refine wp_seq_k (fun K24 hK24 => ?_)
 refine wp_seq_k (fun K25 hK25 => ?_)
 refine wp_seq_k (fun K26 hK26 => ?_)
 refine wp_region_lit ?_
 refine l_q rfl rfl (q_eql rfl rfl) ?_
 refine l_q rfl rfl (q_assignB rfl) ?_
 refine l_nil ?_
 refine hK26 _ _ ?_
 refine c_cond rfl (fun hc27 => ?_) (fun hc27 => ?_)
 have hc27b := hc27
 try simp only [zbb] at hc27
 refine wp_skip ?_
 refine hK25 _ _ ?_
 refine c_condT rfl hc27b ?_
 refine wp_exit ?_
 refine hK22 _ _ ?_
 refine wp_seq_k (fun K29 hK29 => ?_)
 refine wp_seq_k (fun K30 hK30 => ?_)
 refine wp_region_lit ?_
 refine l_q rfl rfl (q_moveB rfl) ?_
 refine l_nil ?_
 refine hK30 _ _ ?_
 refine c_cond rfl (fun hc31 => ?_) (fun hc31 => ?_)
 have hc31b := hc31
 try simp only [zbb] at hc31
 refine wp_seq_k (fun K32 hK32 => ?_)
 refine wp_region_lit ?_
 refine l_q rfl rfl (q_moveP rfl) ?_
 refine l_q rfl rfl (q_moveP rfl) ?_
 refine l_q rfl rfl (q_loadA (m := 5) rfl (by kernel_rfl) (by kernel_rfl) (hS15.blk (i := 0) rfl) rfl rfl) ?_
 refine l_e rfl (fun K hK => ?_)
 have hS34 := hS15.fr8; clear hS15
 have hS35 := hS34.fr8; clear hS34
 have hS36 := hS35.fr8; clear hS35
 have hS37 := hS36.fr8; clear hS36
 have hS38 := hS37.fr6; clear hS37
 have hS39 := hS38.fr6; clear hS38
 have hS40 := hS39.fr8; clear hS39
 have hS41 := hS40.fr8; clear hS40
 refine e_call (by kernel_rfl) (votes_ok k kw nd inc cnt mb oa O oc n A b t B hT g hO hol0 kd wa wc rs da dc l bb s hrl hl hbb hs hR lk m hm nd an L.length cn _ (St.begin (Γ := [_, _, _, _, _, _, _, _]) hS41)) rfl (after_M (Γ1 := [_, _, _, _, _, _, _, _]) hS41 (fun v33 G33 w33 hv33 hS33 => ?_))
 clear hS41
 obtain ⟨oa33, oc33, O33, T33, wa33, wc33, rs33, da33, dc33, g33, rfl, rfl, hle33, hO33, hT33, hab33, hOe33, hrs33, hrl33⟩ := hv33
 have hS42 : St _ _ [co k kw nd inc cnt mb oa33 O33 oc33 T33, wk kw kd wa33 wc33 rs33, dk kd da33 dc33 (votesF nd n lk t (1 * 2 ^ m) (absT (A ++ (n, b, t) :: B)) (O.map Lo.l) l s).2.2.2.1 bb (votesF nd n lk t (1 * 2 ^ m) (absT (A ++ (n, b, t) :: B)) (O.map Lo.l) l s).2.2.2.2, .fz g33, _] _ := hS33; clear hS33
 refine hK _ _ ?_; clear hK K
 refine l_q rfl rfl (q_assignI rfl) ?_
 refine l_nil ?_
 refine hK32 _ _ ?_
 refine wp_ret ?_
 refine c_ret1 rfl rfl ?_
 have hS43 : St _ _ [_, _, _, .fz g33] _ := hS42.only 4; clear hS42
 exact ⟨_, _, rfl, ⟨_, _, O33, T33, _, _, _, _, _, _, by rw [he_v1 (getT_hit hT) (by simp_all) (by omega)]; rfl, by rw [he_v1 (getT_hit hT) (by simp_all) (by omega)], hle33, hO33, hT33, by rw [he_v1 (getT_hit hT) (by simp_all) (by omega)]; exact hab33, by rw [he_v1 (getT_hit hT) (by simp_all) (by omega)]; exact hOe33, hrs33, hrl33⟩, hS43⟩
 have hc31b := hc31
 try simp only [zbb] at hc31
 refine wp_skip ?_
 refine hK29 _ _ ?_
 refine wp_exit ?_
 refine hK17 _ _ ?_
 refine wp_seq_k (fun K44 hK44 => ?_)
 refine wp_region_lit ?_
 refine l_q rfl rfl (q_assignI rfl) ?_
 refine l_nil ?_
 refine hK44 _ _ ?_
 refine wp_ret ?_
 refine c_ret1 rfl rfl ?_
 have hS45 := hS15.fr2; clear hS15
 have hS46 := hS45.fr2; clear hS45
 have hS47 : St _ _ [.pk (List.map tb (A ++ (n, b, t) :: B)), _, _, _, _, _, _, .fz g] _ := tb_put (q := (n, b, t)) hS46; clear hS46
 have hS48 := hS47.fr7; clear hS47
 have hS49 := hS48.fr7; clear hS48
 have hS50 := hS49.fr7; clear hS49
 have hS51 := hS50.fr7; clear hS50
 have hS52 := hS51.fr4; clear hS51
 have hS53 := hS52.fr7; clear hS52
 have hS54 := hS53.fr7; clear hS53
 have hS55 : St _ _ [_, _, _, _, _, _, .fz g] _ := hS54.only 7; clear hS54
 have hS56 : St _ _ [co k kw nd inc cnt mb oa O oc (A ++ (n, b, t) :: B), _, _, .fz g] _ := co_close hS55; clear hS55
 rcases Bool.eq_false_or_eq_true t.com with hcm | hcm
 · first | (exfalso; simp_all; done) | (exfalso; omega) | exact ⟨_, _, rfl, ⟨_, _, O, (A ++ (n, b, t) :: B), _, _, _, _, _, _, by rw [he_c0 (getT_hit hT) (by simp_all) (by omega) (by omega)]; rfl, by rw [he_c0 (getT_hit hT) (by simp_all) (by omega) (by omega)], Gle.refl _, hO, hT, by rw [he_c0 (getT_hit hT) (by simp_all) (by omega) (by omega)], by rw [he_c0 (getT_hit hT) (by simp_all) (by omega) (by omega)], hR, Nat.le_succ _⟩, hS56⟩
 · first | (exfalso; simp_all; done) | (exfalso; omega) | exact ⟨_, _, rfl, ⟨_, _, O, (A ++ (n, b, t) :: B), _, _, _, _, _, _, by rw [he_v0 (getT_hit hT) (by simp_all) (by omega)]; rfl, by rw [he_v0 (getT_hit hT) (by simp_all) (by omega)], Gle.refl _, hO, hT, by rw [he_v0 (getT_hit hT) (by simp_all) (by omega)], by rw [he_v0 (getT_hit hT) (by simp_all) (by omega)], hR, Nat.le_succ _⟩, hS56⟩
 have hc27b := hc27
 try simp only [zbb] at hc27
 refine wp_region_lit ?_
 refine l_q rfl rfl (q_eql rfl rfl) ?_
 refine l_q rfl rfl (q_assignB rfl) ?_
 refine l_nil ?_
 refine hK25 _ _ ?_
 refine c_cond rfl (fun hc57 => ?_) (fun hc57 => ?_)
 have hc57b := hc57
 try simp only [zbb] at hc57
 refine wp_exit ?_
 refine hK22 _ _ ?_
 refine wp_seq_k (fun K58 hK58 => ?_)
 refine wp_seq_k (fun K59 hK59 => ?_)
 refine wp_region_lit ?_
 refine l_q rfl rfl (q_moveB rfl) ?_
 refine l_nil ?_
 refine hK59 _ _ ?_
 refine c_cond rfl (fun hc60 => ?_) (fun hc60 => ?_)
 have hc60b := hc60
 try simp only [zbb] at hc60
 refine wp_seq_k (fun K61 hK61 => ?_)
 refine wp_region_lit ?_
 refine l_q rfl rfl (q_moveP rfl) ?_
 refine l_q rfl rfl (q_moveP rfl) ?_
 refine l_q rfl rfl (q_loadA (m := 5) rfl (by kernel_rfl) (by kernel_rfl) (hS15.blk (i := 0) rfl) rfl rfl) ?_
 refine l_e rfl (fun K hK => ?_)
 have hS63 := hS15.fr8; clear hS15
 have hS64 := hS63.fr8; clear hS63
 have hS65 := hS64.fr8; clear hS64
 have hS66 := hS65.fr8; clear hS65
 have hS67 := hS66.fr6; clear hS66
 have hS68 := hS67.fr6; clear hS67
 have hS69 := hS68.fr8; clear hS68
 have hS70 := hS69.fr8; clear hS69
 refine e_call (by kernel_rfl) (votes_ok k kw nd inc cnt mb oa O oc n A b t B hT g hO hol0 kd wa wc rs da dc l bb s hrl hl hbb hs hR lk m hm nd an L.length cn _ (St.begin (Γ := [_, _, _, _, _, _, _, _]) hS70)) rfl (after_M (Γ1 := [_, _, _, _, _, _, _, _]) hS70 (fun v62 G62 w62 hv62 hS62 => ?_))
 clear hS70
 obtain ⟨oa62, oc62, O62, T62, wa62, wc62, rs62, da62, dc62, g62, rfl, rfl, hle62, hO62, hT62, hab62, hOe62, hrs62, hrl62⟩ := hv62
 have hS71 : St _ _ [co k kw nd inc cnt mb oa62 O62 oc62 T62, wk kw kd wa62 wc62 rs62, dk kd da62 dc62 (votesF nd n lk t (1 * 2 ^ m) (absT (A ++ (n, b, t) :: B)) (O.map Lo.l) l s).2.2.2.1 bb (votesF nd n lk t (1 * 2 ^ m) (absT (A ++ (n, b, t) :: B)) (O.map Lo.l) l s).2.2.2.2, .fz g62, _] _ := hS62; clear hS62
 refine hK _ _ ?_; clear hK K
 refine l_q rfl rfl (q_assignI rfl) ?_
 refine l_nil ?_
 refine hK61 _ _ ?_
 refine wp_ret ?_
 refine c_ret1 rfl rfl ?_
 have hS72 : St _ _ [_, _, _, .fz g62] _ := hS71.only 4; clear hS71
 exact ⟨_, _, rfl, ⟨_, _, O62, T62, _, _, _, _, _, _, by rw [he_v1 (getT_hit hT) (by simp_all) (by omega)]; rfl, by rw [he_v1 (getT_hit hT) (by simp_all) (by omega)], hle62, hO62, hT62, by rw [he_v1 (getT_hit hT) (by simp_all) (by omega)]; exact hab62, by rw [he_v1 (getT_hit hT) (by simp_all) (by omega)]; exact hOe62, hrs62, hrl62⟩, hS72⟩
 have hc60b := hc60
 try simp only [zbb] at hc60
 refine wp_skip ?_
 refine hK58 _ _ ?_
 refine wp_exit ?_
 refine hK17 _ _ ?_
 refine wp_seq_k (fun K73 hK73 => ?_)
 refine wp_region_lit ?_
 refine l_q rfl rfl (q_assignI rfl) ?_
 refine l_nil ?_
 refine hK73 _ _ ?_
 refine wp_ret ?_
 refine c_ret1 rfl rfl ?_
 have hS74 := hS15.fr2; clear hS15
 have hS75 := hS74.fr2; clear hS74
 have hS76 : St _ _ [_, _, _, _, _, _, _, .fz g] _ := tb_put (q := (n, b, t)) hS75; clear hS75
 have hS77 := hS76.fr7; clear hS76
 have hS78 := hS77.fr7; clear hS77
 have hS79 := hS78.fr7; clear hS78
 have hS80 := hS79.fr7; clear hS79
 have hS81 := hS80.fr4; clear hS80
 have hS82 := hS81.fr7; clear hS81
 have hS83 := hS82.fr7; clear hS82
 have hS84 : St _ _ [_, _, _, _, _, _, .fz g] _ := hS83.only 7; clear hS83
 have hS85 : St _ _ [_, _, _, .fz g] _ := co_close hS84; clear hS84
 rcases Bool.eq_false_or_eq_true t.com with hcm | hcm
 · first | (exfalso; simp_all; done) | (exfalso; omega) | exact ⟨_, _, rfl, ⟨_, _, O, (A ++ (n, b, t) :: B), _, _, _, _, _, _, by rw [he_c0 (getT_hit hT) (by simp_all) (by omega) (by omega)]; rfl, by rw [he_c0 (getT_hit hT) (by simp_all) (by omega) (by omega)], Gle.refl _, hO, hT, by rw [he_c0 (getT_hit hT) (by simp_all) (by omega) (by omega)], by rw [he_c0 (getT_hit hT) (by simp_all) (by omega) (by omega)], hR, Nat.le_succ _⟩, hS85⟩
 · first | (exfalso; simp_all; done) | (exfalso; omega) | exact ⟨_, _, rfl, ⟨_, _, O, (A ++ (n, b, t) :: B), _, _, _, _, _, _, by rw [he_v0 (getT_hit hT) (by simp_all) (by omega)]; rfl, by rw [he_v0 (getT_hit hT) (by simp_all) (by omega)], Gle.refl _, hO, hT, by rw [he_v0 (getT_hit hT) (by simp_all) (by omega)], by rw [he_v0 (getT_hit hT) (by simp_all) (by omega)], hR, Nat.le_succ _⟩, hS85⟩
 have hc57b := hc57
 try simp only [zbb] at hc57
 refine wp_skip ?_
 refine hK24 _ _ ?_
 refine wp_seq_k (fun K86 hK86 => ?_)
 refine wp_seq_k (fun K87 hK87 => ?_)
 refine wp_region_lit ?_
 refine l_q rfl rfl (q_eql rfl rfl) ?_
 refine l_q rfl rfl (q_assignB rfl) ?_
 refine l_nil ?_
 refine hK87 _ _ ?_
 refine c_cond rfl (fun hc88 => ?_) (fun hc88 => ?_)
 have hc88b := hc88
 try simp only [zbb] at hc88
 refine wp_exit ?_
 refine hK21 _ _ ?_
 refine wp_seq_k (fun K89 hK89 => ?_)
 refine wp_region_lit ?_
 refine l_q rfl rfl (q_moveB rfl) ?_
 refine l_nil ?_
 refine hK89 _ _ ?_
 refine c_cond rfl (fun hc90 => ?_) (fun hc90 => ?_)
 have hc90b := hc90
 try simp only [zbb] at hc90
 refine wp_seq_k (fun K91 hK91 => ?_)
 refine wp_region_lit ?_
 refine l_q rfl rfl (q_moveP rfl) ?_
 refine l_q rfl rfl (q_moveP rfl) ?_
 refine l_q rfl rfl (q_loadA (m := 5) rfl (by kernel_rfl) (by kernel_rfl) (hS15.blk (i := 0) rfl) rfl rfl) ?_
 refine l_e rfl (fun K hK => ?_)
 have hS93 := hS15.fr8; clear hS15
 have hS94 := hS93.fr8; clear hS93
 have hS95 := hS94.fr8; clear hS94
 have hS96 := hS95.fr8; clear hS95
 have hS97 := hS96.fr6; clear hS96
 have hS98 := hS97.fr6; clear hS97
 have hS99 := hS98.fr8; clear hS98
 have hS100 := hS99.fr8; clear hS99
 refine e_call (by kernel_rfl) (votes_ok k kw nd inc cnt mb oa O oc n A b t B hT g hO hol0 kd wa wc rs da dc l bb s hrl hl hbb hs hR lk m hm nd an L.length cn _ (St.begin (Γ := [_, _, _, _, _, _, _, _]) hS100)) rfl (after_M (Γ1 := [_, _, _, _, _, _, _, _]) hS100 (fun v92 G92 w92 hv92 hS92 => ?_))
 clear hS100
 obtain ⟨oa92, oc92, O92, T92, wa92, wc92, rs92, da92, dc92, g92, rfl, rfl, hle92, hO92, hT92, hab92, hOe92, hrs92, hrl92⟩ := hv92
 have hS101 : St _ _ [co k kw nd inc cnt mb oa92 O92 oc92 T92, wk kw kd wa92 wc92 rs92, dk kd da92 dc92 (votesF nd n lk t (1 * 2 ^ m) (absT (A ++ (n, b, t) :: B)) (O.map Lo.l) l s).2.2.2.1 bb (votesF nd n lk t (1 * 2 ^ m) (absT (A ++ (n, b, t) :: B)) (O.map Lo.l) l s).2.2.2.2, .fz g92, _] _ := hS92; clear hS92
 refine hK _ _ ?_; clear hK K
 refine l_q rfl rfl (q_assignI rfl) ?_
 refine l_nil ?_
 refine hK91 _ _ ?_
 refine wp_ret ?_
 refine c_ret1 rfl rfl ?_
 have hS102 : St _ _ [_, _, _, .fz g92] _ := hS101.only 4; clear hS101
 exact ⟨_, _, rfl, ⟨_, _, O92, T92, _, _, _, _, _, _, by rw [he_v1 (getT_hit hT) (by simp_all) (by omega)]; rfl, by rw [he_v1 (getT_hit hT) (by simp_all) (by omega)], hle92, hO92, hT92, by rw [he_v1 (getT_hit hT) (by simp_all) (by omega)]; exact hab92, by rw [he_v1 (getT_hit hT) (by simp_all) (by omega)]; exact hOe92, hrs92, hrl92⟩, hS102⟩
 have hc90b := hc90
 try simp only [zbb] at hc90
 refine wp_skip ?_
 refine hK20 _ _ ?_
 refine wp_seq_k (fun K103 hK103 => ?_)
 refine wp_seq_k (fun K104 hK104 => ?_)
 refine wp_seq_k (fun K105 hK105 => ?_)
 refine wp_region_lit ?_
 refine l_q rfl rfl (q_moveB rfl) ?_
 refine l_nil ?_
 refine hK105 _ _ ?_
 refine c_cond rfl (fun hc106 => ?_) (fun hc106 => ?_)
 have hc106b := hc106
 try simp only [zbb] at hc106
 refine wp_exit ?_
 refine hK17 _ _ ?_
 refine wp_seq_k (fun K107 hK107 => ?_)
 refine wp_region_lit ?_
 refine l_q rfl rfl (q_assignI rfl) ?_
 refine l_nil ?_
 refine hK107 _ _ ?_
 refine wp_ret ?_
 refine c_ret1 rfl rfl ?_
 have hS108 := hS15.fr2; clear hS15
 have hS109 := hS108.fr2; clear hS108
 have hS110 : St _ _ [_, _, _, _, _, _, _, .fz g] _ := tb_put (q := (n, b, t)) hS109; clear hS109
 have hS111 := hS110.fr7; clear hS110
 have hS112 := hS111.fr7; clear hS111
 have hS113 := hS112.fr7; clear hS112
 have hS114 := hS113.fr7; clear hS113
 have hS115 := hS114.fr4; clear hS114
 have hS116 := hS115.fr7; clear hS115
 have hS117 := hS116.fr7; clear hS116
 have hS118 : St _ _ [_, _, _, _, _, _, .fz g] _ := hS117.only 7; clear hS117
 have hS119 : St _ _ [_, _, _, .fz g] _ := co_close hS118; clear hS118
 rcases Bool.eq_false_or_eq_true t.com with hcm | hcm
 · first | (exfalso; simp_all; done) | (exfalso; omega) | exact ⟨_, _, rfl, ⟨_, _, O, (A ++ (n, b, t) :: B), _, _, _, _, _, _, by rw [he_c0 (getT_hit hT) (by simp_all) (by omega) (by omega)]; rfl, by rw [he_c0 (getT_hit hT) (by simp_all) (by omega) (by omega)], Gle.refl _, hO, hT, by rw [he_c0 (getT_hit hT) (by simp_all) (by omega) (by omega)], by rw [he_c0 (getT_hit hT) (by simp_all) (by omega) (by omega)], hR, Nat.le_succ _⟩, hS119⟩
 · first | (exfalso; simp_all; done) | (exfalso; omega) | exact ⟨_, _, rfl, ⟨_, _, O, (A ++ (n, b, t) :: B), _, _, _, _, _, _, by rw [he_v0 (getT_hit hT) (by simp_all) (by omega)]; rfl, by rw [he_v0 (getT_hit hT) (by simp_all) (by omega)], Gle.refl _, hO, hT, by rw [he_v0 (getT_hit hT) (by simp_all) (by omega)], by rw [he_v0 (getT_hit hT) (by simp_all) (by omega)], hR, Nat.le_succ _⟩, hS119⟩
 have hc106b := hc106
 try simp only [zbb] at hc106
 refine wp_skip ?_
 refine hK104 _ _ ?_
 refine wp_seq_k (fun K120 hK120 => ?_)
 refine wp_region_lit ?_
 refine l_q rfl rfl (q_assignI rfl) ?_
 refine l_nil ?_
 refine hK120 _ _ ?_
 refine wp_seq_k (fun K121 hK121 => ?_)
 refine wp_seq_k (fun K122 hK122 => ?_)
 refine wp_region_lit ?_
 refine l_q rfl rfl (q_moveB rfl) ?_
 refine l_nil ?_
 refine hK122 _ _ ?_
 refine c_condT rfl rfl ?_
 refine wp_region_lit ?_
 refine l_q rfl rfl (q_assignI rfl) ?_
 refine l_nil ?_
 refine hK121 _ _ ?_
 refine r_any (by kernel_rfl) hS15 (fun w124 hS124 => ?_)
 clear hS15
 refine o_pure (i := 0) (fun _ _ => trivial) rfl rfl (by kernel_rfl) (goes0 rfl) (QOk.then (QOk.inBlock (QOk.then (QOk.inBlock (QOk.then QOk.body))))) (fun w => q_moveP rfl) ?_
 refine o_pure (i := 1) (fun _ _ => trivial) rfl rfl (by kernel_rfl) (goes0 rfl) (QOk.then (QOk.inBlock (QOk.then (QOk.inBlock (QOk.then QOk.body))))) (fun w => q_moveI rfl) ?_
 refine o_pure (i := 2) (fun _ _ => trivial) rfl rfl (by kernel_rfl) (goes0 rfl) (QOk.then (QOk.inBlock (QOk.then (QOk.inBlock (QOk.then QOk.body))))) (fun w => q_fieldAddr (ft := 3) (o := 3) rfl (by kernel_rfl)) ?_
 refine o_held (i := 3) [7] (fun _ _ => trivial) rfl rfl (by kernel_rfl) (goes0 rfl) (QOk.then (QOk.inBlock (QOk.then (QOk.inBlock (QOk.then QOk.body))))) (q_load1 rfl (by kernel_rfl) (hS124.cell (i := 0) rfl rfl)) ?_
 refine o_pure (i := 4) (fun j w => ⟨(fun _ _ => trivial) j w, fun _ h => h⟩) rfl rfl (by kernel_rfl) (goes0 rfl) (QOk.then (QOk.inBlock (QOk.then (QOk.inBlock (QOk.then QOk.body))))) (fun w => q_fieldAddr (ft := 3) (o := 1) rfl (by kernel_rfl)) ?_
 refine o_held (i := 5) [6, 7] (fun j w => ⟨(fun _ _ => trivial) j w, fun _ h => h⟩) rfl rfl (by kernel_rfl) (goes0 rfl) (QOk.then (QOk.inBlock (QOk.then (QOk.inBlock (QOk.then QOk.body))))) (q_load1 rfl (by kernel_rfl) (hS124.cell (i := 0) rfl rfl)) ?_
 refine o_pure (i := 6) (fun j w => ⟨(fun j w => ⟨(fun _ _ => trivial) j w, fun _ h => h⟩) j w, fun _ h => h⟩) rfl rfl (by kernel_rfl) (goes0 rfl) (QOk.then (QOk.inBlock (QOk.then (QOk.inBlock (QOk.then QOk.body))))) (fun w => q_shlN (k := .i64) (a := 1) (b := m) rfl rfl (by show _ ≤ 64; omega) (wrap_fit_i64 (by omega))) ?_
 refine o_eff (i := 7) (by kernel_rfl) rfl (goes0 rfl) (fun K hK => ?_)
 have hS126 := hS124.fr8; clear hS124
 have hS127 := hS126.fr6; clear hS126
 have hS128 := hS127.fr5; clear hS127
 refine e_call (by kernel_rfl) (send_ok k _ nd _ _ _ _ _ _ _ hO (by first | omega | (simp only [zll] <;> omega)) (5 : Int) n (1 * 2 ^ m) 0 (by first | omega | (simp only [zll] <;> omega)) (by first | omega | (simp only [zll] <;> omega)) _ (St.begin (Γ := [_, _, _]) hS128)) rfl (after_M (Γ1 := [_, _, _]) hS128 (fun v125 G125 w125 hv125 hS125 => ?_))
 clear hS128
 obtain ⟨oa125, oc125, O125, g125, rfl, hle125, hO125, hOe125⟩ := hv125
 have hS129 : St _ _ [.blk k (.cells #[.pointer (some ⟨kw, 0, none⟩), .int .i64 nd, .int .i64 (inc : Int), .int .i64 (cnt : Int), .map (some mb), .slice oa125 O125.length oc125] 68), .ow 42 5 oa125 O125.length oc125 (List.flatMap lo O125), .fz g125, _, _, _, _, _, _] _ := hS125; clear hS125
 have hOl125 : O125.length ≤ O.length + 16 := sends_len hOe125
 refine hK _ _ ⟨⟨trivial, fun h => absurd h (by decide)⟩, fun h => absurd h (by decide)⟩ ?_; clear hK K
 refine o_done (by kernel_rfl) ?_
 refine hK103 _ _ ?_
 refine wp_exit ?_
 refine hK17 _ _ ?_
 refine wp_seq_k (fun K130 hK130 => ?_)
 refine wp_region_lit ?_
 refine l_q rfl rfl (q_assignI rfl) ?_
 refine l_nil ?_
 refine hK130 _ _ ?_
 refine wp_ret ?_
 refine c_ret1 rfl rfl ?_
 have hS131 := hS129.fr5; clear hS129
 have hS132 := hS131.fr5; clear hS131
 have hS133 : St _ _ [_, _, _, .fz g125, _, _, _, _] _ := tb_put (q := (n, b, t)) hS132; clear hS132
 have hS134 := hS133.fr3; clear hS133
 have hS135 := hS134.fr7; clear hS134
 have hS136 := hS135.fr7; clear hS135
 have hS137 := hS136.fr5; clear hS136
 have hS138 := hS137.fr4; clear hS137
 have hS139 := hS138.fr7; clear hS138
 have hS140 := hS139.fr6; clear hS139
 have hS141 : St _ _ [_, _, _, _, _, _, .fz g125] _ := hS140.only 7; clear hS140
 have hS142 : St _ _ [co k kw nd inc cnt mb oa125 O125 oc125 (A ++ (n, b, t) :: B), _, _, .fz g125] _ := co_close hS141; clear hS141
 exact ⟨_, _, rfl, ⟨_, _, O125, (A ++ (n, b, t) :: B), _, _, _, _, _, _, by rw [he_c1 (getT_hit hT) (by simp_all) (by omega)]; rfl, by rw [he_c1 (getT_hit hT) (by simp_all) (by omega)], hle125, hO125, hT, by rw [he_c1 (getT_hit hT) (by simp_all) (by omega)], by rw [he_c1 (getT_hit hT) (by simp_all) (by omega)]; exact hOe125, hR.mono hle125, Nat.le_succ _⟩, hS142⟩
 have hc88b := hc88
 try simp only [zbb] at hc88
 refine wp_skip ?_
 refine hK86 _ _ ?_
 refine wp_seq_k (fun K143 hK143 => ?_)
 refine wp_seq_k (fun K144 hK144 => ?_)
 refine wp_region_lit ?_
 refine l_q rfl rfl (q_eql rfl rfl) ?_
 refine l_q rfl rfl (q_assignB rfl) ?_
 refine l_nil ?_
 refine hK144 _ _ ?_
 refine c_cond rfl (fun hc145 => ?_) (fun hc145 => ?_)
 have hc145b := hc145
 try simp only [zbb] at hc145
 refine wp_exit ?_
 refine hK20 _ _ ?_
 refine wp_seq_k (fun K146 hK146 => ?_)
 refine wp_seq_k (fun K147 hK147 => ?_)
 refine wp_seq_k (fun K148 hK148 => ?_)
 refine wp_region_lit ?_
 refine l_q rfl rfl (q_moveB rfl) ?_
 refine l_nil ?_
 refine hK148 _ _ ?_
 refine c_cond rfl (fun hc149 => ?_) (fun hc149 => ?_)
 have hc149b := hc149
 try simp only [zbb] at hc149
 refine wp_exit ?_
 refine hK17 _ _ ?_
 refine wp_seq_k (fun K150 hK150 => ?_)
 refine wp_region_lit ?_
 refine l_q rfl rfl (q_assignI rfl) ?_
 refine l_nil ?_
 refine hK150 _ _ ?_
 refine wp_ret ?_
 refine c_ret1 rfl rfl ?_
 have hS151 := hS15.fr2; clear hS15
 have hS152 := hS151.fr2; clear hS151
 have hS153 : St _ _ [_, _, _, _, _, _, _, .fz g] _ := tb_put (q := (n, b, t)) hS152; clear hS152
 have hS154 := hS153.fr7; clear hS153
 have hS155 := hS154.fr7; clear hS154
 have hS156 := hS155.fr7; clear hS155
 have hS157 := hS156.fr7; clear hS156
 have hS158 := hS157.fr4; clear hS157
 have hS159 := hS158.fr7; clear hS158
 have hS160 := hS159.fr7; clear hS159
 have hS161 : St _ _ [_, _, _, _, _, _, .fz g] _ := hS160.only 7; clear hS160
 have hS162 : St _ _ [_, _, _, .fz g] _ := co_close hS161; clear hS161
 rcases Bool.eq_false_or_eq_true t.com with hcm | hcm
 · first | (exfalso; simp_all; done) | (exfalso; omega) | exact ⟨_, _, rfl, ⟨_, _, O, (A ++ (n, b, t) :: B), _, _, _, _, _, _, by rw [he_c0 (getT_hit hT) (by simp_all) (by omega) (by omega)]; rfl, by rw [he_c0 (getT_hit hT) (by simp_all) (by omega) (by omega)], Gle.refl _, hO, hT, by rw [he_c0 (getT_hit hT) (by simp_all) (by omega) (by omega)], by rw [he_c0 (getT_hit hT) (by simp_all) (by omega) (by omega)], hR, Nat.le_succ _⟩, hS162⟩
 · first | (exfalso; simp_all; done) | (exfalso; omega) | exact ⟨_, _, rfl, ⟨_, _, O, (A ++ (n, b, t) :: B), _, _, _, _, _, _, by rw [he_v0 (getT_hit hT) (by simp_all) (by omega)]; rfl, by rw [he_v0 (getT_hit hT) (by simp_all) (by omega)], Gle.refl _, hO, hT, by rw [he_v0 (getT_hit hT) (by simp_all) (by omega)], by rw [he_v0 (getT_hit hT) (by simp_all) (by omega)], hR, Nat.le_succ _⟩, hS162⟩
 have hc149b := hc149
 try simp only [zbb] at hc149
 refine wp_skip ?_
 refine hK147 _ _ ?_
 refine wp_seq_k (fun K163 hK163 => ?_)
 refine wp_region_lit ?_
 refine l_q rfl rfl (q_assignI rfl) ?_
 refine l_nil ?_
 refine hK163 _ _ ?_
 refine wp_seq_k (fun K164 hK164 => ?_)
 refine wp_seq_k (fun K165 hK165 => ?_)
 refine wp_region_lit ?_
 refine l_q rfl rfl (q_moveB rfl) ?_
 refine l_nil ?_
 refine hK165 _ _ ?_
 refine c_condT rfl rfl ?_
 refine wp_region_lit ?_
 refine l_q rfl rfl (q_assignI rfl) ?_
 refine l_nil ?_
 refine hK164 _ _ ?_
 refine r_any (by kernel_rfl) hS15 (fun w167 hS167 => ?_)
 clear hS15
 refine o_pure (i := 0) (fun _ _ => trivial) rfl rfl (by kernel_rfl) (goes0 rfl) (QOk.then (QOk.inBlock (QOk.then (QOk.inBlock (QOk.then QOk.body))))) (fun w => q_moveP rfl) ?_
 refine o_pure (i := 1) (fun _ _ => trivial) rfl rfl (by kernel_rfl) (goes0 rfl) (QOk.then (QOk.inBlock (QOk.then (QOk.inBlock (QOk.then QOk.body))))) (fun w => q_moveI rfl) ?_
 refine o_pure (i := 2) (fun _ _ => trivial) rfl rfl (by kernel_rfl) (goes0 rfl) (QOk.then (QOk.inBlock (QOk.then (QOk.inBlock (QOk.then QOk.body))))) (fun w => q_fieldAddr (ft := 3) (o := 3) rfl (by kernel_rfl)) ?_
 refine o_held (i := 3) [7] (fun _ _ => trivial) rfl rfl (by kernel_rfl) (goes0 rfl) (QOk.then (QOk.inBlock (QOk.then (QOk.inBlock (QOk.then QOk.body))))) (q_load1 rfl (by kernel_rfl) (hS167.cell (i := 0) rfl rfl)) ?_
 refine o_pure (i := 4) (fun j w => ⟨(fun _ _ => trivial) j w, fun _ h => h⟩) rfl rfl (by kernel_rfl) (goes0 rfl) (QOk.then (QOk.inBlock (QOk.then (QOk.inBlock (QOk.then QOk.body))))) (fun w => q_fieldAddr (ft := 3) (o := 1) rfl (by kernel_rfl)) ?_
 refine o_held (i := 5) [6, 7] (fun j w => ⟨(fun _ _ => trivial) j w, fun _ h => h⟩) rfl rfl (by kernel_rfl) (goes0 rfl) (QOk.then (QOk.inBlock (QOk.then (QOk.inBlock (QOk.then QOk.body))))) (q_load1 rfl (by kernel_rfl) (hS167.cell (i := 0) rfl rfl)) ?_
 refine o_pure (i := 6) (fun j w => ⟨(fun j w => ⟨(fun _ _ => trivial) j w, fun _ h => h⟩) j w, fun _ h => h⟩) rfl rfl (by kernel_rfl) (goes0 rfl) (QOk.then (QOk.inBlock (QOk.then (QOk.inBlock (QOk.then QOk.body))))) (fun w => q_shlN (k := .i64) (a := 1) (b := m) rfl rfl (by show _ ≤ 64; omega) (wrap_fit_i64 (by omega))) ?_
 refine o_eff (i := 7) (by kernel_rfl) rfl (goes0 rfl) (fun K hK => ?_)
 have hS169 := hS167.fr8; clear hS167
 have hS170 := hS169.fr6; clear hS169
 have hS171 := hS170.fr5; clear hS170
 refine e_call (by kernel_rfl) (send_ok k _ nd _ _ _ _ _ _ _ hO (by first | omega | (simp only [zll] <;> omega)) (5 : Int) n (1 * 2 ^ m) 0 (by first | omega | (simp only [zll] <;> omega)) (by first | omega | (simp only [zll] <;> omega)) _ (St.begin (Γ := [_, _, _]) hS171)) rfl (after_M (Γ1 := [_, _, _]) hS171 (fun v168 G168 w168 hv168 hS168 => ?_))
 clear hS171
 obtain ⟨oa168, oc168, O168, g168, rfl, hle168, hO168, hOe168⟩ := hv168
 have hS172 : St _ _ [.blk k (.cells #[.pointer (some ⟨kw, 0, none⟩), .int .i64 nd, .int .i64 (inc : Int), .int .i64 (cnt : Int), .map (some mb), .slice oa168 O168.length oc168] 68), .ow 42 5 oa168 O168.length oc168 (List.flatMap lo O168), .fz g168, _, _, _, _, _, _] _ := hS168; clear hS168
 have hOl168 : O168.length ≤ O.length + 16 := sends_len hOe168
 refine hK _ _ ⟨⟨trivial, fun h => absurd h (by decide)⟩, fun h => absurd h (by decide)⟩ ?_; clear hK K
 refine o_done (by kernel_rfl) ?_
 refine hK146 _ _ ?_
 refine wp_exit ?_
 refine hK17 _ _ ?_
 refine wp_seq_k (fun K173 hK173 => ?_)
 refine wp_region_lit ?_
 refine l_q rfl rfl (q_assignI rfl) ?_
 refine l_nil ?_
 refine hK173 _ _ ?_
 refine wp_ret ?_
 refine c_ret1 rfl rfl ?_
 have hS174 := hS172.fr5; clear hS172
 have hS175 := hS174.fr5; clear hS174
 have hS176 : St _ _ [_, _, _, .fz g168, _, _, _, _] _ := tb_put (q := (n, b, t)) hS175; clear hS175
 have hS177 := hS176.fr3; clear hS176
 have hS178 := hS177.fr7; clear hS177
 have hS179 := hS178.fr7; clear hS178
 have hS180 := hS179.fr5; clear hS179
 have hS181 := hS180.fr4; clear hS180
 have hS182 := hS181.fr7; clear hS181
 have hS183 := hS182.fr6; clear hS182
 have hS184 : St _ _ [_, _, _, _, _, _, .fz g168] _ := hS183.only 7; clear hS183
 have hS185 : St _ _ [co k kw nd inc cnt mb oa168 O168 oc168 (A ++ (n, b, t) :: B), _, _, .fz g168] _ := co_close hS184; clear hS184
 exact ⟨_, _, rfl, ⟨_, _, O168, (A ++ (n, b, t) :: B), _, _, _, _, _, _, by rw [he_c1 (getT_hit hT) (by simp_all) (by omega)]; rfl, by rw [he_c1 (getT_hit hT) (by simp_all) (by omega)], hle168, hO168, hT, by rw [he_c1 (getT_hit hT) (by simp_all) (by omega)], by rw [he_c1 (getT_hit hT) (by simp_all) (by omega)]; exact hOe168, hR.mono hle168, Nat.le_succ _⟩, hS185⟩
 have hc145b := hc145
 try simp only [zbb] at hc145
 refine wp_skip ?_
 refine hK143 _ _ ?_
 refine wp_seq_k (fun K186 hK186 => ?_)
 refine wp_region_lit ?_
 refine l_q rfl rfl (q_eql rfl rfl) ?_
 refine l_q rfl rfl (q_assignB rfl) ?_
 refine l_nil ?_
 refine hK186 _ _ ?_
 refine c_cond rfl (fun hc187 => ?_) (fun hc187 => ?_)
 have hc187b := hc187
 try simp only [zbb] at hc187
 refine wp_exit ?_
 refine hK19 _ _ ?_
 refine wp_seq_k (fun K188 hK188 => ?_)
 refine wp_seq_k (fun K189 hK189 => ?_)
 refine wp_region_lit ?_
 refine l_q rfl rfl (q_moveB rfl) ?_
 refine l_q rfl rfl (q_moveB rfl) ?_
 refine l_on rfl rfl rfl ?_
 refine l_q rfl rfl (q_moveP rfl) ?_
 refine l_on rfl rfl rfl ?_
 refine l_q rfl rfl (q_nilCheck rfl) ?_
 refine l_on rfl rfl rfl ?_
 refine l_q rfl rfl (q_fieldAddr (ft := 4) (o := 4) rfl (by kernel_rfl)) ?_
 refine l_on rfl rfl rfl ?_
 refine l_q rfl rfl (q_load1 rfl (by kernel_rfl) (hS15.cell (i := 1) rfl rfl)) ?_
 refine l_q rfl rfl (q_pickT rfl rfl rfl) ?_
 refine l_nil ?_
 refine hK189 _ _ ?_
 refine c_cond rfl (fun hc190 => ?_) (fun hc190 => ?_)
 have hc190b := hc190
 try simp only [zbb] at hc190
 refine wp_seq_k (fun K191 hK191 => ?_)
 refine wp_region_lit ?_
 refine l_q rfl rfl (q_moveP rfl) ?_
 refine l_q rfl rfl (q_moveP rfl) ?_
 refine l_q rfl rfl (q_loadA (m := 5) rfl (by kernel_rfl) (by kernel_rfl) (hS15.blk (i := 0) rfl) rfl rfl) ?_
 refine l_e rfl (fun K hK => ?_)
 have hS193 := hS15.fr8; clear hS15
 have hS194 := hS193.fr8; clear hS193
 have hS195 := hS194.fr8; clear hS194
 have hS196 := hS195.fr8; clear hS195
 have hS197 := hS196.fr6; clear hS196
 have hS198 := hS197.fr6; clear hS197
 have hS199 := hS198.fr8; clear hS198
 have hS200 := hS199.fr8; clear hS199
 refine e_call (by kernel_rfl) (done_ok k kw nd inc cnt mb oa O oc n A b t B hT g hO hol0 kd wa wc rs da dc l bb s hrl hl hbb hs hR lk m hm nd an L.length cn _ (St.begin (Γ := [_, _, _, _, _, _, _, _]) hS200)) rfl (after_M (Γ1 := [_, _, _, _, _, _, _, _]) hS200 (fun v192 G192 w192 hv192 hS192 => ?_))
 clear hS200
 obtain ⟨oa192, oc192, O192, T192, wa192, wc192, rs192, da192, dc192, g192, rfl, rfl, hle192, hO192, hT192, hab192, hOe192, hrs192, hrl192⟩ := hv192
 have hS201 : St _ _ [co k kw nd inc cnt mb oa192 O192 oc192 T192, wk kw kd wa192 wc192 rs192, dk kd da192 dc192 (doneF n t (1 * 2 ^ m) (absT (A ++ (n, b, t) :: B)) l).2.2 bb s, .fz g192, _] _ := hS192; clear hS192
 refine hK _ _ ?_; clear hK K
 refine l_q rfl rfl (q_assignI rfl) ?_
 refine l_nil ?_
 refine hK191 _ _ ?_
 refine wp_ret ?_
 refine c_ret1 rfl rfl ?_
 have hS202 : St _ _ [_, _, _, .fz g192] _ := hS201.only 4; clear hS201
 exact ⟨_, _, rfl, ⟨_, _, O192, T192, _, _, _, _, _, _, by rw [he_c2 (getT_hit hT) (by simp_all) (by omega)]; rfl, by rw [he_c2 (getT_hit hT) (by simp_all) (by omega)], hle192, hO192, hT192, by rw [he_c2 (getT_hit hT) (by simp_all) (by omega)]; exact hab192, by rw [he_c2 (getT_hit hT) (by simp_all) (by omega)]; exact hOe192, hrs192, hrl192⟩, hS202⟩
 have hc190b := hc190
 try simp only [zbb] at hc190
 refine wp_skip ?_
 refine hK188 _ _ ?_
 refine wp_exit ?_
 refine hK17 _ _ ?_
 refine wp_seq_k (fun K203 hK203 => ?_)
 refine wp_region_lit ?_
 refine l_q rfl rfl (q_assignI rfl) ?_
 refine l_nil ?_
 refine hK203 _ _ ?_
 refine wp_ret ?_
 refine c_ret1 rfl rfl ?_
 have hS204 := hS15.fr2; clear hS15
 have hS205 := hS204.fr2; clear hS204
 have hS206 : St _ _ [_, _, _, _, _, _, _, .fz g] _ := tb_put (q := (n, b, t)) hS205; clear hS205
 have hS207 := hS206.fr7; clear hS206
 have hS208 := hS207.fr7; clear hS207
 have hS209 := hS208.fr7; clear hS208
 have hS210 := hS209.fr7; clear hS209
 have hS211 := hS210.fr4; clear hS210
 have hS212 := hS211.fr7; clear hS211
 have hS213 := hS212.fr7; clear hS212
 have hS214 : St _ _ [_, _, _, _, _, _, .fz g] _ := hS213.only 7; clear hS213
 have hS215 : St _ _ [_, _, _, .fz g] _ := co_close hS214; clear hS214
 rcases Bool.eq_false_or_eq_true t.com with hcm | hcm
 · first | (exfalso; simp_all; done) | (exfalso; omega) | exact ⟨_, _, rfl, ⟨_, _, O, (A ++ (n, b, t) :: B), _, _, _, _, _, _, by rw [he_c0 (getT_hit hT) (by simp_all) (by omega) (by omega)]; rfl, by rw [he_c0 (getT_hit hT) (by simp_all) (by omega) (by omega)], Gle.refl _, hO, hT, by rw [he_c0 (getT_hit hT) (by simp_all) (by omega) (by omega)], by rw [he_c0 (getT_hit hT) (by simp_all) (by omega) (by omega)], hR, Nat.le_succ _⟩, hS215⟩
 · first | (exfalso; simp_all; done) | (exfalso; omega) | exact ⟨_, _, rfl, ⟨_, _, O, (A ++ (n, b, t) :: B), _, _, _, _, _, _, by rw [he_v0 (getT_hit hT) (by simp_all) (by omega)]; rfl, by rw [he_v0 (getT_hit hT) (by simp_all) (by omega)], Gle.refl _, hO, hT, by rw [he_v0 (getT_hit hT) (by simp_all) (by omega)], by rw [he_v0 (getT_hit hT) (by simp_all) (by omega)], hR, Nat.le_succ _⟩, hS215⟩
 have hc187b := hc187
 try simp only [zbb] at hc187
 refine wp_skip ?_
 refine hK23 _ _ ?_
 refine wp_exit ?_
 refine hK17 _ _ ?_
 refine wp_seq_k (fun K216 hK216 => ?_)
 refine wp_region_lit ?_
 refine l_q rfl rfl (q_assignI rfl) ?_
 refine l_nil ?_
 refine hK216 _ _ ?_
 refine wp_ret ?_
 refine c_ret1 rfl rfl ?_
 have hS217 := hS15.fr2; clear hS15
 have hS218 := hS217.fr2; clear hS217
 have hS219 : St _ _ [_, _, _, _, _, _, _, .fz g] _ := tb_put (q := (n, b, t)) hS218; clear hS218
 have hS220 := hS219.fr7; clear hS219
 have hS221 := hS220.fr7; clear hS220
 have hS222 := hS221.fr7; clear hS221
 have hS223 := hS222.fr7; clear hS222
 have hS224 := hS223.fr4; clear hS223
 have hS225 := hS224.fr7; clear hS224
 have hS226 := hS225.fr7; clear hS225
 have hS227 : St _ _ [_, _, _, _, _, _, .fz g] _ := hS226.only 7; clear hS226
 have hS228 : St _ _ [_, _, _, .fz g] _ := co_close hS227; clear hS227
 rcases Bool.eq_false_or_eq_true t.com with hcm | hcm
 · first | (exfalso; simp_all; done) | (exfalso; omega) | exact ⟨_, _, rfl, ⟨_, _, O, (A ++ (n, b, t) :: B), _, _, _, _, _, _, by rw [he_c0 (getT_hit hT) (by simp_all) (by omega) (by omega)]; rfl, by rw [he_c0 (getT_hit hT) (by simp_all) (by omega) (by omega)], Gle.refl _, hO, hT, by rw [he_c0 (getT_hit hT) (by simp_all) (by omega) (by omega)], by rw [he_c0 (getT_hit hT) (by simp_all) (by omega) (by omega)], hR, Nat.le_succ _⟩, hS228⟩
 · first | (exfalso; simp_all; done) | (exfalso; omega) | exact ⟨_, _, rfl, ⟨_, _, O, (A ++ (n, b, t) :: B), _, _, _, _, _, _, by rw [he_v0 (getT_hit hT) (by simp_all) (by omega)]; rfl, by rw [he_v0 (getT_hit hT) (by simp_all) (by omega)], Gle.refl _, hO, hT, by rw [he_v0 (getT_hit hT) (by simp_all) (by omega)], by rw [he_v0 (getT_hit hT) (by simp_all) (by omega)], hR, Nat.le_succ _⟩, hS228⟩
set_option maxHeartbeats 2000000 in
set_option maxRecDepth 100000 in
theorem hear_miss (k kw : Nat) (nd : Int) (inc cnt mb : Nat) (oa : Option Addr) (O : List Lo) (oc : Nat) (n : Int) (T : List (Int × Nat × Tx)) (hn : ∀ q ∈ T, q.1 ≠ n) (hT : TOk T) (g : Gh) (hO : LOk g O) (hol0 : O.length ≤ 100000) (kd : Nat) (wa : Option Addr) (wc : Nat) (rs : List Rc) (da : Option Addr) (dc : Nat) (l : List Nat) (bb s : Nat) (hrl : rs.length ≤ 500000) (hl : Bytes l) (hbb : bb + l.length ≤ 500000000) (hs : s ≤ l.length) (hR : RsOk g rs) (lk : Int) (m : Nat) (hm : m < 16) (L : List Int) (hr1 : rightL (Lr.mk lk (m : Int) nd n L) = true) (hx : Int.tmod n 16 = nd) (an : Option Addr) (nl cn : Nat) (hnl : L.length = nl) (hnm : nl ≤ 2000000) (w : World) (g2 : Gh) (hg2 : Rog [co k kw nd inc cnt mb oa O oc T, wk kw kd wa wc rs, dk kd da dc l bb s, .fz g] w g2) (hG : SlG g2 an (iv L)) (hS : St w (owns [co k kw nd inc cnt mb oa O oc T, wk kw kd wa wc rs, dk kd da dc l bb s, .fz g]) [co k kw nd inc cnt mb oa O oc T, wk kw kd wa wc rs, dk kd da dc l bb s, .fz g] w) : Calls Try.prog 16 #[pV k, .agg #[.int .i64 lk, .int .i64 (m : Int), .int .i64 nd, .int .i64 n, .slice an nl cn]] w (Post w [co k kw nd inc cnt mb oa O oc T, wk kw kd wa wc rs, dk kd da dc l bb s, .fz g] fun v G => CoW k kw nd inc mb kd bb rs g (.int .i64 (hearF nd n lk (1 * 2 ^ m) (absT T) (O.map Lo.l) l s).1) (cnt, (hearF nd n lk (1 * 2 ^ m) (absT T) (O.map Lo.l) l s).2.1, (hearF nd n lk (1 * 2 ^ m) (absT T) (O.map Lo.l) l s).2.2.1, (hearF nd n lk (1 * 2 ^ m) (absT T) (O.map Lo.l) l s).2.2.2.1, (hearF nd n lk (1 * 2 ^ m) (absT T) (O.map Lo.l) l s).2.2.2.2) v G) := by
 subst hnl
 have hp16 : 1 * 2 ^ m ≤ 32768 := pow_le16 hm
 refine c_enter Try.func16 rfl rfl rfl ?_
 refine wp_seq_k (fun K1 hK1 => ?_)
 have hS2 := co_open hS; clear hS
 refine wp_region_lit ?_
 refine l_e rfl (fun K hK => ?_)
 refine e_boxA hS2 rfl (fun b3 w3 (hS3 : St _ _ [.blk b3 (.cells #[.int .i64 lk, .int .i64 (m : Int), .int .i64 nd, .int .i64 n, .slice an L.length cn] 42), .blk k (.cells #[.pointer (some ⟨kw, 0, none⟩), .int .i64 nd, .int .i64 (inc : Int), .int .i64 (cnt : Int), .map (some mb), .slice oa O.length oc] 68), .mp (.int .i64) mb (List.map tc T), .pk (List.map tb T), .ow 42 5 oa O.length oc (List.flatMap lo O), wk kw kd wa wc rs, dk kd da dc l bb s, .fz g] _) => ?_)
 clear hS2
 refine hK _ _ ?_; clear hK K
 refine l_q rfl rfl (q_assignI rfl) ?_
 refine l_nil ?_
 refine hK1 _ _ ?_
 refine wp_seq_k (fun K4 hK4 => ?_)
 refine wp_block ?_
 refine wp_seq_k (fun K5 hK5 => ?_)
 refine wp_region_lit ?_
 refine l_q rfl rfl (q_moveP rfl) ?_
 refine l_q rfl rfl (q_peq rfl (by kernel_rfl)) ?_
 refine l_q rfl rfl (q_assignB rfl) ?_
 refine l_nil ?_
 refine hK5 _ _ ?_
 refine c_condF rfl rfl ?_
 refine wp_seq_k (fun K7 hK7 => ?_)
 refine r_any (by kernel_rfl) hS3 (fun w8 hS8 => ?_)
 clear hS3
 refine o_held (i := 0) [1, 2, 3, 4, 5, 6, 7, 8, 9, 10, 11, 12, 13, 14, 15, 16, 17, 18, 19, 20, 21, 22] (fun _ _ => trivial) rfl rfl (by kernel_rfl) (goes0 rfl) (QOk.then (QOk.inBlock (QOk.then QOk.body))) (q_loadA (m := 5) rfl (by kernel_rfl) (by kernel_rfl) (hS8.blk (i := 0) rfl) rfl rfl) ?_
 refine o_eff (i := 1) (by kernel_rfl) rfl (goes0 rfl) (fun K hK => ?_)
 refine e_call (by kernel_rfl) (lright_ok (Lr.mk lk (m : Int) nd n L) L.length (by first | omega | (simp only [zll] <;> omega)) (by first | omega | (simp only [zll] <;> omega)) _ _ _ (hG.mono (hg2.le hS8))) rfl (after_R hS8 (fun v9 w9 hv9 hS9 => ?_))
 clear hS8
 obtain rfl := hv9
 refine hK _ _ ⟨trivial, fun h => absurd h (by decide)⟩ ?_; clear hK K
 refine o_pure (i := 2) (fun j w => ⟨(fun _ _ => trivial) j w, fun _ h => h⟩) rfl rfl (by kernel_rfl) (goes0 rfl) (QOk.then (QOk.inBlock (QOk.then QOk.body))) (fun w => q_not rfl) ?_
 refine o_pure (i := 3) (fun j w => ⟨(fun _ _ => trivial) j w, fun _ h => h⟩) rfl rfl (by kernel_rfl) (goes0 rfl) (QOk.then (QOk.inBlock (QOk.then QOk.body))) (fun w => q_moveB rfl) ?_
 refine o_pure (i := 4) (fun j w => ⟨(fun _ _ => trivial) j w, fun _ h => h⟩) rfl rfl (by kernel_rfl) (goes1 rfl rfl (by rw [show _ = _ from hr1]; rfl)) (QOk.then (QOk.inBlock (QOk.then QOk.body))) (fun w => q_fieldAddr (ft := 3) (o := 2) rfl (by kernel_rfl)) ?_
 refine o_held (i := 5) [10, 11, 12, 13, 14, 15, 16, 17, 18, 19, 20, 21, 22] (fun j w => ⟨(fun _ _ => trivial) j w, fun _ h => h⟩) rfl rfl (by kernel_rfl) (goes1 rfl rfl (by rw [show _ = _ from hr1]; rfl)) (QOk.then (QOk.inBlock (QOk.then QOk.body))) (q_load1 rfl (by kernel_rfl) (hS9.cell (i := 0) rfl rfl)) ?_
 refine o_pure (i := 6) (fun j w => ⟨(fun j w => ⟨(fun _ _ => trivial) j w, fun _ h => h⟩) j w, fun _ h => h⟩) rfl rfl (by kernel_rfl) (goes1 rfl rfl (by rw [show _ = _ from hr1]; rfl)) (QOk.then (QOk.inBlock (QOk.then QOk.body))) (fun w => q_moveP rfl) ?_
 refine o_pure (i := 7) (fun j w => ⟨(fun j w => ⟨(fun _ _ => trivial) j w, fun _ h => h⟩) j w, fun _ h => h⟩) rfl rfl (by kernel_rfl) (goes1 rfl rfl (by rw [show _ = _ from hr1]; rfl)) (QOk.then (QOk.inBlock (QOk.then QOk.body))) (fun w => q_nilCheck rfl) ?_
 refine o_pure (i := 8) (fun j w => ⟨(fun j w => ⟨(fun _ _ => trivial) j w, fun _ h => h⟩) j w, fun _ h => h⟩) rfl rfl (by kernel_rfl) (goes1 rfl rfl (by rw [show _ = _ from hr1]; rfl)) (QOk.then (QOk.inBlock (QOk.then QOk.body))) (fun w => q_fieldAddr (ft := 3) (o := 1) rfl (by kernel_rfl)) ?_
 refine o_held (i := 9) [10, 11, 12, 13, 14, 15, 16, 17, 18, 19, 20, 21, 22] (fun j w => ⟨(fun j w => ⟨(fun _ _ => trivial) j w, fun _ h => h⟩) j w, fun _ h => h⟩) rfl rfl (by kernel_rfl) (goes1 rfl rfl (by rw [show _ = _ from hr1]; rfl)) (QOk.then (QOk.inBlock (QOk.then QOk.body))) (q_load1 rfl (by kernel_rfl) (hS9.cell (i := 1) rfl rfl)) ?_
 refine o_pure (i := 10) (fun j w => ⟨(fun j w => ⟨(fun j w => ⟨(fun _ _ => trivial) j w, fun _ h => h⟩) j w, fun _ h => h⟩) j w, fun _ h => h⟩) rfl rfl (by kernel_rfl) (goes1 rfl rfl (by rw [show _ = _ from hr1]; rfl)) (QOk.then (QOk.inBlock (QOk.then QOk.body))) (fun w => q_neq rfl rfl) ?_
 refine o_pure (i := 11) (fun j w => ⟨(fun j w => ⟨(fun j w => ⟨(fun _ _ => trivial) j w, fun _ h => h⟩) j w, fun _ h => h⟩) j w, fun _ h => h⟩) rfl rfl (by kernel_rfl) (goes0 rfl) (QOk.then (QOk.inBlock (QOk.then QOk.body))) (fun w => q_pickF rfl (by rw [show _ = _ from hr1]; rfl) rfl) ?_
 refine o_pure (i := 12) (fun j w => ⟨(fun j w => ⟨(fun j w => ⟨(fun _ _ => trivial) j w, fun _ h => h⟩) j w, fun _ h => h⟩) j w, fun _ h => h⟩) rfl rfl (by kernel_rfl) (goes0 rfl) (QOk.then (QOk.inBlock (QOk.then QOk.body))) (fun w => q_moveB rfl) ?_
 refine o_pure (i := 13) (fun j w => ⟨(fun j w => ⟨(fun j w => ⟨(fun _ _ => trivial) j w, fun _ h => h⟩) j w, fun _ h => h⟩) j w, fun _ h => h⟩) rfl rfl (by kernel_rfl) (goes1 rfl rfl (by simp)) (QOk.then (QOk.inBlock (QOk.then QOk.body))) (fun w => q_fieldAddr (ft := 3) (o := 3) rfl (by kernel_rfl)) ?_
 refine o_held (i := 14) [15, 20, 21, 22] (fun j w => ⟨(fun j w => ⟨(fun j w => ⟨(fun _ _ => trivial) j w, fun _ h => h⟩) j w, fun _ h => h⟩) j w, fun _ h => h⟩) rfl rfl (by kernel_rfl) (goes1 rfl rfl (by simp)) (QOk.then (QOk.inBlock (QOk.then QOk.body))) (q_load1 rfl (by kernel_rfl) (hS9.cell (i := 0) rfl rfl)) ?_
 refine o_pure (i := 15) (fun j w => ⟨(fun j w => ⟨(fun j w => ⟨(fun j w => ⟨(fun _ _ => trivial) j w, fun _ h => h⟩) j w, fun _ h => h⟩) j w, fun _ h => h⟩) j w, fun _ h => h⟩) rfl rfl (by kernel_rfl) (goes1 rfl rfl (by simp)) (QOk.then (QOk.inBlock (QOk.then QOk.body))) (fun w => q_rem rfl rfl (by first | decide | omega)) ?_
 refine o_pure (i := 16) (fun j w => ⟨(fun j w => ⟨(fun j w => ⟨(fun j w => ⟨(fun _ _ => trivial) j w, fun _ h => h⟩) j w, fun _ h => h⟩) j w, fun _ h => h⟩) j w, fun _ h => h⟩) rfl rfl (by kernel_rfl) (goes1 rfl rfl (by simp)) (QOk.then (QOk.inBlock (QOk.then QOk.body))) (fun w => q_moveP rfl) ?_
 refine o_pure (i := 17) (fun j w => ⟨(fun j w => ⟨(fun j w => ⟨(fun j w => ⟨(fun _ _ => trivial) j w, fun _ h => h⟩) j w, fun _ h => h⟩) j w, fun _ h => h⟩) j w, fun _ h => h⟩) rfl rfl (by kernel_rfl) (goes1 rfl rfl (by simp)) (QOk.then (QOk.inBlock (QOk.then QOk.body))) (fun w => q_nilCheck rfl) ?_
 refine o_pure (i := 18) (fun j w => ⟨(fun j w => ⟨(fun j w => ⟨(fun j w => ⟨(fun _ _ => trivial) j w, fun _ h => h⟩) j w, fun _ h => h⟩) j w, fun _ h => h⟩) j w, fun _ h => h⟩) rfl rfl (by kernel_rfl) (goes1 rfl rfl (by simp)) (QOk.then (QOk.inBlock (QOk.then QOk.body))) (fun w => q_fieldAddr (ft := 3) (o := 1) rfl (by kernel_rfl)) ?_
 refine o_held (i := 19) [20, 21, 22] (fun j w => ⟨(fun j w => ⟨(fun j w => ⟨(fun j w => ⟨(fun _ _ => trivial) j w, fun _ h => h⟩) j w, fun _ h => h⟩) j w, fun _ h => h⟩) j w, fun _ h => h⟩) rfl rfl (by kernel_rfl) (goes1 rfl rfl (by simp)) (QOk.then (QOk.inBlock (QOk.then QOk.body))) (q_load1 rfl (by kernel_rfl) (hS9.cell (i := 1) rfl rfl)) ?_
 refine o_pure (i := 20) (fun j w => ⟨(fun j w => ⟨(fun j w => ⟨(fun j w => ⟨(fun j w => ⟨(fun _ _ => trivial) j w, fun _ h => h⟩) j w, fun _ h => h⟩) j w, fun _ h => h⟩) j w, fun _ h => h⟩) j w, fun _ h => h⟩) rfl rfl (by kernel_rfl) (goes1 rfl rfl (by simp)) (QOk.then (QOk.inBlock (QOk.then QOk.body))) (fun w => q_neq rfl rfl) ?_
 refine o_pure (i := 21) (fun j w => ⟨(fun j w => ⟨(fun j w => ⟨(fun j w => ⟨(fun j w => ⟨(fun _ _ => trivial) j w, fun _ h => h⟩) j w, fun _ h => h⟩) j w, fun _ h => h⟩) j w, fun _ h => h⟩) j w, fun _ h => h⟩) rfl rfl (by kernel_rfl) (goes0 rfl) (QOk.then (QOk.inBlock (QOk.then QOk.body))) (fun w => q_pickF rfl (by simp) rfl) ?_
 refine o_pure (i := 22) (fun j w => ⟨(fun j w => ⟨(fun j w => ⟨(fun j w => ⟨(fun j w => ⟨(fun _ _ => trivial) j w, fun _ h => h⟩) j w, fun _ h => h⟩) j w, fun _ h => h⟩) j w, fun _ h => h⟩) j w, fun _ h => h⟩) rfl rfl (by kernel_rfl) (goes0 rfl) (QOk.then (QOk.inBlock (QOk.then QOk.body))) (fun w => q_assignB rfl) ?_
 refine o_done (by kernel_rfl) ?_
 refine hK7 _ _ ?_
 refine c_condF rfl (by rw [hx]; simp) ?_
 refine wp_skip ?_
 refine hK4 _ _ ?_
 refine wp_seq_k (fun K12 hK12 => ?_)
 refine r_any (by kernel_rfl) hS9 (fun w13 hS13 => ?_)
 clear hS9
 refine o_pure (i := 0) (fun _ _ => trivial) rfl rfl (by kernel_rfl) (goes0 rfl) (QOk.then QOk.body) (fun w => q_moveP rfl) ?_
 refine o_pure (i := 1) (fun _ _ => trivial) rfl rfl (by kernel_rfl) (goes0 rfl) (QOk.then QOk.body) (fun w => q_nilCheck rfl) ?_
 refine o_pure (i := 2) (fun _ _ => trivial) rfl rfl (by kernel_rfl) (goes0 rfl) (QOk.then QOk.body) (fun w => q_fieldAddr (ft := 66) (o := 4) rfl (by kernel_rfl)) ?_
 refine o_held (i := 3) [6, 7, 8, 9, 10, 11] (fun _ _ => trivial) rfl rfl (by kernel_rfl) (goes0 rfl) (QOk.then QOk.body) (q_load1 rfl (by kernel_rfl) (hS13.cell (i := 1) rfl rfl)) ?_
 refine o_pure (i := 4) (fun j w => ⟨(fun _ _ => trivial) j w, fun _ h => h⟩) rfl rfl (by kernel_rfl) (goes0 rfl) (QOk.then QOk.body) (fun w => q_fieldAddr (ft := 3) (o := 3) rfl (by kernel_rfl)) ?_
 refine o_held (i := 5) [6, 7, 8, 9, 10, 11] (fun j w => ⟨(fun _ _ => trivial) j w, fun _ h => h⟩) rfl rfl (by kernel_rfl) (goes0 rfl) (QOk.then QOk.body) (q_load1 rfl (by kernel_rfl) (hS13.cell (i := 0) rfl rfl)) ?_
 refine o_held (i := 6) [7, 8, 9, 10, 11] (fun j w => ⟨(fun j w => ⟨(fun _ _ => trivial) j w, fun _ h => h⟩) j w, fun _ h => h⟩) rfl rfl (by kernel_rfl) (goes0 rfl) (QOk.then QOk.body) (q_lookMiss (zv := .pointer none) rfl rfl (by kernel_rfl) (by first | rfl | trivial) (hS13.map (i := 2) rfl) (tc_miss hn)) ?_
 refine o_pure (i := 7) (fun j w => ⟨(fun j w => ⟨(fun j w => ⟨(fun _ _ => trivial) j w, fun _ h => h⟩) j w, fun _ h => h⟩) j w, fun _ h => h⟩) rfl rfl (by kernel_rfl) (goes0 rfl) (QOk.then QOk.body) (fun w => q_move rfl) ?_
 refine o_pure (i := 8) (fun j w => ⟨(fun j w => ⟨(fun j w => ⟨(fun _ _ => trivial) j w, fun _ h => h⟩) j w, fun _ h => h⟩) j w, fun _ h => h⟩) rfl rfl (by kernel_rfl) (goes0 rfl) (QOk.then QOk.body) (fun w => q_extract rfl rfl) ?_
 refine o_pure (i := 9) (fun j w => ⟨(fun j w => ⟨(fun j w => ⟨(fun _ _ => trivial) j w, fun _ h => h⟩) j w, fun _ h => h⟩) j w, fun _ h => h⟩) rfl rfl (by kernel_rfl) (goes0 rfl) (QOk.then QOk.body) (fun w => q_extract rfl rfl) ?_
 refine o_pure (i := 10) (fun j w => ⟨(fun j w => ⟨(fun j w => ⟨(fun _ _ => trivial) j w, fun _ h => h⟩) j w, fun _ h => h⟩) j w, fun _ h => h⟩) rfl rfl (by kernel_rfl) (goes0 rfl) (QOk.then QOk.body) (fun w => q_assignP rfl) ?_
 refine o_pure (i := 11) (fun j w => ⟨(fun j w => ⟨(fun j w => ⟨(fun _ _ => trivial) j w, fun _ h => h⟩) j w, fun _ h => h⟩) j w, fun _ h => h⟩) rfl rfl (by kernel_rfl) (goes0 rfl) (QOk.then QOk.body) (fun w => q_assignB rfl) ?_
 refine o_done (by kernel_rfl) ?_
 refine hK12 _ _ ?_
 refine wp_seq_k (fun K14 hK14 => ?_)
 refine wp_region_lit ?_
 refine l_q rfl rfl (q_moveB rfl) ?_
 refine l_q rfl rfl (q_moveB rfl) ?_
 refine l_off rfl rfl rfl rfl ?_
 refine l_off rfl rfl rfl rfl ?_
 refine l_off rfl rfl rfl rfl ?_
 refine l_off rfl rfl rfl rfl ?_
 refine l_off rfl rfl rfl rfl ?_
 refine l_q rfl rfl (q_pickF rfl rfl rfl) ?_
 refine l_q rfl rfl (q_assignB rfl) ?_
 refine l_nil ?_
 refine hK14 _ _ ?_
 refine wp_seq_k (fun K15 hK15 => ?_)
 refine wp_seq_k (fun K16 hK16 => ?_)
 refine wp_region_lit ?_
 refine l_q rfl rfl (q_fieldAddr (ft := 40) (o := 0) rfl (by kernel_rfl)) ?_
 refine l_q rfl rfl (q_load1 rfl (by kernel_rfl) (hS13.cell (i := 0) rfl rfl)) ?_
 refine l_nil ?_
 refine hK16 _ _ ?_
 refine wp_block ?_
 refine wp_seq_k (fun K17 hK17 => ?_)
 refine wp_block ?_
 refine wp_seq_k (fun K18 hK18 => ?_)
 refine wp_block ?_
 refine wp_seq_k (fun K19 hK19 => ?_)
 refine wp_block ?_
 refine wp_seq_k (fun K20 hK20 => ?_)
 refine wp_block ?_
 refine wp_seq_k (fun K21 hK21 => ?_)
 refine wp_seq_k (fun K22 hK22 => ?_)
 refine wp_seq_k (fun K23 hK23 => ?_)
 refine wp_seq_k (fun K24 hK24 => ?_)
 refine wp_region_lit ?_
 refine l_q rfl rfl (q_eql rfl rfl) ?_
 refine l_q rfl rfl (q_assignB rfl) ?_
 refine l_nil ?_
 refine hK24 _ _ ?_
 refine c_cond rfl (fun hc25 => ?_) (fun hc25 => ?_)
 have hc25b := hc25
 try simp only [zbb] at hc25
 refine wp_skip ?_
 refine hK23 _ _ ?_
 refine c_condT rfl hc25b ?_
 refine wp_exit ?_
 refine hK20 _ _ ?_
 refine wp_seq_k (fun K27 hK27 => ?_)
 refine wp_seq_k (fun K28 hK28 => ?_)
 refine wp_region_lit ?_
 refine l_q rfl rfl (q_moveB rfl) ?_
 refine l_nil ?_
 refine hK28 _ _ ?_
 refine c_condF rfl rfl ?_
 refine wp_skip ?_
 refine hK27 _ _ ?_
 refine wp_exit ?_
 refine hK15 _ _ ?_
 refine wp_seq_k (fun K30 hK30 => ?_)
 refine wp_region_lit ?_
 refine l_q rfl rfl (q_assignI rfl) ?_
 refine l_nil ?_
 refine hK30 _ _ ?_
 refine wp_ret ?_
 refine c_ret1 rfl rfl ?_
 have hS31 := hS13.fr7; clear hS13
 have hS32 := hS31.fr7; clear hS31
 have hS33 := hS32.fr7; clear hS32
 have hS34 := hS33.fr7; clear hS33
 have hS35 := hS34.fr7; clear hS34
 have hS36 := hS35.fr7; clear hS35
 have hS37 := hS36.fr7; clear hS36
 have hS38 : St _ _ [_, _, _, _, _, _, .fz g] _ := hS37.only 7; clear hS37
 have hS39 : St _ _ [co k kw nd inc cnt mb oa O oc T, _, _, .fz g] _ := co_close hS38; clear hS38
 exact ⟨_, _, rfl, ⟨_, _, O, T, _, _, _, _, _, _, by rw [he_n0 (getT_miss hn) (by omega)]; rfl, by rw [he_n0 (getT_miss hn) (by omega)], Gle.refl _, hO, hT, by rw [he_n0 (getT_miss hn) (by omega)], by rw [he_n0 (getT_miss hn) (by omega)], hR, Nat.le_succ _⟩, hS39⟩
 have hc25b := hc25
 try simp only [zbb] at hc25
 refine wp_region_lit ?_
 refine l_q rfl rfl (q_eql rfl rfl) ?_
 refine l_q rfl rfl (q_assignB rfl) ?_
 refine l_nil ?_
 refine hK23 _ _ ?_
 refine c_cond rfl (fun hc40 => ?_) (fun hc40 => ?_)
 have hc40b := hc40
 try simp only [zbb] at hc40
 refine wp_exit ?_
 refine hK20 _ _ ?_
 refine wp_seq_k (fun K41 hK41 => ?_)
 refine wp_seq_k (fun K42 hK42 => ?_)
 refine wp_region_lit ?_
 refine l_q rfl rfl (q_moveB rfl) ?_
 refine l_nil ?_
 refine hK42 _ _ ?_
 refine c_condF rfl rfl ?_
 refine wp_skip ?_
 refine hK41 _ _ ?_
 refine wp_exit ?_
 refine hK15 _ _ ?_
 refine wp_seq_k (fun K44 hK44 => ?_)
 refine wp_region_lit ?_
 refine l_q rfl rfl (q_assignI rfl) ?_
 refine l_nil ?_
 refine hK44 _ _ ?_
 refine wp_ret ?_
 refine c_ret1 rfl rfl ?_
 have hS45 := hS13.fr7; clear hS13
 have hS46 := hS45.fr7; clear hS45
 have hS47 := hS46.fr7; clear hS46
 have hS48 := hS47.fr7; clear hS47
 have hS49 := hS48.fr7; clear hS48
 have hS50 := hS49.fr7; clear hS49
 have hS51 := hS50.fr7; clear hS50
 have hS52 : St _ _ [_, _, _, _, _, _, .fz g] _ := hS51.only 7; clear hS51
 have hS53 : St _ _ [_, _, _, .fz g] _ := co_close hS52; clear hS52
 exact ⟨_, _, rfl, ⟨_, _, O, T, _, _, _, _, _, _, by rw [he_n0 (getT_miss hn) (by omega)]; rfl, by rw [he_n0 (getT_miss hn) (by omega)], Gle.refl _, hO, hT, by rw [he_n0 (getT_miss hn) (by omega)], by rw [he_n0 (getT_miss hn) (by omega)], hR, Nat.le_succ _⟩, hS53⟩
 have hc40b := hc40
 try simp only [zbb] at hc40
 refine wp_skip ?_
 refine hK22 _ _ ?_
 refine wp_seq_k (fun K54 hK54 => ?_)
 refine wp_seq_k (fun K55 hK55 => ?_)
 refine wp_region_lit ?_
 refine l_q rfl rfl (q_eql rfl rfl) ?_
 refine l_q rfl rfl (q_assignB rfl) ?_
 refine l_nil ?_
 refine hK55 _ _ ?_
 refine c_cond rfl (fun hc56 => ?_) (fun hc56 => ?_)
 have hc56b := hc56
 try simp only [zbb] at hc56
 refine wp_exit ?_
 refine hK19 _ _ ?_
 refine wp_seq_k (fun K57 hK57 => ?_)
 refine wp_region_lit ?_
 refine l_q rfl rfl (q_moveB rfl) ?_
 refine l_nil ?_
 refine hK57 _ _ ?_
 refine c_condF rfl rfl ?_
 refine wp_skip ?_
 refine hK18 _ _ ?_
 refine wp_seq_k (fun K59 hK59 => ?_)
 refine wp_seq_k (fun K60 hK60 => ?_)
 refine wp_seq_k (fun K61 hK61 => ?_)
 refine wp_region_lit ?_
 refine l_q rfl rfl (q_moveB rfl) ?_
 refine l_nil ?_
 refine hK61 _ _ ?_
 refine c_condF rfl rfl ?_
 refine wp_skip ?_
 refine hK60 _ _ ?_
 refine wp_seq_k (fun K63 hK63 => ?_)
 refine wp_region_lit ?_
 refine l_q rfl rfl (q_assignI rfl) ?_
 refine l_nil ?_
 refine hK63 _ _ ?_
 refine wp_seq_k (fun K64 hK64 => ?_)
 refine wp_seq_k (fun K65 hK65 => ?_)
 refine wp_region_lit ?_
 refine l_q rfl rfl (q_moveB rfl) ?_
 refine l_nil ?_
 refine hK65 _ _ ?_
 refine c_condF rfl rfl ?_
 refine wp_skip ?_
 refine hK64 _ _ ?_
 refine r_any (by kernel_rfl) hS13 (fun w67 hS67 => ?_)
 clear hS13
 refine o_pure (i := 0) (fun _ _ => trivial) rfl rfl (by kernel_rfl) (goes0 rfl) (QOk.then (QOk.inBlock (QOk.then (QOk.inBlock (QOk.then QOk.body))))) (fun w => q_moveP rfl) ?_
 refine o_pure (i := 1) (fun _ _ => trivial) rfl rfl (by kernel_rfl) (goes0 rfl) (QOk.then (QOk.inBlock (QOk.then (QOk.inBlock (QOk.then QOk.body))))) (fun w => q_moveI rfl) ?_
 refine o_pure (i := 2) (fun _ _ => trivial) rfl rfl (by kernel_rfl) (goes0 rfl) (QOk.then (QOk.inBlock (QOk.then (QOk.inBlock (QOk.then QOk.body))))) (fun w => q_fieldAddr (ft := 3) (o := 3) rfl (by kernel_rfl)) ?_
 refine o_held (i := 3) [7] (fun _ _ => trivial) rfl rfl (by kernel_rfl) (goes0 rfl) (QOk.then (QOk.inBlock (QOk.then (QOk.inBlock (QOk.then QOk.body))))) (q_load1 rfl (by kernel_rfl) (hS67.cell (i := 0) rfl rfl)) ?_
 refine o_pure (i := 4) (fun j w => ⟨(fun _ _ => trivial) j w, fun _ h => h⟩) rfl rfl (by kernel_rfl) (goes0 rfl) (QOk.then (QOk.inBlock (QOk.then (QOk.inBlock (QOk.then QOk.body))))) (fun w => q_fieldAddr (ft := 3) (o := 1) rfl (by kernel_rfl)) ?_
 refine o_held (i := 5) [6, 7] (fun j w => ⟨(fun _ _ => trivial) j w, fun _ h => h⟩) rfl rfl (by kernel_rfl) (goes0 rfl) (QOk.then (QOk.inBlock (QOk.then (QOk.inBlock (QOk.then QOk.body))))) (q_load1 rfl (by kernel_rfl) (hS67.cell (i := 0) rfl rfl)) ?_
 refine o_pure (i := 6) (fun j w => ⟨(fun j w => ⟨(fun _ _ => trivial) j w, fun _ h => h⟩) j w, fun _ h => h⟩) rfl rfl (by kernel_rfl) (goes0 rfl) (QOk.then (QOk.inBlock (QOk.then (QOk.inBlock (QOk.then QOk.body))))) (fun w => q_shlN (k := .i64) (a := 1) (b := m) rfl rfl (by show _ ≤ 64; omega) (wrap_fit_i64 (by omega))) ?_
 refine o_eff (i := 7) (by kernel_rfl) rfl (goes0 rfl) (fun K hK => ?_)
 have hS69 := hS67.fr7; clear hS67
 have hS70 := hS69.fr5; clear hS69
 have hS71 := hS70.fr3; clear hS70
 refine e_call (by kernel_rfl) (send_ok k _ nd _ _ _ _ _ _ _ hO (by first | omega | (simp only [zll] <;> omega)) (6 : Int) n (1 * 2 ^ m) 0 (by first | omega | (simp only [zll] <;> omega)) (by first | omega | (simp only [zll] <;> omega)) _ (St.begin (Γ := [_, _, _]) hS71)) rfl (after_M (Γ1 := [_, _, _]) hS71 (fun v68 G68 w68 hv68 hS68 => ?_))
 clear hS71
 obtain ⟨oa68, oc68, O68, g68, rfl, hle68, hO68, hOe68⟩ := hv68
 have hS72 : St _ _ [.blk k (.cells #[.pointer (some ⟨kw, 0, none⟩), .int .i64 nd, .int .i64 (inc : Int), .int .i64 (cnt : Int), .map (some mb), .slice oa68 O68.length oc68] 68), .ow 42 5 oa68 O68.length oc68 (List.flatMap lo O68), .fz g68, _, _, _, _, _] _ := hS68; clear hS68
 have hOl68 : O68.length ≤ O.length + 16 := sends_len hOe68
 refine hK _ _ ⟨⟨trivial, fun h => absurd h (by decide)⟩, fun h => absurd h (by decide)⟩ ?_; clear hK K
 refine o_done (by kernel_rfl) ?_
 refine hK59 _ _ ?_
 refine wp_exit ?_
 refine hK15 _ _ ?_
 refine wp_seq_k (fun K73 hK73 => ?_)
 refine wp_region_lit ?_
 refine l_q rfl rfl (q_assignI rfl) ?_
 refine l_nil ?_
 refine hK73 _ _ ?_
 refine wp_ret ?_
 refine c_ret1 rfl rfl ?_
 have hS74 := hS72.fr2; clear hS72
 have hS75 := hS74.fr7; clear hS74
 have hS76 := hS75.fr7; clear hS75
 have hS77 := hS76.fr4; clear hS76
 have hS78 := hS77.fr7; clear hS77
 have hS79 := hS78.fr7; clear hS78
 have hS80 := hS79.fr6; clear hS79
 have hS81 : St _ _ [_, _, _, _, _, _, .fz g68] _ := hS80.only 7; clear hS80
 have hS82 : St _ _ [co k kw nd inc cnt mb oa68 O68 oc68 T, _, _, .fz g68] _ := co_close hS81; clear hS81
 exact ⟨_, _, rfl, ⟨_, _, O68, T, _, _, _, _, _, _, by rw [he_n1 (getT_miss hn) (by omega)]; rfl, by rw [he_n1 (getT_miss hn) (by omega)], hle68, hO68, hT, by rw [he_n1 (getT_miss hn) (by omega)], by rw [he_n1 (getT_miss hn) (by omega)]; exact hOe68, hR.mono hle68, Nat.le_succ _⟩, hS82⟩
 have hc56b := hc56
 try simp only [zbb] at hc56
 refine wp_skip ?_
 refine hK54 _ _ ?_
 refine wp_seq_k (fun K83 hK83 => ?_)
 refine wp_seq_k (fun K84 hK84 => ?_)
 refine wp_region_lit ?_
 refine l_q rfl rfl (q_eql rfl rfl) ?_
 refine l_q rfl rfl (q_assignB rfl) ?_
 refine l_nil ?_
 refine hK84 _ _ ?_
 refine c_cond rfl (fun hc85 => ?_) (fun hc85 => ?_)
 have hc85b := hc85
 try simp only [zbb] at hc85
 refine wp_exit ?_
 refine hK18 _ _ ?_
 refine wp_seq_k (fun K86 hK86 => ?_)
 refine wp_seq_k (fun K87 hK87 => ?_)
 refine wp_seq_k (fun K88 hK88 => ?_)
 refine wp_region_lit ?_
 refine l_q rfl rfl (q_moveB rfl) ?_
 refine l_nil ?_
 refine hK88 _ _ ?_
 refine c_condF rfl rfl ?_
 refine wp_skip ?_
 refine hK87 _ _ ?_
 refine wp_seq_k (fun K90 hK90 => ?_)
 refine wp_region_lit ?_
 refine l_q rfl rfl (q_assignI rfl) ?_
 refine l_nil ?_
 refine hK90 _ _ ?_
 refine wp_seq_k (fun K91 hK91 => ?_)
 refine wp_seq_k (fun K92 hK92 => ?_)
 refine wp_region_lit ?_
 refine l_q rfl rfl (q_moveB rfl) ?_
 refine l_nil ?_
 refine hK92 _ _ ?_
 refine c_condF rfl rfl ?_
 refine wp_skip ?_
 refine hK91 _ _ ?_
 refine r_any (by kernel_rfl) hS13 (fun w94 hS94 => ?_)
 clear hS13
 refine o_pure (i := 0) (fun _ _ => trivial) rfl rfl (by kernel_rfl) (goes0 rfl) (QOk.then (QOk.inBlock (QOk.then (QOk.inBlock (QOk.then QOk.body))))) (fun w => q_moveP rfl) ?_
 refine o_pure (i := 1) (fun _ _ => trivial) rfl rfl (by kernel_rfl) (goes0 rfl) (QOk.then (QOk.inBlock (QOk.then (QOk.inBlock (QOk.then QOk.body))))) (fun w => q_moveI rfl) ?_
 refine o_pure (i := 2) (fun _ _ => trivial) rfl rfl (by kernel_rfl) (goes0 rfl) (QOk.then (QOk.inBlock (QOk.then (QOk.inBlock (QOk.then QOk.body))))) (fun w => q_fieldAddr (ft := 3) (o := 3) rfl (by kernel_rfl)) ?_
 refine o_held (i := 3) [7] (fun _ _ => trivial) rfl rfl (by kernel_rfl) (goes0 rfl) (QOk.then (QOk.inBlock (QOk.then (QOk.inBlock (QOk.then QOk.body))))) (q_load1 rfl (by kernel_rfl) (hS94.cell (i := 0) rfl rfl)) ?_
 refine o_pure (i := 4) (fun j w => ⟨(fun _ _ => trivial) j w, fun _ h => h⟩) rfl rfl (by kernel_rfl) (goes0 rfl) (QOk.then (QOk.inBlock (QOk.then (QOk.inBlock (QOk.then QOk.body))))) (fun w => q_fieldAddr (ft := 3) (o := 1) rfl (by kernel_rfl)) ?_
 refine o_held (i := 5) [6, 7] (fun j w => ⟨(fun _ _ => trivial) j w, fun _ h => h⟩) rfl rfl (by kernel_rfl) (goes0 rfl) (QOk.then (QOk.inBlock (QOk.then (QOk.inBlock (QOk.then QOk.body))))) (q_load1 rfl (by kernel_rfl) (hS94.cell (i := 0) rfl rfl)) ?_
 refine o_pure (i := 6) (fun j w => ⟨(fun j w => ⟨(fun _ _ => trivial) j w, fun _ h => h⟩) j w, fun _ h => h⟩) rfl rfl (by kernel_rfl) (goes0 rfl) (QOk.then (QOk.inBlock (QOk.then (QOk.inBlock (QOk.then QOk.body))))) (fun w => q_shlN (k := .i64) (a := 1) (b := m) rfl rfl (by show _ ≤ 64; omega) (wrap_fit_i64 (by omega))) ?_
 refine o_eff (i := 7) (by kernel_rfl) rfl (goes0 rfl) (fun K hK => ?_)
 have hS96 := hS94.fr7; clear hS94
 have hS97 := hS96.fr5; clear hS96
 have hS98 := hS97.fr3; clear hS97
 refine e_call (by kernel_rfl) (send_ok k _ nd _ _ _ _ _ _ _ hO (by first | omega | (simp only [zll] <;> omega)) (6 : Int) n (1 * 2 ^ m) 0 (by first | omega | (simp only [zll] <;> omega)) (by first | omega | (simp only [zll] <;> omega)) _ (St.begin (Γ := [_, _, _]) hS98)) rfl (after_M (Γ1 := [_, _, _]) hS98 (fun v95 G95 w95 hv95 hS95 => ?_))
 clear hS98
 obtain ⟨oa95, oc95, O95, g95, rfl, hle95, hO95, hOe95⟩ := hv95
 have hS99 : St _ _ [.blk k (.cells #[.pointer (some ⟨kw, 0, none⟩), .int .i64 nd, .int .i64 (inc : Int), .int .i64 (cnt : Int), .map (some mb), .slice oa95 O95.length oc95] 68), .ow 42 5 oa95 O95.length oc95 (List.flatMap lo O95), .fz g95, _, _, _, _, _] _ := hS95; clear hS95
 have hOl95 : O95.length ≤ O.length + 16 := sends_len hOe95
 refine hK _ _ ⟨⟨trivial, fun h => absurd h (by decide)⟩, fun h => absurd h (by decide)⟩ ?_; clear hK K
 refine o_done (by kernel_rfl) ?_
 refine hK86 _ _ ?_
 refine wp_exit ?_
 refine hK15 _ _ ?_
 refine wp_seq_k (fun K100 hK100 => ?_)
 refine wp_region_lit ?_
 refine l_q rfl rfl (q_assignI rfl) ?_
 refine l_nil ?_
 refine hK100 _ _ ?_
 refine wp_ret ?_
 refine c_ret1 rfl rfl ?_
 have hS101 := hS99.fr2; clear hS99
 have hS102 := hS101.fr7; clear hS101
 have hS103 := hS102.fr7; clear hS102
 have hS104 := hS103.fr4; clear hS103
 have hS105 := hS104.fr7; clear hS104
 have hS106 := hS105.fr7; clear hS105
 have hS107 := hS106.fr6; clear hS106
 have hS108 : St _ _ [_, _, _, _, _, _, .fz g95] _ := hS107.only 7; clear hS107
 have hS109 : St _ _ [co k kw nd inc cnt mb oa95 O95 oc95 T, _, _, .fz g95] _ := co_close hS108; clear hS108
 exact ⟨_, _, rfl, ⟨_, _, O95, T, _, _, _, _, _, _, by rw [he_n1 (getT_miss hn) (by omega)]; rfl, by rw [he_n1 (getT_miss hn) (by omega)], hle95, hO95, hT, by rw [he_n1 (getT_miss hn) (by omega)], by rw [he_n1 (getT_miss hn) (by omega)]; exact hOe95, hR.mono hle95, Nat.le_succ _⟩, hS109⟩
 have hc85b := hc85
 try simp only [zbb] at hc85
 refine wp_skip ?_
 refine hK83 _ _ ?_
 refine wp_seq_k (fun K110 hK110 => ?_)
 refine wp_region_lit ?_
 refine l_q rfl rfl (q_eql rfl rfl) ?_
 refine l_q rfl rfl (q_assignB rfl) ?_
 refine l_nil ?_
 refine hK110 _ _ ?_
 refine c_cond rfl (fun hc111 => ?_) (fun hc111 => ?_)
 have hc111b := hc111
 try simp only [zbb] at hc111
 refine wp_exit ?_
 refine hK17 _ _ ?_
 refine wp_seq_k (fun K112 hK112 => ?_)
 refine wp_seq_k (fun K113 hK113 => ?_)
 refine wp_region_lit ?_
 refine l_q rfl rfl (q_moveB rfl) ?_
 refine l_q rfl rfl (q_moveB rfl) ?_
 refine l_off rfl rfl rfl rfl ?_
 refine l_off rfl rfl rfl rfl ?_
 refine l_off rfl rfl rfl rfl ?_
 refine l_off rfl rfl rfl rfl ?_
 refine l_q rfl rfl (q_pickF rfl rfl rfl) ?_
 refine l_nil ?_
 refine hK113 _ _ ?_
 refine c_condF rfl rfl ?_
 refine wp_skip ?_
 refine hK112 _ _ ?_
 refine wp_exit ?_
 refine hK15 _ _ ?_
 refine wp_seq_k (fun K115 hK115 => ?_)
 refine wp_region_lit ?_
 refine l_q rfl rfl (q_assignI rfl) ?_
 refine l_nil ?_
 refine hK115 _ _ ?_
 refine wp_ret ?_
 refine c_ret1 rfl rfl ?_
 have hS116 := hS13.fr7; clear hS13
 have hS117 := hS116.fr7; clear hS116
 have hS118 := hS117.fr7; clear hS117
 have hS119 := hS118.fr7; clear hS118
 have hS120 := hS119.fr7; clear hS119
 have hS121 := hS120.fr7; clear hS120
 have hS122 := hS121.fr7; clear hS121
 have hS123 : St _ _ [_, _, _, _, _, _, .fz g] _ := hS122.only 7; clear hS122
 have hS124 : St _ _ [_, _, _, .fz g] _ := co_close hS123; clear hS123
 exact ⟨_, _, rfl, ⟨_, _, O, T, _, _, _, _, _, _, by rw [he_n0 (getT_miss hn) (by omega)]; rfl, by rw [he_n0 (getT_miss hn) (by omega)], Gle.refl _, hO, hT, by rw [he_n0 (getT_miss hn) (by omega)], by rw [he_n0 (getT_miss hn) (by omega)], hR, Nat.le_succ _⟩, hS124⟩
 have hc111b := hc111
 try simp only [zbb] at hc111
 refine wp_skip ?_
 refine hK21 _ _ ?_
 refine wp_exit ?_
 refine hK15 _ _ ?_
 refine wp_seq_k (fun K125 hK125 => ?_)
 refine wp_region_lit ?_
 refine l_q rfl rfl (q_assignI rfl) ?_
 refine l_nil ?_
 refine hK125 _ _ ?_
 refine wp_ret ?_
 refine c_ret1 rfl rfl ?_
 have hS126 := hS13.fr7; clear hS13
 have hS127 := hS126.fr7; clear hS126
 have hS128 := hS127.fr7; clear hS127
 have hS129 := hS128.fr7; clear hS128
 have hS130 := hS129.fr7; clear hS129
 have hS131 := hS130.fr7; clear hS130
 have hS132 := hS131.fr7; clear hS131
 have hS133 : St _ _ [_, _, _, _, _, _, .fz g] _ := hS132.only 7; clear hS132
 have hS134 : St _ _ [_, _, _, .fz g] _ := co_close hS133; clear hS133
 exact ⟨_, _, rfl, ⟨_, _, O, T, _, _, _, _, _, _, by rw [he_n0 (getT_miss hn) (by omega)]; rfl, by rw [he_n0 (getT_miss hn) (by omega)], Gle.refl _, hO, hT, by rw [he_n0 (getT_miss hn) (by omega)], by rw [he_n0 (getT_miss hn) (by omega)], hR, Nat.le_succ _⟩, hS134⟩
end Go.Proofs.Yteojpdijmnpmgaa
namespace Go.Proofs.Yteojpdijmnpmgaa
open Go.RowKit
/-- What Hear comes to, of any letter. -/
def hearG (nd : Int) (lr : Lr) (T : List (Int × Tx)) (O : List Lr) (l : List Nat) (s : Nat) : Int × List (Int × Tx) × List Lr × List Nat × Nat :=
  if rightL lr = true ∧ lr.t = nd ∧ Int.tmod lr.x 16 = nd then hearF nd lr.x lr.k (1 * 2 ^ lr.f.toNat) T O l s else (111, T, O, l, s)
theorem hg_yes {nd : Int} {lr : Lr} {T : List (Int × Tx)} {O : List Lr} {l : List Nat} {s : Nat} (h : rightL lr = true ∧ lr.t = nd ∧ Int.tmod lr.x 16 = nd) : hearG nd lr T O l s = hearF nd lr.x lr.k (1 * 2 ^ lr.f.toNat) T O l s := if_pos h
theorem hg_no {nd : Int} {lr : Lr} {T : List (Int × Tx)} {O : List Lr} {l : List Nat} {s : Nat} (h : ¬(rightL lr = true ∧ lr.t = nd ∧ Int.tmod lr.x 16 = nd)) : hearG nd lr T O l s = (111, T, O, l, s) := if_neg h
attribute [local irreducible] Oper.wp Sem.run Code.wp wpList wpAnyO callFunc execOp Calls
attribute [local irreducible] toU short rencs renc rowE encRow rightB zig unzig decRw rightL risB lastN bitsOf nodesTo readL recB ofL sends getT delT setT waL waE waN waR apL apE decF vot2 votesF doneF hearF
set_option maxHeartbeats 2000000 in
set_option maxRecDepth 100000 in
theorem hear_bad0 (k kw : Nat) (nd : Int) (inc cnt mb : Nat) (oa : Option Addr) (O : List Lo) (oc : Nat) (T : List (Int × Nat × Tx)) (hT : TOk T) (g : Gh) (hO : LOk g O) (hol0 : O.length ≤ 100000) (kd : Nat) (wa : Option Addr) (wc : Nat) (rs : List Rc) (da : Option Addr) (dc : Nat) (l : List Nat) (bb s : Nat) (hrl : rs.length ≤ 500000) (hl : Bytes l) (hbb : bb + l.length ≤ 500000000) (hs : s ≤ l.length) (hR : RsOk g rs) (lr : Lr) (an : Option Addr) (nl cn : Nat) (hnl : lr.nd.length = nl) (hnm : nl ≤ 2000000) (w : World) (g2 : Gh) (hg2 : Rog [co k kw nd inc cnt mb oa O oc T, wk kw kd wa wc rs, dk kd da dc l bb s, .fz g] w g2) (hG : SlG g2 an (iv lr.nd)) (hr1 : rightL lr = false)  (hS : St w (owns [co k kw nd inc cnt mb oa O oc T, wk kw kd wa wc rs, dk kd da dc l bb s, .fz g]) [co k kw nd inc cnt mb oa O oc T, wk kw kd wa wc rs, dk kd da dc l bb s, .fz g] w) : Calls Try.prog 16 #[pV k, .agg #[.int .i64 lr.k, .int .i64 lr.f, .int .i64 lr.t, .int .i64 lr.x, .slice an nl cn]] w (Post w [co k kw nd inc cnt mb oa O oc T, wk kw kd wa wc rs, dk kd da dc l bb s, .fz g] fun v G => v = .int .i64 111 ∧ G = [co k kw nd inc cnt mb oa O oc T, wk kw kd wa wc rs, dk kd da dc l bb s, .fz g]) := by
 subst hnl
 refine c_enter Try.func16 rfl rfl rfl ?_
 refine wp_seq_k (fun K1 hK1 => ?_)
 have hS2 := co_open hS; clear hS
 refine wp_region_lit ?_
 refine l_e rfl (fun K hK => ?_)
 refine e_boxA hS2 rfl (fun b3 w3 (hS3 : St _ _ [.blk b3 (.cells #[.int .i64 lr.k, .int .i64 lr.f, .int .i64 lr.t, .int .i64 lr.x, .slice an lr.nd.length cn] 42), .blk k (.cells #[.pointer (some ⟨kw, 0, none⟩), .int .i64 nd, .int .i64 (inc : Int), .int .i64 (cnt : Int), .map (some mb), .slice oa O.length oc] 68), .mp (.int .i64) mb (List.map tc T), .pk (List.map tb T), .ow 42 5 oa O.length oc (List.flatMap lo O), wk kw kd wa wc rs, dk kd da dc l bb s, .fz g] _) => ?_)
 clear hS2
 refine hK _ _ ?_; clear hK K
 refine l_q rfl rfl (q_assignI rfl) ?_
 refine l_nil ?_
 refine hK1 _ _ ?_
 refine wp_seq_k (fun K4 hK4 => ?_)
 refine wp_block ?_
 refine wp_seq_k (fun K5 hK5 => ?_)
 refine wp_region_lit ?_
 refine l_q rfl rfl (q_moveP rfl) ?_
 refine l_q rfl rfl (q_peq rfl (by kernel_rfl)) ?_
 refine l_q rfl rfl (q_assignB rfl) ?_
 refine l_nil ?_
 refine hK5 _ _ ?_
 refine c_condF rfl rfl ?_
 refine wp_seq_k (fun K7 hK7 => ?_)
 refine r_any (by kernel_rfl) hS3 (fun w8 hS8 => ?_)
 clear hS3
 refine o_held (i := 0) [1, 2, 3, 4, 5, 6, 7, 8, 9, 10, 11, 12, 13, 14, 15, 16, 17, 18, 19, 20, 21, 22] (fun _ _ => trivial) rfl rfl (by kernel_rfl) (goes0 rfl) (QOk.then (QOk.inBlock (QOk.then QOk.body))) (q_loadA (m := 5) rfl (by kernel_rfl) (by kernel_rfl) (hS8.blk (i := 0) rfl) rfl rfl) ?_
 refine o_eff (i := 1) (by kernel_rfl) rfl (goes0 rfl) (fun K hK => ?_)
 refine e_call (by kernel_rfl) (lright_ok lr lr.nd.length (by first | omega | (simp only [zll] <;> omega)) (by first | omega | (simp only [zll] <;> omega)) _ _ _ (hG.mono (hg2.le hS8))) rfl (after_R hS8 (fun v9 w9 hv9 hS9 => ?_))
 clear hS8
 obtain rfl := hv9
 refine hK _ _ ⟨trivial, fun h => absurd h (by decide)⟩ ?_; clear hK K
 refine o_pure (i := 2) (fun j w => ⟨(fun _ _ => trivial) j w, fun _ h => h⟩) rfl rfl (by kernel_rfl) (goes0 rfl) (QOk.then (QOk.inBlock (QOk.then QOk.body))) (fun w => q_not rfl) ?_
 refine o_pure (i := 3) (fun j w => ⟨(fun _ _ => trivial) j w, fun _ h => h⟩) rfl rfl (by kernel_rfl) (goes0 rfl) (QOk.then (QOk.inBlock (QOk.then QOk.body))) (fun w => q_moveB rfl) ?_
 refine o_off (i := 4) (fun j w => ⟨(fun _ _ => trivial) j w, fun _ h => h⟩) rfl rfl (by kernel_rfl) rfl rfl (by rw [show _ = _ from hr1] <;> rfl) (QOk.then (QOk.inBlock (QOk.then QOk.body))) ?_
 refine o_off (i := 5) (fun j w => ⟨(fun _ _ => trivial) j w, fun _ h => h⟩) rfl rfl (by kernel_rfl) rfl rfl (by rw [show _ = _ from hr1] <;> rfl) (QOk.then (QOk.inBlock (QOk.then QOk.body))) ?_
 refine o_off (i := 6) (fun j w => ⟨(fun _ _ => trivial) j w, fun _ h => h⟩) rfl rfl (by kernel_rfl) rfl rfl (by rw [show _ = _ from hr1] <;> rfl) (QOk.then (QOk.inBlock (QOk.then QOk.body))) ?_
 refine o_off (i := 7) (fun j w => ⟨(fun _ _ => trivial) j w, fun _ h => h⟩) rfl rfl (by kernel_rfl) rfl rfl (by rw [show _ = _ from hr1] <;> rfl) (QOk.then (QOk.inBlock (QOk.then QOk.body))) ?_
 refine o_off (i := 8) (fun j w => ⟨(fun _ _ => trivial) j w, fun _ h => h⟩) rfl rfl (by kernel_rfl) rfl rfl (by rw [show _ = _ from hr1] <;> rfl) (QOk.then (QOk.inBlock (QOk.then QOk.body))) ?_
 refine o_off (i := 9) (fun j w => ⟨(fun _ _ => trivial) j w, fun _ h => h⟩) rfl rfl (by kernel_rfl) rfl rfl (by rw [show _ = _ from hr1] <;> rfl) (QOk.then (QOk.inBlock (QOk.then QOk.body))) ?_
 refine o_off (i := 10) (fun j w => ⟨(fun _ _ => trivial) j w, fun _ h => h⟩) rfl rfl (by kernel_rfl) rfl rfl (by rw [show _ = _ from hr1] <;> rfl) (QOk.then (QOk.inBlock (QOk.then QOk.body))) ?_
 refine o_pure (i := 11) (fun j w => ⟨(fun _ _ => trivial) j w, fun _ h => h⟩) rfl rfl (by kernel_rfl) (goes0 rfl) (QOk.then (QOk.inBlock (QOk.then QOk.body))) (fun w => q_pickT rfl (by rw [show _ = _ from hr1] <;> rfl) rfl) ?_
 refine o_pure (i := 12) (fun j w => ⟨(fun _ _ => trivial) j w, fun _ h => h⟩) rfl rfl (by kernel_rfl) (goes0 rfl) (QOk.then (QOk.inBlock (QOk.then QOk.body))) (fun w => q_moveB rfl) ?_
 refine o_off (i := 13) (fun j w => ⟨(fun _ _ => trivial) j w, fun _ h => h⟩) rfl rfl (by kernel_rfl) rfl rfl rfl (QOk.then (QOk.inBlock (QOk.then QOk.body))) ?_
 refine o_off (i := 14) (fun j w => ⟨(fun _ _ => trivial) j w, fun _ h => h⟩) rfl rfl (by kernel_rfl) rfl rfl rfl (QOk.then (QOk.inBlock (QOk.then QOk.body))) ?_
 refine o_off (i := 15) (fun j w => ⟨(fun _ _ => trivial) j w, fun _ h => h⟩) rfl rfl (by kernel_rfl) rfl rfl rfl (QOk.then (QOk.inBlock (QOk.then QOk.body))) ?_
 refine o_off (i := 16) (fun j w => ⟨(fun _ _ => trivial) j w, fun _ h => h⟩) rfl rfl (by kernel_rfl) rfl rfl rfl (QOk.then (QOk.inBlock (QOk.then QOk.body))) ?_
 refine o_off (i := 17) (fun j w => ⟨(fun _ _ => trivial) j w, fun _ h => h⟩) rfl rfl (by kernel_rfl) rfl rfl rfl (QOk.then (QOk.inBlock (QOk.then QOk.body))) ?_
 refine o_off (i := 18) (fun j w => ⟨(fun _ _ => trivial) j w, fun _ h => h⟩) rfl rfl (by kernel_rfl) rfl rfl rfl (QOk.then (QOk.inBlock (QOk.then QOk.body))) ?_
 refine o_off (i := 19) (fun j w => ⟨(fun _ _ => trivial) j w, fun _ h => h⟩) rfl rfl (by kernel_rfl) rfl rfl rfl (QOk.then (QOk.inBlock (QOk.then QOk.body))) ?_
 refine o_off (i := 20) (fun j w => ⟨(fun _ _ => trivial) j w, fun _ h => h⟩) rfl rfl (by kernel_rfl) rfl rfl rfl (QOk.then (QOk.inBlock (QOk.then QOk.body))) ?_
 refine o_pure (i := 21) (fun j w => ⟨(fun _ _ => trivial) j w, fun _ h => h⟩) rfl rfl (by kernel_rfl) (goes0 rfl) (QOk.then (QOk.inBlock (QOk.then QOk.body))) (fun w => q_pickT rfl rfl rfl) ?_
 refine o_pure (i := 22) (fun j w => ⟨(fun _ _ => trivial) j w, fun _ h => h⟩) rfl rfl (by kernel_rfl) (goes0 rfl) (QOk.then (QOk.inBlock (QOk.then QOk.body))) (fun w => q_assignB rfl) ?_
 refine o_done (by kernel_rfl) ?_
 refine hK7 _ _ ?_
 refine c_condT rfl rfl ?_
 refine wp_seq_k (fun K11 hK11 => ?_)
 refine wp_region_lit ?_
 refine l_q rfl rfl (q_assignI rfl) ?_
 refine l_nil ?_
 refine hK11 _ _ ?_
 refine wp_ret ?_
 refine c_ret1 rfl rfl ?_
 have hS12 := hS9.fr7; clear hS9
 have hS13 := hS12.fr7; clear hS12
 have hS14 := hS13.fr7; clear hS13
 have hS15 := hS14.fr7; clear hS14
 have hS16 := hS15.fr7; clear hS15
 have hS17 := hS16.fr7; clear hS16
 have hS18 := hS17.fr7; clear hS17
 have hS19 : St _ _ [_, _, _, _, _, _, .fz g] _ := hS18.only 7; clear hS18
 have hS20 : St _ _ [co k kw nd inc cnt mb oa O oc T, _, _, .fz g] _ := co_close hS19; clear hS19
 exact ⟨_, _, rfl, ⟨rfl, rfl⟩, hS20⟩
set_option maxHeartbeats 2000000 in
set_option maxRecDepth 100000 in
theorem hear_bad1 (k kw : Nat) (nd : Int) (inc cnt mb : Nat) (oa : Option Addr) (O : List Lo) (oc : Nat) (T : List (Int × Nat × Tx)) (hT : TOk T) (g : Gh) (hO : LOk g O) (hol0 : O.length ≤ 100000) (kd : Nat) (wa : Option Addr) (wc : Nat) (rs : List Rc) (da : Option Addr) (dc : Nat) (l : List Nat) (bb s : Nat) (hrl : rs.length ≤ 500000) (hl : Bytes l) (hbb : bb + l.length ≤ 500000000) (hs : s ≤ l.length) (hR : RsOk g rs) (lr : Lr) (an : Option Addr) (nl cn : Nat) (hnl : lr.nd.length = nl) (hnm : nl ≤ 2000000) (w : World) (g2 : Gh) (hg2 : Rog [co k kw nd inc cnt mb oa O oc T, wk kw kd wa wc rs, dk kd da dc l bb s, .fz g] w g2) (hG : SlG g2 an (iv lr.nd)) (hr1 : rightL lr = true) (hb : ¬(lr.t = nd ∧ Int.tmod lr.x 16 = nd))  (hS : St w (owns [co k kw nd inc cnt mb oa O oc T, wk kw kd wa wc rs, dk kd da dc l bb s, .fz g]) [co k kw nd inc cnt mb oa O oc T, wk kw kd wa wc rs, dk kd da dc l bb s, .fz g] w) : Calls Try.prog 16 #[pV k, .agg #[.int .i64 lr.k, .int .i64 lr.f, .int .i64 lr.t, .int .i64 lr.x, .slice an nl cn]] w (Post w [co k kw nd inc cnt mb oa O oc T, wk kw kd wa wc rs, dk kd da dc l bb s, .fz g] fun v G => v = .int .i64 111 ∧ G = [co k kw nd inc cnt mb oa O oc T, wk kw kd wa wc rs, dk kd da dc l bb s, .fz g]) := by
 subst hnl
 refine c_enter Try.func16 rfl rfl rfl ?_
 refine wp_seq_k (fun K1 hK1 => ?_)
 have hS2 := co_open hS; clear hS
 refine wp_region_lit ?_
 refine l_e rfl (fun K hK => ?_)
 refine e_boxA hS2 rfl (fun b3 w3 (hS3 : St _ _ [.blk b3 (.cells #[.int .i64 lr.k, .int .i64 lr.f, .int .i64 lr.t, .int .i64 lr.x, .slice an lr.nd.length cn] 42), .blk k (.cells #[.pointer (some ⟨kw, 0, none⟩), .int .i64 nd, .int .i64 (inc : Int), .int .i64 (cnt : Int), .map (some mb), .slice oa O.length oc] 68), .mp (.int .i64) mb (List.map tc T), .pk (List.map tb T), .ow 42 5 oa O.length oc (List.flatMap lo O), wk kw kd wa wc rs, dk kd da dc l bb s, .fz g] _) => ?_)
 clear hS2
 refine hK _ _ ?_; clear hK K
 refine l_q rfl rfl (q_assignI rfl) ?_
 refine l_nil ?_
 refine hK1 _ _ ?_
 refine wp_seq_k (fun K4 hK4 => ?_)
 refine wp_block ?_
 refine wp_seq_k (fun K5 hK5 => ?_)
 refine wp_region_lit ?_
 refine l_q rfl rfl (q_moveP rfl) ?_
 refine l_q rfl rfl (q_peq rfl (by kernel_rfl)) ?_
 refine l_q rfl rfl (q_assignB rfl) ?_
 refine l_nil ?_
 refine hK5 _ _ ?_
 refine c_condF rfl rfl ?_
 refine wp_seq_k (fun K7 hK7 => ?_)
 refine r_any (by kernel_rfl) hS3 (fun w8 hS8 => ?_)
 clear hS3
 refine o_held (i := 0) [1, 2, 3, 4, 5, 6, 7, 8, 9, 10, 11, 12, 13, 14, 15, 16, 17, 18, 19, 20, 21, 22] (fun _ _ => trivial) rfl rfl (by kernel_rfl) (goes0 rfl) (QOk.then (QOk.inBlock (QOk.then QOk.body))) (q_loadA (m := 5) rfl (by kernel_rfl) (by kernel_rfl) (hS8.blk (i := 0) rfl) rfl rfl) ?_
 refine o_eff (i := 1) (by kernel_rfl) rfl (goes0 rfl) (fun K hK => ?_)
 refine e_call (by kernel_rfl) (lright_ok lr lr.nd.length (by first | omega | (simp only [zll] <;> omega)) (by first | omega | (simp only [zll] <;> omega)) _ _ _ (hG.mono (hg2.le hS8))) rfl (after_R hS8 (fun v9 w9 hv9 hS9 => ?_))
 clear hS8
 obtain rfl := hv9
 refine hK _ _ ⟨trivial, fun h => absurd h (by decide)⟩ ?_; clear hK K
 refine o_pure (i := 2) (fun j w => ⟨(fun _ _ => trivial) j w, fun _ h => h⟩) rfl rfl (by kernel_rfl) (goes0 rfl) (QOk.then (QOk.inBlock (QOk.then QOk.body))) (fun w => q_not rfl) ?_
 refine o_pure (i := 3) (fun j w => ⟨(fun _ _ => trivial) j w, fun _ h => h⟩) rfl rfl (by kernel_rfl) (goes0 rfl) (QOk.then (QOk.inBlock (QOk.then QOk.body))) (fun w => q_moveB rfl) ?_
 refine o_pure (i := 4) (fun j w => ⟨(fun _ _ => trivial) j w, fun _ h => h⟩) rfl rfl (by kernel_rfl) (goes1 rfl rfl (by rw [show _ = _ from hr1] <;> rfl)) (QOk.then (QOk.inBlock (QOk.then QOk.body))) (fun w => q_fieldAddr (ft := 3) (o := 2) rfl (by kernel_rfl)) ?_
 refine o_held (i := 5) [10, 11, 12, 13, 14, 15, 16, 17, 18, 19, 20, 21, 22] (fun j w => ⟨(fun _ _ => trivial) j w, fun _ h => h⟩) rfl rfl (by kernel_rfl) (goes1 rfl rfl (by rw [show _ = _ from hr1] <;> rfl)) (QOk.then (QOk.inBlock (QOk.then QOk.body))) (q_load1 rfl (by kernel_rfl) (hS9.cell (i := 0) rfl rfl)) ?_
 refine o_pure (i := 6) (fun j w => ⟨(fun j w => ⟨(fun _ _ => trivial) j w, fun _ h => h⟩) j w, fun _ h => h⟩) rfl rfl (by kernel_rfl) (goes1 rfl rfl (by rw [show _ = _ from hr1] <;> rfl)) (QOk.then (QOk.inBlock (QOk.then QOk.body))) (fun w => q_moveP rfl) ?_
 refine o_pure (i := 7) (fun j w => ⟨(fun j w => ⟨(fun _ _ => trivial) j w, fun _ h => h⟩) j w, fun _ h => h⟩) rfl rfl (by kernel_rfl) (goes1 rfl rfl (by rw [show _ = _ from hr1] <;> rfl)) (QOk.then (QOk.inBlock (QOk.then QOk.body))) (fun w => q_nilCheck rfl) ?_
 refine o_pure (i := 8) (fun j w => ⟨(fun j w => ⟨(fun _ _ => trivial) j w, fun _ h => h⟩) j w, fun _ h => h⟩) rfl rfl (by kernel_rfl) (goes1 rfl rfl (by rw [show _ = _ from hr1] <;> rfl)) (QOk.then (QOk.inBlock (QOk.then QOk.body))) (fun w => q_fieldAddr (ft := 3) (o := 1) rfl (by kernel_rfl)) ?_
 refine o_held (i := 9) [10, 11, 12, 13, 14, 15, 16, 17, 18, 19, 20, 21, 22] (fun j w => ⟨(fun j w => ⟨(fun _ _ => trivial) j w, fun _ h => h⟩) j w, fun _ h => h⟩) rfl rfl (by kernel_rfl) (goes1 rfl rfl (by rw [show _ = _ from hr1] <;> rfl)) (QOk.then (QOk.inBlock (QOk.then QOk.body))) (q_load1 rfl (by kernel_rfl) (hS9.cell (i := 1) rfl rfl)) ?_
 refine o_pure (i := 10) (fun j w => ⟨(fun j w => ⟨(fun j w => ⟨(fun _ _ => trivial) j w, fun _ h => h⟩) j w, fun _ h => h⟩) j w, fun _ h => h⟩) rfl rfl (by kernel_rfl) (goes1 rfl rfl (by rw [show _ = _ from hr1] <;> rfl)) (QOk.then (QOk.inBlock (QOk.then QOk.body))) (fun w => q_neq rfl rfl) ?_
 refine o_pure (i := 11) (fun j w => ⟨(fun j w => ⟨(fun j w => ⟨(fun _ _ => trivial) j w, fun _ h => h⟩) j w, fun _ h => h⟩) j w, fun _ h => h⟩) rfl rfl (by kernel_rfl) (goes0 rfl) (QOk.then (QOk.inBlock (QOk.then QOk.body))) (fun w => q_pickF rfl (by rw [show _ = _ from hr1] <;> rfl) rfl) ?_
 refine o_pure (i := 12) (fun j w => ⟨(fun j w => ⟨(fun j w => ⟨(fun _ _ => trivial) j w, fun _ h => h⟩) j w, fun _ h => h⟩) j w, fun _ h => h⟩) rfl rfl (by kernel_rfl) (goes0 rfl) (QOk.then (QOk.inBlock (QOk.then QOk.body))) (fun w => q_moveB rfl) ?_
 refine g_splitO (t := 25) rfl (fun hg10 => ?_) (fun hg10 => ?_)
 have hg10b := hg10
 try simp only [zbb] at hg10
 refine o_off (i := 13) (fun j w => ⟨(fun j w => ⟨(fun j w => ⟨(fun _ _ => trivial) j w, fun _ h => h⟩) j w, fun _ h => h⟩) j w, fun _ h => h⟩) rfl rfl (by kernel_rfl) rfl rfl hg10b (QOk.then (QOk.inBlock (QOk.then QOk.body))) ?_
 refine o_off (i := 14) (fun j w => ⟨(fun j w => ⟨(fun j w => ⟨(fun _ _ => trivial) j w, fun _ h => h⟩) j w, fun _ h => h⟩) j w, fun _ h => h⟩) rfl rfl (by kernel_rfl) rfl rfl hg10b (QOk.then (QOk.inBlock (QOk.then QOk.body))) ?_
 refine o_off (i := 15) (fun j w => ⟨(fun j w => ⟨(fun j w => ⟨(fun _ _ => trivial) j w, fun _ h => h⟩) j w, fun _ h => h⟩) j w, fun _ h => h⟩) rfl rfl (by kernel_rfl) rfl rfl hg10b (QOk.then (QOk.inBlock (QOk.then QOk.body))) ?_
 refine o_off (i := 16) (fun j w => ⟨(fun j w => ⟨(fun j w => ⟨(fun _ _ => trivial) j w, fun _ h => h⟩) j w, fun _ h => h⟩) j w, fun _ h => h⟩) rfl rfl (by kernel_rfl) rfl rfl hg10b (QOk.then (QOk.inBlock (QOk.then QOk.body))) ?_
 refine o_off (i := 17) (fun j w => ⟨(fun j w => ⟨(fun j w => ⟨(fun _ _ => trivial) j w, fun _ h => h⟩) j w, fun _ h => h⟩) j w, fun _ h => h⟩) rfl rfl (by kernel_rfl) rfl rfl hg10b (QOk.then (QOk.inBlock (QOk.then QOk.body))) ?_
 refine o_off (i := 18) (fun j w => ⟨(fun j w => ⟨(fun j w => ⟨(fun _ _ => trivial) j w, fun _ h => h⟩) j w, fun _ h => h⟩) j w, fun _ h => h⟩) rfl rfl (by kernel_rfl) rfl rfl hg10b (QOk.then (QOk.inBlock (QOk.then QOk.body))) ?_
 refine o_off (i := 19) (fun j w => ⟨(fun j w => ⟨(fun j w => ⟨(fun _ _ => trivial) j w, fun _ h => h⟩) j w, fun _ h => h⟩) j w, fun _ h => h⟩) rfl rfl (by kernel_rfl) rfl rfl hg10b (QOk.then (QOk.inBlock (QOk.then QOk.body))) ?_
 refine o_off (i := 20) (fun j w => ⟨(fun j w => ⟨(fun j w => ⟨(fun _ _ => trivial) j w, fun _ h => h⟩) j w, fun _ h => h⟩) j w, fun _ h => h⟩) rfl rfl (by kernel_rfl) rfl rfl hg10b (QOk.then (QOk.inBlock (QOk.then QOk.body))) ?_
 refine o_pure (i := 21) (fun j w => ⟨(fun j w => ⟨(fun j w => ⟨(fun _ _ => trivial) j w, fun _ h => h⟩) j w, fun _ h => h⟩) j w, fun _ h => h⟩) rfl rfl (by kernel_rfl) (goes0 rfl) (QOk.then (QOk.inBlock (QOk.then QOk.body))) (fun w => q_pickT rfl hg10b rfl) ?_
 refine o_pure (i := 22) (fun j w => ⟨(fun j w => ⟨(fun j w => ⟨(fun _ _ => trivial) j w, fun _ h => h⟩) j w, fun _ h => h⟩) j w, fun _ h => h⟩) rfl rfl (by kernel_rfl) (goes0 rfl) (QOk.then (QOk.inBlock (QOk.then QOk.body))) (fun w => q_assignB rfl) ?_
 refine o_done (by kernel_rfl) ?_
 refine hK7 _ _ ?_
 refine c_condT rfl rfl ?_
 refine wp_seq_k (fun K12 hK12 => ?_)
 refine wp_region_lit ?_
 refine l_q rfl rfl (q_assignI rfl) ?_
 refine l_nil ?_
 refine hK12 _ _ ?_
 refine wp_ret ?_
 refine c_ret1 rfl rfl ?_
 have hS13 := hS9.fr7; clear hS9
 have hS14 := hS13.fr7; clear hS13
 have hS15 := hS14.fr7; clear hS14
 have hS16 := hS15.fr7; clear hS15
 have hS17 := hS16.fr7; clear hS16
 have hS18 := hS17.fr7; clear hS17
 have hS19 := hS18.fr7; clear hS18
 have hS20 : St _ _ [_, _, _, _, _, _, .fz g] _ := hS19.only 7; clear hS19
 have hS21 : St _ _ [co k kw nd inc cnt mb oa O oc T, _, _, .fz g] _ := co_close hS20; clear hS20
 exact ⟨_, _, rfl, ⟨rfl, rfl⟩, hS21⟩
 have hg10b := hg10
 try simp only [zbb] at hg10
 refine o_pure (i := 13) (fun j w => ⟨(fun j w => ⟨(fun j w => ⟨(fun _ _ => trivial) j w, fun _ h => h⟩) j w, fun _ h => h⟩) j w, fun _ h => h⟩) rfl rfl (by kernel_rfl) (goes1 rfl rfl hg10b) (QOk.then (QOk.inBlock (QOk.then QOk.body))) (fun w => q_fieldAddr (ft := 3) (o := 3) rfl (by kernel_rfl)) ?_
 refine o_held (i := 14) [15, 20, 21, 22] (fun j w => ⟨(fun j w => ⟨(fun j w => ⟨(fun _ _ => trivial) j w, fun _ h => h⟩) j w, fun _ h => h⟩) j w, fun _ h => h⟩) rfl rfl (by kernel_rfl) (goes1 rfl rfl hg10b) (QOk.then (QOk.inBlock (QOk.then QOk.body))) (q_load1 rfl (by kernel_rfl) (hS9.cell (i := 0) rfl rfl)) ?_
 refine o_pure (i := 15) (fun j w => ⟨(fun j w => ⟨(fun j w => ⟨(fun j w => ⟨(fun _ _ => trivial) j w, fun _ h => h⟩) j w, fun _ h => h⟩) j w, fun _ h => h⟩) j w, fun _ h => h⟩) rfl rfl (by kernel_rfl) (goes1 rfl rfl hg10b) (QOk.then (QOk.inBlock (QOk.then QOk.body))) (fun w => q_rem rfl rfl (by first | decide | omega)) ?_
 refine o_pure (i := 16) (fun j w => ⟨(fun j w => ⟨(fun j w => ⟨(fun j w => ⟨(fun _ _ => trivial) j w, fun _ h => h⟩) j w, fun _ h => h⟩) j w, fun _ h => h⟩) j w, fun _ h => h⟩) rfl rfl (by kernel_rfl) (goes1 rfl rfl hg10b) (QOk.then (QOk.inBlock (QOk.then QOk.body))) (fun w => q_moveP rfl) ?_
 refine o_pure (i := 17) (fun j w => ⟨(fun j w => ⟨(fun j w => ⟨(fun j w => ⟨(fun _ _ => trivial) j w, fun _ h => h⟩) j w, fun _ h => h⟩) j w, fun _ h => h⟩) j w, fun _ h => h⟩) rfl rfl (by kernel_rfl) (goes1 rfl rfl hg10b) (QOk.then (QOk.inBlock (QOk.then QOk.body))) (fun w => q_nilCheck rfl) ?_
 refine o_pure (i := 18) (fun j w => ⟨(fun j w => ⟨(fun j w => ⟨(fun j w => ⟨(fun _ _ => trivial) j w, fun _ h => h⟩) j w, fun _ h => h⟩) j w, fun _ h => h⟩) j w, fun _ h => h⟩) rfl rfl (by kernel_rfl) (goes1 rfl rfl hg10b) (QOk.then (QOk.inBlock (QOk.then QOk.body))) (fun w => q_fieldAddr (ft := 3) (o := 1) rfl (by kernel_rfl)) ?_
 refine o_held (i := 19) [20, 21, 22] (fun j w => ⟨(fun j w => ⟨(fun j w => ⟨(fun j w => ⟨(fun _ _ => trivial) j w, fun _ h => h⟩) j w, fun _ h => h⟩) j w, fun _ h => h⟩) j w, fun _ h => h⟩) rfl rfl (by kernel_rfl) (goes1 rfl rfl hg10b) (QOk.then (QOk.inBlock (QOk.then QOk.body))) (q_load1 rfl (by kernel_rfl) (hS9.cell (i := 1) rfl rfl)) ?_
 refine o_pure (i := 20) (fun j w => ⟨(fun j w => ⟨(fun j w => ⟨(fun j w => ⟨(fun j w => ⟨(fun _ _ => trivial) j w, fun _ h => h⟩) j w, fun _ h => h⟩) j w, fun _ h => h⟩) j w, fun _ h => h⟩) j w, fun _ h => h⟩) rfl rfl (by kernel_rfl) (goes1 rfl rfl hg10b) (QOk.then (QOk.inBlock (QOk.then QOk.body))) (fun w => q_neq rfl rfl) ?_
 refine o_pure (i := 21) (fun j w => ⟨(fun j w => ⟨(fun j w => ⟨(fun j w => ⟨(fun j w => ⟨(fun _ _ => trivial) j w, fun _ h => h⟩) j w, fun _ h => h⟩) j w, fun _ h => h⟩) j w, fun _ h => h⟩) j w, fun _ h => h⟩) rfl rfl (by kernel_rfl) (goes0 rfl) (QOk.then (QOk.inBlock (QOk.then QOk.body))) (fun w => q_pickF rfl hg10b rfl) ?_
 refine o_pure (i := 22) (fun j w => ⟨(fun j w => ⟨(fun j w => ⟨(fun j w => ⟨(fun j w => ⟨(fun _ _ => trivial) j w, fun _ h => h⟩) j w, fun _ h => h⟩) j w, fun _ h => h⟩) j w, fun _ h => h⟩) j w, fun _ h => h⟩) rfl rfl (by kernel_rfl) (goes0 rfl) (QOk.then (QOk.inBlock (QOk.then QOk.body))) (fun w => q_assignB rfl) ?_
 refine o_done (by kernel_rfl) ?_
 refine hK7 _ _ ?_
 refine c_cond rfl (fun hc22 => ?_) (fun hc22 => ?_)
 have hc22b := hc22
 try simp only [zbb] at hc22
 refine wp_seq_k (fun K23 hK23 => ?_)
 refine wp_region_lit ?_
 refine l_q rfl rfl (q_assignI rfl) ?_
 refine l_nil ?_
 refine hK23 _ _ ?_
 refine wp_ret ?_
 refine c_ret1 rfl rfl ?_
 have hS24 := hS9.fr7; clear hS9
 have hS25 := hS24.fr7; clear hS24
 have hS26 := hS25.fr7; clear hS25
 have hS27 := hS26.fr7; clear hS26
 have hS28 := hS27.fr7; clear hS27
 have hS29 := hS28.fr7; clear hS28
 have hS30 := hS29.fr7; clear hS29
 have hS31 : St _ _ [_, _, _, _, _, _, .fz g] _ := hS30.only 7; clear hS30
 have hS32 : St _ _ [_, _, _, .fz g] _ := co_close hS31; clear hS31
 exact ⟨_, _, rfl, ⟨rfl, rfl⟩, hS32⟩
 have hc22b := hc22
 try simp only [zbb] at hc22
 exfalso; omega
theorem hear_ok (k kw : Nat) (nd : Int) (inc cnt mb : Nat) (oa : Option Addr) (O : List Lo) (oc : Nat) (T : List (Int × Nat × Tx)) (hT : TOk T) (g : Gh) (hO : LOk g O) (hol0 : O.length ≤ 100000) (kd : Nat) (wa : Option Addr) (wc : Nat) (rs : List Rc) (da : Option Addr) (dc : Nat) (l : List Nat) (bb s : Nat) (hrl : rs.length ≤ 500000) (hl : Bytes l) (hbb : bb + l.length ≤ 500000000) (hs : s ≤ l.length) (hR : RsOk g rs) (lr : Lr) (an : Option Addr) (nl cn : Nat) (hnl : lr.nd.length = nl) (hnm : nl ≤ 2000000) (w : World) (g2 : Gh) (hg2 : Rog [co k kw nd inc cnt mb oa O oc T, wk kw kd wa wc rs, dk kd da dc l bb s, .fz g] w g2) (hG : SlG g2 an (iv lr.nd)) (hS : St w (owns [co k kw nd inc cnt mb oa O oc T, wk kw kd wa wc rs, dk kd da dc l bb s, .fz g]) [co k kw nd inc cnt mb oa O oc T, wk kw kd wa wc rs, dk kd da dc l bb s, .fz g] w) :
    Calls Try.prog 16 #[pV k, .agg #[.int .i64 lr.k, .int .i64 lr.f, .int .i64 lr.t, .int .i64 lr.x, .slice an nl cn]] w (Post w [co k kw nd inc cnt mb oa O oc T, wk kw kd wa wc rs, dk kd da dc l bb s, .fz g] fun v G => CoW k kw nd inc mb kd bb rs g (.int .i64 (hearG nd lr (absT T) (O.map Lo.l) l s).1) (cnt, (hearG nd lr (absT T) (O.map Lo.l) l s).2.1, (hearG nd lr (absT T) (O.map Lo.l) l s).2.2.1, (hearG nd lr (absT T) (O.map Lo.l) l s).2.2.2.1, (hearG nd lr (absT T) (O.map Lo.l) l s).2.2.2.2) v G) := by
  by_cases hc : rightL lr = true ∧ lr.t = nd ∧ Int.tmod lr.x 16 = nd
  · rw [hg_yes hc]
    obtain ⟨h1, h2, h3⟩ := hc
    obtain ⟨⟨_, _, hf0, hf16, _⟩, _⟩ := rightL_iff.1 h1
    obtain ⟨lk, lf, lt, lx, ln⟩ := lr
    dsimp only at *
    subst h2
    obtain ⟨m, rfl⟩ : ∃ m : Nat, lf = ((m : Nat) : Int) := ⟨lf.toNat, by omega⟩
    have hm : m < 16 := by omega
    rw [Int.toNat_natCast]
    rcases hT.split lx with ⟨A, b, t, B, rfl⟩ | ⟨A, B, rfl, hA, hB⟩
    · exact hear_hit k kw lt inc cnt mb oa O oc lx A b t B hT g hO hol0 kd wa wc rs da dc l bb s hrl hl hbb hs hR lk m hm ln h1 h3 an nl cn hnl hnm w g2 hg2 hG hS
    · exact hear_miss k kw lt inc cnt mb oa O oc lx (A ++ B) (sides_ne hA hB) hT g hO hol0 kd wa wc rs da dc l bb s hrl hl hbb hs hR lk m hm ln h1 h3 an nl cn hnl hnm w g2 hg2 hG hS
  · rw [hg_no hc]
    have key : Calls Try.prog 16 #[pV k, .agg #[.int .i64 lr.k, .int .i64 lr.f, .int .i64 lr.t, .int .i64 lr.x, .slice an nl cn]] w (Post w [co k kw nd inc cnt mb oa O oc T, wk kw kd wa wc rs, dk kd da dc l bb s, .fz g] fun v G => v = .int .i64 111 ∧ G = [co k kw nd inc cnt mb oa O oc T, wk kw kd wa wc rs, dk kd da dc l bb s, .fz g]) := by
      cases hr : rightL lr with
      | false => exact hear_bad0 k kw nd inc cnt mb oa O oc T hT g hO hol0 kd wa wc rs da dc l bb s hrl hl hbb hs hR lr an nl cn hnl hnm w g2 hg2 hG hr hS
      | true => exact hear_bad1 k kw nd inc cnt mb oa O oc T hT g hO hol0 kd wa wc rs da dc l bb s hrl hl hbb hs hR lr an nl cn hnl hnm w g2 hg2 hG hr (fun h => hc ⟨hr, h.1, h.2⟩) hS
    refine key.mono ?_
    rintro _ w' ⟨v, G, he, ⟨rfl, rfl⟩, hS'⟩
    exact ⟨_, _, he, ⟨_, _, O, T, _, _, rs, _, _, g, rfl, rfl, Gle.refl _, hO, hT, rfl, rfl, hR, Nat.le_succ _⟩, hS'⟩

end Go.Proofs.Yteojpdijmnpmgaa
