/- Net: To. -/
import Derived.Test.YtlplhlncdfhhoaaEe
set_option linter.unusedVariables false
set_option linter.unusedSimpArgs false
namespace Go.Proofs.Ytlplhlncdfhhoaa
open Go.RowKit
/-- To which node a number's letter is. -/
def toOf (L : List (Int × Ent)) (x : Int) : Int := match L.find? (fun q => decide (q.1 = x)) with | some q => q.2.l.t | none => -1
theorem toOf_mem {L : List (Int × Ent)} (hd : L.Pairwise fun a b => a.1 ≠ b.1) {x : Int} {e : Ent} (he : (x, e) ∈ L) : toOf L x = e.l.t := by
  unfold toOf
  have : L.find? (fun q => decide (q.1 = x)) = some (x, e) := by
    induction hd with
    | nil => cases he
    | cons h _ ih =>
      rename_i a L
      cases he with
      | head => exact List.find?_cons_of_pos (by simp)
      | tail _ he =>
        rw [List.find?_cons_of_neg (by simpa using h _ he)]
        exact ih he
  rw [this]
def badT (L : List (Int × Ent)) (node x : Int) : Bool := decide (¬ toOf L x = node)
/-- The first of a list of which something holds. -/
def FirstB (p : Int → Bool) (l : List Int) (r : Int) : Prop := (r = -1 ∧ ∀ x ∈ l, p x = false) ∨ ∃ i : Nat, r = (i : Int) ∧ i < l.length ∧ (∀ j, j < i → ∀ x, l[j]? = some x → p x = false) ∧ ∃ x, l[i]? = some x ∧ p x = true
theorem filter_all {p : Int → Bool} {l : List Int} (h : ∀ x ∈ l, p x = false) : l.filter (fun x => !p x) = l := List.filter_eq_self.2 fun x hx => by rw [h x hx]; rfl
theorem filter_one {p : Int → Bool} {l : List Int} {i : Nat} {x : Int} (h : ∀ j, j < i → ∀ x, l[j]? = some x → p x = false) (hx : l[i]? = some x) (hp : p x = true) : (l.take (i + 1)).filter (fun x => !p x) = l.take i := by
  rw [List.take_add_one, hx, List.filter_append]
  have h1 : (l.take i).filter (fun x => !p x) = l.take i := filter_all fun y hy => by
    obtain ⟨j, hj, e⟩ := List.getElem_of_mem hy
    rw [List.length_take] at hj
    exact h j (by omega) y (by rw [← e, List.getElem_take]; exact List.getElem?_eq_getElem _)
  rw [h1]
  show _ ++ List.filter _ [x] = _
  rw [List.filter_cons_of_neg (by rw [hp]; decide)]; simp
theorem step_keep {p : Int → Bool} {l c : List Int} {i j : Nat} {x : Int} (hc : c.take i = (l.take j).filter (fun x => !p x)) (hd : c.drop j = l.drop j) (hij : i < j) (hl : c.length = l.length) (hx : c[j]? = some x) (hp : p x = false) :
    (c.set i x).take (i + 1) = (l.take (j + 1)).filter (fun x => !p x) ∧ (c.set i x).drop (j + 1) = l.drop (j + 1) ∧ (c.set i x).length = l.length := by
  have hj : j < c.length := (List.getElem?_eq_some_iff.1 hx).1
  have hlx : l[j]? = some x := by
    have h1 : (c.drop j)[0]? = some x := by rw [List.getElem?_drop, Nat.add_zero]; exact hx
    rw [hd, List.getElem?_drop, Nat.add_zero] at h1; exact h1
  refine ⟨?_, ?_, by rw [List.length_set]; exact hl⟩
  · rw [List.take_add_one, List.getElem?_set_self (by omega), List.take_set_of_le (by omega), hc, List.take_add_one, hlx, List.filter_append]
    congr 1
    show [x] = List.filter _ [x]
    rw [List.filter_cons_of_pos (by rw [hp]; rfl)]; rfl
  · rw [List.drop_set_of_lt (by omega)]
    have := congrArg (List.drop 1) hd
    rwa [List.drop_drop, List.drop_drop] at this
theorem step_drop {p : Int → Bool} {l c : List Int} {i j : Nat} {x : Int} (hc : c.take i = (l.take j).filter (fun x => !p x)) (hd : c.drop j = l.drop j) (hx : c[j]? = some x) (hp : p x = true) :
    c.take i = (l.take (j + 1)).filter (fun x => !p x) ∧ c.drop (j + 1) = l.drop (j + 1) := by
  have hlx : l[j]? = some x := by
    have h1 : (c.drop j)[0]? = some x := by rw [List.getElem?_drop, Nat.add_zero]; exact hx
    rw [hd, List.getElem?_drop, Nat.add_zero] at h1; exact h1
  refine ⟨?_, ?_⟩
  · rw [List.take_add_one, hlx, List.filter_append, ← hc]
    show _ = _ ++ List.filter _ [x]
    rw [List.filter_cons_of_neg (by rw [hp]; decide)]; simp
  · have := congrArg (List.drop 1) hd
    rwa [List.drop_drop, List.drop_drop] at this
theorem at_drop {l c : List Int} {j : Nat} {x : Int} (hd : c.drop j = l.drop j) (hx : c[j]? = some x) : l[j]? = some x := by
  have h1 : (c.drop j)[0]? = some x := by rw [List.getElem?_drop, Nat.add_zero]; exact hx
  rw [hd, List.getElem?_drop, Nat.add_zero] at h1; exact h1
theorem to_nums {L : List (Int × Ent)} {node : Int} (hd : L.Pairwise fun a b => a.1 ≠ b.1) (h0 : 0 ≤ node) : (List.map Prod.fst L).filter (fun x => !badT L node x) = numsW (absN L) node := by
  unfold numsW absN
  rw [List.filter_map, List.filter_map, List.map_map]
  have h1 : L.filter ((fun x => !badT L node x) ∘ Prod.fst) = L.filter ((fun q : Int × Lr => decide (node < 0) || decide (q.2.t = node)) ∘ fun q : Int × Ent => (q.1, q.2.l)) := by
    refine List.filter_congr fun q hq => ?_
    show (!badT L node q.1) = (decide (node < 0) || decide (q.2.l.t = node))
    have := toOf_mem hd (x := q.1) (e := q.2) hq
    unfold badT
    rw [this, decide_eq_false (show ¬ node < 0 from by omega), Bool.false_or]
    by_cases h : q.2.l.t = node <;> simp [h]
  rw [h1]; rfl
theorem all_nums (L : List (Int × Ent)) : List.map Prod.fst L = numsW (absN L) (-1) := by
  unfold numsW absN
  rw [List.filter_eq_self.2 (fun q _ => by simp), List.map_map]; rfl
/-- All these numbers are under way. -/
def InL (L : List (Int × Ent)) (l : List Int) : Prop := ∀ x ∈ l, ∃ e, (x, e) ∈ L
theorem InL.map (L : List (Int × Ent)) : InL L (List.map Prod.fst L) := fun x hx => by
  obtain ⟨q, hq, rfl⟩ := List.mem_map.1 hx
  exact ⟨q.2, hq⟩
attribute [local irreducible] Oper.wp Sem.run Code.wp wpList wpAnyO callFunc execOp Calls
attribute [local irreducible] toU short rencs renc rowE encRow rightB zig unzig decRw rightL risB lastN bitsOf nodesTo encL encLE sameL snd numsW sameI toOf badT

set_option maxRecDepth 100000 in
theorem toc_ok (k mb s t o : Nat) (L : List (Int × Ent)) (b1 b2 : Nat) (node : Int) (n : Int) (e : Ent) (he : (n, e) ∈ L) (w : World) (hb1 : w.heap[b1]? = some (.cells #[pV k] 26)) (hb2 : w.heap[b2]? = some (.cells #[.int .i64 node] 3)) (hk : w.heap[k]? = some (ntO mb s t o)) (hM : MapSat (.int .i64) mb (List.map nc L) w) (hE : EOk (hw w) L) : Calls Try.prog 33 #[.int .i64 n, pV b1, pV b2] w (PostR w fun v => v = .bool (badT L node n)) := by
 have hS := St.start w
 refine c_enter Try.func33 rfl rfl rfl ?_
 refine wp_seq_k (fun K1 hK1 => ?_)
 refine wp_region_lit ?_
 refine l_q rfl rfl (q_assignB rfl) ?_
 refine l_nil ?_
 refine hK1 _ _ ?_
 refine wp_seq_k (fun K2 hK2 => ?_)
 refine wp_region_lit ?_
 refine l_q rfl rfl (q_load1 rfl (by kernel_rfl) (cell_blk (hS.base _ _ hb1) rfl)) ?_
 refine l_q rfl rfl (q_moveI rfl) ?_
 refine l_e rfl (fun K hK => ?_)
 refine e_call (by kernel_rfl) (look_hit_ok k mb s t o L n e he _ (hS.base _ _ hk) (hM.mono hS.base) (hE.mono hS.base)) rfl (after_N hS (fun v3 G3 w3 hv3 hS3 => ?_))
 clear hS
 obtain ⟨an3, cn3, rfl, rfl⟩ := hv3
 have hS4 : St _ _ [.ow 3 1 an3 e.l.nd.length cn3 (iv e.l.nd)] _ := hS3; clear hS3
 refine hK _ _ ?_; clear hK K
 refine l_q rfl rfl (q_move rfl) ?_
 refine l_q rfl rfl (q_extract rfl rfl) ?_
 refine l_q rfl rfl (q_extract rfl rfl) ?_
 refine l_e rfl (fun K hK => ?_)
 refine e_alloc (zv := .agg #[.int .i64 0, .int .i64 0, .int .i64 0, .int .i64 0, .slice none 0 0]) hS4 (by kernel_rfl) (fun b5 w5 (hS5 : St _ _ [.blk b5 (.cells #[.int .i64 (0 : Int), .int .i64 (0 : Int), .int .i64 (0 : Int), .int .i64 (0 : Int), .slice none 0 0] 25), _] _) => ?_)
 clear hS4
 refine hK _ _ ?_; clear hK K
 refine l_e rfl (fun K hK => ?_)
 refine e_storeA hS5 rfl rfl (by kernel_rfl) (by repeat' (first | exact trivial | refine ⟨by first | rfl | assumption | exact one_if (by assumption), ?_⟩)) (i := 0) rfl rfl (fun w6 (hS6 : St _ _ [.blk b5 (.cells #[.int .i64 e.l.k, .int .i64 e.l.f, .int .i64 e.l.t, .int .i64 e.l.x, .slice an3 e.l.nd.length cn3] 25), _] _) => ?_)
 clear hS5
 refine hK _ _ ?_; clear hK K
 refine l_q rfl rfl (q_assignI rfl) ?_
 refine l_nil ?_
 refine hK2 _ _ ?_
 refine wp_seq_k (fun K7 hK7 => ?_)
 refine wp_region_lit ?_
 refine l_q rfl rfl (q_fieldAddr (ft := 3) (o := 2) rfl (by kernel_rfl)) ?_
 refine l_q rfl rfl (q_load1 rfl (by kernel_rfl) (hS6.cell (i := 0) rfl rfl)) ?_
 refine l_q rfl rfl (q_load1 rfl (by kernel_rfl) (cell_blk (hS6.base _ _ hb2) rfl)) ?_
 refine l_q rfl rfl (q_neq rfl rfl) ?_
 refine l_q rfl rfl (q_assignB rfl) ?_
 refine l_nil ?_
 refine hK7 _ _ ?_
 refine wp_ret ?_
 refine c_ret1 rfl rfl ?_
 have htm := toOf_mem (nc_apart hM) he
 exact ⟨_, rfl, congrArg Value.bool (by unfold badT; rw [htm]), hS6.drop⟩

set_option maxRecDepth 100000 in
theorem idxto_ok (k mb s t o : Nat) (L : List (Int × Ent)) (b1 b2 : Nat) (node : Int) (l : List Int) (hin : InL L l) (n : Nat) (hn : l.length = n) (hm : n ≤ 2000000) (an : Option Addr) (cn : Nat) (w : World) (hG : SlG (hw w) an (iv l)) (hb1 : w.heap[b1]? = some (.cells #[pV k] 26)) (hb2 : w.heap[b2]? = some (.cells #[.int .i64 node] 3)) (hk : w.heap[k]? = some (ntO mb s t o)) (hM : MapSat (.int .i64) mb (List.map nc L) w) (hE : EOk (hw w) L) : Calls Try.prog 42 #[.slice an n cn, .func (.func 33) #[] #[pV b1, pV b2]] w (PostR w fun v => ∃ r : Int, v = .int .i64 r ∧ FirstB (badT L node) l r) := by
 have hS := St.start w
 subst hn
 refine c_enter Try.func42 rfl rfl rfl ?_
 refine wp_seq_k (fun K1 hK1 => ?_)
 refine wp_region_lit ?_
 refine l_q rfl rfl (q_assignI rfl) ?_
 refine l_nil ?_
 refine hK1 _ _ ?_
 refine wp_seq_k (fun K2 hK2 => ?_)
 refine wp_seq_k (fun K3 hK3 => ?_)
 refine wp_region_lit ?_
 refine l_q rfl rfl (q_moveS rfl) ?_
 refine l_q rfl rfl (q_lenSl (e := 3) rfl (by kernel_rfl)) ?_
 refine l_q rfl rfl (q_moveI rfl) ?_
 refine l_nil ?_
 refine hK3 _ _ ?_
 refine wp_block ?_
 refine c_loop (τ := Nat) [(4, 5), (8, 18)] (fun x => (fun (i : Nat) => [(8, .int .i64 (i : Int))]) x) (fun x w' => (fun (i : Nat) => St w (fun _ => False) [] w' ∧ i ≤ l.length ∧ (∀ j, j < i → ∀ x, l[j]? = some x → badT L node x = false)) x) (fun x => (fun (i : Nat) => l.length - i) x) (0) ?_ (by repeat' (first | exact trivial | refine ⟨by first | rfl | exact int_succ _ | assumption, ?_⟩)) (fun i j4 w4 hJ4 K4 hK4 => ?_)
 ·
  exact ⟨hS, Nat.zero_le _, fun j h => (by omega)⟩
 ·
  obtain ⟨hS4, hi, hj⟩ := hJ4
  try dsimp only at hS4 hi hj ⊢
  refine wp_seq_k (fun K5 hK5 => ?_)
  refine wp_region_lit ?_
  refine l_q rfl rfl (q_lss rfl rfl) ?_
  refine l_nil ?_
  refine hK5 _ _ ?_
  refine wp_seq_k (fun K6 hK6 => ?_)
  refine c_cond rfl (fun hc7 => ?_) (fun hc7 => ?_)
  ·
   have hc7b := hc7
   try simp only [decide_eq_true_eq, decide_eq_false_iff_not, Bool.not_eq_true', Bool.not_eq_false', Bool.and_eq_true, Bool.or_eq_true, Int.not_lt, Int.not_le, ne_eq, Decidable.not_not] at hc7
   refine wp_skip ?_
   refine hK6 _ _ ?_
   refine wp_seq_k (fun K8 hK8 => ?_)
   refine wp_block ?_
   refine wp_seq_k (fun K9 hK9 => ?_)
   refine wp_region_lit ?_
   refine l_q rfl rfl (q_moveI rfl) ?_
   refine l_q rfl rfl (q_assignI rfl) ?_
   refine l_nil ?_
   refine hK9 _ _ ?_
   refine wp_seq_k (fun K10 hK10 => ?_)
   refine wp_region_lit ?_
   refine l_q rfl rfl (q_move rfl) ?_
   refine l_q rfl rfl (q_moveS rfl) ?_
   refine l_q rfl rfl (q_moveI rfl) ?_
   refine l_q rfl rfl (q_ixG (e := 3) (m := 1) (j := i) rfl rfl (by kernel_rfl) (by kernel_rfl) (by first | rfl | omega) (by omega) hG (by rw [iv_len]; first | omega | (simp only [List.length_append, List.length_map, List.length_cons, List.length_nil, List.length_take, List.length_drop, List.length_set] <;> omega))) ?_
   obtain ⟨x11, hx11⟩ : ∃ x, (l)[i]? = some x := ⟨_, List.getElem?_eq_getElem (by first | omega | (simp only [List.length_append, List.length_map, List.length_cons, List.length_nil, List.length_take, List.length_drop, List.length_set] <;> omega) | (simp <;> omega))⟩
   refine l_q rfl rfl (q_load1 rfl (by kernel_rfl) (SlG.cell (hG.mono hS4.base) (Gle.refl _) (at1 (iv_at hx11)))) ?_
   refine l_e rfl (fun K hK => ?_)
   obtain ⟨e12, he12⟩ := hin x11 (List.mem_of_getElem? hx11)
   refine e_callV (by kernel_rfl) rfl (toc_ok k mb s t o L b1 b2 node x11 e12 he12 _ (hS4.base _ _ hb1) (hS4.base _ _ hb2) (hS4.base _ _ hk) (hM.mono hS4.base) (hE.mono hS4.base)) rfl (after_R hS4 (fun v12 w12 hv12 hS12 => ?_))
   clear hS4
   obtain rfl := hv12
   refine hK _ _ ?_; clear hK K
   refine l_nil ?_
   refine hK10 _ _ ?_
   refine c_cond rfl (fun hc13 => ?_) (fun hc13 => ?_)
   ·
    have hc13b := hc13
    try simp only [decide_eq_true_eq, decide_eq_false_iff_not, Bool.not_eq_true', Bool.not_eq_false', Bool.and_eq_true, Bool.or_eq_true, Int.not_lt, Int.not_le, ne_eq, Decidable.not_not] at hc13
    refine wp_seq_k (fun K14 hK14 => ?_)
    refine wp_region_lit ?_
    refine l_q rfl rfl (q_moveI rfl) ?_
    refine l_q rfl rfl (q_assignI rfl) ?_
    refine l_nil ?_
    refine hK14 _ _ ?_
    refine wp_ret ?_
    refine c_ret1 rfl rfl ?_
    exact ⟨_, rfl, ⟨_, rfl, .inr ⟨i, rfl, (List.getElem?_eq_some_iff.1 hx11).1, hj, _, hx11, by assumption⟩⟩, hS12.drop⟩
   ·
    have hc13b := hc13
    try simp only [decide_eq_true_eq, decide_eq_false_iff_not, Bool.not_eq_true', Bool.not_eq_false', Bool.and_eq_true, Bool.or_eq_true, Int.not_lt, Int.not_le, ne_eq, Decidable.not_not] at hc13
    refine wp_skip ?_
    refine hK8 _ _ ?_
    refine wp_region_lit ?_
    refine l_q rfl rfl (q_addx rfl rfl (by first | decide | omega) (by first | decide | omega)) ?_
    refine l_q rfl rfl (q_moveI rfl) ?_
    refine l_nil ?_
    refine hK4 _ _ (came ((i + 1)) (by repeat' (first | exact Agree.refl _ _ | refine Agree.up ?_ rfl | refine Agree.hav2 ?_ rfl | refine Agree.ups2 ?_ rfl)) (by repeat' (first | exact trivial | refine ⟨by first | rfl | exact int_succ _ | assumption, ?_⟩)) ?_)
    exact ⟨⟨hS12, (by show i + 1 ≤ l.length; omega), fun j hj' x hx => by
     have hj' : j < i + 1 := hj'
     by_cases e : j = i
     · subst e; rw [hx11] at hx; injection hx with hx; subst hx; assumption
     · exact hj j (by omega) x hx⟩, by (show l.length - (i + 1) < l.length - i); omega⟩
  ·
   have hc7b := hc7
   try simp only [decide_eq_true_eq, decide_eq_false_iff_not, Bool.not_eq_true', Bool.not_eq_false', Bool.and_eq_true, Bool.or_eq_true, Int.not_lt, Int.not_le, ne_eq, Decidable.not_not] at hc7
   refine wp_exit ?_
   refine hK2 _ _ ?_
   refine wp_seq_k (fun K15 hK15 => ?_)
   refine wp_region_lit ?_
   refine l_q rfl rfl (q_assignI rfl) ?_
   refine l_nil ?_
   refine hK15 _ _ ?_
   refine wp_ret ?_
   refine c_ret1 rfl rfl ?_
   exact ⟨_, rfl, ⟨_, rfl, .inl ⟨rfl, fun x hx => by
    obtain ⟨j, hj', e⟩ := List.getElem_of_mem hx
    exact hj j (by omega) x (by rw [← e]; exact List.getElem?_eq_getElem _)⟩⟩, hS4.drop⟩

set_option maxHeartbeats 2000000 in
set_option maxRecDepth 100000 in
theorem delto_ok (k mb s t o : Nat) (L : List (Int × Ent)) (b1 b2 : Nat) (node : Int) (l : List Int) (hin : InL L l) (n : Nat) (hn : l.length = n) (hm : n ≤ 2000000) (an : Option Addr) (cn : Nat) (w1 : World) (w : World) (hB : Rog [.ow 3 1 an l.length cn (iv l), .blk b1 (.cells #[pV k] 26), .blk b2 (.cells #[.int .i64 node] 3)] w (hw w1)) (hk : w1.heap[k]? = some (ntO mb s t o)) (hM : MapSat (.int .i64) mb (List.map nc L) w1) (hE : EOk (hw w1) L) (hS : St w (owns [.ow 3 1 an l.length cn (iv l), .blk b1 (.cells #[pV k] 26), .blk b2 (.cells #[.int .i64 node] 3)]) [.ow 3 1 an l.length cn (iv l), .blk b1 (.cells #[pV k] 26), .blk b2 (.cells #[.int .i64 node] 3)] w) : Calls Try.prog 32 #[.slice an n cn, .func (.func 33) #[] #[pV b1, pV b2]] w (Post w [.ow 3 1 an l.length cn (iv l), .blk b1 (.cells #[pV k] 26), .blk b2 (.cells #[.int .i64 node] 3)] fun v G => ∃ ad' cap', v = .slice ad' (l.filter (fun x => !badT L node x)).length cap' ∧ G = [.ow 3 1 ad' (l.filter (fun x => !badT L node x)).length cap' (iv (l.filter (fun x => !badT L node x))), .blk b1 (.cells #[pV k] 26), .blk b2 (.cells #[.int .i64 node] 3)]) := by
 subst hn
 refine c_enter Try.func32 rfl rfl rfl ?_
 refine wp_seq_k (fun K1 hK1 => ?_)
 refine wp_region_lit ?_
 refine l_q rfl rfl (q_assignS rfl) ?_
 refine l_nil ?_
 refine hK1 _ _ ?_
 refine wp_seq_k (fun K2 hK2 => ?_)
 refine wp_region_lit ?_
 refine l_q rfl rfl (q_moveS rfl) ?_
 refine l_q rfl rfl (q_move rfl) ?_
 refine l_e rfl (fun K hK => ?_)
 refine e_call (by kernel_rfl) (idxto_ok k mb s t o L b1 b2 node l hin l.length rfl hm _ _ _ (hS.owG (i := 0) rfl) (hS.blk (i := 1) rfl) (hS.blk (i := 2) rfl) ((hB.le hS) _ _ hk) (hM.mono (hB.le hS)) (hE.mono (hB.le hS))) rfl (after_R hS (fun v3 w3 hv3 hS3 => ?_))
 clear hS
 obtain ⟨r3, rfl, hF3⟩ := hv3
 refine hK _ _ ?_; clear hK K
 refine l_q rfl rfl (q_assignI rfl) ?_
 refine l_nil ?_
 refine hK2 _ _ ?_
 refine wp_seq_k (fun K4 hK4 => ?_)
 refine wp_seq_k (fun K5 hK5 => ?_)
 refine wp_region_lit ?_
 refine l_q rfl rfl (q_moveI rfl) ?_
 refine l_q rfl rfl (q_eql rfl rfl) ?_
 refine l_nil ?_
 refine hK5 _ _ ?_
 refine c_cond rfl (fun hc6 => ?_) (fun hc6 => ?_)
 ·
  have hc6b := hc6
  try simp only [decide_eq_true_eq, decide_eq_false_iff_not, Bool.not_eq_true', Bool.not_eq_false', Bool.and_eq_true, Bool.or_eq_true, Int.not_lt, Int.not_le, ne_eq, Decidable.not_not] at hc6
  refine wp_seq_k (fun K7 hK7 => ?_)
  refine wp_region_lit ?_
  refine l_q rfl rfl (q_moveS rfl) ?_
  refine l_q rfl rfl (q_assignS rfl) ?_
  refine l_nil ?_
  refine hK7 _ _ ?_
  refine wp_ret ?_
  refine c_ret1 rfl rfl ?_
  have hall : ∀ x ∈ l, badT L node x = false := by
   rcases hF3 with ⟨_, h⟩ | ⟨i, h, _⟩
   · exact h
   · omega
  have hfl := filter_all hall
  exact ⟨_, _, rfl, ⟨an, cn, (by rw [hfl]; rfl), by rw [hfl]⟩, hS3⟩
 ·
  have hc6b := hc6
  try simp only [decide_eq_true_eq, decide_eq_false_iff_not, Bool.not_eq_true', Bool.not_eq_false', Bool.and_eq_true, Bool.or_eq_true, Int.not_lt, Int.not_le, ne_eq, Decidable.not_not] at hc6
  obtain ⟨i0, rfl, hi0, hj0, x0, hx0, hp0⟩ : ∃ i : Nat, r3 = (i : Int) ∧ i < l.length ∧ (∀ j, j < i → ∀ x, l[j]? = some x → badT L node x = false) ∧ ∃ x, l[i]? = some x ∧ badT L node x = true := (by rcases hF3 with ⟨h, _⟩ | h; omega; exact h)
  refine wp_skip ?_
  refine hK4 _ _ ?_
  refine wp_seq_k (fun K8 hK8 => ?_)
  refine wp_seq_k (fun K9 hK9 => ?_)
  refine wp_region_lit ?_
  refine l_q rfl rfl (q_moveI rfl) ?_
  refine l_q rfl rfl (q_addx rfl rfl (by first | decide | omega) (by first | decide | omega)) ?_
  refine l_q rfl rfl (q_assignI rfl) ?_
  refine l_nil ?_
  refine hK9 _ _ ?_
  refine wp_block ?_
  refine c_loop (τ := Nat × Nat × (List Int)) [(5, 7), (16, 35)] (fun x => (fun (i : Nat) (j : Nat) (c : List Int) => [(5, .int .i64 (i : Int)), (6, .int .i64 (j : Int))]) x.1 x.2.1 x.2.2) (fun x w' => (fun (i : Nat) (j : Nat) (c : List Int) => St w (owns [.ow 3 1 an l.length cn (iv l), .blk b1 (.cells #[pV k] 26), .blk b2 (.cells #[.int .i64 node] 3)]) [.ow 3 1 an l.length cn (iv c), .blk b1 (.cells #[pV k] 26), .blk b2 (.cells #[.int .i64 node] 3)] w' ∧ i < j ∧ j ≤ l.length ∧ c.length = l.length ∧ c.take i = ((l.take j).filter (fun x => !badT L node x)) ∧ c.drop j = l.drop j) x.1 x.2.1 x.2.2) (fun x => (fun (i : Nat) (j : Nat) (c : List Int) => l.length - j) x.1 x.2.1 x.2.2) (⟨i0, (i0 + 1), l⟩) ?_ (by repeat' (first | exact trivial | refine ⟨by first | rfl | exact int_succ _ | assumption, ?_⟩)) (fun x10 j10 w10 hJ10 K10 hK10 => ?_)
  ·
   exact ⟨hS3, Nat.lt_succ_self _, hi0, rfl, (filter_one hj0 hx0 hp0).symm, rfl⟩
  ·
   obtain ⟨i, j, c⟩ := x10
   obtain ⟨hS10, hij, hjl, hcl, hci, hdj⟩ := hJ10
   try dsimp only at hS10 hij hjl hcl hci hdj ⊢
   refine wp_seq_k (fun K11 hK11 => ?_)
   refine wp_seq_k (fun K12 hK12 => ?_)
   refine wp_region_lit ?_
   refine l_q rfl rfl (q_moveI rfl) ?_
   refine l_q rfl rfl (q_moveS rfl) ?_
   refine l_q rfl rfl (q_lenSl (e := 3) rfl (by kernel_rfl)) ?_
   refine l_q rfl rfl (q_lss rfl rfl) ?_
   refine l_nil ?_
   refine hK12 _ _ ?_
   refine c_cond rfl (fun hc13 => ?_) (fun hc13 => ?_)
   ·
    have hc13b := hc13
    try simp only [decide_eq_true_eq, decide_eq_false_iff_not, Bool.not_eq_true', Bool.not_eq_false', Bool.and_eq_true, Bool.or_eq_true, Int.not_lt, Int.not_le, ne_eq, Decidable.not_not] at hc13
    refine wp_skip ?_
    refine hK11 _ _ ?_
    refine wp_seq_k (fun K14 hK14 => ?_)
    refine wp_block ?_
    refine wp_seq_k (fun K15 hK15 => ?_)
    refine wp_region_lit ?_
    refine l_q rfl rfl (q_moveS rfl) ?_
    refine l_q rfl rfl (q_moveI rfl) ?_
    refine l_q rfl rfl (q_ixG (e := 3) (m := 1) (j := j) rfl rfl (by kernel_rfl) (by kernel_rfl) (by first | rfl | omega) (by omega) (hS10.owG (i := 0) rfl) (by rw [iv_len]; first | omega | (simp only [List.length_append, List.length_map, List.length_cons, List.length_nil, List.length_take, List.length_drop, List.length_set] <;> omega))) ?_
    obtain ⟨x16, hx16⟩ : ∃ x, (c)[j]? = some x := ⟨_, List.getElem?_eq_getElem (by first | omega | (simp only [List.length_append, List.length_map, List.length_cons, List.length_nil, List.length_take, List.length_drop, List.length_set] <;> omega) | (simp <;> omega))⟩
    refine l_q rfl rfl (q_load1 rfl (by kernel_rfl) (SlG.cell (hS10.owG (i := 0) rfl) (Gle.refl _) (at1 (iv_at hx16)))) ?_
    refine l_q rfl rfl (q_assignI rfl) ?_
    refine l_nil ?_
    refine hK15 _ _ ?_
    refine wp_seq_k (fun K17 hK17 => ?_)
    refine wp_region_lit ?_
    refine l_q rfl rfl (q_move rfl) ?_
    refine l_q rfl rfl (q_moveI rfl) ?_
    refine l_e rfl (fun K hK => ?_)
    obtain ⟨e18, he18⟩ := hin x16 (List.mem_of_getElem? (at_drop hdj hx16))
    refine e_callV (by kernel_rfl) rfl (toc_ok k mb s t o L b1 b2 node x16 e18 he18 _ (hS10.blk (i := 1) rfl) (hS10.blk (i := 2) rfl) ((hB.le hS10) _ _ hk) (hM.mono (hB.le hS10)) (hE.mono (hB.le hS10))) rfl (after_R hS10 (fun v18 w18 hv18 hS18 => ?_))
    clear hS10
    obtain rfl := hv18
    refine hK _ _ ?_; clear hK K
    refine l_q rfl rfl (q_not rfl) ?_
    refine l_nil ?_
    refine hK17 _ _ ?_
    refine c_cond rfl (fun hc19 => ?_) (fun hc19 => ?_)
    ·
     have hc19b := hc19
     try simp only [decide_eq_true_eq, decide_eq_false_iff_not, Bool.not_eq_true', Bool.not_eq_false', Bool.and_eq_true, Bool.or_eq_true, Int.not_lt, Int.not_le, ne_eq, Decidable.not_not] at hc19
     refine wp_seq_k (fun K20 hK20 => ?_)
     refine wp_region_lit ?_
     refine l_q rfl rfl (q_moveS rfl) ?_
     refine l_q rfl rfl (q_moveI rfl) ?_
     refine l_q rfl rfl (q_moveI rfl) ?_
     refine l_q rfl rfl (q_ixG (e := 3) (m := 1) (j := i) rfl rfl (by kernel_rfl) (by kernel_rfl) (by first | rfl | omega) (by omega) (hS18.owG (i := 0) rfl) (by rw [iv_len]; first | omega | (simp only [List.length_append, List.length_map, List.length_cons, List.length_nil, List.length_take, List.length_drop, List.length_set] <;> omega))) ?_
     refine l_e rfl (fun K hK => ?_)
     refine e_stOw hS18 rfl rfl (by kernel_rfl) (by first | rfl | assumption) (i := 0) rfl (by omega) iv_set1 (fun w21 (hS21 : St _ _ [.ow 3 1 an l.length cn (iv (c.set i x16)), .blk b1 (.cells #[pV k] 26), .blk b2 (.cells #[.int .i64 node] 3)] _) => ?_)
     clear hS18
     refine hK _ _ ?_; clear hK K
     refine l_nil ?_
     refine hK20 _ _ ?_
     refine wp_region_lit ?_
     refine l_q rfl rfl (q_moveI rfl) ?_
     refine l_q rfl rfl (q_addx rfl rfl (by first | decide | omega) (by first | decide | omega)) ?_
     refine l_q rfl rfl (q_assignI rfl) ?_
     refine l_nil ?_
     refine hK14 _ _ ?_
     refine wp_region_lit ?_
     refine l_q rfl rfl (q_moveI rfl) ?_
     refine l_q rfl rfl (q_addx rfl rfl (by first | decide | omega) (by first | decide | omega)) ?_
     refine l_q rfl rfl (q_assignI rfl) ?_
     refine l_nil ?_
     refine hK10 _ _ (came (⟨(i + 1), (j + 1), (c.set i x16)⟩) (by repeat' (first | exact Agree.refl _ _ | refine Agree.up ?_ rfl | refine Agree.hav2 ?_ rfl | refine Agree.ups2 ?_ rfl)) (by repeat' (first | exact trivial | refine ⟨by first | rfl | exact int_succ _ | assumption, ?_⟩)) ?_)
     have hst := step_keep hci hdj hij hcl hx16 (by assumption)
     exact ⟨⟨hS21, (by show i + 1 < j + 1; omega), (by show j + 1 ≤ l.length; omega), hst.2.2, hst.1, hst.2.1⟩, by (show l.length - (j + 1) < l.length - j); omega⟩
    ·
     have hc19b := hc19
     try simp only [decide_eq_true_eq, decide_eq_false_iff_not, Bool.not_eq_true', Bool.not_eq_false', Bool.and_eq_true, Bool.or_eq_true, Int.not_lt, Int.not_le, ne_eq, Decidable.not_not] at hc19
     refine wp_skip ?_
     refine hK14 _ _ ?_
     refine wp_region_lit ?_
     refine l_q rfl rfl (q_moveI rfl) ?_
     refine l_q rfl rfl (q_addx rfl rfl (by first | decide | omega) (by first | decide | omega)) ?_
     refine l_q rfl rfl (q_assignI rfl) ?_
     refine l_nil ?_
     refine hK10 _ _ (came (⟨i, (j + 1), c⟩) (by repeat' (first | exact Agree.refl _ _ | refine Agree.up ?_ rfl | refine Agree.hav2 ?_ rfl | refine Agree.ups2 ?_ rfl)) (by repeat' (first | exact trivial | refine ⟨by first | rfl | exact int_succ _ | assumption, ?_⟩)) ?_)
     have hst := step_drop hci hdj hx16 (by assumption)
     exact ⟨⟨hS18, (by show i < j + 1; omega), (by show j + 1 ≤ l.length; omega), hcl, hst.1, hst.2⟩, by (show l.length - (j + 1) < l.length - j); omega⟩
   ·
    have hc13b := hc13
    try simp only [decide_eq_true_eq, decide_eq_false_iff_not, Bool.not_eq_true', Bool.not_eq_false', Bool.and_eq_true, Bool.or_eq_true, Int.not_lt, Int.not_le, ne_eq, Decidable.not_not] at hc13
    refine wp_exit ?_
    refine hK8 _ _ ?_
    refine wp_seq_k (fun K22 hK22 => ?_)
    have hcp := (hS10.owLen (i := 0) rfl).2.1
    refine wp_region_lit ?_
    refine l_q rfl rfl (q_moveS rfl) ?_
    refine l_q rfl rfl (q_moveI rfl) ?_
    have hcp23 := (hS10.owLen (i := 0) rfl).2.1
    refine l_q rfl rfl (q_sliceX (e := 3) (size := 1) (l := i) (h := l.length) (m := cn) (ad' := (subS an i 1 cn)) (len' := (l.length - i)) (cap' := (cn - i)) rfl (by kernel_rfl) (by kernel_rfl) rfl rfl ⟨_, int_nat (by first | rfl | omega) rfl⟩ (by omega) (by first | omega | (simp only [List.length_append, List.length_map, List.length_cons, List.length_nil, List.length_take, List.length_drop, List.length_set] <;> omega)) (by first | omega | (simp only [List.length_append, List.length_map, List.length_cons, List.length_nil, List.length_take, List.length_drop, List.length_set] <;> omega)) rfl rfl rfl rfl) ?_
    refine l_e rfl (fun K hK => ?_)
    have hS25 : St _ _ [.ow 3 1 an i cn (iv (c.take i)), _, _] _ := hS10.owSubX (i := 0) (l := 0) (hh := i) (mx := cn) rfl (by omega) (by first | omega | (simp only [List.length_append, List.length_map, List.length_cons, List.length_nil, List.length_take, List.length_drop, List.length_set] <;> omega)) (by first | omega | (simp only [List.length_append, List.length_map, List.length_cons, List.length_nil, List.length_take, List.length_drop, List.length_set] <;> omega)) (by first | omega | (simp only [List.length_append, List.length_map, List.length_cons, List.length_nil, List.length_take, List.length_drop, List.length_set] <;> omega)) subS_zero (Nat.sub_zero _) (Nat.sub_zero _) (iv_subxT); clear hS10
    refine e_clearX (e := 3) (size := 1) (bytes := 8) (i := 0) (m := i) (lo := i) (mx := cn) (by kernel_rfl) (by kernel_rfl) hS25 rfl rfl (by omega) (by omega) (by omega) (fun w24 (hS24 : St _ _ [_, _, _] _) => ?_)
    clear hS25
    refine hK _ _ ?_; clear hK K
    refine l_nil ?_
    refine hK22 _ _ ?_
    refine wp_seq_k (fun K26 hK26 => ?_)
    refine wp_region_lit ?_
    refine l_q rfl rfl (q_moveS rfl) ?_
    refine l_q rfl rfl (q_moveI rfl) ?_
    refine l_q rfl rfl (q_sliceX (e := 3) (size := 1) (l := 0) (h := i) (m := cn) (ad' := an) (len' := i) (cap' := cn) rfl (by kernel_rfl) (by kernel_rfl) rfl ⟨_, int_nat (by first | rfl | omega) rfl⟩ rfl (by omega) (by first | omega | (simp only [List.length_append, List.length_map, List.length_cons, List.length_nil, List.length_take, List.length_drop, List.length_set] <;> omega)) (by first | omega | (simp only [List.length_append, List.length_map, List.length_cons, List.length_nil, List.length_take, List.length_drop, List.length_set] <;> omega)) rfl subS_zero (Nat.sub_zero _) (Nat.sub_zero _)) ?_
    refine l_q rfl rfl (q_assignS rfl) ?_
    refine l_nil ?_
    refine hK26 _ _ ?_
    refine wp_ret ?_
    refine c_ret1 rfl rfl ?_
    have hje : j = l.length := by omega
    rw [hje, List.take_length] at hci
    have hil : i = (l.filter (fun x => !badT L node x)).length := by rw [← hci, List.length_take]; omega
    exact ⟨_, _, rfl, ⟨an, cn, (by rw [← hil]; rfl), (by rw [← hil, ← hci])⟩, hS24⟩

end Go.Proofs.Ytlplhlncdfhhoaa
