/- The document's net: Take, Lose, Twice, Numbers. -/
import Derived.Test.YtlplhlncdfhhoaaEc
set_option linter.unusedVariables false
set_option linter.unusedSimpArgs false
namespace Go.Proofs.Ytlplhlncdfhhoaa
open Go.RowKit
theorem mdel_mid {A B : List Wy} {q : Wy} {s : Nat} (h : NumOk (absW (A ++ q :: B)) s) : mdel (absW (A ++ q :: B)) q.n = absW (A ++ B) := by
  obtain ⟨hp, _⟩ := h
  rw [absW_app] at hp ⊢
  rw [absW_app]
  show mdel (absW A ++ (q.n, q.l) :: absW B) q.n = _
  rw [List.pairwise_append] at hp
  obtain ⟨_, h2, h3⟩ := hp
  have h2' : ((q.n, q.l) :: absW B).Pairwise fun p q => p.1 < q.1 := h2
  obtain ⟨h4, _⟩ := List.pairwise_cons.1 h2'
  unfold mdel
  rw [List.filter_append, List.filter_cons_of_neg (by simp)]
  congr 1
  · exact List.filter_eq_self.2 fun x hx => by
      have := h3 x hx (q.n, q.l) (.head _)
      simp only at this; simp; omega
  · exact List.filter_eq_self.2 fun x hx => by
      have := h4 x hx
      simp only at this; simp; omega
theorem mid_of {W : List Wy} {n : Int} {l : Lr} (hm : (n, l) ∈ absW W) : ∃ A q B, W = A ++ q :: B ∧ q.n = n ∧ q.l = l ∨ False := by
  obtain ⟨q, hq, e⟩ := List.mem_map.1 hm
  obtain ⟨A, B, h⟩ := List.append_of_mem hq
  exact ⟨A, q, B, .inl ⟨h, congrArg Prod.fst e, congrArg Prod.snd e⟩⟩
/-- The letter of a number stands in the middle, no other one of its number ahead. -/
theorem mid_num {W : List Wy} {n : Int} {l : Lr} {s : Nat} (hn : NumOk (absW W) s) (hm : (n, l) ∈ absW W) : ∃ A q B, W = A ++ q :: B ∧ q.n = n ∧ q.l = l ∧ ∀ x ∈ A, x.n ≠ n := by
  obtain ⟨A, q, B, h | h⟩ := mid_of hm
  · obtain ⟨rfl, h2, h3⟩ := h
    refine ⟨A, q, B, rfl, h2, h3, fun x hx e => ?_⟩
    have hp := hn.1
    rw [absW_app, List.pairwise_append] at hp
    have := hp.2.2 (x.n, x.l) (List.mem_map.2 ⟨x, hx, rfl⟩) (q.n, q.l) (.head _)
    simp only at this; omega
  · exact h.elim
def sameI (a b : List Int) : Bool := decide (a = b)
theorem samei_no {a b : List Int} {i : Nat} {x y : Int} (hx : a[i]? = some x) (hy : b[i]? = some y) (h : ¬x = y) : false = sameI a b := by
  symm; exact decide_eq_false fun e => h (by rw [e, hy] at hx; exact (Option.some.inj hx).symm)
theorem samei_no1 {a b : List Int} (h : ¬(a.length : Int) = b.length) : false = sameI a b := by
  symm; exact decide_eq_false fun e => h (by rw [e])
theorem samei_yes {a b : List Int} (h : (a.length : Int) = b.length) (hs : ∀ j, j < a.length → a[j]? = b[j]?) : true = sameI a b := by
  symm
  refine decide_eq_true (List.ext_getElem? fun j => ?_)
  by_cases hj : j < a.length
  · exact hs j hj
  · rw [List.getElem?_eq_none (by omega), List.getElem?_eq_none (by omega)]
theorem samei_next {a b : List Int} {i : Nat} {x y : Int} (hs : ∀ j, j < i → a[j]? = b[j]?) (hx : a[i]? = some x) (hy : b[i]? = some y) (h : x = y) : ∀ j, j < i + 1 → a[j]? = b[j]? := fun j hj => by
  by_cases e : j = i
  · subst e; rw [hx, hy, h]
  · exact hs j (by omega)
theorem numsW_len (A : List (Int × Lr)) (nd : Int) : (numsW A nd).length ≤ A.length := by
  unfold numsW; rw [List.length_map]; exact List.length_filter_le _ _
attribute [local irreducible] Oper.wp Sem.run Code.wp wpList wpAnyO callFunc execOp Calls
attribute [local irreducible] toU short rencs renc rowE encRow rightB zig unzig decRw rightL risB lastN bitsOf nodesTo encL encLE sameL snd numsW sameI

set_option maxRecDepth 100000 in
theorem rtake_hit (r : Nat) (ad : Option Addr) (cap s t o : Nat) (n : Int) (A : List Wy) (q : Wy) (B : List Wy) (hq : q.n = n) (hA : ∀ x ∈ A, x.n ≠ n) (g : Gh) (hW : WOk g (A ++ q :: B)) (hwl : (A ++ q :: B).length ≤ 2000000) (ht : t ≤ 1000000) (w : World) (hS : St w (owns [.blk r (.cells #[.slice ad (A ++ q :: B).length cap, .int .i64 (s : Int), .int .i64 (t : Int), .int .i64 (o : Int)] 51), .ow 54 6 ad ((A ++ q :: B).length) cap (List.flatMap wc (A ++ q :: B)), .fz g]) [.blk r (.cells #[.slice ad (A ++ q :: B).length cap, .int .i64 (s : Int), .int .i64 (t : Int), .int .i64 (o : Int)] 51), .ow 54 6 ad ((A ++ q :: B).length) cap (List.flatMap wc (A ++ q :: B)), .fz g] w) : Calls Try.prog 22 #[pV r, .int .i64 n] w (Post w [.blk r (.cells #[.slice ad (A ++ q :: B).length cap, .int .i64 (s : Int), .int .i64 (t : Int), .int .i64 (o : Int)] 51), .ow 54 6 ad ((A ++ q :: B).length) cap (List.flatMap wc (A ++ q :: B)), .fz g] fun v G => ∃ ad' cap', v = .tuple #[.agg (LV q.l q.ad q.cap).toArray, .int .i64 0] ∧ G = [.blk r (rtO ad' (A ++ B).length cap' s (t + 1) o), .ow 54 6 ad' (A ++ B).length cap' (List.flatMap wc (A ++ B)), .fz g]) := by
 have hqat : (A ++ q :: B)[A.length]? = some q := by rw [List.getElem?_append_right (Nat.le_refl _), Nat.sub_self]; rfl
 have hql16 := (hW q (List.mem_append_right _ (.head _))).2.1
 have hmlen : (A ++ q :: B).length = A.length + (B.length + 1) := by rw [List.length_append, List.length_cons]
 refine c_enter Try.func22 rfl rfl rfl ?_
 refine wp_seq_k (fun K1 hK1 => ?_)
 refine wp_region_lit ?_
 refine l_e rfl (fun K hK => ?_)
 refine e_alloc (zv := .agg #[.int .i64 0, .int .i64 0, .int .i64 0, .int .i64 0, .slice none 0 0]) hS (by kernel_rfl) (fun b2 w2 (hS2 : St _ _ [.blk b2 (.cells #[.int .i64 (0 : Int), .int .i64 (0 : Int), .int .i64 (0 : Int), .int .i64 (0 : Int), .slice none 0 0] 25), .blk r (.cells #[.slice ad ((A ++ q :: B).length) cap, .int .i64 (s : Int), .int .i64 (t : Int), .int .i64 (o : Int)] 51), .ow 54 6 ad ((A ++ q :: B).length) cap (List.flatMap wc (A ++ q :: B)), .fz g] _) => ?_)
 clear hS
 refine hK _ _ ?_; clear hK K
 refine l_q rfl rfl (q_assignI rfl) ?_
 refine l_nil ?_
 refine hK1 _ _ ?_
 refine wp_seq_k (fun K3 hK3 => ?_)
 refine wp_region_lit ?_
 refine l_q rfl rfl (q_moveP rfl) ?_
 refine l_q rfl rfl (q_moveI rfl) ?_
 refine l_e rfl (fun K hK => ?_)
 refine e_call (by kernel_rfl) (rfind_hit r ad cap s t o (A ++ q :: B) (by omega) n A q B rfl hq hA _ (hS2.blk (i := 1) rfl) (hS2.owG (i := 2) rfl)) rfl (after_R hS2 (fun v4 w4 hv4 hS4 => ?_))
 clear hS2
 obtain rfl := hv4
 refine hK _ _ ?_; clear hK K
 refine l_q rfl rfl (q_assignI rfl) ?_
 refine l_nil ?_
 refine hK3 _ _ ?_
 refine wp_seq_k (fun K5 hK5 => ?_)
 refine wp_seq_k (fun K6 hK6 => ?_)
 refine wp_region_lit ?_
 refine l_q rfl rfl (q_moveI rfl) ?_
 refine l_q rfl rfl (q_lss rfl rfl) ?_
 refine l_nil ?_
 refine hK6 _ _ ?_
 refine c_condF rfl (decide_eq_false (by omega)) ?_
 refine wp_skip ?_
 refine hK5 _ _ ?_
 refine wp_seq_k (fun K8 hK8 => ?_)
 refine wp_region_lit ?_
 refine l_q rfl rfl (q_moveP rfl) ?_
 refine l_q rfl rfl (q_nilCheck rfl) ?_
 refine l_q rfl rfl (q_fieldAddr (ft := 49) (o := 0) rfl (by kernel_rfl)) ?_
 refine l_q rfl rfl (q_load1 rfl (by kernel_rfl) (hS4.cell (i := 1) rfl rfl)) ?_
 refine l_q rfl rfl (q_moveI rfl) ?_
 refine l_q rfl rfl (q_ixG (e := 54) (m := 6) (j := A.length) rfl rfl (by kernel_rfl) (by kernel_rfl) (by first | rfl | omega) (by omega) (hS4.owG (i := 2) rfl) (by rw [rows_len (c := wc) (m := 6) (fun _ => rfl)]; first | omega | (simp only [List.length_append, List.length_map, List.length_cons, List.length_nil, List.length_take, List.length_drop, List.length_set] <;> omega))) ?_
 refine l_q rfl rfl (q_fieldG (ft := 25) (o := 1) rfl (by kernel_rfl)) ?_
 refine l_q rfl rfl (q_loadGA (m := 5) rfl (by kernel_rfl) (by kernel_rfl) (hS4.owG (i := 2) rfl) (row_sub hqat (c := wc) (m := 6) (fun _ => rfl) rfl rfl) rfl (by decide)) ?_
 refine l_e rfl (fun K hK => ?_)
 refine e_alloc (zv := .agg #[.int .i64 0, .int .i64 0, .int .i64 0, .int .i64 0, .slice none 0 0]) hS4 (by kernel_rfl) (fun b9 w9 (hS9 : St _ _ [.blk b9 (.cells #[.int .i64 (0 : Int), .int .i64 (0 : Int), .int .i64 (0 : Int), .int .i64 (0 : Int), .slice none 0 0] 25), _, _, _, .fz g] _) => ?_)
 clear hS4
 refine hK _ _ ?_; clear hK K
 refine l_e rfl (fun K hK => ?_)
 refine e_storeA hS9 rfl rfl (by kernel_rfl) (by repeat' (first | exact trivial | refine ⟨by first | rfl | assumption | exact one_if (by assumption), ?_⟩)) (i := 0) rfl rfl (fun w10 (hS10 : St _ _ [.blk b9 (.cells #[.int .i64 q.l.k, .int .i64 q.l.f, .int .i64 q.l.t, .int .i64 q.l.x, .slice q.ad q.l.nd.length q.cap] 25), _, _, _, .fz g] _) => ?_)
 clear hS9
 refine hK _ _ ?_; clear hK K
 refine l_nil ?_
 refine hK8 _ _ ?_
 refine wp_seq_k (fun K11 hK11 => ?_)
 refine wp_region_lit ?_
 refine l_q rfl rfl (q_moveP rfl) ?_
 refine l_q rfl rfl (q_moveI rfl) ?_
 refine l_e rfl (fun K hK => ?_)
 have hS13 := hS10.fr3; clear hS10
 have hS14 := hS13.fr3; clear hS13
 refine e_call (by kernel_rfl) (rgone_ok r ad cap s t o (A ++ q :: B) (by rw [List.length_append, List.length_cons] at *; omega) A.length (by rw [List.length_append, List.length_cons]; omega) _ (St.begin (Γ := [_, _]) hS14)) rfl (after_M (Γ1 := [_, _]) hS14 (fun v12 G12 w12 hv12 hS12 => ?_))
 clear hS14
 obtain ⟨ra12, rc12, rfl⟩ := hv12
 have hS15 : St _ _ [.blk r (.cells #[.slice ra12 (((A ++ q :: B).take A.length ++ (A ++ q :: B).drop (A.length + 1)).length) rc12, .int .i64 (s : Int), .int .i64 (t : Int), .int .i64 (o : Int)] 51), .ow 54 6 ra12 (((A ++ q :: B).take A.length ++ (A ++ q :: B).drop (A.length + 1)).length) rc12 (List.flatMap wc ((A ++ q :: B).take A.length ++ (A ++ q :: B).drop (A.length + 1))), _, _, .fz g] _ := hS12; clear hS12
 have hS16 : St _ _ [.blk r (.cells #[.slice ra12 ((A ++ B).length) rc12, .int .i64 (s : Int), .int .i64 (t : Int), .int .i64 (o : Int)] 51), .ow 54 6 ra12 ((A ++ B).length) rc12 (List.flatMap wc (A ++ B)), _, _, .fz g] _ := hS15.cast (by rw [mid_take, mid_drop]); clear hS15
 refine hK _ _ ?_; clear hK K
 refine l_nil ?_
 refine hK11 _ _ ?_
 refine wp_seq_k (fun K17 hK17 => ?_)
 refine wp_region_lit ?_
 refine l_q rfl rfl (q_moveP rfl) ?_
 refine l_q rfl rfl (q_nilCheck rfl) ?_
 refine l_q rfl rfl (q_fieldAddr (ft := 3) (o := 2) rfl (by kernel_rfl)) ?_
 refine l_q rfl rfl (q_load1 rfl (by kernel_rfl) (hS16.cell (i := 0) rfl rfl)) ?_
 refine l_q rfl rfl (q_addx rfl rfl (by first | decide | omega) (by first | decide | omega)) ?_
 refine l_q rfl rfl (q_nilCheck rfl) ?_
 refine l_q rfl rfl (q_fieldAddr (ft := 3) (o := 2) rfl (by kernel_rfl)) ?_
 refine l_e rfl (fun K hK => ?_)
 refine e_store1 hS16 rfl rfl (by kernel_rfl) (by first | rfl | assumption) (i := 0) rfl rfl (fun w18 (hS18 : St _ _ [.blk r (.cells #[.slice ra12 ((A ++ B).length) rc12, .int .i64 (s : Int), .int .i64 ((t : Int) + (1 : Int)), .int .i64 (o : Int)] 51), _, _, _, .fz g] _) => ?_)
 clear hS16
 refine hK _ _ ?_; clear hK K
 refine l_nil ?_
 refine hK17 _ _ ?_
 refine wp_seq_k (fun K19 hK19 => ?_)
 refine wp_region_lit ?_
 refine l_q rfl rfl (q_loadA (m := 5) rfl (by kernel_rfl) (by kernel_rfl) (hS18.blk (i := 2) rfl) rfl rfl) ?_
 refine l_e rfl (fun K hK => ?_)
 refine e_storeA hS18 rfl rfl (by kernel_rfl) (by repeat' (first | exact trivial | refine ⟨by first | rfl | assumption | exact one_if (by assumption), ?_⟩)) (i := 3) rfl rfl (fun w20 (hS20 : St _ _ [_, _, _, .blk b2 (.cells #[.int .i64 q.l.k, .int .i64 q.l.f, .int .i64 q.l.t, .int .i64 q.l.x, .slice q.ad q.l.nd.length q.cap] 25), .fz g] _) => ?_)
 clear hS18
 refine hK _ _ ?_; clear hK K
 refine l_q rfl rfl (q_assignI rfl) ?_
 refine l_nil ?_
 refine hK19 _ _ ?_
 refine wp_ret ?_
 refine c_retCT (m := 5) rfl (by kernel_rfl) (by kernel_rfl) rfl (hS20.blk (i := 3) rfl) rfl rfl ?_
 have hS21 := hS20.fr4; clear hS20
 have hS22 := hS21.fr2; clear hS21
 have hS23 := hS22.fr2; clear hS22
 have hS24 : St _ _ [_, _, .fz g] _ := hS23.only 3; clear hS23
 exact ⟨_, _, rfl, ⟨ra12, rc12, rfl, rfl⟩, hS24⟩

set_option maxRecDepth 100000 in
theorem rtake_miss (r : Nat) (ad : Option Addr) (cap s t o : Nat) (W : List Wy) (g : Gh) (hwl : W.length ≤ 2000000) (n : Int) (hn : ∀ x ∈ W, x.n ≠ n)  (w : World) (hS : St w (owns [.blk r (.cells #[.slice ad W.length cap, .int .i64 (s : Int), .int .i64 (t : Int), .int .i64 (o : Int)] 51), .ow 54 6 ad W.length cap (List.flatMap wc W), .fz g]) [.blk r (.cells #[.slice ad W.length cap, .int .i64 (s : Int), .int .i64 (t : Int), .int .i64 (o : Int)] 51), .ow 54 6 ad W.length cap (List.flatMap wc W), .fz g] w) : Calls Try.prog 22 #[pV r, .int .i64 n] w (Post w [.blk r (.cells #[.slice ad W.length cap, .int .i64 (s : Int), .int .i64 (t : Int), .int .i64 (o : Int)] 51), .ow 54 6 ad W.length cap (List.flatMap wc W), .fz g] fun v G => v = .tuple #[.agg #[.int .i64 0, .int .i64 0, .int .i64 0, .int .i64 0, .slice none 0 0], .int .i64 121] ∧ G = [.blk r (rtO ad W.length cap s t o), .ow 54 6 ad W.length cap (List.flatMap wc W), .fz g]) := by
 refine c_enter Try.func22 rfl rfl rfl ?_
 refine wp_seq_k (fun K1 hK1 => ?_)
 refine wp_region_lit ?_
 refine l_e rfl (fun K hK => ?_)
 refine e_alloc (zv := .agg #[.int .i64 0, .int .i64 0, .int .i64 0, .int .i64 0, .slice none 0 0]) hS (by kernel_rfl) (fun b2 w2 (hS2 : St _ _ [.blk b2 (.cells #[.int .i64 (0 : Int), .int .i64 (0 : Int), .int .i64 (0 : Int), .int .i64 (0 : Int), .slice none 0 0] 25), .blk r (.cells #[.slice ad W.length cap, .int .i64 (s : Int), .int .i64 (t : Int), .int .i64 (o : Int)] 51), .ow 54 6 ad W.length cap (List.flatMap wc W), .fz g] _) => ?_)
 clear hS
 refine hK _ _ ?_; clear hK K
 refine l_q rfl rfl (q_assignI rfl) ?_
 refine l_nil ?_
 refine hK1 _ _ ?_
 refine wp_seq_k (fun K3 hK3 => ?_)
 refine wp_region_lit ?_
 refine l_q rfl rfl (q_moveP rfl) ?_
 refine l_q rfl rfl (q_moveI rfl) ?_
 refine l_e rfl (fun K hK => ?_)
 refine e_call (by kernel_rfl) (rfind_miss r ad cap s t o W (by omega) n hn _ (hS2.blk (i := 1) rfl) (hS2.owG (i := 2) rfl)) rfl (after_R hS2 (fun v4 w4 hv4 hS4 => ?_))
 clear hS2
 obtain rfl := hv4
 refine hK _ _ ?_; clear hK K
 refine l_q rfl rfl (q_assignI rfl) ?_
 refine l_nil ?_
 refine hK3 _ _ ?_
 refine wp_seq_k (fun K5 hK5 => ?_)
 refine wp_seq_k (fun K6 hK6 => ?_)
 refine wp_region_lit ?_
 refine l_q rfl rfl (q_moveI rfl) ?_
 refine l_q rfl rfl (q_lss rfl rfl) ?_
 refine l_nil ?_
 refine hK6 _ _ ?_
 refine c_condT rfl (decide_eq_true (by omega)) ?_
 refine wp_seq_k (fun K8 hK8 => ?_)
 refine wp_region_lit ?_
 refine l_q rfl rfl (q_build (ps := [(0, 1), (1, 1), (2, 1), (3, 1), (4, 1)]) (zv := .agg #[.int .i64 0, .int .i64 0, .int .i64 0, .int .i64 0, .slice none 0 0]) (by kernel_rfl) (by kernel_rfl) rfl (by repeat' (first | exact trivial | refine ⟨fun _ => by first | rfl | assumption | exact one_if (by assumption), ?_⟩ | refine ⟨fun ⟨_, h⟩ => by simp at h, ?_⟩)) rfl) ?_
 refine l_e rfl (fun K hK => ?_)
 refine e_storeA hS4 rfl rfl (by kernel_rfl) (by repeat' (first | exact trivial | refine ⟨by first | rfl | assumption | exact one_if (by assumption), ?_⟩)) (i := 0) rfl rfl (fun w9 (hS9 : St _ _ [_, _, _, .fz g] _) => ?_)
 clear hS4
 refine hK _ _ ?_; clear hK K
 refine l_q rfl rfl (q_assignI rfl) ?_
 refine l_nil ?_
 refine hK8 _ _ ?_
 refine wp_ret ?_
 refine c_retCT (m := 5) rfl (by kernel_rfl) (by kernel_rfl) rfl (hS9.blk (i := 0) rfl) rfl rfl ?_
 have hS10 := hS9.fr3; clear hS9
 have hS11 := hS10.fr3; clear hS10
 have hS12 := hS11.fr3; clear hS11
 have hS13 : St _ _ [_, _, .fz g] _ := hS12.only 3; clear hS12
 exact ⟨_, _, rfl, ⟨rfl, rfl⟩, hS13⟩

set_option maxRecDepth 100000 in
theorem rlose_hit (r : Nat) (ad : Option Addr) (cap s t o : Nat) (n : Int) (A : List Wy) (q : Wy) (B : List Wy) (hq : q.n = n) (hA : ∀ x ∈ A, x.n ≠ n) (g : Gh) (hW : WOk g (A ++ q :: B)) (hwl : (A ++ q :: B).length ≤ 2000000) (ho : o ≤ 1000000) (w : World) (hS : St w (owns [.blk r (.cells #[.slice ad (A ++ q :: B).length cap, .int .i64 (s : Int), .int .i64 (t : Int), .int .i64 (o : Int)] 51), .ow 54 6 ad ((A ++ q :: B).length) cap (List.flatMap wc (A ++ q :: B)), .fz g]) [.blk r (.cells #[.slice ad (A ++ q :: B).length cap, .int .i64 (s : Int), .int .i64 (t : Int), .int .i64 (o : Int)] 51), .ow 54 6 ad ((A ++ q :: B).length) cap (List.flatMap wc (A ++ q :: B)), .fz g] w) : Calls Try.prog 24 #[pV r, .int .i64 n] w (Post w [.blk r (.cells #[.slice ad (A ++ q :: B).length cap, .int .i64 (s : Int), .int .i64 (t : Int), .int .i64 (o : Int)] 51), .ow 54 6 ad ((A ++ q :: B).length) cap (List.flatMap wc (A ++ q :: B)), .fz g] fun v G => ∃ ad' cap', v = .int .i64 0 ∧ G = [.blk r (rtO ad' (A ++ B).length cap' s t (o + 1)), .ow 54 6 ad' (A ++ B).length cap' (List.flatMap wc (A ++ B)), .fz g]) := by
 have hqat : (A ++ q :: B)[A.length]? = some q := by rw [List.getElem?_append_right (Nat.le_refl _), Nat.sub_self]; rfl
 have hql16 := (hW q (List.mem_append_right _ (.head _))).2.1
 have hmlen : (A ++ q :: B).length = A.length + (B.length + 1) := by rw [List.length_append, List.length_cons]
 refine c_enter Try.func24 rfl rfl rfl ?_
 refine wp_seq_k (fun K1 hK1 => ?_)
 refine wp_region_lit ?_
 refine l_q rfl rfl (q_assignI rfl) ?_
 refine l_nil ?_
 refine hK1 _ _ ?_
 refine wp_seq_k (fun K2 hK2 => ?_)
 refine wp_region_lit ?_
 refine l_q rfl rfl (q_moveP rfl) ?_
 refine l_q rfl rfl (q_moveI rfl) ?_
 refine l_e rfl (fun K hK => ?_)
 refine e_call (by kernel_rfl) (rfind_hit r ad cap s t o (A ++ q :: B) (by omega) n A q B rfl hq hA _ (hS.blk (i := 0) rfl) (hS.owG (i := 1) rfl)) rfl (after_R hS (fun v3 w3 hv3 hS3 => ?_))
 clear hS
 obtain rfl := hv3
 refine hK _ _ ?_; clear hK K
 refine l_q rfl rfl (q_assignI rfl) ?_
 refine l_nil ?_
 refine hK2 _ _ ?_
 refine wp_seq_k (fun K4 hK4 => ?_)
 refine wp_seq_k (fun K5 hK5 => ?_)
 refine wp_region_lit ?_
 refine l_q rfl rfl (q_moveI rfl) ?_
 refine l_q rfl rfl (q_lss rfl rfl) ?_
 refine l_nil ?_
 refine hK5 _ _ ?_
 refine c_condF rfl (decide_eq_false (by omega)) ?_
 refine wp_skip ?_
 refine hK4 _ _ ?_
 refine wp_seq_k (fun K7 hK7 => ?_)
 refine wp_region_lit ?_
 refine l_q rfl rfl (q_moveP rfl) ?_
 refine l_q rfl rfl (q_moveI rfl) ?_
 refine l_e rfl (fun K hK => ?_)
 refine e_call (by kernel_rfl) (rgone_ok r ad cap s t o (A ++ q :: B) (by rw [List.length_append, List.length_cons] at *; omega) A.length (by rw [List.length_append, List.length_cons]; omega) _ (St.begin (Γ := [_, _]) hS3)) rfl (after_M (Γ1 := [_, _]) hS3 (fun v8 G8 w8 hv8 hS8 => ?_))
 clear hS3
 obtain ⟨ra8, rc8, rfl⟩ := hv8
 have hS9 : St _ _ [.blk r (.cells #[.slice ra8 (((A ++ q :: B).take A.length ++ (A ++ q :: B).drop (A.length + 1)).length) rc8, .int .i64 (s : Int), .int .i64 (t : Int), .int .i64 (o : Int)] 51), .ow 54 6 ra8 (((A ++ q :: B).take A.length ++ (A ++ q :: B).drop (A.length + 1)).length) rc8 (List.flatMap wc ((A ++ q :: B).take A.length ++ (A ++ q :: B).drop (A.length + 1))), .fz g] _ := hS8; clear hS8
 have hS10 : St _ _ [.blk r (.cells #[.slice ra8 ((A ++ B).length) rc8, .int .i64 (s : Int), .int .i64 (t : Int), .int .i64 (o : Int)] 51), .ow 54 6 ra8 ((A ++ B).length) rc8 (List.flatMap wc (A ++ B)), .fz g] _ := hS9.cast (by rw [mid_take, mid_drop]); clear hS9
 refine hK _ _ ?_; clear hK K
 refine l_nil ?_
 refine hK7 _ _ ?_
 refine wp_seq_k (fun K11 hK11 => ?_)
 refine wp_region_lit ?_
 refine l_q rfl rfl (q_moveP rfl) ?_
 refine l_q rfl rfl (q_nilCheck rfl) ?_
 refine l_q rfl rfl (q_fieldAddr (ft := 3) (o := 3) rfl (by kernel_rfl)) ?_
 refine l_q rfl rfl (q_load1 rfl (by kernel_rfl) (hS10.cell (i := 0) rfl rfl)) ?_
 refine l_q rfl rfl (q_addx rfl rfl (by first | decide | omega) (by first | decide | omega)) ?_
 refine l_q rfl rfl (q_nilCheck rfl) ?_
 refine l_q rfl rfl (q_fieldAddr (ft := 3) (o := 3) rfl (by kernel_rfl)) ?_
 refine l_e rfl (fun K hK => ?_)
 refine e_store1 hS10 rfl rfl (by kernel_rfl) (by first | rfl | assumption) (i := 0) rfl rfl (fun w12 (hS12 : St _ _ [.blk r (.cells #[.slice ra8 ((A ++ B).length) rc8, .int .i64 (s : Int), .int .i64 (t : Int), .int .i64 ((o : Int) + (1 : Int))] 51), _, .fz g] _) => ?_)
 clear hS10
 refine hK _ _ ?_; clear hK K
 refine l_nil ?_
 refine hK11 _ _ ?_
 refine wp_seq_k (fun K13 hK13 => ?_)
 refine wp_region_lit ?_
 refine l_q rfl rfl (q_assignI rfl) ?_
 refine l_nil ?_
 refine hK13 _ _ ?_
 refine wp_ret ?_
 refine c_ret1 rfl rfl ?_
 exact ⟨_, _, rfl, ⟨ra8, rc8, rfl, rfl⟩, hS12⟩

set_option maxRecDepth 100000 in
theorem rlose_miss (r : Nat) (ad : Option Addr) (cap s t o : Nat) (W : List Wy) (g : Gh) (hwl : W.length ≤ 2000000) (n : Int) (hn : ∀ x ∈ W, x.n ≠ n)  (w : World) (hS : St w (owns [.blk r (.cells #[.slice ad W.length cap, .int .i64 (s : Int), .int .i64 (t : Int), .int .i64 (o : Int)] 51), .ow 54 6 ad W.length cap (List.flatMap wc W), .fz g]) [.blk r (.cells #[.slice ad W.length cap, .int .i64 (s : Int), .int .i64 (t : Int), .int .i64 (o : Int)] 51), .ow 54 6 ad W.length cap (List.flatMap wc W), .fz g] w) : Calls Try.prog 24 #[pV r, .int .i64 n] w (Post w [.blk r (.cells #[.slice ad W.length cap, .int .i64 (s : Int), .int .i64 (t : Int), .int .i64 (o : Int)] 51), .ow 54 6 ad W.length cap (List.flatMap wc W), .fz g] fun v G => v = .int .i64 121 ∧ G = [.blk r (rtO ad W.length cap s t o), .ow 54 6 ad W.length cap (List.flatMap wc W), .fz g]) := by
 refine c_enter Try.func24 rfl rfl rfl ?_
 refine wp_seq_k (fun K1 hK1 => ?_)
 refine wp_region_lit ?_
 refine l_q rfl rfl (q_assignI rfl) ?_
 refine l_nil ?_
 refine hK1 _ _ ?_
 refine wp_seq_k (fun K2 hK2 => ?_)
 refine wp_region_lit ?_
 refine l_q rfl rfl (q_moveP rfl) ?_
 refine l_q rfl rfl (q_moveI rfl) ?_
 refine l_e rfl (fun K hK => ?_)
 refine e_call (by kernel_rfl) (rfind_miss r ad cap s t o W (by omega) n hn _ (hS.blk (i := 0) rfl) (hS.owG (i := 1) rfl)) rfl (after_R hS (fun v3 w3 hv3 hS3 => ?_))
 clear hS
 obtain rfl := hv3
 refine hK _ _ ?_; clear hK K
 refine l_q rfl rfl (q_assignI rfl) ?_
 refine l_nil ?_
 refine hK2 _ _ ?_
 refine wp_seq_k (fun K4 hK4 => ?_)
 refine wp_seq_k (fun K5 hK5 => ?_)
 refine wp_region_lit ?_
 refine l_q rfl rfl (q_moveI rfl) ?_
 refine l_q rfl rfl (q_lss rfl rfl) ?_
 refine l_nil ?_
 refine hK5 _ _ ?_
 refine c_condT rfl (decide_eq_true (by omega)) ?_
 refine wp_seq_k (fun K7 hK7 => ?_)
 refine wp_region_lit ?_
 refine l_q rfl rfl (q_assignI rfl) ?_
 refine l_nil ?_
 refine hK7 _ _ ?_
 refine wp_ret ?_
 refine c_ret1 rfl rfl ?_
 exact ⟨_, _, rfl, ⟨rfl, rfl⟩, hS3⟩

set_option maxHeartbeats 2000000 in
set_option maxRecDepth 100000 in
theorem rsend_in (r : Nat) (ad : Option Addr) (cap s t o : Nat) (W : List Wy) (g : Gh) (hW : WOk g W) (hwl : W.length ≤ 2000000) (hs1 : s ≤ 1000000) (l : Lr) (n : Nat) (hnl : l.nd.length = n) (hm : n ≤ 2000000) (an : Option Addr) (cn : Nat) (hG : SlG g an (iv l.nd))  (w : World) (hS : St w (owns [.blk r (.cells #[.slice ad W.length cap, .int .i64 (s : Int), .int .i64 (t : Int), .int .i64 (o : Int)] 51), .ow 54 6 ad W.length cap (List.flatMap wc W), .fz g]) [.blk r (.cells #[.slice ad W.length cap, .int .i64 (s : Int), .int .i64 (t : Int), .int .i64 (o : Int)] 51), .ow 54 6 ad W.length cap (List.flatMap wc W), .fz g] w) : Calls Try.prog 20 #[pV r, .agg #[.int .i64 l.k, .int .i64 l.f, .int .i64 l.t, .int .i64 l.x, .slice an n cn]] w (Post w [.blk r (.cells #[.slice ad W.length cap, .int .i64 (s : Int), .int .i64 (t : Int), .int .i64 (o : Int)] 51), .ow 54 6 ad W.length cap (List.flatMap wc W), .fz g] fun v G => RSendP r s t o W g l v G) := by
 subst hnl
 refine c_enter Try.func20 rfl rfl rfl ?_
 refine wp_seq_k (fun K1 hK1 => ?_)
 refine wp_region_lit ?_
 refine l_e rfl (fun K hK => ?_)
 refine e_boxA hS rfl (fun b2 w2 (hS2 : St _ _ [.blk b2 (.cells #[.int .i64 l.k, .int .i64 l.f, .int .i64 l.t, .int .i64 l.x, .slice an l.nd.length cn] 25), .blk r (.cells #[.slice ad W.length cap, .int .i64 (s : Int), .int .i64 (t : Int), .int .i64 (o : Int)] 51), .ow 54 6 ad W.length cap (List.flatMap wc W), .fz g] _) => ?_)
 clear hS
 refine hK _ _ ?_; clear hK K
 refine l_q rfl rfl (q_assignI rfl) ?_
 refine l_q rfl rfl (q_assignI rfl) ?_
 refine l_nil ?_
 refine hK1 _ _ ?_
 refine wp_seq_k (fun K3 hK3 => ?_)
 refine wp_region_lit ?_
 refine l_q rfl rfl (q_loadA (m := 5) rfl (by kernel_rfl) (by kernel_rfl) (hS2.blk (i := 0) rfl) rfl rfl) ?_
 refine l_e rfl (fun K hK => ?_)
 refine e_call (by kernel_rfl) (lrright_ok l l.nd.length (by first | omega | (simp only [List.length_append, List.length_map, List.length_cons, List.length_nil, List.length_take, List.length_drop, List.length_set] <;> omega)) (by first | omega | (simp only [List.length_append, List.length_map, List.length_cons, List.length_nil, List.length_take, List.length_drop, List.length_set] <;> omega)) _ _ _ (hG.mono (hS2.fz (i := 3) rfl))) rfl (after_R hS2 (fun v4 w4 hv4 hS4 => ?_))
 clear hS2
 obtain rfl := hv4
 refine hK _ _ ?_; clear hK K
 refine l_q rfl rfl (q_assignB rfl) ?_
 refine l_nil ?_
 refine hK3 _ _ ?_
 refine wp_seq_k (fun K5 hK5 => ?_)
 refine wp_seq_k (fun K6 hK6 => ?_)
 refine wp_region_lit ?_
 refine l_q rfl rfl (q_moveB rfl) ?_
 refine l_q rfl rfl (q_not rfl) ?_
 refine l_nil ?_
 refine hK6 _ _ ?_
 refine c_cond rfl (fun hc7 => ?_) (fun hc7 => ?_)
 ·
  have hc7b := hc7
  try simp only [decide_eq_true_eq, decide_eq_false_iff_not, Bool.not_eq_true', Bool.not_eq_false', Bool.and_eq_true, Bool.or_eq_true, Int.not_lt, Int.not_le, ne_eq, Decidable.not_not] at hc7
  refine wp_seq_k (fun K8 hK8 => ?_)
  refine wp_region_lit ?_
  refine l_q rfl rfl (q_assignI rfl) ?_
  refine l_q rfl rfl (q_assignI rfl) ?_
  refine l_nil ?_
  refine hK8 _ _ ?_
  refine wp_ret ?_
  refine c_ret2 rfl rfl rfl ?_
  have hS9 := hS4.fr3; clear hS4
  have hS10 := hS9.fr3; clear hS9
  have hS11 := hS10.fr3; clear hS10
  have hS12 : St _ _ [_, _, .fz g] _ := hS11.only 3; clear hS11
  exact ⟨_, _, rfl, RSendP.keep (snd_no (by assumption)) (Gle.refl _) hW, hS12⟩
 ·
  have hc7b := hc7
  try simp only [decide_eq_true_eq, decide_eq_false_iff_not, Bool.not_eq_true', Bool.not_eq_false', Bool.and_eq_true, Bool.or_eq_true, Int.not_lt, Int.not_le, ne_eq, Decidable.not_not] at hc7
  have hR : rightL l = true := hc7
  have hl16 := ris_len16 (rightL_ris hR)
  refine wp_skip ?_
  refine hK5 _ _ ?_
  refine wp_seq_k (fun K13 hK13 => ?_)
  refine wp_seq_k (fun K14 hK14 => ?_)
  refine wp_region_lit ?_
  refine l_q rfl rfl (q_moveP rfl) ?_
  refine l_q rfl rfl (q_nilCheck rfl) ?_
  refine l_q rfl rfl (q_fieldAddr (ft := 49) (o := 0) rfl (by kernel_rfl)) ?_
  refine l_q rfl rfl (q_load1 rfl (by kernel_rfl) (hS4.cell (i := 1) rfl rfl)) ?_
  refine l_q rfl rfl (q_lenSl (e := 54) rfl (by kernel_rfl)) ?_
  refine l_q rfl rfl (q_geq rfl rfl) ?_
  refine l_nil ?_
  refine hK14 _ _ ?_
  refine c_cond rfl (fun hc15 => ?_) (fun hc15 => ?_)
  ·
   have hc15b := hc15
   try simp only [decide_eq_true_eq, decide_eq_false_iff_not, Bool.not_eq_true', Bool.not_eq_false', Bool.and_eq_true, Bool.or_eq_true, Int.not_lt, Int.not_le, ne_eq, Decidable.not_not] at hc15
   refine wp_seq_k (fun K16 hK16 => ?_)
   refine wp_region_lit ?_
   refine l_q rfl rfl (q_assignI rfl) ?_
   refine l_q rfl rfl (q_assignI rfl) ?_
   refine l_nil ?_
   refine hK16 _ _ ?_
   refine wp_ret ?_
   refine c_ret2 rfl rfl rfl ?_
   have hS17 := hS4.fr3; clear hS4
   have hS18 := hS17.fr3; clear hS17
   have hS19 := hS18.fr3; clear hS18
   have hS20 : St _ _ [_, _, .fz g] _ := hS19.only 3; clear hS19
   exact ⟨_, _, rfl, RSendP.keep (snd_full hR (by rw [absW_len]; omega)) (Gle.refl _) hW, hS20⟩
  ·
   have hc15b := hc15
   try simp only [decide_eq_true_eq, decide_eq_false_iff_not, Bool.not_eq_true', Bool.not_eq_false', Bool.and_eq_true, Bool.or_eq_true, Int.not_lt, Int.not_le, ne_eq, Decidable.not_not] at hc15
   have hf : W.length < 1024 := by omega
   refine wp_skip ?_
   refine hK13 _ _ ?_
   refine wp_seq_k (fun K21 hK21 => ?_)
   refine wp_region_lit ?_
   refine l_q rfl rfl (q_loadA (m := 5) rfl (by kernel_rfl) (by kernel_rfl) (hS4.blk (i := 0) rfl) rfl rfl) ?_
   refine l_e rfl (fun K hK => ?_)
   refine e_alloc (zv := .agg #[.int .i64 0, .int .i64 0, .int .i64 0, .int .i64 0, .slice none 0 0]) hS4 (by kernel_rfl) (fun b22 w22 (hS22 : St _ _ [.blk b22 (.cells #[.int .i64 (0 : Int), .int .i64 (0 : Int), .int .i64 (0 : Int), .int .i64 (0 : Int), .slice none 0 0] 25), _, _, _, .fz g] _) => ?_)
   clear hS4
   refine hK _ _ ?_; clear hK K
   refine l_e rfl (fun K hK => ?_)
   refine e_storeA hS22 rfl rfl (by kernel_rfl) (by repeat' (first | exact trivial | refine ⟨by first | rfl | assumption | exact one_if (by assumption), ?_⟩)) (i := 0) rfl rfl (fun w23 (hS23 : St _ _ [.blk b22 (.cells #[.int .i64 l.k, .int .i64 l.f, .int .i64 l.t, .int .i64 l.x, .slice an l.nd.length cn] 25), _, _, _, .fz g] _) => ?_)
   clear hS22
   refine hK _ _ ?_; clear hK K
   refine l_nil ?_
   refine hK21 _ _ ?_
   refine wp_seq_k (fun K24 hK24 => ?_)
   refine wp_region_lit ?_
   refine l_e rfl (fun K hK => ?_)
   refine e_buildSlice1 (e := 3) (zv := .int .i64 0) (xs := []) hS23 (by kernel_rfl) (by kernel_rfl) (by kernel_rfl) rfl rfl rfl rfl ((by intro u hu; cases hu)) rfl (fun b25 w25 (hS25 : St _ _ [.blk b25 (.cells #[] 3), _, _, _, _, .fz g] _) => ?_)
   clear hS23
   have hS25o : St _ _ [.ow 3 1 (some ⟨b25, 0, none⟩) 0 0 (iv []), _, _, _, _, .fz g] _ := hS25.blkOw' (i := 0) (m := 0) (size := 1) (xs := iv []) rfl rfl rfl (by decide); clear hS25
   refine hK _ _ ?_; clear hK K
   refine l_q rfl rfl (q_fieldAddr (ft := 23) (o := 4) rfl (by kernel_rfl)) ?_
   refine l_q rfl rfl (q_load1 rfl (by kernel_rfl) (hS25o.cell (i := 2) rfl rfl)) ?_
   refine l_e rfl (fun K hK => ?_)
   refine e_app (e := 3) (size := 1) (bytes := 8) (i := 0) (m' := l.nd.length) (by kernel_rfl) hS25o rfl rfl rfl (SlG.src (e := 3) (by kernel_rfl) (hG.mono (hS25o.fz (i := 5) rfl)) (by first | (simp only [List.length_append, List.length_map, List.length_cons, List.length_nil, List.length_take, List.length_drop, List.length_set, Nat.mul_one]; done) | (simp only [List.length_append, List.length_map, List.length_cons, List.length_nil, List.length_take, List.length_drop, List.length_set]; omega) | rfl | (simp; done)) (by decide) (iv_one _)) (by first | omega | (simp only [List.length_append, List.length_map, List.length_cons, List.length_nil, List.length_take, List.length_drop, List.length_set] <;> omega) | (simp; done)) rfl (by first | omega | (simp only [maxLen, List.length_append, List.length_map, List.length_cons, List.length_nil, List.length_take, List.length_drop, List.length_set] <;> omega) | (simp only [maxLen]; omega)) (by first | omega | (simp only [List.length_append, List.length_map, List.length_cons, List.length_nil, List.length_take, List.length_drop, List.length_set] <;> omega)) (fun ad26 cp26 w26 (hS26 : St _ _ [.ow 3 1 ad26 l.nd.length cp26 (iv l.nd), _, _, _, _, .fz g] _) => ?_)
   clear hS25o
   refine hK _ _ ?_; clear hK K
   refine l_q rfl rfl (q_fieldAddr (ft := 23) (o := 4) rfl (by kernel_rfl)) ?_
   refine l_e rfl (fun K hK => ?_)
   refine e_store1 hS26 rfl rfl (by kernel_rfl) (by first | rfl | assumption) (i := 1) rfl rfl (fun w27 (hS27 : St _ _ [_, .blk b22 (.cells #[.int .i64 l.k, .int .i64 l.f, .int .i64 l.t, .int .i64 l.x, .slice ad26 l.nd.length cp26] 25), _, _, _, .fz g] _) => ?_)
   clear hS26
   refine hK _ _ ?_; clear hK K
   refine l_nil ?_
   have hS28 := hS27.fr5; clear hS27
   have hS29 := hS28.fr1; clear hS28
   obtain ⟨g30, hle30, hfz30, hS30⟩ := hS29.freezeOw; clear hS29
   refine hK24 _ _ ?_
   refine wp_seq_k (fun K31 hK31 => ?_)
   refine r_any (by kernel_rfl) hS30 (fun w32 hS32 => ?_)
   clear hS30
   refine o_pure (i := 0) (fun _ _ => trivial) rfl rfl (by kernel_rfl) (goes0 rfl) (QOk.then QOk.body) (fun w => q_moveP rfl) ?_
   refine o_pure (i := 2) (fun _ _ => trivial) rfl rfl (by kernel_rfl) (goes0 rfl) (QOk.then QOk.body) (fun w => q_moveP rfl) ?_
   refine o_pure (i := 3) (fun _ _ => trivial) rfl rfl (by kernel_rfl) (goes0 rfl) (QOk.then QOk.body) (fun w => q_nilCheck rfl) ?_
   refine o_pure (i := 4) (fun _ _ => trivial) rfl rfl (by kernel_rfl) (goes0 rfl) (QOk.then QOk.body) (fun w => q_fieldAddr (ft := 49) (o := 0) rfl (by kernel_rfl)) ?_
   refine o_held (i := 5) [6, 14, 15, 16, 17] (fun _ _ => trivial) rfl rfl (by kernel_rfl) (goes0 rfl) (QOk.then QOk.body) (q_load1 rfl (by kernel_rfl) (hS32.cell (i := 3) rfl rfl)) ?_
   refine o_pure (i := 7) (fun j w => ⟨(fun _ _ => trivial) j w, fun _ h => h⟩) rfl rfl (by kernel_rfl) (goes0 rfl) (QOk.then QOk.body) (fun w => q_moveP rfl) ?_
   refine o_pure (i := 8) (fun j w => ⟨(fun _ _ => trivial) j w, fun _ h => h⟩) rfl rfl (by kernel_rfl) (goes0 rfl) (QOk.then QOk.body) (fun w => q_nilCheck rfl) ?_
   refine o_pure (i := 9) (fun j w => ⟨(fun _ _ => trivial) j w, fun _ h => h⟩) rfl rfl (by kernel_rfl) (goes0 rfl) (QOk.then QOk.body) (fun w => q_fieldAddr (ft := 3) (o := 1) rfl (by kernel_rfl)) ?_
   refine o_held (i := 10) [12, 13, 14, 15, 16, 17] (fun j w => ⟨(fun _ _ => trivial) j w, fun _ h => h⟩) rfl rfl (by kernel_rfl) (goes0 rfl) (QOk.then QOk.body) (q_load1 rfl (by kernel_rfl) (hS32.cell (i := 3) rfl rfl)) ?_
   refine o_held (i := 11) [12, 13, 14, 15, 16, 17] (fun j w => ⟨(fun j w => ⟨(fun _ _ => trivial) j w, fun _ h => h⟩) j w, fun _ h => h⟩) rfl rfl (by kernel_rfl) (goes0 rfl) (QOk.then QOk.body) (q_loadA (m := 5) rfl (by kernel_rfl) (by kernel_rfl) (hS32.blk (i := 1) rfl) rfl rfl) ?_
   refine o_pure (i := 12) (fun j w => ⟨(fun j w => ⟨(fun j w => ⟨(fun _ _ => trivial) j w, fun _ h => h⟩) j w, fun _ h => h⟩) j w, fun _ h => h⟩) rfl rfl (by kernel_rfl) (goes0 rfl) (QOk.then QOk.body) (fun w => q_build (ps := [(0, 1), (1, 5)]) (zv := .agg #[.int .i64 0, .int .i64 0, .int .i64 0, .int .i64 0, .int .i64 0, .slice none 0 0]) (by kernel_rfl) (by kernel_rfl) rfl (by repeat' (first | exact trivial | refine ⟨fun _ => by first | rfl | assumption | exact one_if (by assumption), ?_⟩ | refine ⟨fun ⟨_, h⟩ => by simp at h, ?_⟩)) rfl) ?_
   refine o_eff2 (i := 1) (j := 13) (by kernel_rfl) rfl rfl (goes0 rfl) (goes0 rfl) (fun K hK => ?_) (fun K hK => ?_)
   ·
    refine e_buildSlice0 (e := 54) (m := 6) hS32 (by kernel_rfl) (by kernel_rfl) (fun b33 w33 (hS33 : St _ _ [.blk b33 (.cells #[] 54), .fz g30, _, _, _, _] _) => ?_)
    clear hS32
    have hS33o : St _ _ [.ow 54 6 (some ⟨b33, 0, none⟩) 0 0 (List.flatMap wc []), .fz g30, _, _, _, _] _ := hS33.blkOw' (i := 0) (m := 0) (size := 6) (xs := List.flatMap wc []) rfl rfl rfl (by decide); clear hS33
    refine hK _ _ ⟨⟨⟨trivial, fun _ _ => by first | exact q_load1 rfl (by kernel_rfl) (hS33o.cell (i := 4) rfl rfl)⟩, fun _ _ => by first | exact q_load1 rfl (by kernel_rfl) (hS33o.cell (i := 4) rfl rfl)⟩, fun _ _ => by first | exact q_loadA (m := 5) rfl (by kernel_rfl) (by kernel_rfl) (hS33o.blk (i := 2) rfl) rfl rfl⟩ ?_; clear hK K
    refine o_eff2 (i := 6) (j := 13) (by kernel_rfl) rfl rfl (goes0 rfl) (goes0 rfl) (fun K hK => ?_) (fun K hK => ?_)
    ·
     refine e_app (e := 54) (size := 6) (bytes := 64) (i := 0) (m' := W.length) (by kernel_rfl) hS33o rfl rfl rfl (SlG.src (e := 54) (by kernel_rfl) (hS33o.owG (i := 5) rfl) ((rows_len (c := wc) (m := 6) (fun _ => rfl) _).trans (by first | rfl | (simp only [List.length_append, List.length_map, List.length_cons, List.length_nil, List.length_take, List.length_drop, List.length_set]; done) | (simp only [List.length_append, List.length_map, List.length_cons, List.length_nil, List.length_take, List.length_drop, List.length_set]; omega) | omega)) (by decide) (rows_one wc_ones)) (by first | omega | (simp only [List.length_append, List.length_map, List.length_cons, List.length_nil, List.length_take, List.length_drop, List.length_set] <;> omega) | (simp; done)) rfl (by first | omega | (simp only [maxLen, List.length_append, List.length_map, List.length_cons, List.length_nil, List.length_take, List.length_drop, List.length_set] <;> omega) | (simp only [maxLen]; omega)) (by first | omega | (simp only [List.length_append, List.length_map, List.length_cons, List.length_nil, List.length_take, List.length_drop, List.length_set] <;> omega)) (fun ad34 cp34 w34 (hS34 : St _ _ [.ow 54 6 ad34 W.length cp34 (List.flatMap wc W), .fz g30, _, _, _, _] _) => ?_)
     clear hS33o
     refine hK _ _ ⟨⟨⟨trivial, fun h => absurd h (by decide)⟩, fun _ _ => by first | exact q_load1 rfl (by kernel_rfl) (hS34.cell (i := 4) rfl rfl)⟩, fun _ _ => by first | exact q_loadA (m := 5) rfl (by kernel_rfl) (by kernel_rfl) (hS34.blk (i := 2) rfl) rfl rfl⟩ ?_; clear hK K
     refine o_eff (i := 13) (by kernel_rfl) rfl (goes0 rfl) (fun K hK => ?_)
     refine e_buildSliceA (e := 54) (m := 6) (zv := .agg #[.int .i64 0, .int .i64 0, .int .i64 0, .int .i64 0, .int .i64 0, .slice none 0 0]) hS34 (by kernel_rfl) (by kernel_rfl) (by kernel_rfl) rfl rfl rfl rfl (fun b35 w35 (hS35 : St _ _ [.blk b35 (.cells #[.int .i64 (s : Int), .int .i64 l.k, .int .i64 l.f, .int .i64 l.t, .int .i64 l.x, .slice ad26 l.nd.length cp26] 54), _, .fz g30, _, _, _, _] _) => ?_)
     clear hS34
     have hS35o : St _ _ [.ow 54 6 (some ⟨b35, 0, none⟩) 1 1 (List.flatMap wc [Wy.mk (s : Int) ad26 cp26 l]), _, .fz g30, _, _, _, _] _ := hS35.blkOw' (i := 0) (m := 1) (size := 6) (xs := List.flatMap wc [Wy.mk (s : Int) ad26 cp26 l]) rfl rfl rfl (by decide); clear hS35
     refine hK _ _ ⟨⟨⟨trivial, fun _ _ => by first | exact q_load1 rfl (by kernel_rfl) (hS35o.cell (i := 5) rfl rfl)⟩, fun h => absurd h (by decide)⟩, fun h => absurd h (by decide)⟩ ?_; clear hK K
     refine o_eff (i := 14) (by kernel_rfl) rfl (goes0 rfl) (fun K hK => ?_)
     refine e_app (e := 54) (size := 6) (bytes := 64) (i := 1) (m' := (W ++ [Wy.mk (s : Int) ad26 cp26 l]).length) (by kernel_rfl) hS35o rfl rfl rfl (SlG.src (e := 54) (by kernel_rfl) (hS35o.owG (i := 0) rfl) ((rows_len (c := wc) (m := 6) (fun _ => rfl) _).trans (by first | rfl | (simp only [List.length_append, List.length_map, List.length_cons, List.length_nil, List.length_take, List.length_drop, List.length_set]; done) | (simp only [List.length_append, List.length_map, List.length_cons, List.length_nil, List.length_take, List.length_drop, List.length_set]; omega) | omega)) (by decide) (rows_one wc_ones)) (by first | omega | (simp only [List.length_append, List.length_map, List.length_cons, List.length_nil, List.length_take, List.length_drop, List.length_set] <;> omega) | (simp; done)) rows_app (by first | omega | (simp only [maxLen, List.length_append, List.length_map, List.length_cons, List.length_nil, List.length_take, List.length_drop, List.length_set] <;> omega) | (simp only [maxLen]; omega)) (by first | omega | (simp only [List.length_append, List.length_map, List.length_cons, List.length_nil, List.length_take, List.length_drop, List.length_set] <;> omega)) (fun ad36 cp36 w36 (hS36 : St _ _ [_, .ow 54 6 ad36 ((W ++ [Wy.mk (s : Int) ad26 cp26 l]).length) cp36 (List.flatMap wc (W ++ [Wy.mk (s : Int) ad26 cp26 l])), .fz g30, _, _, _, _] _) => ?_)
     clear hS35o
     refine hK _ _ ⟨⟨⟨trivial, fun h => absurd h (by decide)⟩, fun h => absurd h (by decide)⟩, fun h => absurd h (by decide)⟩ ?_; clear hK K
     refine o_pure (i := 15) (fun j w => ⟨(fun j w => ⟨(fun j w => ⟨(fun _ _ => trivial) j w, fun _ h => h⟩) j w, fun _ h => h⟩) j w, fun _ h => h⟩) rfl rfl (by kernel_rfl) (goes0 rfl) (QOk.then QOk.body) (fun w => q_nilCheck rfl) ?_
     refine o_pure (i := 16) (fun j w => ⟨(fun j w => ⟨(fun j w => ⟨(fun _ _ => trivial) j w, fun _ h => h⟩) j w, fun _ h => h⟩) j w, fun _ h => h⟩) rfl rfl (by kernel_rfl) (goes0 rfl) (QOk.then QOk.body) (fun w => q_fieldAddr (ft := 49) (o := 0) rfl (by kernel_rfl)) ?_
     refine o_eff (i := 17) (by kernel_rfl) rfl (goes0 rfl) (fun K hK => ?_)
     refine e_store1 hS36 rfl rfl (by kernel_rfl) (by first | rfl | assumption) (i := 5) rfl rfl (fun w37 (hS37 : St _ _ [_, _, .fz g30, _, _, .blk r (.cells #[.slice ad36 ((W ++ [Wy.mk (s : Int) ad26 cp26 l]).length) cp36, .int .i64 (s : Int), .int .i64 (t : Int), .int .i64 (o : Int)] 51), _] _) => ?_)
     clear hS36
     refine hK _ _ ⟨⟨⟨trivial, fun h => absurd h (by decide)⟩, fun h => absurd h (by decide)⟩, fun h => absurd h (by decide)⟩ ?_; clear hK K
     refine o_done (by kernel_rfl) ?_
     refine hK31 _ _ ?_
     refine wp_seq_k (fun K38 hK38 => ?_)
     refine wp_region_lit ?_
     refine l_q rfl rfl (q_moveP rfl) ?_
     refine l_q rfl rfl (q_nilCheck rfl) ?_
     refine l_q rfl rfl (q_fieldAddr (ft := 3) (o := 1) rfl (by kernel_rfl)) ?_
     refine l_q rfl rfl (q_load1 rfl (by kernel_rfl) (hS37.cell (i := 5) rfl rfl)) ?_
     refine l_q rfl rfl (q_addx rfl rfl (by first | decide | omega) (by first | decide | omega)) ?_
     refine l_q rfl rfl (q_nilCheck rfl) ?_
     refine l_q rfl rfl (q_fieldAddr (ft := 3) (o := 1) rfl (by kernel_rfl)) ?_
     refine l_e rfl (fun K hK => ?_)
     refine e_store1 hS37 rfl rfl (by kernel_rfl) (by first | rfl | assumption) (i := 5) rfl rfl (fun w39 (hS39 : St _ _ [_, _, .fz g30, _, _, .blk r (.cells #[.slice ad36 ((W ++ [Wy.mk (s : Int) ad26 cp26 l]).length) cp36, .int .i64 ((s : Int) + (1 : Int)), .int .i64 (t : Int), .int .i64 (o : Int)] 51), _] _) => ?_)
     clear hS37
     refine hK _ _ ?_; clear hK K
     refine l_nil ?_
     refine hK38 _ _ ?_
     refine wp_seq_k (fun K40 hK40 => ?_)
     refine wp_region_lit ?_
     refine l_q rfl rfl (q_moveP rfl) ?_
     refine l_q rfl rfl (q_nilCheck rfl) ?_
     refine l_q rfl rfl (q_fieldAddr (ft := 3) (o := 1) rfl (by kernel_rfl)) ?_
     refine l_q rfl rfl (q_load1 rfl (by kernel_rfl) (hS39.cell (i := 5) rfl rfl)) ?_
     refine l_q rfl rfl (q_subx rfl rfl (by first | decide | omega) (by first | decide | omega)) ?_
     refine l_q rfl rfl (q_assignI rfl) ?_
     refine l_q rfl rfl (q_assignI rfl) ?_
     refine l_nil ?_
     refine hK40 _ _ ?_
     refine wp_ret ?_
     refine c_ret2 rfl rfl rfl ?_
     have hS41 := hS39.fr2; clear hS39
     have hS42 := hS41.fr2; clear hS41
     have hS43 := hS42.fr5; clear hS42
     have hS44 : St _ _ [_, _, .fz g30] _ := hS43.only 3; clear hS43
     exact ⟨_, _, rfl, RSendP.more (by omega) hR hf hle30 hW hfz30, hS44⟩
    ·
     refine e_buildSliceA (e := 54) (m := 6) (zv := .agg #[.int .i64 0, .int .i64 0, .int .i64 0, .int .i64 0, .int .i64 0, .slice none 0 0]) hS33o (by kernel_rfl) (by kernel_rfl) (by kernel_rfl) rfl rfl rfl rfl (fun b45 w45 (hS45 : St _ _ [.blk b45 (.cells #[.int .i64 (s : Int), .int .i64 l.k, .int .i64 l.f, .int .i64 l.t, .int .i64 l.x, .slice ad26 l.nd.length cp26] 54), _, .fz g30, _, _, _, _] _) => ?_)
     clear hS33o
     have hS45o : St _ _ [.ow 54 6 (some ⟨b45, 0, none⟩) 1 1 (List.flatMap wc [Wy.mk (s : Int) ad26 cp26 l]), _, .fz g30, _, _, _, _] _ := hS45.blkOw' (i := 0) (m := 1) (size := 6) (xs := List.flatMap wc [Wy.mk (s : Int) ad26 cp26 l]) rfl rfl rfl (by decide); clear hS45
     refine hK _ _ ⟨⟨⟨trivial, fun _ _ => by first | exact q_load1 rfl (by kernel_rfl) (hS45o.cell (i := 5) rfl rfl)⟩, fun h => absurd h (by decide)⟩, fun h => absurd h (by decide)⟩ ?_; clear hK K
     refine o_eff (i := 6) (by kernel_rfl) rfl (goes0 rfl) (fun K hK => ?_)
     refine e_app (e := 54) (size := 6) (bytes := 64) (i := 1) (m' := W.length) (by kernel_rfl) hS45o rfl rfl rfl (SlG.src (e := 54) (by kernel_rfl) (hS45o.owG (i := 6) rfl) ((rows_len (c := wc) (m := 6) (fun _ => rfl) _).trans (by first | rfl | (simp only [List.length_append, List.length_map, List.length_cons, List.length_nil, List.length_take, List.length_drop, List.length_set]; done) | (simp only [List.length_append, List.length_map, List.length_cons, List.length_nil, List.length_take, List.length_drop, List.length_set]; omega) | omega)) (by decide) (rows_one wc_ones)) (by first | omega | (simp only [List.length_append, List.length_map, List.length_cons, List.length_nil, List.length_take, List.length_drop, List.length_set] <;> omega) | (simp; done)) rfl (by first | omega | (simp only [maxLen, List.length_append, List.length_map, List.length_cons, List.length_nil, List.length_take, List.length_drop, List.length_set] <;> omega) | (simp only [maxLen]; omega)) (by first | omega | (simp only [List.length_append, List.length_map, List.length_cons, List.length_nil, List.length_take, List.length_drop, List.length_set] <;> omega)) (fun ad46 cp46 w46 (hS46 : St _ _ [_, .ow 54 6 ad46 W.length cp46 (List.flatMap wc W), .fz g30, _, _, _, _] _) => ?_)
     clear hS45o
     refine hK _ _ ⟨⟨⟨trivial, fun h => absurd h (by decide)⟩, fun _ _ => by first | exact q_load1 rfl (by kernel_rfl) (hS46.cell (i := 5) rfl rfl)⟩, fun _ _ => by first | exact q_loadA (m := 5) rfl (by kernel_rfl) (by kernel_rfl) (hS46.blk (i := 3) rfl) rfl rfl⟩ ?_; clear hK K
     refine o_eff (i := 14) (by kernel_rfl) rfl (goes0 rfl) (fun K hK => ?_)
     refine e_app (e := 54) (size := 6) (bytes := 64) (i := 1) (m' := (W ++ [Wy.mk (s : Int) ad26 cp26 l]).length) (by kernel_rfl) hS46 rfl rfl rfl (SlG.src (e := 54) (by kernel_rfl) (hS46.owG (i := 0) rfl) ((rows_len (c := wc) (m := 6) (fun _ => rfl) _).trans (by first | rfl | (simp only [List.length_append, List.length_map, List.length_cons, List.length_nil, List.length_take, List.length_drop, List.length_set]; done) | (simp only [List.length_append, List.length_map, List.length_cons, List.length_nil, List.length_take, List.length_drop, List.length_set]; omega) | omega)) (by decide) (rows_one wc_ones)) (by first | omega | (simp only [List.length_append, List.length_map, List.length_cons, List.length_nil, List.length_take, List.length_drop, List.length_set] <;> omega) | (simp; done)) rows_app (by first | omega | (simp only [maxLen, List.length_append, List.length_map, List.length_cons, List.length_nil, List.length_take, List.length_drop, List.length_set] <;> omega) | (simp only [maxLen]; omega)) (by first | omega | (simp only [List.length_append, List.length_map, List.length_cons, List.length_nil, List.length_take, List.length_drop, List.length_set] <;> omega)) (fun ad47 cp47 w47 (hS47 : St _ _ [_, .ow 54 6 ad47 ((W ++ [Wy.mk (s : Int) ad26 cp26 l]).length) cp47 (List.flatMap wc (W ++ [Wy.mk (s : Int) ad26 cp26 l])), .fz g30, _, _, _, _] _) => ?_)
     clear hS46
     refine hK _ _ ⟨⟨⟨trivial, fun h => absurd h (by decide)⟩, fun h => absurd h (by decide)⟩, fun h => absurd h (by decide)⟩ ?_; clear hK K
     refine o_pure (i := 15) (fun j w => ⟨(fun j w => ⟨(fun j w => ⟨(fun _ _ => trivial) j w, fun _ h => h⟩) j w, fun _ h => h⟩) j w, fun _ h => h⟩) rfl rfl (by kernel_rfl) (goes0 rfl) (QOk.then QOk.body) (fun w => q_nilCheck rfl) ?_
     refine o_pure (i := 16) (fun j w => ⟨(fun j w => ⟨(fun j w => ⟨(fun _ _ => trivial) j w, fun _ h => h⟩) j w, fun _ h => h⟩) j w, fun _ h => h⟩) rfl rfl (by kernel_rfl) (goes0 rfl) (QOk.then QOk.body) (fun w => q_fieldAddr (ft := 49) (o := 0) rfl (by kernel_rfl)) ?_
     refine o_eff (i := 17) (by kernel_rfl) rfl (goes0 rfl) (fun K hK => ?_)
     refine e_store1 hS47 rfl rfl (by kernel_rfl) (by first | rfl | assumption) (i := 5) rfl rfl (fun w48 (hS48 : St _ _ [_, _, .fz g30, _, _, .blk r (.cells #[.slice ad47 ((W ++ [Wy.mk (s : Int) ad26 cp26 l]).length) cp47, .int .i64 (s : Int), .int .i64 (t : Int), .int .i64 (o : Int)] 51), _] _) => ?_)
     clear hS47
     refine hK _ _ ⟨⟨⟨trivial, fun h => absurd h (by decide)⟩, fun h => absurd h (by decide)⟩, fun h => absurd h (by decide)⟩ ?_; clear hK K
     refine o_done (by kernel_rfl) ?_
     refine hK31 _ _ ?_
     refine wp_seq_k (fun K49 hK49 => ?_)
     refine wp_region_lit ?_
     refine l_q rfl rfl (q_moveP rfl) ?_
     refine l_q rfl rfl (q_nilCheck rfl) ?_
     refine l_q rfl rfl (q_fieldAddr (ft := 3) (o := 1) rfl (by kernel_rfl)) ?_
     refine l_q rfl rfl (q_load1 rfl (by kernel_rfl) (hS48.cell (i := 5) rfl rfl)) ?_
     refine l_q rfl rfl (q_addx rfl rfl (by first | decide | omega) (by first | decide | omega)) ?_
     refine l_q rfl rfl (q_nilCheck rfl) ?_
     refine l_q rfl rfl (q_fieldAddr (ft := 3) (o := 1) rfl (by kernel_rfl)) ?_
     refine l_e rfl (fun K hK => ?_)
     refine e_store1 hS48 rfl rfl (by kernel_rfl) (by first | rfl | assumption) (i := 5) rfl rfl (fun w50 (hS50 : St _ _ [_, _, .fz g30, _, _, .blk r (.cells #[.slice ad47 ((W ++ [Wy.mk (s : Int) ad26 cp26 l]).length) cp47, .int .i64 ((s : Int) + (1 : Int)), .int .i64 (t : Int), .int .i64 (o : Int)] 51), _] _) => ?_)
     clear hS48
     refine hK _ _ ?_; clear hK K
     refine l_nil ?_
     refine hK49 _ _ ?_
     refine wp_seq_k (fun K51 hK51 => ?_)
     refine wp_region_lit ?_
     refine l_q rfl rfl (q_moveP rfl) ?_
     refine l_q rfl rfl (q_nilCheck rfl) ?_
     refine l_q rfl rfl (q_fieldAddr (ft := 3) (o := 1) rfl (by kernel_rfl)) ?_
     refine l_q rfl rfl (q_load1 rfl (by kernel_rfl) (hS50.cell (i := 5) rfl rfl)) ?_
     refine l_q rfl rfl (q_subx rfl rfl (by first | decide | omega) (by first | decide | omega)) ?_
     refine l_q rfl rfl (q_assignI rfl) ?_
     refine l_q rfl rfl (q_assignI rfl) ?_
     refine l_nil ?_
     refine hK51 _ _ ?_
     refine wp_ret ?_
     refine c_ret2 rfl rfl rfl ?_
     have hS52 := hS50.fr2; clear hS50
     have hS53 := hS52.fr2; clear hS52
     have hS54 := hS53.fr5; clear hS53
     have hS55 : St _ _ [_, _, .fz g30] _ := hS54.only 3; clear hS54
     exact ⟨_, _, rfl, RSendP.more (by omega) hR hf hle30 hW hfz30, hS55⟩
   ·
    refine e_buildSliceA (e := 54) (m := 6) (zv := .agg #[.int .i64 0, .int .i64 0, .int .i64 0, .int .i64 0, .int .i64 0, .slice none 0 0]) hS32 (by kernel_rfl) (by kernel_rfl) (by kernel_rfl) rfl rfl rfl rfl (fun b56 w56 (hS56 : St _ _ [.blk b56 (.cells #[.int .i64 (s : Int), .int .i64 l.k, .int .i64 l.f, .int .i64 l.t, .int .i64 l.x, .slice ad26 l.nd.length cp26] 54), .fz g30, _, _, _, _] _) => ?_)
    clear hS32
    have hS56o : St _ _ [.ow 54 6 (some ⟨b56, 0, none⟩) 1 1 (List.flatMap wc [Wy.mk (s : Int) ad26 cp26 l]), .fz g30, _, _, _, _] _ := hS56.blkOw' (i := 0) (m := 1) (size := 6) (xs := List.flatMap wc [Wy.mk (s : Int) ad26 cp26 l]) rfl rfl rfl (by decide); clear hS56
    refine hK _ _ ⟨⟨⟨trivial, fun _ _ => by first | exact q_load1 rfl (by kernel_rfl) (hS56o.cell (i := 4) rfl rfl)⟩, fun h => absurd h (by decide)⟩, fun h => absurd h (by decide)⟩ ?_; clear hK K
    refine o_eff (i := 1) (by kernel_rfl) rfl (goes0 rfl) (fun K hK => ?_)
    refine e_buildSlice0 (e := 54) (m := 6) hS56o (by kernel_rfl) (by kernel_rfl) (fun b57 w57 (hS57 : St _ _ [.blk b57 (.cells #[] 54), _, .fz g30, _, _, _, _] _) => ?_)
    clear hS56o
    have hS57o : St _ _ [.ow 54 6 (some ⟨b57, 0, none⟩) 0 0 (List.flatMap wc []), _, .fz g30, _, _, _, _] _ := hS57.blkOw' (i := 0) (m := 0) (size := 6) (xs := List.flatMap wc []) rfl rfl rfl (by decide); clear hS57
    refine hK _ _ ⟨⟨⟨trivial, fun _ _ => by first | exact q_load1 rfl (by kernel_rfl) (hS57o.cell (i := 5) rfl rfl)⟩, fun _ _ => by first | exact q_load1 rfl (by kernel_rfl) (hS57o.cell (i := 5) rfl rfl)⟩, fun _ _ => by first | exact q_loadA (m := 5) rfl (by kernel_rfl) (by kernel_rfl) (hS57o.blk (i := 3) rfl) rfl rfl⟩ ?_; clear hK K
    refine o_eff (i := 6) (by kernel_rfl) rfl (goes0 rfl) (fun K hK => ?_)
    refine e_app (e := 54) (size := 6) (bytes := 64) (i := 0) (m' := W.length) (by kernel_rfl) hS57o rfl rfl rfl (SlG.src (e := 54) (by kernel_rfl) (hS57o.owG (i := 6) rfl) ((rows_len (c := wc) (m := 6) (fun _ => rfl) _).trans (by first | rfl | (simp only [List.length_append, List.length_map, List.length_cons, List.length_nil, List.length_take, List.length_drop, List.length_set]; done) | (simp only [List.length_append, List.length_map, List.length_cons, List.length_nil, List.length_take, List.length_drop, List.length_set]; omega) | omega)) (by decide) (rows_one wc_ones)) (by first | omega | (simp only [List.length_append, List.length_map, List.length_cons, List.length_nil, List.length_take, List.length_drop, List.length_set] <;> omega) | (simp; done)) rfl (by first | omega | (simp only [maxLen, List.length_append, List.length_map, List.length_cons, List.length_nil, List.length_take, List.length_drop, List.length_set] <;> omega) | (simp only [maxLen]; omega)) (by first | omega | (simp only [List.length_append, List.length_map, List.length_cons, List.length_nil, List.length_take, List.length_drop, List.length_set] <;> omega)) (fun ad58 cp58 w58 (hS58 : St _ _ [.ow 54 6 ad58 W.length cp58 (List.flatMap wc W), _, .fz g30, _, _, _, _] _) => ?_)
    clear hS57o
    refine hK _ _ ⟨⟨⟨trivial, fun h => absurd h (by decide)⟩, fun _ _ => by first | exact q_load1 rfl (by kernel_rfl) (hS58.cell (i := 5) rfl rfl)⟩, fun _ _ => by first | exact q_loadA (m := 5) rfl (by kernel_rfl) (by kernel_rfl) (hS58.blk (i := 3) rfl) rfl rfl⟩ ?_; clear hK K
    refine o_eff (i := 14) (by kernel_rfl) rfl (goes0 rfl) (fun K hK => ?_)
    refine e_app (e := 54) (size := 6) (bytes := 64) (i := 0) (m' := (W ++ [Wy.mk (s : Int) ad26 cp26 l]).length) (by kernel_rfl) hS58 rfl rfl rfl (SlG.src (e := 54) (by kernel_rfl) (hS58.owG (i := 1) rfl) ((rows_len (c := wc) (m := 6) (fun _ => rfl) _).trans (by first | rfl | (simp only [List.length_append, List.length_map, List.length_cons, List.length_nil, List.length_take, List.length_drop, List.length_set]; done) | (simp only [List.length_append, List.length_map, List.length_cons, List.length_nil, List.length_take, List.length_drop, List.length_set]; omega) | omega)) (by decide) (rows_one wc_ones)) (by first | omega | (simp only [List.length_append, List.length_map, List.length_cons, List.length_nil, List.length_take, List.length_drop, List.length_set] <;> omega) | (simp; done)) rows_app (by first | omega | (simp only [maxLen, List.length_append, List.length_map, List.length_cons, List.length_nil, List.length_take, List.length_drop, List.length_set] <;> omega) | (simp only [maxLen]; omega)) (by first | omega | (simp only [List.length_append, List.length_map, List.length_cons, List.length_nil, List.length_take, List.length_drop, List.length_set] <;> omega)) (fun ad59 cp59 w59 (hS59 : St _ _ [.ow 54 6 ad59 ((W ++ [Wy.mk (s : Int) ad26 cp26 l]).length) cp59 (List.flatMap wc (W ++ [Wy.mk (s : Int) ad26 cp26 l])), _, .fz g30, _, _, _, _] _) => ?_)
    clear hS58
    refine hK _ _ ⟨⟨⟨trivial, fun h => absurd h (by decide)⟩, fun h => absurd h (by decide)⟩, fun h => absurd h (by decide)⟩ ?_; clear hK K
    refine o_pure (i := 15) (fun j w => ⟨(fun j w => ⟨(fun j w => ⟨(fun _ _ => trivial) j w, fun _ h => h⟩) j w, fun _ h => h⟩) j w, fun _ h => h⟩) rfl rfl (by kernel_rfl) (goes0 rfl) (QOk.then QOk.body) (fun w => q_nilCheck rfl) ?_
    refine o_pure (i := 16) (fun j w => ⟨(fun j w => ⟨(fun j w => ⟨(fun _ _ => trivial) j w, fun _ h => h⟩) j w, fun _ h => h⟩) j w, fun _ h => h⟩) rfl rfl (by kernel_rfl) (goes0 rfl) (QOk.then QOk.body) (fun w => q_fieldAddr (ft := 49) (o := 0) rfl (by kernel_rfl)) ?_
    refine o_eff (i := 17) (by kernel_rfl) rfl (goes0 rfl) (fun K hK => ?_)
    refine e_store1 hS59 rfl rfl (by kernel_rfl) (by first | rfl | assumption) (i := 5) rfl rfl (fun w60 (hS60 : St _ _ [_, _, .fz g30, _, _, .blk r (.cells #[.slice ad59 ((W ++ [Wy.mk (s : Int) ad26 cp26 l]).length) cp59, .int .i64 (s : Int), .int .i64 (t : Int), .int .i64 (o : Int)] 51), _] _) => ?_)
    clear hS59
    refine hK _ _ ⟨⟨⟨trivial, fun h => absurd h (by decide)⟩, fun h => absurd h (by decide)⟩, fun h => absurd h (by decide)⟩ ?_; clear hK K
    refine o_done (by kernel_rfl) ?_
    refine hK31 _ _ ?_
    refine wp_seq_k (fun K61 hK61 => ?_)
    refine wp_region_lit ?_
    refine l_q rfl rfl (q_moveP rfl) ?_
    refine l_q rfl rfl (q_nilCheck rfl) ?_
    refine l_q rfl rfl (q_fieldAddr (ft := 3) (o := 1) rfl (by kernel_rfl)) ?_
    refine l_q rfl rfl (q_load1 rfl (by kernel_rfl) (hS60.cell (i := 5) rfl rfl)) ?_
    refine l_q rfl rfl (q_addx rfl rfl (by first | decide | omega) (by first | decide | omega)) ?_
    refine l_q rfl rfl (q_nilCheck rfl) ?_
    refine l_q rfl rfl (q_fieldAddr (ft := 3) (o := 1) rfl (by kernel_rfl)) ?_
    refine l_e rfl (fun K hK => ?_)
    refine e_store1 hS60 rfl rfl (by kernel_rfl) (by first | rfl | assumption) (i := 5) rfl rfl (fun w62 (hS62 : St _ _ [_, _, .fz g30, _, _, .blk r (.cells #[.slice ad59 ((W ++ [Wy.mk (s : Int) ad26 cp26 l]).length) cp59, .int .i64 ((s : Int) + (1 : Int)), .int .i64 (t : Int), .int .i64 (o : Int)] 51), _] _) => ?_)
    clear hS60
    refine hK _ _ ?_; clear hK K
    refine l_nil ?_
    refine hK61 _ _ ?_
    refine wp_seq_k (fun K63 hK63 => ?_)
    refine wp_region_lit ?_
    refine l_q rfl rfl (q_moveP rfl) ?_
    refine l_q rfl rfl (q_nilCheck rfl) ?_
    refine l_q rfl rfl (q_fieldAddr (ft := 3) (o := 1) rfl (by kernel_rfl)) ?_
    refine l_q rfl rfl (q_load1 rfl (by kernel_rfl) (hS62.cell (i := 5) rfl rfl)) ?_
    refine l_q rfl rfl (q_subx rfl rfl (by first | decide | omega) (by first | decide | omega)) ?_
    refine l_q rfl rfl (q_assignI rfl) ?_
    refine l_q rfl rfl (q_assignI rfl) ?_
    refine l_nil ?_
    refine hK63 _ _ ?_
    refine wp_ret ?_
    refine c_ret2 rfl rfl rfl ?_
    have hS64 := hS62.fr2; clear hS62
    have hS65 := hS64.fr1; clear hS64
    have hS66 := hS65.fr5; clear hS65
    have hS67 : St _ _ [_, _, .fz g30] _ := hS66.only 3; clear hS66
    exact ⟨_, _, rfl, RSendP.more (by omega) hR hf hle30 hW hfz30, hS67⟩

set_option maxRecDepth 100000 in
theorem rtwice_hit (r : Nat) (ad : Option Addr) (cap s t o : Nat) (n : Int) (A : List Wy) (q : Wy) (B : List Wy) (hq : q.n = n) (hA : ∀ x ∈ A, x.n ≠ n) (g : Gh) (hW : WOk g (A ++ q :: B)) (hwl : (A ++ q :: B).length ≤ 2000000) (hs1 : s ≤ 1000000)  (w : World) (hS : St w (owns [.blk r (.cells #[.slice ad (A ++ q :: B).length cap, .int .i64 (s : Int), .int .i64 (t : Int), .int .i64 (o : Int)] 51), .ow 54 6 ad ((A ++ q :: B).length) cap (List.flatMap wc (A ++ q :: B)), .fz g]) [.blk r (.cells #[.slice ad (A ++ q :: B).length cap, .int .i64 (s : Int), .int .i64 (t : Int), .int .i64 (o : Int)] 51), .ow 54 6 ad ((A ++ q :: B).length) cap (List.flatMap wc (A ++ q :: B)), .fz g] w) : Calls Try.prog 23 #[pV r, .int .i64 n] w (Post w [.blk r (.cells #[.slice ad (A ++ q :: B).length cap, .int .i64 (s : Int), .int .i64 (t : Int), .int .i64 (o : Int)] 51), .ow 54 6 ad ((A ++ q :: B).length) cap (List.flatMap wc (A ++ q :: B)), .fz g] fun v G => RSendP r s t o (A ++ q :: B) g q.l v G) := by
 have hqat : (A ++ q :: B)[A.length]? = some q := by rw [List.getElem?_append_right (Nat.le_refl _), Nat.sub_self]; rfl
 have hql16 := (hW q (List.mem_append_right _ (.head _))).2.1
 have hmlen : (A ++ q :: B).length = A.length + (B.length + 1) := by rw [List.length_append, List.length_cons]
 refine c_enter Try.func23 rfl rfl rfl ?_
 refine wp_seq_k (fun K1 hK1 => ?_)
 refine wp_region_lit ?_
 refine l_q rfl rfl (q_assignI rfl) ?_
 refine l_q rfl rfl (q_assignI rfl) ?_
 refine l_nil ?_
 refine hK1 _ _ ?_
 refine wp_seq_k (fun K2 hK2 => ?_)
 refine wp_region_lit ?_
 refine l_q rfl rfl (q_moveP rfl) ?_
 refine l_q rfl rfl (q_moveI rfl) ?_
 refine l_e rfl (fun K hK => ?_)
 refine e_call (by kernel_rfl) (rfind_hit r ad cap s t o (A ++ q :: B) (by omega) n A q B rfl hq hA _ (hS.blk (i := 0) rfl) (hS.owG (i := 1) rfl)) rfl (after_R hS (fun v3 w3 hv3 hS3 => ?_))
 clear hS
 obtain rfl := hv3
 refine hK _ _ ?_; clear hK K
 refine l_q rfl rfl (q_assignI rfl) ?_
 refine l_nil ?_
 refine hK2 _ _ ?_
 refine wp_seq_k (fun K4 hK4 => ?_)
 refine wp_seq_k (fun K5 hK5 => ?_)
 refine wp_region_lit ?_
 refine l_q rfl rfl (q_moveI rfl) ?_
 refine l_q rfl rfl (q_lss rfl rfl) ?_
 refine l_nil ?_
 refine hK5 _ _ ?_
 refine c_condF rfl (decide_eq_false (by omega)) ?_
 refine wp_skip ?_
 refine hK4 _ _ ?_
 refine wp_seq_k (fun K7 hK7 => ?_)
 refine wp_region_lit ?_
 refine l_q rfl rfl (q_moveP rfl) ?_
 refine l_q rfl rfl (q_moveP rfl) ?_
 refine l_q rfl rfl (q_nilCheck rfl) ?_
 refine l_q rfl rfl (q_fieldAddr (ft := 49) (o := 0) rfl (by kernel_rfl)) ?_
 refine l_q rfl rfl (q_load1 rfl (by kernel_rfl) (hS3.cell (i := 0) rfl rfl)) ?_
 refine l_q rfl rfl (q_moveI rfl) ?_
 refine l_q rfl rfl (q_ixG (e := 54) (m := 6) (j := A.length) rfl rfl (by kernel_rfl) (by kernel_rfl) (by first | rfl | omega) (by omega) (hS3.owG (i := 1) rfl) (by rw [rows_len (c := wc) (m := 6) (fun _ => rfl)]; first | omega | (simp only [List.length_append, List.length_map, List.length_cons, List.length_nil, List.length_take, List.length_drop, List.length_set] <;> omega))) ?_
 refine l_q rfl rfl (q_fieldG (ft := 25) (o := 1) rfl (by kernel_rfl)) ?_
 refine l_q rfl rfl (q_loadGA (m := 5) rfl (by kernel_rfl) (by kernel_rfl) (hS3.owG (i := 1) rfl) (row_sub hqat (c := wc) (m := 6) (fun _ => rfl) rfl rfl) rfl (by decide)) ?_
 refine l_e rfl (fun K hK => ?_)
 refine e_call (by kernel_rfl) (rsend_in r ad cap s t o (A ++ q :: B) g hW hwl hs1 q.l q.l.nd.length rfl (by omega) _ _ (hW q (List.mem_append_right _ (.head _))).1 _ (St.begin (Γ := [_, _, _]) hS3)) rfl (after_M (Γ1 := [_, _, _]) hS3 (fun v8 G8 w8 hv8 hS8 => ?_))
 clear hS3
 obtain ⟨W8, s8, g8, ra8, rc8, rfl, rfl, hle8, hW8, hs8⟩ := hv8
 have hS9 : St _ _ [.blk r (.cells #[.slice ra8 W8.length rc8, .int .i64 (s8 : Int), .int .i64 (t : Int), .int .i64 (o : Int)] 51), .ow 54 6 ra8 W8.length rc8 (List.flatMap wc W8), .fz g8] _ := hS8; clear hS8
 refine hK _ _ ?_; clear hK K
 refine l_q rfl rfl (q_extract rfl rfl) ?_
 refine l_q rfl rfl (q_extract rfl rfl) ?_
 refine l_q rfl rfl (q_assignI rfl) ?_
 refine l_q rfl rfl (q_assignI rfl) ?_
 refine l_nil ?_
 refine hK7 _ _ ?_
 refine wp_ret ?_
 refine c_ret2 rfl rfl rfl ?_
 exact ⟨_, _, rfl, ⟨W8, s8, g8, ra8, rc8, rfl, rfl, hle8, hW8, hs8⟩, hS9⟩

set_option maxRecDepth 100000 in
theorem rtwice_miss (r : Nat) (ad : Option Addr) (cap s t o : Nat) (W : List Wy) (g : Gh) (hwl : W.length ≤ 2000000) (n : Int) (hn : ∀ x ∈ W, x.n ≠ n)  (w : World) (hS : St w (owns [.blk r (.cells #[.slice ad W.length cap, .int .i64 (s : Int), .int .i64 (t : Int), .int .i64 (o : Int)] 51), .ow 54 6 ad W.length cap (List.flatMap wc W), .fz g]) [.blk r (.cells #[.slice ad W.length cap, .int .i64 (s : Int), .int .i64 (t : Int), .int .i64 (o : Int)] 51), .ow 54 6 ad W.length cap (List.flatMap wc W), .fz g] w) : Calls Try.prog 23 #[pV r, .int .i64 n] w (Post w [.blk r (.cells #[.slice ad W.length cap, .int .i64 (s : Int), .int .i64 (t : Int), .int .i64 (o : Int)] 51), .ow 54 6 ad W.length cap (List.flatMap wc W), .fz g] fun v G => v = .tuple #[.int .i64 0, .int .i64 121] ∧ G = [.blk r (rtO ad W.length cap s t o), .ow 54 6 ad W.length cap (List.flatMap wc W), .fz g]) := by
 refine c_enter Try.func23 rfl rfl rfl ?_
 refine wp_seq_k (fun K1 hK1 => ?_)
 refine wp_region_lit ?_
 refine l_q rfl rfl (q_assignI rfl) ?_
 refine l_q rfl rfl (q_assignI rfl) ?_
 refine l_nil ?_
 refine hK1 _ _ ?_
 refine wp_seq_k (fun K2 hK2 => ?_)
 refine wp_region_lit ?_
 refine l_q rfl rfl (q_moveP rfl) ?_
 refine l_q rfl rfl (q_moveI rfl) ?_
 refine l_e rfl (fun K hK => ?_)
 refine e_call (by kernel_rfl) (rfind_miss r ad cap s t o W (by omega) n hn _ (hS.blk (i := 0) rfl) (hS.owG (i := 1) rfl)) rfl (after_R hS (fun v3 w3 hv3 hS3 => ?_))
 clear hS
 obtain rfl := hv3
 refine hK _ _ ?_; clear hK K
 refine l_q rfl rfl (q_assignI rfl) ?_
 refine l_nil ?_
 refine hK2 _ _ ?_
 refine wp_seq_k (fun K4 hK4 => ?_)
 refine wp_seq_k (fun K5 hK5 => ?_)
 refine wp_region_lit ?_
 refine l_q rfl rfl (q_moveI rfl) ?_
 refine l_q rfl rfl (q_lss rfl rfl) ?_
 refine l_nil ?_
 refine hK5 _ _ ?_
 refine c_condT rfl (decide_eq_true (by omega)) ?_
 refine wp_seq_k (fun K7 hK7 => ?_)
 refine wp_region_lit ?_
 refine l_q rfl rfl (q_assignI rfl) ?_
 refine l_q rfl rfl (q_assignI rfl) ?_
 refine l_nil ?_
 refine hK7 _ _ ?_
 refine wp_ret ?_
 refine c_ret2 rfl rfl rfl ?_
 exact ⟨_, _, rfl, ⟨rfl, rfl⟩, hS3⟩

set_option maxRecDepth 100000 in
theorem rnums_ok (r : Nat) (ad : Option Addr) (cap s t o : Nat) (W : List Wy) (hwl : W.length ≤ 2000000) (nd : Int) (w : World) (hk : w.heap[r]? = some (rtO ad W.length cap s t o)) (hG : SlG (hw w) ad (List.flatMap wc W)) : Calls Try.prog 26 #[pV r, .int .i64 nd] w (PostN w fun v G => ∃ ia ic, v = .slice ia (numsW (absW W) nd).length ic ∧ G = [.ow 3 1 ia (numsW (absW W) nd).length ic (iv (numsW (absW W) nd))]) := by
 have hS := St.start w
 refine c_enter Try.func26 rfl rfl rfl ?_
 refine wp_seq_k (fun K1 hK1 => ?_)
 refine wp_region_lit ?_
 refine l_q rfl rfl (q_assignS rfl) ?_
 refine l_nil ?_
 refine hK1 _ _ ?_
 refine wp_seq_k (fun K2 hK2 => ?_)
 refine wp_region_lit ?_
 refine l_q rfl rfl (q_assignS rfl) ?_
 refine l_nil ?_
 refine hK2 _ _ ?_
 refine wp_seq_k (fun K3 hK3 => ?_)
 refine wp_seq_k (fun K4 hK4 => ?_)
 refine wp_region_lit ?_
 refine l_q rfl rfl (q_assignI rfl) ?_
 refine l_nil ?_
 refine hK4 _ _ ?_
 refine wp_block ?_
 have hS5 := hS.ow_nil 3 1; clear hS
 refine c_loop (τ := Nat × (Option Addr) × Nat) [(5, 41)] (fun x => (fun (i : Nat) (ia : Option Addr) (ic : Nat) => [(6, .int .i64 (i : Int)), (5, .slice ia ((numsW (absW (W.take i)) nd).length) ic)]) x.1 x.2.1 x.2.2) (fun x w' => (fun (i : Nat) (ia : Option Addr) (ic : Nat) => St w (fun _ => False) [.ow 3 1 ia ((numsW (absW (W.take i)) nd).length) ic (iv (numsW (absW (W.take i)) nd))] w' ∧ i ≤ W.length) x.1 x.2.1 x.2.2) (fun x => (fun (i : Nat) (ia : Option Addr) (ic : Nat) => W.length - i) x.1 x.2.1 x.2.2) (⟨0, none, 0⟩) ?_ (by refine ⟨rfl, ⟨by rw [show numsW (absW (W.take 0)) nd = [] from by unfold numsW; rfl]; rfl, trivial⟩⟩) (fun x6 j6 w6 hJ6 K6 hK6 => ?_)
 ·
  exact ⟨hS5.cast (by rw [show numsW (absW (W.take 0)) nd = [] from by unfold numsW; rfl]; rfl), Nat.zero_le _⟩
 ·
  obtain ⟨i, ia, ic⟩ := x6
  obtain ⟨hS6, hi⟩ := hJ6
  try dsimp only at hS6 hi ⊢
  have hnl := numsW_len (absW (W.take i)) nd
  rw [absW_len, List.length_take] at hnl
  refine wp_seq_k (fun K7 hK7 => ?_)
  refine wp_seq_k (fun K8 hK8 => ?_)
  refine wp_region_lit ?_
  refine l_q rfl rfl (q_moveI rfl) ?_
  refine l_q rfl rfl (q_moveP rfl) ?_
  refine l_q rfl rfl (q_nilCheck rfl) ?_
  refine l_q rfl rfl (q_fieldAddr (ft := 49) (o := 0) rfl (by kernel_rfl)) ?_
  refine l_q rfl rfl (q_load1 rfl (by kernel_rfl) (cell_blk (hS6.base _ _ hk) rfl)) ?_
  refine l_q rfl rfl (q_lenSl (e := 54) rfl (by kernel_rfl)) ?_
  refine l_q rfl rfl (q_lss rfl rfl) ?_
  refine l_nil ?_
  refine hK8 _ _ ?_
  refine c_cond rfl (fun hc9 => ?_) (fun hc9 => ?_)
  ·
   have hc9b := hc9
   try simp only [decide_eq_true_eq, decide_eq_false_iff_not, Bool.not_eq_true', Bool.not_eq_false', Bool.and_eq_true, Bool.or_eq_true, Int.not_lt, Int.not_le, ne_eq, Decidable.not_not] at hc9
   refine wp_skip ?_
   refine hK7 _ _ ?_
   refine wp_seq_k (fun K10 hK10 => ?_)
   refine wp_block ?_
   refine wp_seq_k (fun K11 hK11 => ?_)
   refine wp_region_lit ?_
   refine l_q rfl rfl (q_moveI rfl) ?_
   refine l_q rfl rfl (q_lss rfl rfl) ?_
   refine l_q rfl rfl (q_moveB rfl) ?_
   refine g_splitL (t := 18) rfl (fun hg12 => ?_) (fun hg12 => ?_)
   ·
    have hg12b := hg12
    try simp only [decide_eq_true_eq, decide_eq_false_iff_not, Bool.not_eq_true', Bool.not_eq_false', Bool.and_eq_true, Bool.or_eq_true, Int.not_lt, Int.not_le, ne_eq, Decidable.not_not] at hg12
    refine l_off rfl rfl rfl hg12b ?_
    refine l_off rfl rfl rfl hg12b ?_
    refine l_off rfl rfl rfl hg12b ?_
    refine l_off rfl rfl rfl hg12b ?_
    refine l_off rfl rfl rfl hg12b ?_
    refine l_off rfl rfl rfl hg12b ?_
    refine l_off rfl rfl rfl hg12b ?_
    refine l_off rfl rfl rfl hg12b ?_
    refine l_off rfl rfl rfl hg12b ?_
    refine l_off rfl rfl rfl hg12b ?_
    refine l_off rfl rfl rfl hg12b ?_
    refine l_q rfl rfl (q_pickT rfl hg12b rfl) ?_
    refine l_nil ?_
    refine hK11 _ _ ?_
    refine c_condT rfl rfl ?_
    obtain ⟨x14, hx14⟩ : ∃ x, (W)[i]? = some x := ⟨_, List.getElem?_eq_getElem (by first | omega | (simp only [List.length_append, List.length_map, List.length_cons, List.length_nil, List.length_take, List.length_drop, List.length_set] <;> omega) | (simp <;> omega))⟩
    have hnt : (numsW (absW (W.take i)) nd) ++ [x14.n] = numsW (absW (W.take (i + 1))) nd := by rw [numsW_take hx14, if_pos (by simp only [Bool.or_eq_true, decide_eq_true_eq]; omega)]
    refine wp_region_lit ?_
    refine l_q rfl rfl (q_moveS rfl) ?_
    refine l_q rfl rfl (q_moveP rfl) ?_
    refine l_q rfl rfl (q_nilCheck rfl) ?_
    refine l_q rfl rfl (q_fieldAddr (ft := 49) (o := 0) rfl (by kernel_rfl)) ?_
    refine l_q rfl rfl (q_load1 rfl (by kernel_rfl) (cell_blk (hS6.base _ _ hk) rfl)) ?_
    refine l_q rfl rfl (q_moveI rfl) ?_
    refine l_q rfl rfl (q_ixG (e := 54) (m := 6) (j := i) rfl rfl (by kernel_rfl) (by kernel_rfl) (by first | rfl | omega) (by omega) hG (by rw [rows_len (c := wc) (m := 6) (fun _ => rfl)]; first | omega | (simp only [List.length_append, List.length_map, List.length_cons, List.length_nil, List.length_take, List.length_drop, List.length_set] <;> omega))) ?_
    refine l_q rfl rfl (q_fieldG (ft := 3) (o := 0) rfl (by kernel_rfl)) ?_
    refine l_q rfl rfl (q_load1 rfl (by kernel_rfl) (SlG.cell (hG.mono hS6.base) (Gle.refl _) (row_at hx14 (c := wc) (m := 6) (fun _ => rfl) (j := 0) rfl))) ?_
    refine l_e rfl (fun K hK => ?_)
    refine e_buildSlice1 (e := 3) (zv := .int .i64 0) (xs := [.tmp 39]) hS6 (by kernel_rfl) (by kernel_rfl) (by kernel_rfl) rfl rfl rfl rfl (allone (by repeat' (first | exact trivial | refine ⟨by first | rfl | assumption, ?_⟩))) rfl (fun b15 w15 (hS15 : St _ _ [.blk b15 (.cells #[.int .i64 x14.n] 3), .ow 3 1 ia ((numsW (absW (W.take i)) nd).length) ic (iv (numsW (absW (W.take i)) nd))] _) => ?_)
    clear hS6
    have hS15o : St _ _ [.ow 3 1 (some ⟨b15, 0, none⟩) 1 1 (iv [x14.n]), _] _ := hS15.blkOw' (i := 0) (m := 1) (size := 1) (xs := iv [x14.n]) rfl rfl rfl (by decide); clear hS15
    refine hK _ _ ?_; clear hK K
    refine l_e rfl (fun K hK => ?_)
    refine e_app (e := 3) (size := 1) (bytes := 8) (i := 1) (m' := ((numsW (absW (W.take i)) nd) ++ [x14.n]).length) (by kernel_rfl) hS15o rfl rfl rfl (SlG.src (e := 3) (by kernel_rfl) (hS15o.owG (i := 0) rfl) (by first | (simp only [List.length_append, List.length_map, List.length_cons, List.length_nil, List.length_take, List.length_drop, List.length_set, Nat.mul_one]; done) | (simp only [List.length_append, List.length_map, List.length_cons, List.length_nil, List.length_take, List.length_drop, List.length_set]; omega) | rfl | (simp; done)) (by decide) (iv_one _)) (by first | omega | (simp only [List.length_append, List.length_map, List.length_cons, List.length_nil, List.length_take, List.length_drop, List.length_set] <;> omega) | (simp; done)) iv_app (by first | omega | (simp only [maxLen, List.length_append, List.length_map, List.length_cons, List.length_nil, List.length_take, List.length_drop, List.length_set] <;> omega) | (simp only [maxLen]; omega)) (by first | omega | (simp only [List.length_append, List.length_map, List.length_cons, List.length_nil, List.length_take, List.length_drop, List.length_set] <;> omega)) (fun ad16 cp16 w16 (hS16 : St _ _ [_, .ow 3 1 ad16 (((numsW (absW (W.take i)) nd) ++ [x14.n]).length) cp16 (iv ((numsW (absW (W.take i)) nd) ++ [x14.n]))] _) => ?_)
    clear hS15o
    refine hK _ _ ?_; clear hK K
    refine l_q rfl rfl (q_assignS rfl) ?_
    refine l_nil ?_
    refine hK10 _ _ ?_
    refine wp_region_lit ?_
    refine l_q rfl rfl (q_moveI rfl) ?_
    refine l_q rfl rfl (q_addx rfl rfl (by first | decide | omega) (by first | decide | omega)) ?_
    refine l_q rfl rfl (q_assignI rfl) ?_
    refine l_nil ?_
    have hS17 := hS16.fr1; clear hS16
    have hS18 : St _ _ [_] _ := hS17.only 1; clear hS17
    refine hK6 _ _ (came (⟨(i + 1), ad16, cp16⟩) (by repeat' (first | exact Agree.refl _ _ | refine Agree.up ?_ rfl | refine Agree.hav2 ?_ rfl | refine Agree.ups2 ?_ rfl)) (by refine ⟨int_succ _, ⟨by rw [hnt]; rfl, trivial⟩⟩) ?_)
    exact ⟨⟨hS18.cast (by rw [hnt]), (by show i + 1 ≤ W.length; omega)⟩, by (show W.length - (i + 1) < W.length - i); omega⟩
   ·
    have hg12b := hg12
    try simp only [decide_eq_true_eq, decide_eq_false_iff_not, Bool.not_eq_true', Bool.not_eq_false', Bool.and_eq_true, Bool.or_eq_true, Int.not_lt, Int.not_le, ne_eq, Decidable.not_not] at hg12
    refine l_on rfl rfl hg12b ?_
    refine l_q rfl rfl (q_moveP rfl) ?_
    refine l_on rfl rfl hg12b ?_
    refine l_q rfl rfl (q_nilCheck rfl) ?_
    refine l_on rfl rfl hg12b ?_
    refine l_q rfl rfl (q_fieldAddr (ft := 49) (o := 0) rfl (by kernel_rfl)) ?_
    refine l_on rfl rfl hg12b ?_
    refine l_q rfl rfl (q_load1 rfl (by kernel_rfl) (cell_blk (hS6.base _ _ hk) rfl)) ?_
    refine l_on rfl rfl hg12b ?_
    refine l_q rfl rfl (q_moveI rfl) ?_
    refine l_on rfl rfl hg12b ?_
    refine l_q rfl rfl (q_ixG (e := 54) (m := 6) (j := i) rfl rfl (by kernel_rfl) (by kernel_rfl) (by first | rfl | omega) (by omega) hG (by rw [rows_len (c := wc) (m := 6) (fun _ => rfl)]; first | omega | (simp only [List.length_append, List.length_map, List.length_cons, List.length_nil, List.length_take, List.length_drop, List.length_set] <;> omega))) ?_
    refine l_on rfl rfl hg12b ?_
    refine l_q rfl rfl (q_fieldG (ft := 25) (o := 1) rfl (by kernel_rfl)) ?_
    refine l_on rfl rfl hg12b ?_
    refine l_q rfl rfl (q_fieldG (ft := 3) (o := 2) rfl (by kernel_rfl)) ?_
    refine l_on rfl rfl hg12b ?_
    obtain ⟨x19, hx19⟩ : ∃ x, (W)[i]? = some x := ⟨_, List.getElem?_eq_getElem (by first | omega | (simp only [List.length_append, List.length_map, List.length_cons, List.length_nil, List.length_take, List.length_drop, List.length_set] <;> omega) | (simp <;> omega))⟩
    refine l_q rfl rfl (q_load1 rfl (by kernel_rfl) (SlG.cell (hG.mono hS6.base) (Gle.refl _) (row_at hx19 (c := wc) (m := 6) (fun _ => rfl) (j := 3) rfl))) ?_
    refine l_on rfl rfl hg12b ?_
    refine l_q rfl rfl (q_moveI rfl) ?_
    refine l_on rfl rfl hg12b ?_
    refine l_q rfl rfl (q_eql rfl rfl) ?_
    refine l_q rfl rfl (q_pickF rfl hg12b rfl) ?_
    refine l_nil ?_
    refine hK11 _ _ ?_
    refine c_cond rfl (fun hc20 => ?_) (fun hc20 => ?_)
    ·
     have hc20b := hc20
     try simp only [decide_eq_true_eq, decide_eq_false_iff_not, Bool.not_eq_true', Bool.not_eq_false', Bool.and_eq_true, Bool.or_eq_true, Int.not_lt, Int.not_le, ne_eq, Decidable.not_not] at hc20
     have hnt : (numsW (absW (W.take i)) nd) ++ [x19.n] = numsW (absW (W.take (i + 1))) nd := by rw [numsW_take hx19, if_pos (by simp only [Bool.or_eq_true, decide_eq_true_eq]; omega)]
     refine wp_region_lit ?_
     refine l_q rfl rfl (q_moveS rfl) ?_
     refine l_q rfl rfl (q_moveP rfl) ?_
     refine l_q rfl rfl (q_nilCheck rfl) ?_
     refine l_q rfl rfl (q_fieldAddr (ft := 49) (o := 0) rfl (by kernel_rfl)) ?_
     refine l_q rfl rfl (q_load1 rfl (by kernel_rfl) (cell_blk (hS6.base _ _ hk) rfl)) ?_
     refine l_q rfl rfl (q_moveI rfl) ?_
     refine l_q rfl rfl (q_ixG (e := 54) (m := 6) (j := i) rfl rfl (by kernel_rfl) (by kernel_rfl) (by first | rfl | omega) (by omega) hG (by rw [rows_len (c := wc) (m := 6) (fun _ => rfl)]; first | omega | (simp only [List.length_append, List.length_map, List.length_cons, List.length_nil, List.length_take, List.length_drop, List.length_set] <;> omega))) ?_
     refine l_q rfl rfl (q_fieldG (ft := 3) (o := 0) rfl (by kernel_rfl)) ?_
     refine l_q rfl rfl (q_load1 rfl (by kernel_rfl) (SlG.cell (hG.mono hS6.base) (Gle.refl _) (row_at hx19 (c := wc) (m := 6) (fun _ => rfl) (j := 0) rfl))) ?_
     refine l_e rfl (fun K hK => ?_)
     refine e_buildSlice1 (e := 3) (zv := .int .i64 0) (xs := [.tmp 39]) hS6 (by kernel_rfl) (by kernel_rfl) (by kernel_rfl) rfl rfl rfl rfl (allone (by repeat' (first | exact trivial | refine ⟨by first | rfl | assumption, ?_⟩))) rfl (fun b21 w21 (hS21 : St _ _ [.blk b21 (.cells #[.int .i64 x19.n] 3), _] _) => ?_)
     clear hS6
     have hS21o : St _ _ [.ow 3 1 (some ⟨b21, 0, none⟩) 1 1 (iv [x19.n]), _] _ := hS21.blkOw' (i := 0) (m := 1) (size := 1) (xs := iv [x19.n]) rfl rfl rfl (by decide); clear hS21
     refine hK _ _ ?_; clear hK K
     refine l_e rfl (fun K hK => ?_)
     refine e_app (e := 3) (size := 1) (bytes := 8) (i := 1) (m' := ((numsW (absW (W.take i)) nd) ++ [x19.n]).length) (by kernel_rfl) hS21o rfl rfl rfl (SlG.src (e := 3) (by kernel_rfl) (hS21o.owG (i := 0) rfl) (by first | (simp only [List.length_append, List.length_map, List.length_cons, List.length_nil, List.length_take, List.length_drop, List.length_set, Nat.mul_one]; done) | (simp only [List.length_append, List.length_map, List.length_cons, List.length_nil, List.length_take, List.length_drop, List.length_set]; omega) | rfl | (simp; done)) (by decide) (iv_one _)) (by first | omega | (simp only [List.length_append, List.length_map, List.length_cons, List.length_nil, List.length_take, List.length_drop, List.length_set] <;> omega) | (simp; done)) iv_app (by first | omega | (simp only [maxLen, List.length_append, List.length_map, List.length_cons, List.length_nil, List.length_take, List.length_drop, List.length_set] <;> omega) | (simp only [maxLen]; omega)) (by first | omega | (simp only [List.length_append, List.length_map, List.length_cons, List.length_nil, List.length_take, List.length_drop, List.length_set] <;> omega)) (fun ad22 cp22 w22 (hS22 : St _ _ [_, .ow 3 1 ad22 (((numsW (absW (W.take i)) nd) ++ [x19.n]).length) cp22 (iv ((numsW (absW (W.take i)) nd) ++ [x19.n]))] _) => ?_)
     clear hS21o
     refine hK _ _ ?_; clear hK K
     refine l_q rfl rfl (q_assignS rfl) ?_
     refine l_nil ?_
     refine hK10 _ _ ?_
     refine wp_region_lit ?_
     refine l_q rfl rfl (q_moveI rfl) ?_
     refine l_q rfl rfl (q_addx rfl rfl (by first | decide | omega) (by first | decide | omega)) ?_
     refine l_q rfl rfl (q_assignI rfl) ?_
     refine l_nil ?_
     have hS23 := hS22.fr1; clear hS22
     have hS24 : St _ _ [_] _ := hS23.only 1; clear hS23
     refine hK6 _ _ (came (⟨(i + 1), ad22, cp22⟩) (by repeat' (first | exact Agree.refl _ _ | refine Agree.up ?_ rfl | refine Agree.hav2 ?_ rfl | refine Agree.ups2 ?_ rfl)) (by refine ⟨int_succ _, ⟨by rw [hnt]; rfl, trivial⟩⟩) ?_)
     exact ⟨⟨hS24.cast (by rw [hnt]), (by show i + 1 ≤ W.length; omega)⟩, by (show W.length - (i + 1) < W.length - i); omega⟩
    ·
     have hc20b := hc20
     try simp only [decide_eq_true_eq, decide_eq_false_iff_not, Bool.not_eq_true', Bool.not_eq_false', Bool.and_eq_true, Bool.or_eq_true, Int.not_lt, Int.not_le, ne_eq, Decidable.not_not] at hc20
     have hnt : (numsW (absW (W.take i)) nd) = numsW (absW (W.take (i + 1))) nd := by rw [numsW_take hx19, if_neg (by simp only [Bool.or_eq_true, decide_eq_true_eq]; omega), List.append_nil]
     refine wp_skip ?_
     refine hK10 _ _ ?_
     refine wp_region_lit ?_
     refine l_q rfl rfl (q_moveI rfl) ?_
     refine l_q rfl rfl (q_addx rfl rfl (by first | decide | omega) (by first | decide | omega)) ?_
     refine l_q rfl rfl (q_assignI rfl) ?_
     refine l_nil ?_
     refine hK6 _ _ (came (⟨(i + 1), ia, ic⟩) (by repeat' (first | exact Agree.refl _ _ | refine Agree.up ?_ rfl | refine Agree.hav2 ?_ rfl | refine Agree.ups2 ?_ rfl)) (by refine ⟨int_succ _, ⟨by rw [hnt]; rfl, trivial⟩⟩) ?_)
     exact ⟨⟨hS6.cast (by rw [hnt]), (by show i + 1 ≤ W.length; omega)⟩, by (show W.length - (i + 1) < W.length - i); omega⟩
  ·
   have hc9b := hc9
   try simp only [decide_eq_true_eq, decide_eq_false_iff_not, Bool.not_eq_true', Bool.not_eq_false', Bool.and_eq_true, Bool.or_eq_true, Int.not_lt, Int.not_le, ne_eq, Decidable.not_not] at hc9
   refine wp_exit ?_
   refine hK3 _ _ ?_
   refine wp_seq_k (fun K25 hK25 => ?_)
   refine wp_region_lit ?_
   refine l_q rfl rfl (q_moveS rfl) ?_
   refine l_q rfl rfl (q_assignS rfl) ?_
   refine l_nil ?_
   refine hK25 _ _ ?_
   refine wp_ret ?_
   refine c_ret1 rfl rfl ?_
   have hti : W.take i = W := List.take_of_length_le (by omega)
   exact ⟨_, _, rfl, ⟨ia, ic, (by rw [hti]; rfl), by rw [hti]⟩, hS6⟩

set_option maxRecDepth 100000 in
theorem samei_ok (a b : List Int) (n m : Nat) (hn : a.length = n) (hm : b.length = m) (hnb : n ≤ 2000000) (hmb : m ≤ 2000000) (aa ab : Option Addr) (ca cb : Nat) (w : World) (hG : SlG (hw w) aa (iv a)) (hG2 : SlG (hw w) ab (iv b)) : Calls Try.prog 25 #[.slice aa n ca, .slice ab m cb] w (PostR w fun v => v = .bool (sameI a b)) := by
 have hS := St.start w
 subst hn hm
 refine c_enter Try.func25 rfl rfl rfl ?_
 refine wp_seq_k (fun K1 hK1 => ?_)
 refine wp_region_lit ?_
 refine l_q rfl rfl (q_assignB rfl) ?_
 refine l_nil ?_
 refine hK1 _ _ ?_
 refine wp_seq_k (fun K2 hK2 => ?_)
 refine wp_seq_k (fun K3 hK3 => ?_)
 refine wp_region_lit ?_
 refine l_q rfl rfl (q_moveS rfl) ?_
 refine l_q rfl rfl (q_lenSl (e := 3) rfl (by kernel_rfl)) ?_
 refine l_q rfl rfl (q_moveS rfl) ?_
 refine l_q rfl rfl (q_lenSl (e := 3) rfl (by kernel_rfl)) ?_
 refine l_q rfl rfl (q_neq rfl rfl) ?_
 refine l_nil ?_
 refine hK3 _ _ ?_
 refine c_cond rfl (fun hc4 => ?_) (fun hc4 => ?_)
 ·
  have hc4b := hc4
  try simp only [decide_eq_true_eq, decide_eq_false_iff_not, Bool.not_eq_true', Bool.not_eq_false', Bool.and_eq_true, Bool.or_eq_true, Int.not_lt, Int.not_le, ne_eq, Decidable.not_not] at hc4
  refine wp_seq_k (fun K5 hK5 => ?_)
  refine wp_region_lit ?_
  refine l_q rfl rfl (q_assignB rfl) ?_
  refine l_nil ?_
  refine hK5 _ _ ?_
  refine wp_ret ?_
  refine c_ret1 rfl rfl ?_
  exact ⟨_, rfl, congrArg Value.bool (samei_no1 (by omega)), hS.drop⟩
 ·
  have hc4b := hc4
  try simp only [decide_eq_true_eq, decide_eq_false_iff_not, Bool.not_eq_true', Bool.not_eq_false', Bool.and_eq_true, Bool.or_eq_true, Int.not_lt, Int.not_le, ne_eq, Decidable.not_not] at hc4
  refine wp_skip ?_
  refine hK2 _ _ ?_
  refine wp_seq_k (fun K6 hK6 => ?_)
  refine wp_seq_k (fun K7 hK7 => ?_)
  refine wp_region_lit ?_
  refine l_q rfl rfl (q_assignI rfl) ?_
  refine l_nil ?_
  refine hK7 _ _ ?_
  refine wp_block ?_
  refine c_loop (τ := Nat) [(4, 5), (11, 25)] (fun x => (fun (i : Nat) => [(5, .int .i64 (i : Int))]) x) (fun x w' => (fun (i : Nat) => St w (fun _ => False) [] w' ∧ i ≤ a.length ∧ (∀ j, j < i → a[j]? = b[j]?)) x) (fun x => (fun (i : Nat) => a.length - i) x) (0) ?_ (by repeat' (first | exact trivial | refine ⟨by first | rfl | exact int_succ _ | assumption, ?_⟩)) (fun i j8 w8 hJ8 K8 hK8 => ?_)
  ·
   exact ⟨hS, Nat.zero_le _, fun j h => (by omega)⟩
  ·
   obtain ⟨hS8, hi, hk⟩ := hJ8
   try dsimp only at hS8 hi hk ⊢
   refine wp_seq_k (fun K9 hK9 => ?_)
   refine wp_seq_k (fun K10 hK10 => ?_)
   refine wp_region_lit ?_
   refine l_q rfl rfl (q_moveI rfl) ?_
   refine l_q rfl rfl (q_moveS rfl) ?_
   refine l_q rfl rfl (q_lenSl (e := 3) rfl (by kernel_rfl)) ?_
   refine l_q rfl rfl (q_lss rfl rfl) ?_
   refine l_nil ?_
   refine hK10 _ _ ?_
   refine c_cond rfl (fun hc11 => ?_) (fun hc11 => ?_)
   ·
    have hc11b := hc11
    try simp only [decide_eq_true_eq, decide_eq_false_iff_not, Bool.not_eq_true', Bool.not_eq_false', Bool.and_eq_true, Bool.or_eq_true, Int.not_lt, Int.not_le, ne_eq, Decidable.not_not] at hc11
    refine wp_skip ?_
    refine hK9 _ _ ?_
    refine wp_seq_k (fun K12 hK12 => ?_)
    refine wp_block ?_
    refine wp_seq_k (fun K13 hK13 => ?_)
    refine r_any (by kernel_rfl) hS8 (fun w14 hS14 => ?_)
    clear hS8
    refine o_pure (i := 0) (fun _ _ => trivial) rfl rfl (by kernel_rfl) (goes0 rfl) (QOk.then (QOk.inBlock (QOk.then (QOk.then (QOk.inBlock (QOk.then QOk.body)))))) (fun w => q_moveS rfl) ?_
    refine o_pure (i := 1) (fun _ _ => trivial) rfl rfl (by kernel_rfl) (goes0 rfl) (QOk.then (QOk.inBlock (QOk.then (QOk.then (QOk.inBlock (QOk.then QOk.body)))))) (fun w => q_moveI rfl) ?_
    refine o_pure (i := 2) (fun _ _ => trivial) rfl rfl (by kernel_rfl) (goes0 rfl) (QOk.then (QOk.inBlock (QOk.then (QOk.then (QOk.inBlock (QOk.then QOk.body)))))) (fun w => q_ixG (e := 3) (m := 1) (j := i) rfl rfl (by kernel_rfl) (by kernel_rfl) (by first | rfl | omega) (by omega) hG (by rw [iv_len]; first | omega | (simp only [List.length_append, List.length_map, List.length_cons, List.length_nil, List.length_take, List.length_drop, List.length_set] <;> omega))) ?_
    obtain ⟨x15, hx15⟩ : ∃ x, (a)[i]? = some x := ⟨_, List.getElem?_eq_getElem (by first | omega | (simp only [List.length_append, List.length_map, List.length_cons, List.length_nil, List.length_take, List.length_drop, List.length_set] <;> omega) | (simp <;> omega))⟩
    refine o_held (i := 3) [8] (fun _ _ => trivial) rfl rfl (by kernel_rfl) (goes0 rfl) (QOk.then (QOk.inBlock (QOk.then (QOk.then (QOk.inBlock (QOk.then QOk.body)))))) (q_load1 rfl (by kernel_rfl) (SlG.cell (hG.mono hS14.base) (Gle.refl _) (at1 (iv_at hx15)))) ?_
    refine o_pure (i := 4) (fun j w => ⟨(fun _ _ => trivial) j w, fun _ h => h⟩) rfl rfl (by kernel_rfl) (goes0 rfl) (QOk.then (QOk.inBlock (QOk.then (QOk.then (QOk.inBlock (QOk.then QOk.body)))))) (fun w => q_moveS rfl) ?_
    refine o_pure (i := 5) (fun j w => ⟨(fun _ _ => trivial) j w, fun _ h => h⟩) rfl rfl (by kernel_rfl) (goes0 rfl) (QOk.then (QOk.inBlock (QOk.then (QOk.then (QOk.inBlock (QOk.then QOk.body)))))) (fun w => q_moveI rfl) ?_
    refine o_pure (i := 6) (fun j w => ⟨(fun _ _ => trivial) j w, fun _ h => h⟩) rfl rfl (by kernel_rfl) (goes0 rfl) (QOk.then (QOk.inBlock (QOk.then (QOk.then (QOk.inBlock (QOk.then QOk.body)))))) (fun w => q_ixG (e := 3) (m := 1) (j := i) rfl rfl (by kernel_rfl) (by kernel_rfl) (by first | rfl | omega) (by omega) hG2 (by rw [iv_len]; first | omega | (simp only [List.length_append, List.length_map, List.length_cons, List.length_nil, List.length_take, List.length_drop, List.length_set] <;> omega))) ?_
    obtain ⟨x16, hx16⟩ : ∃ x, (b)[i]? = some x := ⟨_, List.getElem?_eq_getElem (by first | omega | (simp only [List.length_append, List.length_map, List.length_cons, List.length_nil, List.length_take, List.length_drop, List.length_set] <;> omega) | (simp <;> omega))⟩
    refine o_held (i := 7) [8] (fun j w => ⟨(fun _ _ => trivial) j w, fun _ h => h⟩) rfl rfl (by kernel_rfl) (goes0 rfl) (QOk.then (QOk.inBlock (QOk.then (QOk.then (QOk.inBlock (QOk.then QOk.body)))))) (q_load1 rfl (by kernel_rfl) (SlG.cell (hG2.mono hS14.base) (Gle.refl _) (at1 (iv_at hx16)))) ?_
    refine o_pure (i := 8) (fun j w => ⟨(fun j w => ⟨(fun _ _ => trivial) j w, fun _ h => h⟩) j w, fun _ h => h⟩) rfl rfl (by kernel_rfl) (goes0 rfl) (QOk.then (QOk.inBlock (QOk.then (QOk.then (QOk.inBlock (QOk.then QOk.body)))))) (fun w => q_neq rfl rfl) ?_
    refine o_done (by kernel_rfl) ?_
    refine hK13 _ _ ?_
    refine c_cond rfl (fun hc17 => ?_) (fun hc17 => ?_)
    ·
     have hc17b := hc17
     try simp only [decide_eq_true_eq, decide_eq_false_iff_not, Bool.not_eq_true', Bool.not_eq_false', Bool.and_eq_true, Bool.or_eq_true, Int.not_lt, Int.not_le, ne_eq, Decidable.not_not] at hc17
     refine wp_seq_k (fun K18 hK18 => ?_)
     refine wp_region_lit ?_
     refine l_q rfl rfl (q_assignB rfl) ?_
     refine l_nil ?_
     refine hK18 _ _ ?_
     refine wp_ret ?_
     refine c_ret1 rfl rfl ?_
     exact ⟨_, rfl, congrArg Value.bool (samei_no hx15 hx16 (by omega)), hS14.drop⟩
    ·
     have hc17b := hc17
     try simp only [decide_eq_true_eq, decide_eq_false_iff_not, Bool.not_eq_true', Bool.not_eq_false', Bool.and_eq_true, Bool.or_eq_true, Int.not_lt, Int.not_le, ne_eq, Decidable.not_not] at hc17
     refine wp_skip ?_
     refine hK12 _ _ ?_
     refine wp_region_lit ?_
     refine l_q rfl rfl (q_moveI rfl) ?_
     refine l_q rfl rfl (q_addx rfl rfl (by first | decide | omega) (by first | decide | omega)) ?_
     refine l_q rfl rfl (q_assignI rfl) ?_
     refine l_nil ?_
     refine hK8 _ _ (came ((i + 1)) (by repeat' (first | exact Agree.refl _ _ | refine Agree.up ?_ rfl | refine Agree.hav2 ?_ rfl | refine Agree.ups2 ?_ rfl)) (by repeat' (first | exact trivial | refine ⟨by first | rfl | exact int_succ _ | assumption, ?_⟩)) ?_)
     exact ⟨⟨hS14, (by show i + 1 ≤ a.length; omega), samei_next hk hx15 hx16 (by omega)⟩, by (show a.length - (i + 1) < a.length - i); omega⟩
   ·
    have hc11b := hc11
    try simp only [decide_eq_true_eq, decide_eq_false_iff_not, Bool.not_eq_true', Bool.not_eq_false', Bool.and_eq_true, Bool.or_eq_true, Int.not_lt, Int.not_le, ne_eq, Decidable.not_not] at hc11
    refine wp_exit ?_
    refine hK6 _ _ ?_
    refine wp_seq_k (fun K19 hK19 => ?_)
    refine wp_region_lit ?_
    refine l_q rfl rfl (q_assignB rfl) ?_
    refine l_nil ?_
    refine hK19 _ _ ?_
    refine wp_ret ?_
    refine c_ret1 rfl rfl ?_
    have hii : i = a.length := by omega
    rw [hii] at hk
    exact ⟨_, rfl, congrArg Value.bool (samei_yes (by omega) hk), hS8.drop⟩

end Go.Proofs.Ytlplhlncdfhhoaa
