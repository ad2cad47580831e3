/- law18: CatalogRanges. -/
import Derived.Test.YtmemgpcgjephmaaDoorCe
set_option linter.unusedVariables false
set_option linter.unusedSimpArgs false
namespace Go.Proofs.YtmemgpcgjephmaaDoor
open Go.RowKit
/-- A bound that is a whole number. -/
def bI (n : Int) : Vl := (2, n, [])
theorem bI_cmp (a b : Int) : vcmp (bI a) (bI b) = cmpZ a b := by
  show (if cmpZ 2 2 = 0 then (if cmpZ a b = 0 then (if cmB [] [] = 0 then 0 else cmB [] []) else cmpZ a b) else cmpZ 2 2) = _
  rw [if_pos (show cmpZ 2 2 = 0 from rfl), if_pos (show cmB [] [] = 0 from rfl)]
  by_cases h : cmpZ a b = 0
  · rw [if_pos h, h]
  · rw [if_neg h]
theorem bI_le {a b : Int} : vcmp (bI a) (bI b) ≤ 0 ↔ a ≤ b := by
  rw [bI_cmp]; unfold cmpZ; split
  · omega
  · split <;> omega
theorem bI_lt {a b : Int} : vcmp (bI a) (bI b) < 0 ↔ a < b := by
  rw [bI_cmp]; unfold cmpZ; split
  · omega
  · split <;> omega
def NumOk (l : List Int) : Prop := ∀ x ∈ l, -9223372036854775808 ≤ x ∧ x ≤ 9223372036854775807
theorem bI_ok {l : List Int} (h : NumOk l) : VsOk (l.map bI) := fun v hv => by
  obtain ⟨x, hx, rfl⟩ := List.mem_map.1 hv
  exact vs_int (h x hx) _ (List.mem_singleton.2 rfl)
theorem bI_take {l : List Int} {i : Nat} {x : Int} (hx : l[i]? = some x) : (l.take i).map bI ++ [((2 : Int), x, ([] : List Nat))] = (l.take (i + 1)).map bI := by
  rw [List.take_add_one, hx, List.map_append]; rfl
/-- Rising up to here. -/
def RiTo (l : List Int) (n : Nat) : Prop := ∀ i, i < n → ∀ x, l[i]? = some x → ∀ u, 0 < i → l[i - 1]? = some u → u < x
theorem RiTo.zero (l : List Int) : RiTo l 0 := fun i h => by omega
theorem RiTo.next {l : List Int} {i : Nat} {x : Int} (h : RiTo l i) (hx : l[i]? = some x) (h1 : ∀ u, 0 < i → l[i - 1]? = some u → u < x) : RiTo l (i + 1) := fun j hj y hy u h0 hu => by
  by_cases e : j = i
  · subst e; rw [hx] at hy; injection hy with hy; subst hy; exact h1 u h0 hu
  · exact h j (by omega) y hy u h0 hu
theorem RiTo.bd {l : List Int} (h : RiTo l l.length) : BdP 2 (l.map bI) := fun i hi v hv => by
  rw [List.length_map] at hi
  rw [List.getElem?_map] at hv
  cases hx : l[i]? with
  | none => rw [hx] at hv; cases hv
  | some x =>
    rw [hx] at hv; injection hv with hv; subst hv
    refine ⟨by simp [bI, rightB], rfl, fun u h0 hu => ?_⟩
    rw [List.getElem?_map] at hu
    cases hy : l[i - 1]? with
    | none => rw [hy] at hu; cases hu
    | some y =>
      rw [hy] at hu; injection hu with hu; subst hu
      exact bI_lt.2 (h i hi x hx y h0 hy)
/-- How many are not above. -/
def cntN (l : List Int) (n : Int) : Nat := l.countP fun b => decide (b ≤ n)
theorem cnt_take {l : List Int} {n : Int} {i : Nat} {x : Int} (hx : l[i]? = some x) : cntN (l.take (i + 1)) n = cntN (l.take i) n + if x ≤ n then 1 else 0 := by
  unfold cntN
  rw [List.take_add_one, hx, List.countP_append]
  show _ + List.countP _ [x] = _
  rw [List.countP_singleton]
  simp only [decide_eq_true_eq]
theorem cnt_le (l : List Int) (n : Int) : cntN l n ≤ l.length := List.countP_le_length
theorem cnt_over {l : List Int} {n : Int} (h : RiTo l l.length) : partN (Tb.mk [116] [Co.mk [97] 2 true] 1 0 (l.map bI)) [((2 : Int), n, ([] : List Nat))] = cntN l n := by
  rw [partN_over (by show ¬(0 : Int) < 0; decide) (v := ((2 : Int), n, [])) rfl]
  show overN (l.map bI) (bI n) = _
  rw [← over_all h.bd, List.countP_map]
  unfold cntN
  congr 1; funext b
  exact decide_eq_decide.2 bI_le
attribute [local irreducible] Oper.wp Sem.run Code.wp wpList wpAnyO callFunc execOp Calls
attribute [local irreducible] toU enc encR rightB vcmp pB okc hashB hashF overN partN overI RwA PtA cntN

theorem NumOk.take {l : List Int} {k : Nat} (h : NumOk l) : NumOk (l.take k) := fun x hx => h x (List.mem_of_mem_take hx)
theorem cnt_0 (l : List Int) (n : Int) : 0 = cntN (l.take 0) n := by unfold cntN; rfl
set_option maxHeartbeats 4000000 in
set_option maxRecDepth 100000 in
theorem ranges_ok (bds : List Int) (n : Int) (hB : NumOk bds) (hn : -9223372036854775808 ≤ n ∧ n ≤ 9223372036854775807) (al : Option Addr) (cl : Nat) (hlm : bds.length ≤ 9223372036854775807) (w : World) (hG : SlG (hw w) al (iv bds)) : Calls Tryd.prog 3 #[.slice al bds.length cl, .int .i64 n] w (PostR w fun v => v = .bool true) := by
  have hS := St.start w
  refine c_enter Tryd.func3 rfl rfl rfl ?_
  refine wp_seq_k (fun K1 hK1 => ?_)
  refine wp_region_lit ?_
  refine l_q rfl rfl (q_assignB rfl) ?_
  refine l_nil ?_
  refine hK1 _ _ ?_
  refine wp_seq_k (fun K2 hK2 => ?_)
  refine wp_region_lit ?_
  refine l_q rfl rfl (q_build (ps := [(0, 1), (1, 1), (2, 1)]) (zv := .agg #[.string ⟨#[]⟩, .int .i64 0, .bool false]) (by kernel_rfl) (by kernel_rfl) rfl (by repeat' (first | exact trivial | refine ⟨fun _ => by first | rfl | assumption | exact one_if (by assumption), ?_⟩ | refine ⟨fun ⟨_, h⟩ => by simp at h, ?_⟩)) rfl) ?_
  refine l_e rfl (fun K hK => ?_)
  refine e_buildSliceA (e := 25) (m := 3) (zv := .agg #[.string ⟨#[]⟩, .int .i64 0, .bool false]) hS (by kernel_rfl) (by kernel_rfl) (by kernel_rfl) rfl rfl rfl rfl (fun b3 w3 (hS3 : St _ _ [.blk b3 (.cells #[.string (bs [97]), .int .i64 (2 : Int), .bool true] 25)] _) => ?_)
  clear hS
  have hS3o : St _ _ [.ow 25 3 (some ⟨b3, 0, none⟩) 1 1 (List.flatMap cc [Co.mk [97] 2 true])] _ := hS3.blkOw' (i := 0) (m := 1) (size := 3) (xs := List.flatMap cc [Co.mk [97] 2 true]) rfl rfl rfl (by decide); clear hS3
  refine hK _ _ ?_; clear hK K
  refine l_q rfl rfl (q_build (ps := [(0, 1), (1, 1), (2, 1), (3, 1), (4, 1)]) (zv := .agg #[.string ⟨#[]⟩, .slice none 0 0, .int .i64 0, .int .i64 0, .slice none 0 0]) (by kernel_rfl) (by kernel_rfl) rfl (by repeat' (first | exact trivial | refine ⟨fun _ => by first | rfl | assumption | exact one_if (by assumption), ?_⟩ | refine ⟨fun ⟨_, h⟩ => by simp at h, ?_⟩)) rfl) ?_
  refine l_e rfl (fun K hK => ?_)
  refine e_alloc (zv := .agg #[.string ⟨#[]⟩, .slice none 0 0, .int .i64 0, .int .i64 0, .slice none 0 0]) hS3o (by kernel_rfl) (fun b4 w4 (hS4 : St _ _ [.blk b4 (.cells #[.string (bs []), .slice none 0 0, .int .i64 (0 : Int), .int .i64 (0 : Int), .slice none 0 0] 29), .ow 25 3 (some ⟨b3, 0, none⟩) 1 1 (List.flatMap cc [Co.mk [97] 2 true])] _) => ?_)
  clear hS3o
  refine hK _ _ ?_; clear hK K
  refine l_e rfl (fun K hK => ?_)
  refine e_storeA hS4 rfl rfl (by kernel_rfl) (by repeat' (first | exact trivial | refine ⟨by first | rfl | assumption | exact one_if (by assumption), ?_⟩)) (i := 0) rfl rfl (fun w5 (hS5 : St _ _ [.blk b4 (.cells #[.string (bs [116]), .slice (some ⟨b3, 0, none⟩) 1 1, .int .i64 (1 : Int), .int .i64 (0 : Int), .slice none 0 0] 29), .ow 25 3 (some ⟨b3, 0, none⟩) 1 1 (List.flatMap cc [Co.mk [97] 2 true])] _) => ?_)
  clear hS4
  refine hK _ _ ?_; clear hK K
  refine l_nil ?_
  refine hK2 _ _ ?_
  refine wp_seq_k (fun K6 hK6 => ?_)
  refine wp_region_lit ?_
  refine l_q rfl rfl (q_assignI rfl) ?_
  refine l_nil ?_
  refine hK6 _ _ ?_
  refine wp_seq_k (fun K7 hK7 => ?_)
  refine wp_seq_k (fun K8 hK8 => ?_)
  refine wp_region_lit ?_
  refine l_q rfl rfl (q_assignI rfl) ?_
  refine l_nil ?_
  refine hK8 _ _ ?_
  refine wp_block ?_
  have hS9 : St _ _ [.ow 32 3 none 0 0 (List.flatMap vl []), .blk b4 (.cells #[.string (bs [116]), .slice (some ⟨b3, 0, none⟩) 1 1, .int .i64 (1 : Int), .int .i64 (0 : Int), .slice none 0 0] 29), .ow 25 3 (some ⟨b3, 0, none⟩) 1 1 (List.flatMap cc [Co.mk [97] 2 true])] _ := hS5.ow_nil 32 3; clear hS5
  have hS10 := hS9.fr2; clear hS9
  have hS11 := hS10.fr1; clear hS10
  have hS12 := hS11.fr2; clear hS11
  refine c_loop (τ := Nat × (Option Addr) × Nat) [(4, 4), (6, 7), (13, 55)] (fun x => (fun (i : Nat) (ad : Option Addr) (cap : Nat) => [(7, .int .i64 ((i : Nat) : Int)), (6, .int .i64 (((cntN (bds.take i) n) : Nat) : Int))]) x.1 x.2.1 x.2.2) (fun x w' => (fun (i : Nat) (ad : Option Addr) (cap : Nat) => St w (fun _ => False) [.blk b4 (.cells #[.string (bs [116]), .slice (some ⟨b3, 0, none⟩) 1 1, .int .i64 (1 : Int), .int .i64 (0 : Int), .slice ad i cap] 29), .ow 32 3 ad i cap (List.flatMap vl ((bds.take i).map bI)), .ow 25 3 (some ⟨b3, 0, none⟩) 1 1 (List.flatMap cc [Co.mk [97] 2 true])] w' ∧ i ≤ bds.length ∧ i ≤ 60 ∧ RiTo bds i) x.1 x.2.1 x.2.2) (fun x => (fun (i : Nat) (ad : Option Addr) (cap : Nat) => bds.length - i) x.1 x.2.1 x.2.2) (⟨0, none, 0⟩) ?_ (by refine ⟨rfl, ⟨congrArg (fun n : Nat => Value.int .i64 (n : Int)) (cnt_0 bds n), trivial⟩⟩) (fun x13 j13 w13 hJ13 K13 hK13 => ?_)
  ·
    exact ⟨hS12, Nat.zero_le _, Nat.zero_le _, RiTo.zero _⟩
  ·
    obtain ⟨i, ad, cap⟩ := x13
    obtain ⟨hS13, hi, hi6, hri⟩ := hJ13
    try dsimp only at hS13 hi hi6 hri ⊢
    have hcl := cnt_le (bds.take i) n
    rw [List.length_take] at hcl
    refine wp_seq_k (fun K14 hK14 => ?_)
    refine wp_seq_k (fun K15 hK15 => ?_)
    refine wp_region_lit ?_
    refine l_q rfl rfl (q_moveI rfl) ?_
    refine l_q rfl rfl (q_moveS rfl) ?_
    refine l_q rfl rfl (q_lenSl (e := 2) rfl (by kernel_rfl)) ?_
    refine l_q rfl rfl (q_lss rfl rfl) ?_
    refine l_nil ?_
    refine hK15 _ _ ?_
    refine c_cond rfl (fun hc16 => ?_) (fun hc16 => ?_)
    ·
      have hc16b := hc16
      try simp only [decide_eq_true_eq, decide_eq_false_iff_not, Bool.not_eq_true', Bool.not_eq_false', Bool.and_eq_true, Bool.or_eq_true, Int.not_lt, Int.not_le, ne_eq, Decidable.not_not] at hc16
      refine wp_skip ?_
      refine hK14 _ _ ?_
      refine wp_seq_k (fun K17 hK17 => ?_)
      refine wp_block ?_
      refine wp_seq_k (fun K18 hK18 => ?_)
      refine wp_seq_k (fun K19 hK19 => ?_)
      refine r_any (by kernel_rfl) hS13 (fun w20 hS20 => ?_)
      clear hS13
      refine o_pure (i := 0) (fun _ _ => trivial) rfl rfl (by kernel_rfl) (goes0 rfl) (QOk.then (QOk.then (QOk.inBlock (QOk.then (QOk.then (QOk.inBlock (QOk.then QOk.body))))))) (fun w => q_moveI rfl) ?_
      refine o_pure (i := 1) (fun _ _ => trivial) rfl rfl (by kernel_rfl) (goes0 rfl) (QOk.then (QOk.then (QOk.inBlock (QOk.then (QOk.then (QOk.inBlock (QOk.then QOk.body))))))) (fun w => q_eql rfl rfl) ?_
      refine o_pure (i := 2) (fun _ _ => trivial) rfl rfl (by kernel_rfl) (goes0 rfl) (QOk.then (QOk.then (QOk.inBlock (QOk.then (QOk.then (QOk.inBlock (QOk.then QOk.body))))))) (fun w => q_moveB rfl) ?_
      refine g_splitO (t := 21) rfl (fun hg21 => ?_) (fun hg21 => ?_)
      ·
        have hg21b := hg21
        try simp only [decide_eq_true_eq, decide_eq_false_iff_not, Bool.not_eq_true', Bool.not_eq_false', Bool.and_eq_true, Bool.or_eq_true, Int.not_lt, Int.not_le, ne_eq, Decidable.not_not] at hg21
        refine o_off (i := 3) (fun _ _ => trivial) rfl rfl (by kernel_rfl) rfl rfl hg21b (QOk.then (QOk.then (QOk.inBlock (QOk.then (QOk.then (QOk.inBlock (QOk.then QOk.body))))))) ?_
        refine o_off (i := 4) (fun _ _ => trivial) rfl rfl (by kernel_rfl) rfl rfl hg21b (QOk.then (QOk.then (QOk.inBlock (QOk.then (QOk.then (QOk.inBlock (QOk.then QOk.body))))))) ?_
        refine o_off (i := 5) (fun _ _ => trivial) rfl rfl (by kernel_rfl) rfl rfl hg21b (QOk.then (QOk.then (QOk.inBlock (QOk.then (QOk.then (QOk.inBlock (QOk.then QOk.body))))))) ?_
        refine o_offN (i := 6) (fun _ _ => trivial) rfl rfl (by kernel_rfl) rfl rfl (QOk.then (QOk.then (QOk.inBlock (QOk.then (QOk.then (QOk.inBlock (QOk.then QOk.body))))))) ?_
        refine o_offN (i := 7) (fun _ _ => trivial) rfl rfl (by kernel_rfl) rfl rfl (QOk.then (QOk.then (QOk.inBlock (QOk.then (QOk.then (QOk.inBlock (QOk.then QOk.body))))))) ?_
        refine o_offN (i := 8) (fun _ _ => trivial) rfl rfl (by kernel_rfl) rfl rfl (QOk.then (QOk.then (QOk.inBlock (QOk.then (QOk.then (QOk.inBlock (QOk.then QOk.body))))))) ?_
        refine o_offN (i := 9) (fun _ _ => trivial) rfl rfl (by kernel_rfl) rfl rfl (QOk.then (QOk.then (QOk.inBlock (QOk.then (QOk.then (QOk.inBlock (QOk.then QOk.body))))))) ?_
        refine o_offN (i := 10) (fun _ _ => trivial) rfl rfl (by kernel_rfl) rfl rfl (QOk.then (QOk.then (QOk.inBlock (QOk.then (QOk.then (QOk.inBlock (QOk.then QOk.body))))))) ?_
        refine o_offN (i := 11) (fun _ _ => trivial) rfl rfl (by kernel_rfl) rfl rfl (QOk.then (QOk.then (QOk.inBlock (QOk.then (QOk.then (QOk.inBlock (QOk.then QOk.body))))))) ?_
        refine o_offN (i := 12) (fun _ _ => trivial) rfl rfl (by kernel_rfl) rfl rfl (QOk.then (QOk.then (QOk.inBlock (QOk.then (QOk.then (QOk.inBlock (QOk.then QOk.body))))))) ?_
        refine o_offN (i := 13) (fun _ _ => trivial) rfl rfl (by kernel_rfl) rfl rfl (QOk.then (QOk.then (QOk.inBlock (QOk.then (QOk.then (QOk.inBlock (QOk.then QOk.body))))))) ?_
        refine o_offN (i := 14) (fun _ _ => trivial) rfl rfl (by kernel_rfl) rfl rfl (QOk.then (QOk.then (QOk.inBlock (QOk.then (QOk.then (QOk.inBlock (QOk.then QOk.body))))))) ?_
        refine o_offN (i := 15) (fun _ _ => trivial) rfl rfl (by kernel_rfl) rfl rfl (QOk.then (QOk.then (QOk.inBlock (QOk.then (QOk.then (QOk.inBlock (QOk.then QOk.body))))))) ?_
        refine o_off (i := 16) (fun _ _ => trivial) rfl rfl (by kernel_rfl) rfl rfl hg21b (QOk.then (QOk.then (QOk.inBlock (QOk.then (QOk.then (QOk.inBlock (QOk.then QOk.body))))))) ?_
        refine o_pure (i := 17) (fun _ _ => trivial) rfl rfl (by kernel_rfl) (goes0 rfl) (QOk.then (QOk.then (QOk.inBlock (QOk.then (QOk.then (QOk.inBlock (QOk.then QOk.body))))))) (fun w => q_pickT rfl hg21b rfl) ?_
        refine o_done (by kernel_rfl) ?_
        refine hK19 _ _ ?_
        refine c_condT rfl rfl ?_
        refine wp_seq_k (fun K23 hK23 => ?_)
        refine wp_region_lit ?_
        refine l_e rfl (fun K hK => ?_)
        refine e_call (by kernel_rfl) (alive18_ok _) rfl (after_R hS20 (fun v24 w24 hv24 hS24 => ?_))
        clear hS20
        obtain rfl := hv24
        refine hK _ _ ?_; clear hK K
        refine l_q rfl rfl (q_assignB rfl) ?_
        refine l_nil ?_
        refine hK23 _ _ ?_
        refine wp_ret ?_
        refine c_ret1 rfl rfl ?_
        exact ⟨_, rfl, rfl, hS24.drop⟩
      ·
        have hg21b := hg21
        try simp only [decide_eq_true_eq, decide_eq_false_iff_not, Bool.not_eq_true', Bool.not_eq_false', Bool.and_eq_true, Bool.or_eq_true, Int.not_lt, Int.not_le, ne_eq, Decidable.not_not] at hg21
        refine o_pure (i := 3) (fun _ _ => trivial) rfl rfl (by kernel_rfl) (goes1 rfl rfl hg21b) (QOk.then (QOk.then (QOk.inBlock (QOk.then (QOk.then (QOk.inBlock (QOk.then QOk.body))))))) (fun w => q_moveI rfl) ?_
        refine o_pure (i := 4) (fun _ _ => trivial) rfl rfl (by kernel_rfl) (goes1 rfl rfl hg21b) (QOk.then (QOk.then (QOk.inBlock (QOk.then (QOk.then (QOk.inBlock (QOk.then QOk.body))))))) (fun w => q_gtr rfl rfl) ?_
        refine o_pure (i := 5) (fun _ _ => trivial) rfl rfl (by kernel_rfl) (goes1 rfl rfl hg21b) (QOk.then (QOk.then (QOk.inBlock (QOk.then (QOk.then (QOk.inBlock (QOk.then QOk.body))))))) (fun w => q_moveB rfl) ?_
        refine g_splitO (t := 24) rfl (fun hg25 => ?_) (fun hg25 => ?_)
        ·
          have hg25b := hg25
          try simp only [decide_eq_true_eq, decide_eq_false_iff_not, Bool.not_eq_true', Bool.not_eq_false', Bool.and_eq_true, Bool.or_eq_true, Int.not_lt, Int.not_le, ne_eq, Decidable.not_not] at hg25
          refine o_pure (i := 6) (fun _ _ => trivial) rfl rfl (by kernel_rfl) (goes1 rfl rfl hg25b) (QOk.then (QOk.then (QOk.inBlock (QOk.then (QOk.then (QOk.inBlock (QOk.then QOk.body))))))) (fun w => q_moveS rfl) ?_
          refine o_pure (i := 7) (fun _ _ => trivial) rfl rfl (by kernel_rfl) (goes1 rfl rfl hg25b) (QOk.then (QOk.then (QOk.inBlock (QOk.then (QOk.then (QOk.inBlock (QOk.then QOk.body))))))) (fun w => q_moveI rfl) ?_
          refine o_pure (i := 8) (fun _ _ => trivial) rfl rfl (by kernel_rfl) (goes1 rfl rfl hg25b) (QOk.then (QOk.then (QOk.inBlock (QOk.then (QOk.then (QOk.inBlock (QOk.then QOk.body))))))) (fun w => q_ixG (e := 2) (m := 1) (j := i) rfl rfl (by kernel_rfl) (by kernel_rfl) (by first | rfl | omega) (by omega) hG (by rw [iv_len]; first | omega | (simp only [List.length_append, List.length_map, List.length_cons, List.length_nil, List.length_take, List.length_drop, List.length_set] <;> omega))) ?_
          obtain ⟨x26, hx26⟩ : ∃ x, (bds)[i]? = some x := ⟨_, List.getElem?_eq_getElem (by first | omega | (simp only [List.length_append, List.length_map, List.length_cons, List.length_nil, List.length_take, List.length_drop, List.length_set] <;> omega) | (simp <;> omega))⟩
          refine o_held (i := 9) [15, 16, 17] (fun _ _ => trivial) rfl rfl (by kernel_rfl) (goes1 rfl rfl hg25b) (QOk.then (QOk.then (QOk.inBlock (QOk.then (QOk.then (QOk.inBlock (QOk.then QOk.body))))))) (q_load1 rfl (by kernel_rfl) (SlG.cell (hG.mono hS20.base) (Gle.refl _) (at1 (iv_at hx26)))) ?_
          refine o_pure (i := 10) (fun j w => ⟨(fun _ _ => trivial) j w, fun _ h => h⟩) rfl rfl (by kernel_rfl) (goes1 rfl rfl hg25b) (QOk.then (QOk.then (QOk.inBlock (QOk.then (QOk.then (QOk.inBlock (QOk.then QOk.body))))))) (fun w => q_moveS rfl) ?_
          refine o_pure (i := 11) (fun j w => ⟨(fun _ _ => trivial) j w, fun _ h => h⟩) rfl rfl (by kernel_rfl) (goes1 rfl rfl hg25b) (QOk.then (QOk.then (QOk.inBlock (QOk.then (QOk.then (QOk.inBlock (QOk.then QOk.body))))))) (fun w => q_moveI rfl) ?_
          refine o_pure (i := 12) (fun j w => ⟨(fun _ _ => trivial) j w, fun _ h => h⟩) rfl rfl (by kernel_rfl) (goes1 rfl rfl hg25b) (QOk.then (QOk.then (QOk.inBlock (QOk.then (QOk.then (QOk.inBlock (QOk.then QOk.body))))))) (fun w => q_subx rfl rfl (by first | decide | omega) (by first | decide | omega)) ?_
          refine o_pure (i := 13) (fun j w => ⟨(fun _ _ => trivial) j w, fun _ h => h⟩) rfl rfl (by kernel_rfl) (goes1 rfl rfl hg25b) (QOk.then (QOk.then (QOk.inBlock (QOk.then (QOk.then (QOk.inBlock (QOk.then QOk.body))))))) (fun w => q_ixG (e := 2) (m := 1) (j := (i - 1)) rfl rfl (by kernel_rfl) (by kernel_rfl) (by first | rfl | omega) (by omega) hG (by rw [iv_len]; first | omega | (simp only [List.length_append, List.length_map, List.length_cons, List.length_nil, List.length_take, List.length_drop, List.length_set] <;> omega))) ?_
          obtain ⟨x27, hx27⟩ : ∃ x, (bds)[(i - 1)]? = some x := ⟨_, List.getElem?_eq_getElem (by first | omega | (simp only [List.length_append, List.length_map, List.length_cons, List.length_nil, List.length_take, List.length_drop, List.length_set] <;> omega) | (simp <;> omega))⟩
          refine o_held (i := 14) [15, 16, 17] (fun j w => ⟨(fun _ _ => trivial) j w, fun _ h => h⟩) rfl rfl (by kernel_rfl) (goes1 rfl rfl hg25b) (QOk.then (QOk.then (QOk.inBlock (QOk.then (QOk.then (QOk.inBlock (QOk.then QOk.body))))))) (q_load1 rfl (by kernel_rfl) (SlG.cell (hG.mono hS20.base) (Gle.refl _) (at1 (iv_at hx27)))) ?_
          refine o_pure (i := 15) (fun j w => ⟨(fun j w => ⟨(fun _ _ => trivial) j w, fun _ h => h⟩) j w, fun _ h => h⟩) rfl rfl (by kernel_rfl) (goes1 rfl rfl hg25b) (QOk.then (QOk.then (QOk.inBlock (QOk.then (QOk.then (QOk.inBlock (QOk.then QOk.body))))))) (fun w => q_leq rfl rfl) ?_
          refine o_pure (i := 16) (fun j w => ⟨(fun j w => ⟨(fun _ _ => trivial) j w, fun _ h => h⟩) j w, fun _ h => h⟩) rfl rfl (by kernel_rfl) (goes1 rfl rfl hg21b) (QOk.then (QOk.then (QOk.inBlock (QOk.then (QOk.then (QOk.inBlock (QOk.then QOk.body))))))) (fun w => q_pickT rfl hg25b rfl) ?_
          refine o_pure (i := 17) (fun j w => ⟨(fun j w => ⟨(fun _ _ => trivial) j w, fun _ h => h⟩) j w, fun _ h => h⟩) rfl rfl (by kernel_rfl) (goes0 rfl) (QOk.then (QOk.then (QOk.inBlock (QOk.then (QOk.then (QOk.inBlock (QOk.then QOk.body))))))) (fun w => q_pickF rfl hg21b rfl) ?_
          refine o_done (by kernel_rfl) ?_
          refine hK19 _ _ ?_
          refine c_cond rfl (fun hc28 => ?_) (fun hc28 => ?_)
          ·
            have hc28b := hc28
            try simp only [decide_eq_true_eq, decide_eq_false_iff_not, Bool.not_eq_true', Bool.not_eq_false', Bool.and_eq_true, Bool.or_eq_true, Int.not_lt, Int.not_le, ne_eq, Decidable.not_not] at hc28
            refine wp_seq_k (fun K29 hK29 => ?_)
            refine wp_region_lit ?_
            refine l_e rfl (fun K hK => ?_)
            refine e_call (by kernel_rfl) (alive18_ok _) rfl (after_R hS20 (fun v30 w30 hv30 hS30 => ?_))
            clear hS20
            obtain rfl := hv30
            refine hK _ _ ?_; clear hK K
            refine l_q rfl rfl (q_assignB rfl) ?_
            refine l_nil ?_
            refine hK29 _ _ ?_
            refine wp_ret ?_
            refine c_ret1 rfl rfl ?_
            exact ⟨_, rfl, rfl, hS30.drop⟩
          ·
            have hc28b := hc28
            try simp only [decide_eq_true_eq, decide_eq_false_iff_not, Bool.not_eq_true', Bool.not_eq_false', Bool.and_eq_true, Bool.or_eq_true, Int.not_lt, Int.not_le, ne_eq, Decidable.not_not] at hc28
            refine wp_skip ?_
            refine hK18 _ _ ?_
            refine wp_seq_k (fun K31 hK31 => ?_)
            refine r_any (by kernel_rfl) hS20 (fun w32 hS32 => ?_)
            clear hS20
            refine o_pure (i := 0) (fun _ _ => trivial) rfl rfl (by kernel_rfl) (goes0 rfl) (QOk.then (QOk.inBlock (QOk.then (QOk.then (QOk.inBlock (QOk.then QOk.body)))))) (fun w => q_fieldAddr (ft := 27) (o := 4) rfl (by kernel_rfl)) ?_
            refine o_held (i := 1) [8, 9, 10] (fun _ _ => trivial) rfl rfl (by kernel_rfl) (goes0 rfl) (QOk.then (QOk.inBlock (QOk.then (QOk.then (QOk.inBlock (QOk.then QOk.body)))))) (q_load1 rfl (by kernel_rfl) (hS32.cell (i := 0) rfl rfl)) ?_
            refine o_pure (i := 2) (fun j w => ⟨(fun _ _ => trivial) j w, fun _ h => h⟩) rfl rfl (by kernel_rfl) (goes0 rfl) (QOk.then (QOk.inBlock (QOk.then (QOk.then (QOk.inBlock (QOk.then QOk.body)))))) (fun w => q_moveS rfl) ?_
            refine o_pure (i := 3) (fun j w => ⟨(fun _ _ => trivial) j w, fun _ h => h⟩) rfl rfl (by kernel_rfl) (goes0 rfl) (QOk.then (QOk.inBlock (QOk.then (QOk.then (QOk.inBlock (QOk.then QOk.body)))))) (fun w => q_moveI rfl) ?_
            refine o_pure (i := 4) (fun j w => ⟨(fun _ _ => trivial) j w, fun _ h => h⟩) rfl rfl (by kernel_rfl) (goes0 rfl) (QOk.then (QOk.inBlock (QOk.then (QOk.then (QOk.inBlock (QOk.then QOk.body)))))) (fun w => q_ixG (e := 2) (m := 1) (j := i) rfl rfl (by kernel_rfl) (by kernel_rfl) (by first | rfl | omega) (by omega) hG (by rw [iv_len]; first | omega | (simp only [List.length_append, List.length_map, List.length_cons, List.length_nil, List.length_take, List.length_drop, List.length_set] <;> omega))) ?_
            refine o_held (i := 5) [6, 7, 8, 9, 10] (fun j w => ⟨(fun _ _ => trivial) j w, fun _ h => h⟩) rfl rfl (by kernel_rfl) (goes0 rfl) (QOk.then (QOk.inBlock (QOk.then (QOk.then (QOk.inBlock (QOk.then QOk.body)))))) (q_load1 rfl (by kernel_rfl) (SlG.cell (hG.mono hS32.base) (Gle.refl _) (at1 (iv_at hx26)))) ?_
            refine o_pure (i := 6) (fun j w => ⟨(fun j w => ⟨(fun _ _ => trivial) j w, fun _ h => h⟩) j w, fun _ h => h⟩) rfl rfl (by kernel_rfl) (goes0 rfl) (QOk.then (QOk.inBlock (QOk.then (QOk.then (QOk.inBlock (QOk.then QOk.body)))))) (fun w => q_build (ps := [(0, 1), (1, 1), (2, 1)]) (zv := .agg #[.int .i64 0, .int .i64 0, .string ⟨#[]⟩]) (by kernel_rfl) (by kernel_rfl) rfl (by repeat' (first | exact trivial | refine ⟨fun _ => by first | rfl | assumption | exact one_if (by assumption), ?_⟩ | refine ⟨fun ⟨_, h⟩ => by simp at h, ?_⟩)) rfl) ?_
            refine o_eff (i := 7) (by kernel_rfl) rfl (goes0 rfl) (fun K hK => ?_)
            refine e_buildSliceA (e := 32) (m := 3) (zv := .agg #[.int .i64 0, .int .i64 0, .string ⟨#[]⟩]) hS32 (by kernel_rfl) (by kernel_rfl) (by kernel_rfl) rfl rfl rfl rfl (fun b33 w33 (hS33 : St _ _ [.blk b33 (.cells #[.int .i64 (2 : Int), .int .i64 x26, .string (bs [])] 32), .blk b4 (.cells #[.string (bs [116]), .slice (some ⟨b3, 0, none⟩) 1 1, .int .i64 (1 : Int), .int .i64 (0 : Int), .slice ad i cap] 29), .ow 32 3 ad i cap (List.flatMap vl ((bds.take i).map bI)), .ow 25 3 (some ⟨b3, 0, none⟩) 1 1 (List.flatMap cc [Co.mk [97] 2 true])] _) => ?_)
            clear hS32
            have hS33o : St _ _ [.ow 32 3 (some ⟨b33, 0, none⟩) 1 1 (List.flatMap vl [((2 : Int), x26, ([] : List Nat))]), .blk b4 (.cells #[.string (bs [116]), .slice (some ⟨b3, 0, none⟩) 1 1, .int .i64 (1 : Int), .int .i64 (0 : Int), .slice ad i cap] 29), .ow 32 3 ad i cap (List.flatMap vl ((bds.take i).map bI)), .ow 25 3 (some ⟨b3, 0, none⟩) 1 1 (List.flatMap cc [Co.mk [97] 2 true])] _ := hS33.blkOw' (i := 0) (m := 1) (size := 3) (xs := List.flatMap vl [((2 : Int), x26, ([] : List Nat))]) rfl rfl rfl (by decide); clear hS33
            refine hK _ _ ⟨⟨trivial, fun _ _ => by first | exact q_load1 rfl (by kernel_rfl) (hS33o.cell (i := 1) rfl rfl)⟩, fun h => absurd h (by decide)⟩ ?_; clear hK K
            refine o_eff (i := 8) (by kernel_rfl) rfl (goes0 rfl) (fun K hK => ?_)
            refine e_app (e := 32) (size := 3) (bytes := 32) (i := 2) (m' := (i + 1)) (by kernel_rfl) hS33o rfl rfl rfl (SlG.src (e := 32) (by kernel_rfl) (hS33o.owG (i := 0) rfl) ((rows_len (c := vl) (m := 3) (fun _ => rfl) _).trans (by first | rfl | (simp only [List.length_append, List.length_map, List.length_cons, List.length_nil, List.length_take, List.length_drop, List.length_set]; done) | (simp only [List.length_append, List.length_map, List.length_cons, List.length_nil, List.length_take, List.length_drop, List.length_set]; omega) | omega)) (by decide) (rows_one vl_ones)) (by first | omega | (simp only [List.length_append, List.length_map, List.length_cons, List.length_nil, List.length_take, List.length_drop, List.length_set] <;> omega) | (simp; done)) rows_app (by first | omega | (simp only [maxLen, List.length_append, List.length_map, List.length_cons, List.length_nil, List.length_take, List.length_drop, List.length_set] <;> omega) | (simp only [maxLen]; omega)) (by first | omega | (simp only [List.length_append, List.length_map, List.length_cons, List.length_nil, List.length_take, List.length_drop, List.length_set] <;> omega)) (fun ad34 cp34 w34 (hS34 : St _ _ [.ow 32 3 (some ⟨b33, 0, none⟩) 1 1 (List.flatMap vl [((2 : Int), x26, ([] : List Nat))]), .blk b4 (.cells #[.string (bs [116]), .slice (some ⟨b3, 0, none⟩) 1 1, .int .i64 (1 : Int), .int .i64 (0 : Int), .slice ad i cap] 29), .ow 32 3 ad34 (i + 1) cp34 (List.flatMap vl (((bds.take i).map bI) ++ [((2 : Int), x26, ([] : List Nat))])), .ow 25 3 (some ⟨b3, 0, none⟩) 1 1 (List.flatMap cc [Co.mk [97] 2 true])] _) => ?_)
            clear hS33o
            refine hK _ _ ⟨⟨trivial, fun h => absurd h (by decide)⟩, fun h => absurd h (by decide)⟩ ?_; clear hK K
            refine o_pure (i := 9) (fun j w => ⟨(fun j w => ⟨(fun _ _ => trivial) j w, fun _ h => h⟩) j w, fun _ h => h⟩) rfl rfl (by kernel_rfl) (goes0 rfl) (QOk.then (QOk.inBlock (QOk.then (QOk.then (QOk.inBlock (QOk.then QOk.body)))))) (fun w => q_fieldAddr (ft := 27) (o := 4) rfl (by kernel_rfl)) ?_
            refine o_eff (i := 10) (by kernel_rfl) rfl (goes0 rfl) (fun K hK => ?_)
            refine e_store1 hS34 rfl rfl (by kernel_rfl) (by first | rfl | assumption) (i := 1) rfl rfl (fun w35 (hS35 : St _ _ [.ow 32 3 (some ⟨b33, 0, none⟩) 1 1 (List.flatMap vl [((2 : Int), x26, ([] : List Nat))]), .blk b4 (.cells #[.string (bs [116]), .slice (some ⟨b3, 0, none⟩) 1 1, .int .i64 (1 : Int), .int .i64 (0 : Int), .slice ad34 (i + 1) cp34] 29), .ow 32 3 ad34 (i + 1) cp34 (List.flatMap vl (((bds.take i).map bI) ++ [((2 : Int), x26, ([] : List Nat))])), .ow 25 3 (some ⟨b3, 0, none⟩) 1 1 (List.flatMap cc [Co.mk [97] 2 true])] _) => ?_)
            clear hS34
            refine hK _ _ ⟨⟨trivial, fun h => absurd h (by decide)⟩, fun h => absurd h (by decide)⟩ ?_; clear hK K
            refine o_done (by kernel_rfl) ?_
            refine hK31 _ _ ?_
            refine wp_seq_k (fun K36 hK36 => ?_)
            refine wp_region_lit ?_
            refine l_q rfl rfl (q_moveS rfl) ?_
            refine l_q rfl rfl (q_moveI rfl) ?_
            refine l_q rfl rfl (q_ixG (e := 2) (m := 1) (j := i) rfl rfl (by kernel_rfl) (by kernel_rfl) (by first | rfl | omega) (by omega) hG (by rw [iv_len]; first | omega | (simp only [List.length_append, List.length_map, List.length_cons, List.length_nil, List.length_take, List.length_drop, List.length_set] <;> omega))) ?_
            refine l_q rfl rfl (q_load1 rfl (by kernel_rfl) (SlG.cell (hG.mono hS35.base) (Gle.refl _) (at1 (iv_at hx26)))) ?_
            refine l_q rfl rfl (q_moveI rfl) ?_
            refine l_q rfl rfl (q_leq rfl rfl) ?_
            refine l_nil ?_
            refine hK36 _ _ ?_
            refine c_cond rfl (fun hc37 => ?_) (fun hc37 => ?_)
            ·
              have hc37b := hc37
              try simp only [decide_eq_true_eq, decide_eq_false_iff_not, Bool.not_eq_true', Bool.not_eq_false', Bool.and_eq_true, Bool.or_eq_true, Int.not_lt, Int.not_le, ne_eq, Decidable.not_not] at hc37
              refine wp_region_lit ?_
              refine l_q rfl rfl (q_moveI rfl) ?_
              refine l_q rfl rfl (q_addx rfl rfl (by first | decide | omega) (by first | decide | omega)) ?_
              refine l_q rfl rfl (q_assignI rfl) ?_
              refine l_nil ?_
              refine hK17 _ _ ?_
              refine wp_region_lit ?_
              refine l_q rfl rfl (q_moveI rfl) ?_
              refine l_q rfl rfl (q_addx rfl rfl (by first | decide | omega) (by first | decide | omega)) ?_
              refine l_q rfl rfl (q_assignI rfl) ?_
              refine l_nil ?_
              have hnew := bI_take hx26
              have hS38 : St _ _ [.ow 32 3 (some ⟨b33, 0, none⟩) 1 1 (List.flatMap vl [((2 : Int), x26, ([] : List Nat))]), .blk b4 (.cells #[.string (bs [116]), .slice (some ⟨b3, 0, none⟩) 1 1, .int .i64 (1 : Int), .int .i64 (0 : Int), .slice ad34 (i + 1) cp34] 29), .ow 32 3 ad34 (i + 1) cp34 (List.flatMap vl ((bds.take (i + 1)).map bI)), .ow 25 3 (some ⟨b3, 0, none⟩) 1 1 (List.flatMap cc [Co.mk [97] 2 true])] _ := hS35.cast (by rw [← hnew]); clear hS35
              have hS39 := hS38.fr3; clear hS38
              have hS40 := hS39.fr3; clear hS39
              have hS41 := hS40.fr3; clear hS40
              have hS42 : St _ _ [.blk b4 (.cells #[.string (bs [116]), .slice (some ⟨b3, 0, none⟩) 1 1, .int .i64 (1 : Int), .int .i64 (0 : Int), .slice ad34 (i + 1) cp34] 29), .ow 32 3 ad34 (i + 1) cp34 (List.flatMap vl ((bds.take (i + 1)).map bI)), .ow 25 3 (some ⟨b3, 0, none⟩) 1 1 (List.flatMap cc [Co.mk [97] 2 true])] _ := hS41.only 3; clear hS41
              refine hK13 _ _ (came (⟨(i + 1), ad34, cp34⟩) (by repeat' (first | exact Agree.refl _ _ | refine Agree.up ?_ rfl | refine Agree.hav2 ?_ rfl | refine Agree.ups2 ?_ rfl)) (by refine ⟨int_succ _, ⟨by first | exact congrArg (Value.int .i64) (by rw [cnt_take hx26, if_pos (by omega)]; omega) | exact congrArg (Value.int .i64) (by rw [cnt_take hx26, if_neg (by omega)]; omega), trivial⟩⟩) ?_)
              exact ⟨⟨hS42, (by show i + 1 ≤ bds.length; omega), (by show i + 1 ≤ 60; omega), hri.next hx26 (fun u h0 hu => by first | omega | (have e := Option.some.inj (hu.symm.trans hx27); subst e; omega))⟩, by (show bds.length - (i + 1) < bds.length - i); omega⟩
            ·
              have hc37b := hc37
              try simp only [decide_eq_true_eq, decide_eq_false_iff_not, Bool.not_eq_true', Bool.not_eq_false', Bool.and_eq_true, Bool.or_eq_true, Int.not_lt, Int.not_le, ne_eq, Decidable.not_not] at hc37
              refine wp_skip ?_
              refine hK17 _ _ ?_
              refine wp_region_lit ?_
              refine l_q rfl rfl (q_moveI rfl) ?_
              refine l_q rfl rfl (q_addx rfl rfl (by first | decide | omega) (by first | decide | omega)) ?_
              refine l_q rfl rfl (q_assignI rfl) ?_
              refine l_nil ?_
              have hnew := bI_take hx26
              have hS43 : St _ _ [.ow 32 3 (some ⟨b33, 0, none⟩) 1 1 (List.flatMap vl [((2 : Int), x26, ([] : List Nat))]), .blk b4 (.cells #[.string (bs [116]), .slice (some ⟨b3, 0, none⟩) 1 1, .int .i64 (1 : Int), .int .i64 (0 : Int), .slice ad34 (i + 1) cp34] 29), .ow 32 3 ad34 (i + 1) cp34 (List.flatMap vl ((bds.take (i + 1)).map bI)), .ow 25 3 (some ⟨b3, 0, none⟩) 1 1 (List.flatMap cc [Co.mk [97] 2 true])] _ := hS35.cast (by rw [← hnew]); clear hS35
              have hS44 := hS43.fr3; clear hS43
              have hS45 := hS44.fr3; clear hS44
              have hS46 := hS45.fr3; clear hS45
              have hS47 : St _ _ [.blk b4 (.cells #[.string (bs [116]), .slice (some ⟨b3, 0, none⟩) 1 1, .int .i64 (1 : Int), .int .i64 (0 : Int), .slice ad34 (i + 1) cp34] 29), .ow 32 3 ad34 (i + 1) cp34 (List.flatMap vl ((bds.take (i + 1)).map bI)), .ow 25 3 (some ⟨b3, 0, none⟩) 1 1 (List.flatMap cc [Co.mk [97] 2 true])] _ := hS46.only 3; clear hS46
              refine hK13 _ _ (came (⟨(i + 1), ad34, cp34⟩) (by repeat' (first | exact Agree.refl _ _ | refine Agree.up ?_ rfl | refine Agree.hav2 ?_ rfl | refine Agree.ups2 ?_ rfl)) (by refine ⟨int_succ _, ⟨by first | exact congrArg (Value.int .i64) (by rw [cnt_take hx26, if_pos (by omega)]; omega) | exact congrArg (Value.int .i64) (by rw [cnt_take hx26, if_neg (by omega)]; omega), trivial⟩⟩) ?_)
              exact ⟨⟨hS47, (by show i + 1 ≤ bds.length; omega), (by show i + 1 ≤ 60; omega), hri.next hx26 (fun u h0 hu => by first | omega | (have e := Option.some.inj (hu.symm.trans hx27); subst e; omega))⟩, by (show bds.length - (i + 1) < bds.length - i); omega⟩
        ·
          have hg25b := hg25
          try simp only [decide_eq_true_eq, decide_eq_false_iff_not, Bool.not_eq_true', Bool.not_eq_false', Bool.and_eq_true, Bool.or_eq_true, Int.not_lt, Int.not_le, ne_eq, Decidable.not_not] at hg25
          refine o_off (i := 6) (fun _ _ => trivial) rfl rfl (by kernel_rfl) rfl rfl hg25b (QOk.then (QOk.then (QOk.inBlock (QOk.then (QOk.then (QOk.inBlock (QOk.then QOk.body))))))) ?_
          refine o_off (i := 7) (fun _ _ => trivial) rfl rfl (by kernel_rfl) rfl rfl hg25b (QOk.then (QOk.then (QOk.inBlock (QOk.then (QOk.then (QOk.inBlock (QOk.then QOk.body))))))) ?_
          refine o_off (i := 8) (fun _ _ => trivial) rfl rfl (by kernel_rfl) rfl rfl hg25b (QOk.then (QOk.then (QOk.inBlock (QOk.then (QOk.then (QOk.inBlock (QOk.then QOk.body))))))) ?_
          refine o_off (i := 9) (fun _ _ => trivial) rfl rfl (by kernel_rfl) rfl rfl hg25b (QOk.then (QOk.then (QOk.inBlock (QOk.then (QOk.then (QOk.inBlock (QOk.then QOk.body))))))) ?_
          refine o_off (i := 10) (fun _ _ => trivial) rfl rfl (by kernel_rfl) rfl rfl hg25b (QOk.then (QOk.then (QOk.inBlock (QOk.then (QOk.then (QOk.inBlock (QOk.then QOk.body))))))) ?_
          refine o_off (i := 11) (fun _ _ => trivial) rfl rfl (by kernel_rfl) rfl rfl hg25b (QOk.then (QOk.then (QOk.inBlock (QOk.then (QOk.then (QOk.inBlock (QOk.then QOk.body))))))) ?_
          refine o_off (i := 12) (fun _ _ => trivial) rfl rfl (by kernel_rfl) rfl rfl hg25b (QOk.then (QOk.then (QOk.inBlock (QOk.then (QOk.then (QOk.inBlock (QOk.then QOk.body))))))) ?_
          refine o_off (i := 13) (fun _ _ => trivial) rfl rfl (by kernel_rfl) rfl rfl hg25b (QOk.then (QOk.then (QOk.inBlock (QOk.then (QOk.then (QOk.inBlock (QOk.then QOk.body))))))) ?_
          refine o_off (i := 14) (fun _ _ => trivial) rfl rfl (by kernel_rfl) rfl rfl hg25b (QOk.then (QOk.then (QOk.inBlock (QOk.then (QOk.then (QOk.inBlock (QOk.then QOk.body))))))) ?_
          refine o_off (i := 15) (fun _ _ => trivial) rfl rfl (by kernel_rfl) rfl rfl hg25b (QOk.then (QOk.then (QOk.inBlock (QOk.then (QOk.then (QOk.inBlock (QOk.then QOk.body))))))) ?_
          refine o_pure (i := 16) (fun _ _ => trivial) rfl rfl (by kernel_rfl) (goes1 rfl rfl hg21b) (QOk.then (QOk.then (QOk.inBlock (QOk.then (QOk.then (QOk.inBlock (QOk.then QOk.body))))))) (fun w => q_pickF rfl hg25b rfl) ?_
          refine o_pure (i := 17) (fun _ _ => trivial) rfl rfl (by kernel_rfl) (goes0 rfl) (QOk.then (QOk.then (QOk.inBlock (QOk.then (QOk.then (QOk.inBlock (QOk.then QOk.body))))))) (fun w => q_pickF rfl hg21b rfl) ?_
          refine o_done (by kernel_rfl) ?_
          refine hK19 _ _ ?_
          refine c_condF rfl rfl ?_
          refine wp_skip ?_
          refine hK18 _ _ ?_
          refine wp_seq_k (fun K49 hK49 => ?_)
          refine r_any (by kernel_rfl) hS20 (fun w50 hS50 => ?_)
          clear hS20
          refine o_pure (i := 0) (fun _ _ => trivial) rfl rfl (by kernel_rfl) (goes0 rfl) (QOk.then (QOk.inBlock (QOk.then (QOk.then (QOk.inBlock (QOk.then QOk.body)))))) (fun w => q_fieldAddr (ft := 27) (o := 4) rfl (by kernel_rfl)) ?_
          refine o_held (i := 1) [8, 9, 10] (fun _ _ => trivial) rfl rfl (by kernel_rfl) (goes0 rfl) (QOk.then (QOk.inBlock (QOk.then (QOk.then (QOk.inBlock (QOk.then QOk.body)))))) (q_load1 rfl (by kernel_rfl) (hS50.cell (i := 0) rfl rfl)) ?_
          refine o_pure (i := 2) (fun j w => ⟨(fun _ _ => trivial) j w, fun _ h => h⟩) rfl rfl (by kernel_rfl) (goes0 rfl) (QOk.then (QOk.inBlock (QOk.then (QOk.then (QOk.inBlock (QOk.then QOk.body)))))) (fun w => q_moveS rfl) ?_
          refine o_pure (i := 3) (fun j w => ⟨(fun _ _ => trivial) j w, fun _ h => h⟩) rfl rfl (by kernel_rfl) (goes0 rfl) (QOk.then (QOk.inBlock (QOk.then (QOk.then (QOk.inBlock (QOk.then QOk.body)))))) (fun w => q_moveI rfl) ?_
          refine o_pure (i := 4) (fun j w => ⟨(fun _ _ => trivial) j w, fun _ h => h⟩) rfl rfl (by kernel_rfl) (goes0 rfl) (QOk.then (QOk.inBlock (QOk.then (QOk.then (QOk.inBlock (QOk.then QOk.body)))))) (fun w => q_ixG (e := 2) (m := 1) (j := i) rfl rfl (by kernel_rfl) (by kernel_rfl) (by first | rfl | omega) (by omega) hG (by rw [iv_len]; first | omega | (simp only [List.length_append, List.length_map, List.length_cons, List.length_nil, List.length_take, List.length_drop, List.length_set] <;> omega))) ?_
          obtain ⟨x51, hx51⟩ : ∃ x, (bds)[i]? = some x := ⟨_, List.getElem?_eq_getElem (by first | omega | (simp only [List.length_append, List.length_map, List.length_cons, List.length_nil, List.length_take, List.length_drop, List.length_set] <;> omega) | (simp <;> omega))⟩
          refine o_held (i := 5) [6, 7, 8, 9, 10] (fun j w => ⟨(fun _ _ => trivial) j w, fun _ h => h⟩) rfl rfl (by kernel_rfl) (goes0 rfl) (QOk.then (QOk.inBlock (QOk.then (QOk.then (QOk.inBlock (QOk.then QOk.body)))))) (q_load1 rfl (by kernel_rfl) (SlG.cell (hG.mono hS50.base) (Gle.refl _) (at1 (iv_at hx51)))) ?_
          refine o_pure (i := 6) (fun j w => ⟨(fun j w => ⟨(fun _ _ => trivial) j w, fun _ h => h⟩) j w, fun _ h => h⟩) rfl rfl (by kernel_rfl) (goes0 rfl) (QOk.then (QOk.inBlock (QOk.then (QOk.then (QOk.inBlock (QOk.then QOk.body)))))) (fun w => q_build (ps := [(0, 1), (1, 1), (2, 1)]) (zv := .agg #[.int .i64 0, .int .i64 0, .string ⟨#[]⟩]) (by kernel_rfl) (by kernel_rfl) rfl (by repeat' (first | exact trivial | refine ⟨fun _ => by first | rfl | assumption | exact one_if (by assumption), ?_⟩ | refine ⟨fun ⟨_, h⟩ => by simp at h, ?_⟩)) rfl) ?_
          refine o_eff (i := 7) (by kernel_rfl) rfl (goes0 rfl) (fun K hK => ?_)
          refine e_buildSliceA (e := 32) (m := 3) (zv := .agg #[.int .i64 0, .int .i64 0, .string ⟨#[]⟩]) hS50 (by kernel_rfl) (by kernel_rfl) (by kernel_rfl) rfl rfl rfl rfl (fun b52 w52 (hS52 : St _ _ [.blk b52 (.cells #[.int .i64 (2 : Int), .int .i64 x51, .string (bs [])] 32), .blk b4 (.cells #[.string (bs [116]), .slice (some ⟨b3, 0, none⟩) 1 1, .int .i64 (1 : Int), .int .i64 (0 : Int), .slice ad i cap] 29), .ow 32 3 ad i cap (List.flatMap vl ((bds.take i).map bI)), .ow 25 3 (some ⟨b3, 0, none⟩) 1 1 (List.flatMap cc [Co.mk [97] 2 true])] _) => ?_)
          clear hS50
          have hS52o : St _ _ [.ow 32 3 (some ⟨b52, 0, none⟩) 1 1 (List.flatMap vl [((2 : Int), x51, ([] : List Nat))]), .blk b4 (.cells #[.string (bs [116]), .slice (some ⟨b3, 0, none⟩) 1 1, .int .i64 (1 : Int), .int .i64 (0 : Int), .slice ad i cap] 29), .ow 32 3 ad i cap (List.flatMap vl ((bds.take i).map bI)), .ow 25 3 (some ⟨b3, 0, none⟩) 1 1 (List.flatMap cc [Co.mk [97] 2 true])] _ := hS52.blkOw' (i := 0) (m := 1) (size := 3) (xs := List.flatMap vl [((2 : Int), x51, ([] : List Nat))]) rfl rfl rfl (by decide); clear hS52
          refine hK _ _ ⟨⟨trivial, fun _ _ => by first | exact q_load1 rfl (by kernel_rfl) (hS52o.cell (i := 1) rfl rfl)⟩, fun h => absurd h (by decide)⟩ ?_; clear hK K
          refine o_eff (i := 8) (by kernel_rfl) rfl (goes0 rfl) (fun K hK => ?_)
          refine e_app (e := 32) (size := 3) (bytes := 32) (i := 2) (m' := (i + 1)) (by kernel_rfl) hS52o rfl rfl rfl (SlG.src (e := 32) (by kernel_rfl) (hS52o.owG (i := 0) rfl) ((rows_len (c := vl) (m := 3) (fun _ => rfl) _).trans (by first | rfl | (simp only [List.length_append, List.length_map, List.length_cons, List.length_nil, List.length_take, List.length_drop, List.length_set]; done) | (simp only [List.length_append, List.length_map, List.length_cons, List.length_nil, List.length_take, List.length_drop, List.length_set]; omega) | omega)) (by decide) (rows_one vl_ones)) (by first | omega | (simp only [List.length_append, List.length_map, List.length_cons, List.length_nil, List.length_take, List.length_drop, List.length_set] <;> omega) | (simp; done)) rows_app (by first | omega | (simp only [maxLen, List.length_append, List.length_map, List.length_cons, List.length_nil, List.length_take, List.length_drop, List.length_set] <;> omega) | (simp only [maxLen]; omega)) (by first | omega | (simp only [List.length_append, List.length_map, List.length_cons, List.length_nil, List.length_take, List.length_drop, List.length_set] <;> omega)) (fun ad53 cp53 w53 (hS53 : St _ _ [.ow 32 3 (some ⟨b52, 0, none⟩) 1 1 (List.flatMap vl [((2 : Int), x51, ([] : List Nat))]), .blk b4 (.cells #[.string (bs [116]), .slice (some ⟨b3, 0, none⟩) 1 1, .int .i64 (1 : Int), .int .i64 (0 : Int), .slice ad i cap] 29), .ow 32 3 ad53 (i + 1) cp53 (List.flatMap vl (((bds.take i).map bI) ++ [((2 : Int), x51, ([] : List Nat))])), .ow 25 3 (some ⟨b3, 0, none⟩) 1 1 (List.flatMap cc [Co.mk [97] 2 true])] _) => ?_)
          clear hS52o
          refine hK _ _ ⟨⟨trivial, fun h => absurd h (by decide)⟩, fun h => absurd h (by decide)⟩ ?_; clear hK K
          refine o_pure (i := 9) (fun j w => ⟨(fun j w => ⟨(fun _ _ => trivial) j w, fun _ h => h⟩) j w, fun _ h => h⟩) rfl rfl (by kernel_rfl) (goes0 rfl) (QOk.then (QOk.inBlock (QOk.then (QOk.then (QOk.inBlock (QOk.then QOk.body)))))) (fun w => q_fieldAddr (ft := 27) (o := 4) rfl (by kernel_rfl)) ?_
          refine o_eff (i := 10) (by kernel_rfl) rfl (goes0 rfl) (fun K hK => ?_)
          refine e_store1 hS53 rfl rfl (by kernel_rfl) (by first | rfl | assumption) (i := 1) rfl rfl (fun w54 (hS54 : St _ _ [.ow 32 3 (some ⟨b52, 0, none⟩) 1 1 (List.flatMap vl [((2 : Int), x51, ([] : List Nat))]), .blk b4 (.cells #[.string (bs [116]), .slice (some ⟨b3, 0, none⟩) 1 1, .int .i64 (1 : Int), .int .i64 (0 : Int), .slice ad53 (i + 1) cp53] 29), .ow 32 3 ad53 (i + 1) cp53 (List.flatMap vl (((bds.take i).map bI) ++ [((2 : Int), x51, ([] : List Nat))])), .ow 25 3 (some ⟨b3, 0, none⟩) 1 1 (List.flatMap cc [Co.mk [97] 2 true])] _) => ?_)
          clear hS53
          refine hK _ _ ⟨⟨trivial, fun h => absurd h (by decide)⟩, fun h => absurd h (by decide)⟩ ?_; clear hK K
          refine o_done (by kernel_rfl) ?_
          refine hK49 _ _ ?_
          refine wp_seq_k (fun K55 hK55 => ?_)
          refine wp_region_lit ?_
          refine l_q rfl rfl (q_moveS rfl) ?_
          refine l_q rfl rfl (q_moveI rfl) ?_
          refine l_q rfl rfl (q_ixG (e := 2) (m := 1) (j := i) rfl rfl (by kernel_rfl) (by kernel_rfl) (by first | rfl | omega) (by omega) hG (by rw [iv_len]; first | omega | (simp only [List.length_append, List.length_map, List.length_cons, List.length_nil, List.length_take, List.length_drop, List.length_set] <;> omega))) ?_
          refine l_q rfl rfl (q_load1 rfl (by kernel_rfl) (SlG.cell (hG.mono hS54.base) (Gle.refl _) (at1 (iv_at hx51)))) ?_
          refine l_q rfl rfl (q_moveI rfl) ?_
          refine l_q rfl rfl (q_leq rfl rfl) ?_
          refine l_nil ?_
          refine hK55 _ _ ?_
          refine c_cond rfl (fun hc56 => ?_) (fun hc56 => ?_)
          ·
            have hc56b := hc56
            try simp only [decide_eq_true_eq, decide_eq_false_iff_not, Bool.not_eq_true', Bool.not_eq_false', Bool.and_eq_true, Bool.or_eq_true, Int.not_lt, Int.not_le, ne_eq, Decidable.not_not] at hc56
            refine wp_region_lit ?_
            refine l_q rfl rfl (q_moveI rfl) ?_
            refine l_q rfl rfl (q_addx rfl rfl (by first | decide | omega) (by first | decide | omega)) ?_
            refine l_q rfl rfl (q_assignI rfl) ?_
            refine l_nil ?_
            refine hK17 _ _ ?_
            refine wp_region_lit ?_
            refine l_q rfl rfl (q_moveI rfl) ?_
            refine l_q rfl rfl (q_addx rfl rfl (by first | decide | omega) (by first | decide | omega)) ?_
            refine l_q rfl rfl (q_assignI rfl) ?_
            refine l_nil ?_
            have hnew := bI_take hx51
            have hS57 : St _ _ [.ow 32 3 (some ⟨b52, 0, none⟩) 1 1 (List.flatMap vl [((2 : Int), x51, ([] : List Nat))]), .blk b4 (.cells #[.string (bs [116]), .slice (some ⟨b3, 0, none⟩) 1 1, .int .i64 (1 : Int), .int .i64 (0 : Int), .slice ad53 (i + 1) cp53] 29), .ow 32 3 ad53 (i + 1) cp53 (List.flatMap vl ((bds.take (i + 1)).map bI)), .ow 25 3 (some ⟨b3, 0, none⟩) 1 1 (List.flatMap cc [Co.mk [97] 2 true])] _ := hS54.cast (by rw [← hnew]); clear hS54
            have hS58 := hS57.fr3; clear hS57
            have hS59 := hS58.fr3; clear hS58
            have hS60 := hS59.fr3; clear hS59
            have hS61 : St _ _ [.blk b4 (.cells #[.string (bs [116]), .slice (some ⟨b3, 0, none⟩) 1 1, .int .i64 (1 : Int), .int .i64 (0 : Int), .slice ad53 (i + 1) cp53] 29), .ow 32 3 ad53 (i + 1) cp53 (List.flatMap vl ((bds.take (i + 1)).map bI)), .ow 25 3 (some ⟨b3, 0, none⟩) 1 1 (List.flatMap cc [Co.mk [97] 2 true])] _ := hS60.only 3; clear hS60
            refine hK13 _ _ (came (⟨(i + 1), ad53, cp53⟩) (by repeat' (first | exact Agree.refl _ _ | refine Agree.up ?_ rfl | refine Agree.hav2 ?_ rfl | refine Agree.ups2 ?_ rfl)) (by refine ⟨int_succ _, ⟨by first | exact congrArg (Value.int .i64) (by rw [cnt_take hx51, if_pos (by omega)]; omega) | exact congrArg (Value.int .i64) (by rw [cnt_take hx51, if_neg (by omega)]; omega), trivial⟩⟩) ?_)
            exact ⟨⟨hS61, (by show i + 1 ≤ bds.length; omega), (by show i + 1 ≤ 60; omega), hri.next hx51 (fun u h0 hu => by first | omega | (have e := Option.some.inj (hu.symm.trans hx51); subst e; omega))⟩, by (show bds.length - (i + 1) < bds.length - i); omega⟩
          ·
            have hc56b := hc56
            try simp only [decide_eq_true_eq, decide_eq_false_iff_not, Bool.not_eq_true', Bool.not_eq_false', Bool.and_eq_true, Bool.or_eq_true, Int.not_lt, Int.not_le, ne_eq, Decidable.not_not] at hc56
            refine wp_skip ?_
            refine hK17 _ _ ?_
            refine wp_region_lit ?_
            refine l_q rfl rfl (q_moveI rfl) ?_
            refine l_q rfl rfl (q_addx rfl rfl (by first | decide | omega) (by first | decide | omega)) ?_
            refine l_q rfl rfl (q_assignI rfl) ?_
            refine l_nil ?_
            have hnew := bI_take hx51
            have hS62 : St _ _ [.ow 32 3 (some ⟨b52, 0, none⟩) 1 1 (List.flatMap vl [((2 : Int), x51, ([] : List Nat))]), .blk b4 (.cells #[.string (bs [116]), .slice (some ⟨b3, 0, none⟩) 1 1, .int .i64 (1 : Int), .int .i64 (0 : Int), .slice ad53 (i + 1) cp53] 29), .ow 32 3 ad53 (i + 1) cp53 (List.flatMap vl ((bds.take (i + 1)).map bI)), .ow 25 3 (some ⟨b3, 0, none⟩) 1 1 (List.flatMap cc [Co.mk [97] 2 true])] _ := hS54.cast (by rw [← hnew]); clear hS54
            have hS63 := hS62.fr3; clear hS62
            have hS64 := hS63.fr3; clear hS63
            have hS65 := hS64.fr3; clear hS64
            have hS66 : St _ _ [.blk b4 (.cells #[.string (bs [116]), .slice (some ⟨b3, 0, none⟩) 1 1, .int .i64 (1 : Int), .int .i64 (0 : Int), .slice ad53 (i + 1) cp53] 29), .ow 32 3 ad53 (i + 1) cp53 (List.flatMap vl ((bds.take (i + 1)).map bI)), .ow 25 3 (some ⟨b3, 0, none⟩) 1 1 (List.flatMap cc [Co.mk [97] 2 true])] _ := hS65.only 3; clear hS65
            refine hK13 _ _ (came (⟨(i + 1), ad53, cp53⟩) (by repeat' (first | exact Agree.refl _ _ | refine Agree.up ?_ rfl | refine Agree.hav2 ?_ rfl | refine Agree.ups2 ?_ rfl)) (by refine ⟨int_succ _, ⟨by first | exact congrArg (Value.int .i64) (by rw [cnt_take hx51, if_pos (by omega)]; omega) | exact congrArg (Value.int .i64) (by rw [cnt_take hx51, if_neg (by omega)]; omega), trivial⟩⟩) ?_)
            exact ⟨⟨hS66, (by show i + 1 ≤ bds.length; omega), (by show i + 1 ≤ 60; omega), hri.next hx51 (fun u h0 hu => by first | omega | (have e := Option.some.inj (hu.symm.trans hx51); subst e; omega))⟩, by (show bds.length - (i + 1) < bds.length - i); omega⟩
    ·
      have hc16b := hc16
      try simp only [decide_eq_true_eq, decide_eq_false_iff_not, Bool.not_eq_true', Bool.not_eq_false', Bool.and_eq_true, Bool.or_eq_true, Int.not_lt, Int.not_le, ne_eq, Decidable.not_not] at hc16
      refine wp_exit ?_
      refine hK7 _ _ ?_
      refine wp_seq_k (fun K67 hK67 => ?_)
      have hii : i = bds.length := by omega
      have hti : bds.take i = bds := List.take_of_length_le (by omega)
      rw [hii] at hri
      have hrt := rt_one hri.bd (by rw [List.length_map]; omega)
      have hS68 : St _ _ [.blk b4 (.cells #[.string (bs [116]), .slice (some ⟨b3, 0, none⟩) 1 1, .int .i64 (1 : Int), .int .i64 (0 : Int), .slice ad i cap] 29), .ow 32 3 ad i cap (List.flatMap vl (bds.map bI)), .ow 25 3 (some ⟨b3, 0, none⟩) 1 1 (List.flatMap cc [Co.mk [97] 2 true])] _ := hS13.cast (by rw [hti]); clear hS13
      rw [hti] at hcl
      refine wp_region_lit ?_
      refine l_q rfl rfl (q_loadA (m := 5) rfl (by kernel_rfl) (by kernel_rfl) (hS68.blk (i := 0) rfl) rfl rfl) ?_
      refine l_q rfl rfl (q_moveI rfl) ?_
      refine l_q rfl rfl (q_build (ps := [(0, 1), (1, 1), (2, 1)]) (zv := .agg #[.int .i64 0, .int .i64 0, .string ⟨#[]⟩]) (by kernel_rfl) (by kernel_rfl) rfl (by repeat' (first | exact trivial | refine ⟨fun _ => by first | rfl | assumption | exact one_if (by assumption), ?_⟩ | refine ⟨fun ⟨_, h⟩ => by simp at h, ?_⟩)) rfl) ?_
      refine l_e rfl (fun K hK => ?_)
      refine e_buildSliceA (e := 32) (m := 3) (zv := .agg #[.int .i64 0, .int .i64 0, .string ⟨#[]⟩]) hS68 (by kernel_rfl) (by kernel_rfl) (by kernel_rfl) rfl rfl rfl rfl (fun b69 w69 (hS69 : St _ _ [.blk b69 (.cells #[.int .i64 (2 : Int), .int .i64 n, .string (bs [])] 32), .blk b4 (.cells #[.string (bs [116]), .slice (some ⟨b3, 0, none⟩) 1 1, .int .i64 (1 : Int), .int .i64 (0 : Int), .slice ad i cap] 29), .ow 32 3 ad i cap (List.flatMap vl (bds.map bI)), .ow 25 3 (some ⟨b3, 0, none⟩) 1 1 (List.flatMap cc [Co.mk [97] 2 true])] _) => ?_)
      clear hS68
      have hS69o : St _ _ [.ow 32 3 (some ⟨b69, 0, none⟩) 1 1 (List.flatMap vl [((2 : Int), n, ([] : List Nat))]), .blk b4 (.cells #[.string (bs [116]), .slice (some ⟨b3, 0, none⟩) 1 1, .int .i64 (1 : Int), .int .i64 (0 : Int), .slice ad i cap] 29), .ow 32 3 ad i cap (List.flatMap vl (bds.map bI)), .ow 25 3 (some ⟨b3, 0, none⟩) 1 1 (List.flatMap cc [Co.mk [97] 2 true])] _ := hS69.blkOw' (i := 0) (m := 1) (size := 3) (xs := List.flatMap vl [((2 : Int), n, ([] : List Nat))]) rfl rfl rfl (by decide); clear hS69
      refine hK _ _ ?_; clear hK K
      refine l_e rfl (fun K hK => ?_)
      refine e_call (by kernel_rfl) (cpart_yes (Tb.mk [116] [Co.mk [97] 2 true] (1 : Int) (0 : Int) (bds.map bI)) (by decide : Bytes [116]) cs_one (bI_ok hB) 1 i (by first | omega | (simp only [List.length_append, List.length_map, List.length_cons, List.length_nil, List.length_take, List.length_drop, List.length_set] <;> omega)) (by first | omega | (simp only [List.length_append, List.length_map, List.length_cons, List.length_nil, List.length_take, List.length_drop, List.length_set] <;> omega)) (by first | omega | (simp only [List.length_append, List.length_map, List.length_cons, List.length_nil, List.length_take, List.length_drop, List.length_set] <;> omega)) (by first | omega | (simp only [List.length_append, List.length_map, List.length_cons, List.length_nil, List.length_take, List.length_drop, List.length_set] <;> omega)) hrt [((2 : Int), n, ([] : List Nat))] pt_one (vs_int hn) 1 (by first | omega | (simp only [List.length_append, List.length_map, List.length_cons, List.length_nil, List.length_take, List.length_drop, List.length_set] <;> omega)) _ _ (by first | omega | (simp only [List.length_append, List.length_map, List.length_cons, List.length_nil, List.length_take, List.length_drop, List.length_set] <;> omega)) (hS69o.owG (i := 0) rfl) _ _ _ _ (hS69o.owG (i := 3) rfl) (hS69o.owG (i := 2) rfl)) rfl (after_N hS69o (fun v70 G70 w70 hv70 hS70 => ?_))
      clear hS69o
      obtain ⟨rfl, rfl⟩ := hv70
      have hS71 : St _ _ [.ow 32 3 (some ⟨b69, 0, none⟩) 1 1 (List.flatMap vl [((2 : Int), n, ([] : List Nat))]), .blk b4 (.cells #[.string (bs [116]), .slice (some ⟨b3, 0, none⟩) 1 1, .int .i64 (1 : Int), .int .i64 (0 : Int), .slice ad i cap] 29), .ow 32 3 ad i cap (List.flatMap vl (bds.map bI)), .ow 25 3 (some ⟨b3, 0, none⟩) 1 1 (List.flatMap cc [Co.mk [97] 2 true])] _ := hS70; clear hS70
      refine hK _ _ ?_; clear hK K
      refine l_q rfl rfl (q_move rfl) ?_
      refine l_q rfl rfl (q_extract rfl rfl) ?_
      refine l_q rfl rfl (q_extract rfl rfl) ?_
      refine l_q rfl rfl (q_assignI rfl) ?_
      refine l_q rfl rfl (q_assign rfl) ?_
      refine l_nil ?_
      refine hK67 _ _ ?_
      refine wp_seq_k (fun K72 hK72 => ?_)
      refine wp_region_lit ?_
      refine l_e rfl (fun K hK => ?_)
      refine e_call (by kernel_rfl) (alive18_ok _) rfl (after_R hS71 (fun v73 w73 hv73 hS73 => ?_))
      clear hS71
      obtain rfl := hv73
      refine hK _ _ ?_; clear hK K
      refine l_q rfl rfl (q_moveB rfl) ?_
      refine l_on rfl rfl rfl ?_
      refine l_q rfl rfl (q_loadA (m := 5) rfl (by kernel_rfl) (by kernel_rfl) (hS73.blk (i := 1) rfl) rfl rfl) ?_
      refine l_on rfl rfl rfl ?_
      refine l_e rfl (fun K hK => ?_)
      refine e_call (by kernel_rfl) (cright_yes (Tb.mk [116] [Co.mk [97] 2 true] (1 : Int) (0 : Int) (bds.map bI)) (by decide : Bytes [116]) cs_one (bI_ok hB) 1 i (by first | omega | (simp only [List.length_append, List.length_map, List.length_cons, List.length_nil, List.length_take, List.length_drop, List.length_set] <;> omega)) (by first | omega | (simp only [List.length_append, List.length_map, List.length_cons, List.length_nil, List.length_take, List.length_drop, List.length_set] <;> omega)) (by first | omega | (simp only [List.length_append, List.length_map, List.length_cons, List.length_nil, List.length_take, List.length_drop, List.length_set] <;> omega)) (by first | omega | (simp only [List.length_append, List.length_map, List.length_cons, List.length_nil, List.length_take, List.length_drop, List.length_set] <;> omega)) hrt _ _ _ _ _ (hS73.owG (i := 3) rfl) (hS73.owG (i := 2) rfl) (by first | omega | assumption)) rfl (after_N hS73 (fun v74 G74 w74 hv74 hS74 => ?_))
      clear hS73
      obtain ⟨rfl, rfl⟩ := hv74
      have hS75 : St _ _ [.ow 32 3 (some ⟨b69, 0, none⟩) 1 1 (List.flatMap vl [((2 : Int), n, ([] : List Nat))]), .blk b4 (.cells #[.string (bs [116]), .slice (some ⟨b3, 0, none⟩) 1 1, .int .i64 (1 : Int), .int .i64 (0 : Int), .slice ad i cap] 29), .ow 32 3 ad i cap (List.flatMap vl (bds.map bI)), .ow 25 3 (some ⟨b3, 0, none⟩) 1 1 (List.flatMap cc [Co.mk [97] 2 true])] _ := hS74; clear hS74
      refine hK _ _ ?_; clear hK K
      refine l_on rfl rfl rfl ?_
      refine l_q rfl rfl (q_ieq1 rfl (by kernel_rfl)) ?_
      refine l_q rfl rfl (q_pickT rfl rfl rfl) ?_
      refine l_q rfl rfl (q_moveB rfl) ?_
      refine l_on rfl rfl rfl ?_
      refine l_q rfl rfl (q_move rfl) ?_
      refine l_on rfl rfl rfl ?_
      refine l_q rfl rfl (q_ieq1 rfl (by kernel_rfl)) ?_
      refine l_q rfl rfl (q_pickT rfl rfl rfl) ?_
      refine l_q rfl rfl (q_moveB rfl) ?_
      refine l_on rfl rfl rfl ?_
      refine l_q rfl rfl (q_moveI rfl) ?_
      refine l_on rfl rfl rfl ?_
      refine l_q rfl rfl (q_moveI rfl) ?_
      refine l_on rfl rfl rfl ?_
      refine l_q rfl rfl (q_eql rfl rfl) ?_
      refine l_q rfl rfl (q_pickT rfl rfl rfl) ?_
      refine l_q rfl rfl (q_moveB rfl) ?_
      refine l_on rfl rfl (decide_eq_true (by rw [cnt_over hri, hti])) ?_
      refine l_q rfl rfl (q_loadA (m := 5) rfl (by kernel_rfl) (by kernel_rfl) (hS75.blk (i := 1) rfl) rfl rfl) ?_
      refine l_on rfl rfl (decide_eq_true (by rw [cnt_over hri, hti])) ?_
      refine l_e rfl (fun K hK => ?_)
      refine e_call (by kernel_rfl) (parts_ok (Tb.mk [116] [Co.mk [97] 2 true] (1 : Int) (0 : Int) (bds.map bI)) (by decide : Bytes [116]) cs_one (bI_ok hB) 1 i (by first | omega | (simp only [List.length_append, List.length_map, List.length_cons, List.length_nil, List.length_take, List.length_drop, List.length_set] <;> omega)) (by first | omega | (simp only [List.length_append, List.length_map, List.length_cons, List.length_nil, List.length_take, List.length_drop, List.length_set] <;> omega)) (by first | omega | (simp only [List.length_append, List.length_map, List.length_cons, List.length_nil, List.length_take, List.length_drop, List.length_set] <;> omega)) (by first | omega | (simp only [List.length_append, List.length_map, List.length_cons, List.length_nil, List.length_take, List.length_drop, List.length_set] <;> omega)) _ _ _ _ _ (hS75.owG (i := 3) rfl) (hS75.owG (i := 2) rfl)) rfl (after_R hS75 (fun v77 w77 hv77 hS77 => ?_))
      clear hS75
      obtain rfl := hv77
      refine hK _ _ ?_; clear hK K
      refine l_on rfl rfl (decide_eq_true (by rw [cnt_over hri, hti])) ?_
      refine l_q rfl rfl (q_moveS rfl) ?_
      refine l_on rfl rfl (decide_eq_true (by rw [cnt_over hri, hti])) ?_
      refine l_q rfl rfl (q_lenSl (e := 2) rfl (by kernel_rfl)) ?_
      refine l_on rfl rfl (decide_eq_true (by rw [cnt_over hri, hti])) ?_
      refine l_q rfl rfl (q_addx rfl rfl (by first | decide | omega) (by first | decide | omega)) ?_
      refine l_on rfl rfl (decide_eq_true (by rw [cnt_over hri, hti])) ?_
      refine l_q rfl rfl (q_eql rfl rfl) ?_
      refine l_q rfl rfl (q_pickT rfl (decide_eq_true (by rw [cnt_over hri, hti])) rfl) ?_
      refine l_q rfl rfl (q_assignB rfl) ?_
      refine l_nil ?_
      refine hK72 _ _ ?_
      refine wp_ret ?_
      refine c_ret1 rfl rfl ?_
      exact ⟨_, rfl, congrArg Value.bool (decide_eq_true (by unfold partsN; rw [if_neg (by show ¬(0 : Int) < 0; decide), List.length_map] <;> omega)), hS77.drop⟩

end Go.Proofs.YtmemgpcgjephmaaDoor
