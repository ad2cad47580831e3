/- Package wal: what tells and what turns a log. -/
import Derived.Test.YtmbbkliekgiolaaV3
set_option linter.unusedVariables false
set_option linter.unusedSimpArgs false
namespace Go.Proofs.Ytmbbkliekgiolaa
open Go.RowKit
def nums (rs : List Rc) : List Int := rs.map fun r => ((r.n : Nat) : Int)
theorem nums_snoc {rs : List Rc} {i : Nat} {r : Rc} (h : rs[i]? = some r) : nums (rs.take i) ++ [((r.n : Nat) : Int)] = nums (rs.take (i + 1)) := by
  rw [List.take_add_one, h]; simp [nums]
theorem nums_len (rs : List Rc) : (nums rs).length = rs.length := List.length_map ..
/-- How many records end at or ahead of an offset. -/
def cnt (lim : Nat) (rs : List Rc) : Nat := rs.countP fun r => decide (r.n + 5 + r.b.length ≤ lim)
theorem cnt_snoc {rs : List Rc} {i : Nat} {r : Rc} (lim : Nat) (h : rs[i]? = some r) : cnt lim (rs.take (i + 1)) = cnt lim (rs.take i) + if r.n + 5 + r.b.length ≤ lim then 1 else 0 := by
  rw [List.take_add_one, h]; simp [cnt, List.countP_append, List.countP_cons]
theorem cnt_le (lim : Nat) (rs : List Rc) : cnt lim rs ≤ rs.length := List.countP_le_length ..
/-- What a number's record is. -/
def rdO (R : List (Nat × List Nat)) (z : Int) : Option (List Nat) := (R.find? fun r => decide (((r.1 : Nat) : Int) = z)).map (·.2)
def rdB (R : List (Nat × List Nat)) (z : Int) : List Nat := (rdO R z).getD []
def rdE (R : List (Nat × List Nat)) (z : Int) : Nat := if (rdO R z).isSome then 0 else 71
theorem fIdx_rd {rs : List Rc} {z : Int} {i : Nat} {r : Rc} (h : fIdx rs z = (i : Int)) (hr : rs[i]? = some r) : ((r.n : Nat) : Int) = z ∧ rdO (rs.map Rc.abs) z = some r.b := by
  unfold fIdx at h
  split at h
  · rename_i j hj
    obtain rfl : j = i := by omega
    obtain ⟨hlt, h1, h2⟩ := List.findIdx?_eq_some_iff_getElem.1 hj
    have hrr : rs[j] = r := (List.getElem?_eq_some_iff.1 hr).2
    rw [hrr] at h1
    refine ⟨of_decide_eq_true h1, ?_⟩
    have : (rs.map Rc.abs).find? (fun r => decide (((r.1 : Nat) : Int) = z)) = some r.abs := by
      have hf : rs.find? ((fun r : Nat × List Nat => decide (((r.1 : Nat) : Int) = z)) ∘ Rc.abs) = some r := List.find?_eq_some_iff_getElem.2 ⟨h1, j, hlt, hrr, fun q hq => by
        have h3 := h2 q hq
        rw [Bool.not_eq_true] at h3
        exact congrArg (fun b => !b) h3⟩
      rw [List.find?_map, hf]; rfl
    unfold rdO; rw [this]; rfl
  · omega
theorem fIdx_no_rd {rs : List Rc} {z : Int} (h : fIdx rs z < 0) : rdO (rs.map Rc.abs) z = none := by
  unfold fIdx at h
  split at h
  · omega
  · rename_i hj
    rw [List.findIdx?_eq_none_iff] at hj
    have : (rs.map Rc.abs).find? (fun r => decide (((r.1 : Nat) : Int) = z)) = none := by
      have hf : rs.find? ((fun r : Nat × List Nat => decide (((r.1 : Nat) : Int) = z)) ∘ Rc.abs) = none := List.find?_eq_none.2 (fun x hx h => Bool.noConfusion ((hj x hx).symm.trans h))
      rw [List.find?_map, hf]; rfl
    unfold rdO; rw [this]; rfl
attribute [local irreducible] Oper.wp Sem.run Code.wp wpList wpAnyO callFunc execOp Calls

set_option maxRecDepth 100000 in
theorem wSync_ok (k kd : Nat) (ad : Option Addr) (cap : Nat) (rs : List Rc) (da : Option Addr) (dc : Nat) (l : List Nat) (b s : Nat) (w : World) (hS : St w (owns [wk k kd ad cap rs, dk kd da dc l b s]) [wk k kd ad cap rs, dk kd da dc l b s] w) : Calls Try.prog 45 #[pV k] w (Post w [wk k kd ad cap rs, dk kd da dc l b s] fun v G => v = .int .i64 0 ∧ G = [wk k kd ad cap rs, dk kd da dc l b l.length]) := by
  refine c_enter Try.func45 rfl rfl rfl ?_
  refine wp_seq_k (fun K1 hK1 => ?_)
  have hS2 := wk_open hS; clear hS
  refine wp_region_lit ?_
  refine l_q rfl rfl (q_assignI rfl) ?_
  refine l_nil ?_
  refine hK1 _ _ ?_
  refine wp_seq_k (fun K3 hK3 => ?_)
  refine wp_seq_k (fun K4 hK4 => ?_)
  refine wp_region_lit ?_
  refine l_q rfl rfl (q_moveP rfl) ?_
  refine l_q rfl rfl (q_peq rfl (by kernel_rfl)) ?_
  refine l_nil ?_
  refine hK4 _ _ ?_
  refine c_condF rfl rfl ?_
  refine wp_skip ?_
  refine hK3 _ _ ?_
  refine wp_seq_k (fun K6 hK6 => ?_)
  refine wp_region_lit ?_
  refine l_q rfl rfl (q_moveP rfl) ?_
  refine l_q rfl rfl (q_nilCheck rfl) ?_
  refine l_q rfl rfl (q_fieldAddr (ft := 51) (o := 0) rfl (by kernel_rfl)) ?_
  refine l_q rfl rfl (q_load1 rfl (by kernel_rfl) (hS2.cell (i := 0) rfl rfl)) ?_
  refine l_e rfl (fun K hK => ?_)
  have hS8 := hS2.fr2; clear hS2
  refine e_call (by kernel_rfl) (dSync_ok _ _ _ _ _ _  _ (St.begin (Γ := [_]) hS8)) rfl (after_M (Γ1 := [_]) hS8 (fun v7 G7 w7 hv7 hS7 => ?_))
  clear hS8
  obtain ⟨rfl, rfl⟩ := hv7
  have hS9 : St _ _ [dk kd da dc l b l.length, .blk k (.cells #[.pointer (some ⟨kd, 0, none⟩), .slice ad rs.length cap] 123), .ow 125 2 ad rs.length cap (List.flatMap rc rs)] _ := hS7; clear hS7
  refine hK _ _ ?_; clear hK K
  refine l_q rfl rfl (q_assignI rfl) ?_
  refine l_nil ?_
  refine hK6 _ _ ?_
  refine wp_ret ?_
  refine c_ret1 rfl rfl ?_
  
  have hS10 := hS9.fr2; clear hS9
  have hS11 := hS10.fr2; clear hS10
  have hS12 := wk_close hS11; clear hS11
  exact ⟨_, _, rfl, ⟨rfl, rfl⟩, hS12⟩

set_option maxRecDepth 100000 in
theorem wNumbers_ok (k kd : Nat) (ad : Option Addr) (cap : Nat) (rs : List Rc) (hn : rs.length ≤ 2000000000) (w : World) (hS : St w (owns [wk k kd ad cap rs]) [wk k kd ad cap rs] w) : Calls Try.prog 32 #[pV k] w (Post w [wk k kd ad cap rs] fun v G => ∃ ad' cap', v = .slice ad' rs.length cap' ∧ G = [.ow 3 1 ad' rs.length cap' (iv (nums rs)), wk k kd ad cap rs]) := by
  refine c_enter Try.func32 rfl rfl rfl ?_
  refine wp_seq_k (fun K1 hK1 => ?_)
  have hS2 := wk_open hS; clear hS
  refine wp_region_lit ?_
  refine l_q rfl rfl (q_assignS rfl) ?_
  refine l_nil ?_
  refine hK1 _ _ ?_
  refine wp_seq_k (fun K3 hK3 => ?_)
  refine wp_seq_k (fun K4 hK4 => ?_)
  refine wp_region_lit ?_
  refine l_q rfl rfl (q_moveP rfl) ?_
  refine l_q rfl rfl (q_peq rfl (by kernel_rfl)) ?_
  refine l_nil ?_
  refine hK4 _ _ ?_
  refine c_condF rfl rfl ?_
  refine wp_skip ?_
  refine hK3 _ _ ?_
  refine wp_seq_k (fun K6 hK6 => ?_)
  refine wp_region_lit ?_
  refine l_q rfl rfl (q_assignS rfl) ?_
  refine l_nil ?_
  refine hK6 _ _ ?_
  refine wp_seq_k (fun K7 hK7 => ?_)
  refine wp_seq_k (fun K8 hK8 => ?_)
  refine wp_region_lit ?_
  refine l_q rfl rfl (q_moveP rfl) ?_
  refine l_q rfl rfl (q_nilCheck rfl) ?_
  refine l_q rfl rfl (q_fieldAddr (ft := 121) (o := 1) rfl (by kernel_rfl)) ?_
  refine l_q rfl rfl (q_load1 rfl (by kernel_rfl) (hS2.cell (i := 0) rfl rfl)) ?_
  refine l_q rfl rfl (q_lenSl (e := 125) rfl (by kernel_rfl)) ?_
  refine l_q rfl rfl (q_moveI rfl) ?_
  refine l_nil ?_
  refine hK8 _ _ ?_
  refine wp_block ?_
  have hS9 : St _ _ [.ow 3 1 none 0 0 (iv (nums (rs.take 0))), .blk k (.cells #[.pointer (some ⟨kd, 0, none⟩), .slice ad rs.length cap] 123), .ow 125 2 ad rs.length cap (List.flatMap rc rs)] _ := hS2.ow_nil 3 1; clear hS2
  have hS10 := hS9.fr2; clear hS9
  have hS11 := hS10.fr2; clear hS10
  refine c_loop (τ := Nat × (Option Addr) × Nat) [(3, 3), (5, 5), (13, 22)] (fun x => (fun (i : Nat) (oa : Option Addr) (oc : Nat) => [(3, .slice oa i oc), (13, .int .i64 ((i : Nat) : Int))]) x.1 x.2.1 x.2.2) (fun x w' => (fun (i : Nat) (oa : Option Addr) (oc : Nat) => St w (owns [wk k kd ad cap rs]) [.blk k (.cells #[.pointer (some ⟨kd, 0, none⟩), .slice ad rs.length cap] 123), .ow 125 2 ad rs.length cap (List.flatMap rc rs), .ow 3 1 oa i oc (iv (nums (rs.take i)))] w' ∧ i ≤ rs.length) x.1 x.2.1 x.2.2) (fun x => (fun (i : Nat) (oa : Option Addr) (oc : Nat) => rs.length - i) x.1 x.2.1 x.2.2) (⟨0, none, 0⟩) ?_ (by repeat' (first | exact trivial | refine ⟨by first | rfl | exact int_succ _ | assumption, ?_⟩)) (fun x12 j12 w12 hJ12 K12 hK12 => ?_)
  ·
    exact ⟨hS11, Nat.zero_le _⟩
  ·
    obtain ⟨i, oa, oc⟩ := x12
    obtain ⟨hS12, hi⟩ := hJ12
    try dsimp only at hS12 hi ⊢
    refine wp_seq_k (fun K13 hK13 => ?_)
    refine wp_region_lit ?_
    refine l_q rfl rfl (q_lss rfl rfl) ?_
    refine l_nil ?_
    refine hK13 _ _ ?_
    refine wp_seq_k (fun K14 hK14 => ?_)
    refine c_cond rfl (fun hc15 => ?_) (fun hc15 => ?_)
    ·
      have hc15b := hc15
      try simp only [decide_eq_true_eq, decide_eq_false_iff_not, Bool.not_eq_true', Bool.not_eq_false', Bool.and_eq_true, Bool.or_eq_true, Int.not_lt, Int.not_le, ne_eq, Decidable.not_not] at hc15
      refine wp_skip ?_
      refine hK14 _ _ ?_
      refine wp_seq_k (fun K16 hK16 => ?_)
      refine wp_block ?_
      refine wp_seq_k (fun K17 hK17 => ?_)
      refine wp_region_lit ?_
      refine l_q rfl rfl (q_ixG (e := 125) (m := 2) (j := i) rfl rfl (by kernel_rfl) (by kernel_rfl) (by first | rfl | omega) (by omega) (hS12.owG (i := 1) rfl) (by rw [rows_len (c := rc) (m := 2) (fun _ => rfl)]; first | omega | (simp only [List.length_append, List.length_map, List.length_cons, List.length_nil, List.length_take, List.length_drop, List.length_set] <;> omega))) ?_
      obtain ⟨x18, hx18⟩ : ∃ x, (rs)[i]? = some x := ⟨_, List.getElem?_eq_getElem (by first | omega | (simp; omega))⟩
      refine l_q rfl rfl (q_loadGA (m := 2) rfl (by kernel_rfl) (by kernel_rfl) (hS12.owG (i := 1) rfl) (row_take hx18 (c := rc) (m := 2) (fun _ => rfl)) rfl (by decide)) ?_
      refine l_e rfl (fun K hK => ?_)
      refine e_alloc (zv := .agg #[.int .i64 0, .slice none 0 0]) hS12 (by kernel_rfl) (fun b19 w19 (hS19 : St _ _ [.blk b19 (.cells #[.int .i64 (0 : Int), .slice none 0 0] 125), .blk k (.cells #[.pointer (some ⟨kd, 0, none⟩), .slice ad rs.length cap] 123), .ow 125 2 ad rs.length cap (List.flatMap rc rs), .ow 3 1 oa i oc (iv (nums (rs.take i)))] _) => ?_)
      clear hS12
      refine hK _ _ ?_; clear hK K
      refine l_e rfl (fun K hK => ?_)
      refine e_storeA hS19 rfl rfl (by kernel_rfl) (by repeat' (first | exact trivial | refine ⟨by first | rfl | assumption | exact one_if (by assumption), ?_⟩)) (i := 0) rfl rfl (fun w20 (hS20 : St _ _ [.blk b19 (.cells #[.int .i64 ((x18.n : Nat) : Int), .slice x18.ad x18.b.length x18.cap] 125), .blk k (.cells #[.pointer (some ⟨kd, 0, none⟩), .slice ad rs.length cap] 123), .ow 125 2 ad rs.length cap (List.flatMap rc rs), .ow 3 1 oa i oc (iv (nums (rs.take i)))] _) => ?_)
      clear hS19
      refine hK _ _ ?_; clear hK K
      refine l_nil ?_
      refine hK17 _ _ ?_
      refine wp_region_lit ?_
      refine l_q rfl rfl (q_moveS rfl) ?_
      refine l_q rfl rfl (q_fieldAddr (ft := 3) (o := 0) rfl (by kernel_rfl)) ?_
      refine l_q rfl rfl (q_load1 rfl (by kernel_rfl) (hS20.cell (i := 0) rfl rfl)) ?_
      refine l_e rfl (fun K hK => ?_)
      refine e_buildSlice1 (e := 3) (zv := .int .i64 0) (xs := [.tmp 19]) hS20 (by kernel_rfl) (by kernel_rfl) (by kernel_rfl) rfl rfl rfl rfl (allone (by repeat' (first | exact trivial | refine ⟨by first | rfl | assumption, ?_⟩))) rfl (fun b21 w21 (hS21 : St _ _ [.blk b21 (.cells #[.int .i64 ((x18.n : Nat) : Int)] 3), .blk b19 (.cells #[.int .i64 ((x18.n : Nat) : Int), .slice x18.ad x18.b.length x18.cap] 125), .blk k (.cells #[.pointer (some ⟨kd, 0, none⟩), .slice ad rs.length cap] 123), .ow 125 2 ad rs.length cap (List.flatMap rc rs), .ow 3 1 oa i oc (iv (nums (rs.take i)))] _) => ?_)
      clear hS20
      have hS21o : St _ _ [.ow 3 1 (some ⟨b21, 0, none⟩) 1 1 (iv [((x18.n : Nat) : Int)]), .blk b19 (.cells #[.int .i64 ((x18.n : Nat) : Int), .slice x18.ad x18.b.length x18.cap] 125), .blk k (.cells #[.pointer (some ⟨kd, 0, none⟩), .slice ad rs.length cap] 123), .ow 125 2 ad rs.length cap (List.flatMap rc rs), .ow 3 1 oa i oc (iv (nums (rs.take i)))] _ := hS21.blkOw' (i := 0) (m := 1) (size := 1) (xs := iv [((x18.n : Nat) : Int)]) rfl rfl rfl (by decide); clear hS21
      refine hK _ _ ?_; clear hK K
      refine l_e rfl (fun K hK => ?_)
      refine e_app (e := 3) (size := 1) (bytes := 8) (i := 4) (m' := (i + 1)) (by kernel_rfl) hS21o rfl rfl rfl (SlG.src (e := 3) (by kernel_rfl) (hS21o.owG (i := 0) rfl) (by first | (simp only [List.length_append, List.length_map, List.length_cons, List.length_nil, List.length_take, List.length_drop, List.length_set, Nat.mul_one]; done) | (simp only [List.length_append, List.length_map, List.length_cons, List.length_nil, List.length_take, List.length_drop, List.length_set]; omega) | rfl | (simp; done)) (by decide) (iv_one _)) (by first | omega | (simp only [List.length_append, List.length_map, List.length_cons, List.length_nil, List.length_take, List.length_drop, List.length_set]; omega) | (simp; done)) iv_app (by first | omega | (simp only [maxLen, List.length_append, List.length_map, List.length_cons, List.length_nil, List.length_take, List.length_drop, List.length_set] <;> omega) | (simp only [maxLen]; omega)) (by first | omega | (simp only [List.length_append, List.length_map, List.length_cons, List.length_nil, List.length_take, List.length_drop, List.length_set] <;> omega)) (fun ad22 cp22 w22 (hS22 : St _ _ [.ow 3 1 (some ⟨b21, 0, none⟩) 1 1 (iv [((x18.n : Nat) : Int)]), .blk b19 (.cells #[.int .i64 ((x18.n : Nat) : Int), .slice x18.ad x18.b.length x18.cap] 125), .blk k (.cells #[.pointer (some ⟨kd, 0, none⟩), .slice ad rs.length cap] 123), .ow 125 2 ad rs.length cap (List.flatMap rc rs), .ow 3 1 ad22 (i + 1) cp22 (iv ((nums (rs.take i)) ++ [((x18.n : Nat) : Int)]))] _) => ?_)
      clear hS21o
      refine hK _ _ ?_; clear hK K
      refine l_q rfl rfl (q_assignS rfl) ?_
      refine l_nil ?_
      refine hK16 _ _ ?_
      refine wp_region_lit ?_
      refine l_q rfl rfl (q_addx rfl rfl (by first | decide | omega) (by first | decide | omega)) ?_
      refine l_q rfl rfl (q_moveI rfl) ?_
      refine l_nil ?_
      have hS23 := hS22.fr4; clear hS22
      have hS24 := hS23.fr4; clear hS23
      have hS25 := hS24.fr4; clear hS24
      have hS26 : St _ _ [.blk k (.cells #[.pointer (some ⟨kd, 0, none⟩), .slice ad rs.length cap] 123), .ow 125 2 ad rs.length cap (List.flatMap rc rs), .ow 3 1 ad22 (i + 1) cp22 (iv ((nums (rs.take i)) ++ [((x18.n : Nat) : Int)]))] _ := hS25.only 3; clear hS25
      refine hK12 _ _ (came (⟨(i + 1), ad22, cp22⟩) (by repeat' (first | exact Agree.refl _ _ | refine Agree.up ?_ rfl | refine Agree.hav2 ?_ rfl | refine Agree.ups2 ?_ rfl)) (by repeat' (first | exact trivial | refine ⟨by first | rfl | exact int_succ _ | assumption, ?_⟩)) ?_)
      exact ⟨⟨hS26.cast (by rw [nums_snoc hx18]), by (show i + 1 ≤ rs.length); omega⟩, by (show rs.length - (i + 1) < rs.length - i); omega⟩
    ·
      have hc15b := hc15
      try simp only [decide_eq_true_eq, decide_eq_false_iff_not, Bool.not_eq_true', Bool.not_eq_false', Bool.and_eq_true, Bool.or_eq_true, Int.not_lt, Int.not_le, ne_eq, Decidable.not_not] at hc15
      obtain rfl : i = rs.length := by omega
      refine wp_exit ?_
      refine hK7 _ _ ?_
      refine wp_seq_k (fun K27 hK27 => ?_)
      refine wp_region_lit ?_
      refine l_q rfl rfl (q_moveS rfl) ?_
      refine l_q rfl rfl (q_assignS rfl) ?_
      refine l_nil ?_
      refine hK27 _ _ ?_
      refine wp_ret ?_
      refine c_ret1 rfl rfl ?_
      have hS28 := wk_close hS12; clear hS12
      have hS29 := hS28.fr1; clear hS28
      exact ⟨_, _, rfl, ⟨_, _, rfl, by rw [List.take_length]⟩, hS29⟩

set_option maxRecDepth 100000 in
theorem wSafe_ok (k kd : Nat) (ad : Option Addr) (cap : Nat) (rs : List Rc) (da : Option Addr) (dc : Nat) (l : List Nat) (b s : Nat) (hn : rs.length ≤ 2000000000) (hl : Bytes l) (hb : b + l.length ≤ 2000000000) (hs : s ≤ l.length) (g : Gh) (hR : RsOk g rs) (w : World) (hS : St w (owns [wk k kd ad cap rs, dk kd da dc l b s]) [wk k kd ad cap rs, dk kd da dc l b s] w) : Calls Try.prog 36 #[pV k] w (Post w [wk k kd ad cap rs, dk kd da dc l b s] fun v G => v = .int .i64 ((cnt (b + s) rs : Nat) : Int) ∧ G = [wk k kd ad cap rs, dk kd da dc l b s]) := by
  refine c_enter Try.func36 rfl rfl rfl ?_
  refine wp_seq_k (fun K1 hK1 => ?_)
  have hS2 := wk_open hS; clear hS
  refine wp_region_lit ?_
  refine l_q rfl rfl (q_assignI rfl) ?_
  refine l_nil ?_
  refine hK1 _ _ ?_
  refine wp_seq_k (fun K3 hK3 => ?_)
  refine wp_seq_k (fun K4 hK4 => ?_)
  refine wp_region_lit ?_
  refine l_q rfl rfl (q_moveP rfl) ?_
  refine l_q rfl rfl (q_peq rfl (by kernel_rfl)) ?_
  refine l_nil ?_
  refine hK4 _ _ ?_
  refine c_condF rfl rfl ?_
  refine wp_skip ?_
  refine hK3 _ _ ?_
  refine wp_seq_k (fun K6 hK6 => ?_)
  refine wp_region_lit ?_
  refine l_q rfl rfl (q_assignI rfl) ?_
  refine l_nil ?_
  refine hK6 _ _ ?_
  refine wp_seq_k (fun K7 hK7 => ?_)
  refine wp_seq_k (fun K8 hK8 => ?_)
  refine wp_region_lit ?_
  refine l_q rfl rfl (q_moveP rfl) ?_
  refine l_q rfl rfl (q_nilCheck rfl) ?_
  refine l_q rfl rfl (q_fieldAddr (ft := 121) (o := 1) rfl (by kernel_rfl)) ?_
  refine l_q rfl rfl (q_load1 rfl (by kernel_rfl) (hS2.cell (i := 0) rfl rfl)) ?_
  refine l_q rfl rfl (q_lenSl (e := 125) rfl (by kernel_rfl)) ?_
  refine l_q rfl rfl (q_moveI rfl) ?_
  refine l_nil ?_
  refine hK8 _ _ ?_
  refine wp_block ?_
  refine c_loop (τ := Nat) [(3, 3), (5, 5), (13, 32)] (fun x => (fun (i : Nat) => [(3, .int .i64 (((cnt (b + s) (rs.take i)) : Nat) : Int)), (13, .int .i64 ((i : Nat) : Int))]) x) (fun x w' => (fun (i : Nat) => St w (owns [wk k kd ad cap rs, dk kd da dc l b s]) [.blk k (.cells #[.pointer (some ⟨kd, 0, none⟩), .slice ad rs.length cap] 123), .ow 125 2 ad rs.length cap (List.flatMap rc rs), dk kd da dc l b s] w' ∧ i ≤ rs.length) x) (fun x => (fun (i : Nat) => rs.length - i) x) (0) ?_ (by repeat' (first | exact trivial | refine ⟨by first | rfl | exact int_succ _ | assumption, ?_⟩)) (fun i j9 w9 hJ9 K9 hK9 => ?_)
  ·
    exact ⟨hS2, Nat.zero_le _⟩
  ·
    obtain ⟨hS9, hi⟩ := hJ9
    try dsimp only at hS9 hi ⊢
    refine wp_seq_k (fun K10 hK10 => ?_)
    refine wp_region_lit ?_
    refine l_q rfl rfl (q_lss rfl rfl) ?_
    refine l_nil ?_
    refine hK10 _ _ ?_
    refine wp_seq_k (fun K11 hK11 => ?_)
    refine c_cond rfl (fun hc12 => ?_) (fun hc12 => ?_)
    ·
      have hc12b := hc12
      try simp only [decide_eq_true_eq, decide_eq_false_iff_not, Bool.not_eq_true', Bool.not_eq_false', Bool.and_eq_true, Bool.or_eq_true, Int.not_lt, Int.not_le, ne_eq, Decidable.not_not] at hc12
      refine wp_skip ?_
      refine hK11 _ _ ?_
      refine c_cut (τ := Unit) [(3, 3), (5, 5), (15, 31)] (fun x => [(3, .int .i64 (((cnt (b + s) (rs.take (i + 1))) : Nat) : Int))]) (fun x w' => St w (owns [wk k kd ad cap rs, dk kd da dc l b s]) [.blk k (.cells #[.pointer (some ⟨kd, 0, none⟩), .slice ad rs.length cap] 123), .ow 125 2 ad rs.length cap (List.flatMap rc rs), dk kd da dc l b s] w') (fun K14 hK14 => ?_) (fun x14 j14 w14 hJ14 => ?_)
      ·
        refine wp_block ?_
        refine wp_seq_k (fun K15 hK15 => ?_)
        refine wp_region_lit ?_
        refine l_q rfl rfl (q_ixG (e := 125) (m := 2) (j := i) rfl rfl (by kernel_rfl) (by kernel_rfl) (by first | rfl | omega) (by omega) (hS9.owG (i := 1) rfl) (by rw [rows_len (c := rc) (m := 2) (fun _ => rfl)]; first | omega | (simp only [List.length_append, List.length_map, List.length_cons, List.length_nil, List.length_take, List.length_drop, List.length_set] <;> omega))) ?_
        obtain ⟨x16, hx16⟩ : ∃ x, (rs)[i]? = some x := ⟨_, List.getElem?_eq_getElem (by first | omega | (simp; omega))⟩
        refine l_q rfl rfl (q_loadGA (m := 2) rfl (by kernel_rfl) (by kernel_rfl) (hS9.owG (i := 1) rfl) (row_take hx16 (c := rc) (m := 2) (fun _ => rfl)) rfl (by decide)) ?_
        have hcs := cnt_snoc (b + s) hx16
        have hcl := cnt_le (b + s) (rs.take i)
        have hct : (rs.take i).length ≤ 2000000000 := by rw [List.length_take]; omega
        have hrr := hR x16 (List.mem_of_getElem? hx16)
        refine l_e rfl (fun K hK => ?_)
        refine e_alloc (zv := .agg #[.int .i64 0, .slice none 0 0]) hS9 (by kernel_rfl) (fun b17 w17 (hS17 : St _ _ [.blk b17 (.cells #[.int .i64 (0 : Int), .slice none 0 0] 125), .blk k (.cells #[.pointer (some ⟨kd, 0, none⟩), .slice ad rs.length cap] 123), .ow 125 2 ad rs.length cap (List.flatMap rc rs), dk kd da dc l b s] _) => ?_)
        clear hS9
        refine hK _ _ ?_; clear hK K
        refine l_e rfl (fun K hK => ?_)
        refine e_storeA hS17 rfl rfl (by kernel_rfl) (by repeat' (first | exact trivial | refine ⟨by first | rfl | assumption | exact one_if (by assumption), ?_⟩)) (i := 0) rfl rfl (fun w18 (hS18 : St _ _ [.blk b17 (.cells #[.int .i64 ((x16.n : Nat) : Int), .slice x16.ad x16.b.length x16.cap] 125), .blk k (.cells #[.pointer (some ⟨kd, 0, none⟩), .slice ad rs.length cap] 123), .ow 125 2 ad rs.length cap (List.flatMap rc rs), dk kd da dc l b s] _) => ?_)
        clear hS17
        refine hK _ _ ?_; clear hK K
        refine l_nil ?_
        refine hK15 _ _ ?_
        refine wp_seq_k (fun K19 hK19 => ?_)
        refine r_any (by kernel_rfl) hS18 (fun w20 hS20 => ?_)
        clear hS18
        refine o_pure (i := 0) (fun _ _ => trivial) rfl rfl (by kernel_rfl) (goes0 rfl) (QOk.then (QOk.inBlock (QOk.then (QOk.then (QOk.inBlock (QOk.then QOk.body)))))) (fun w => q_fieldAddr (ft := 3) (o := 0) rfl (by kernel_rfl)) ?_
        refine o_held (i := 1) [2, 6, 12] (fun _ _ => trivial) rfl rfl (by kernel_rfl) (goes0 rfl) (QOk.then (QOk.inBlock (QOk.then (QOk.then (QOk.inBlock (QOk.then QOk.body)))))) (q_load1 rfl (by kernel_rfl) (hS20.cell (i := 0) rfl rfl)) ?_
        refine o_pure (i := 2) (fun j w => ⟨(fun _ _ => trivial) j w, fun _ h => h⟩) rfl rfl (by kernel_rfl) (goes0 rfl) (QOk.then (QOk.inBlock (QOk.then (QOk.then (QOk.inBlock (QOk.then QOk.body)))))) (fun w => q_addx rfl rfl (by first | decide | omega) (by first | decide | omega)) ?_
        refine o_pure (i := 3) (fun j w => ⟨(fun _ _ => trivial) j w, fun _ h => h⟩) rfl rfl (by kernel_rfl) (goes0 rfl) (QOk.then (QOk.inBlock (QOk.then (QOk.then (QOk.inBlock (QOk.then QOk.body)))))) (fun w => q_fieldAddr (ft := 23) (o := 1) rfl (by kernel_rfl)) ?_
        refine o_held (i := 4) [5, 6, 12] (fun j w => ⟨(fun _ _ => trivial) j w, fun _ h => h⟩) rfl rfl (by kernel_rfl) (goes0 rfl) (QOk.then (QOk.inBlock (QOk.then (QOk.then (QOk.inBlock (QOk.then QOk.body)))))) (q_load1 rfl (by kernel_rfl) (hS20.cell (i := 0) rfl rfl)) ?_
        refine o_pure (i := 5) (fun j w => ⟨(fun j w => ⟨(fun _ _ => trivial) j w, fun _ h => h⟩) j w, fun _ h => h⟩) rfl rfl (by kernel_rfl) (goes0 rfl) (QOk.then (QOk.inBlock (QOk.then (QOk.then (QOk.inBlock (QOk.then QOk.body)))))) (fun w => q_lenSl (e := 5) rfl (by kernel_rfl)) ?_
        refine o_pure (i := 6) (fun j w => ⟨(fun j w => ⟨(fun _ _ => trivial) j w, fun _ h => h⟩) j w, fun _ h => h⟩) rfl rfl (by kernel_rfl) (goes0 rfl) (QOk.then (QOk.inBlock (QOk.then (QOk.then (QOk.inBlock (QOk.then QOk.body)))))) (fun w => q_addx rfl rfl (by first | decide | omega) (by first | decide | omega)) ?_
        refine o_pure (i := 7) (fun j w => ⟨(fun j w => ⟨(fun _ _ => trivial) j w, fun _ h => h⟩) j w, fun _ h => h⟩) rfl rfl (by kernel_rfl) (goes0 rfl) (QOk.then (QOk.inBlock (QOk.then (QOk.then (QOk.inBlock (QOk.then QOk.body)))))) (fun w => q_moveP rfl) ?_
        refine o_pure (i := 8) (fun j w => ⟨(fun j w => ⟨(fun _ _ => trivial) j w, fun _ h => h⟩) j w, fun _ h => h⟩) rfl rfl (by kernel_rfl) (goes0 rfl) (QOk.then (QOk.inBlock (QOk.then (QOk.then (QOk.inBlock (QOk.then QOk.body)))))) (fun w => q_nilCheck rfl) ?_
        refine o_pure (i := 9) (fun j w => ⟨(fun j w => ⟨(fun _ _ => trivial) j w, fun _ h => h⟩) j w, fun _ h => h⟩) rfl rfl (by kernel_rfl) (goes0 rfl) (QOk.then (QOk.inBlock (QOk.then (QOk.then (QOk.inBlock (QOk.then QOk.body)))))) (fun w => q_fieldAddr (ft := 51) (o := 0) rfl (by kernel_rfl)) ?_
        refine o_held (i := 10) [11, 12] (fun j w => ⟨(fun j w => ⟨(fun _ _ => trivial) j w, fun _ h => h⟩) j w, fun _ h => h⟩) rfl rfl (by kernel_rfl) (goes0 rfl) (QOk.then (QOk.inBlock (QOk.then (QOk.then (QOk.inBlock (QOk.then QOk.body)))))) (q_load1 rfl (by kernel_rfl) (hS20.cell (i := 1) rfl rfl)) ?_
        refine o_eff (i := 11) (by kernel_rfl) rfl (goes0 rfl) (fun K hK => ?_)
        have hS22 := hS20.fr3; clear hS20
        refine e_call (by kernel_rfl) (dSafe_ok _ _ _ _ _ _ hl (by first | omega | (simp; omega)) (by first | omega | (simp; omega)) _ (St.begin (Γ := [_]) hS22)) rfl (after_M (Γ1 := [_]) hS22 (fun v21 G21 w21 hv21 hS21 => ?_))
        clear hS22
        obtain ⟨rfl, rfl⟩ := hv21
        have hS23 : St _ _ [dk kd da dc l b s, .blk b17 (.cells #[.int .i64 ((x16.n : Nat) : Int), .slice x16.ad x16.b.length x16.cap] 125), .blk k (.cells #[.pointer (some ⟨kd, 0, none⟩), .slice ad rs.length cap] 123), .ow 125 2 ad rs.length cap (List.flatMap rc rs)] _ := hS21; clear hS21
        refine hK _ _ ⟨⟨⟨trivial, fun _ _ => by first | exact q_load1 rfl (by kernel_rfl) (hS23.cell (i := 1) rfl rfl)⟩, fun _ _ => by first | exact q_load1 rfl (by kernel_rfl) (hS23.cell (i := 1) rfl rfl)⟩, fun h => absurd h (by decide)⟩ ?_; clear hK K
        refine o_pure (i := 12) (fun j w => ⟨(fun j w => ⟨(fun j w => ⟨(fun _ _ => trivial) j w, fun _ h => h⟩) j w, fun _ h => h⟩) j w, fun _ h => h⟩) rfl rfl (by kernel_rfl) (goes0 rfl) (QOk.then (QOk.inBlock (QOk.then (QOk.then (QOk.inBlock (QOk.then QOk.body)))))) (fun w => q_leq rfl rfl) ?_
        refine o_done (by kernel_rfl) ?_
        refine hK19 _ _ ?_
        refine c_cond rfl (fun hc24 => ?_) (fun hc24 => ?_)
        ·
          have hc24b := hc24
          try simp only [decide_eq_true_eq, decide_eq_false_iff_not, Bool.not_eq_true', Bool.not_eq_false', Bool.and_eq_true, Bool.or_eq_true, Int.not_lt, Int.not_le, ne_eq, Decidable.not_not] at hc24
          refine wp_region_lit ?_
          refine l_q rfl rfl (q_moveI rfl) ?_
          refine l_q rfl rfl (q_addx rfl rfl (by first | decide | omega) (by first | decide | omega)) ?_
          refine l_q rfl rfl (q_assignI rfl) ?_
          refine l_nil ?_
          have hS25 := hS23.fr3; clear hS23
          have hS26 := hS25.fr3; clear hS25
          have hS27 : St _ _ [.blk k (.cells #[.pointer (some ⟨kd, 0, none⟩), .slice ad rs.length cap] 123), .ow 125 2 ad rs.length cap (List.flatMap rc rs), dk kd da dc l b s] _ := hS26.only 3; clear hS26
          refine hK14 _ _ (came (()) (by repeat' (first | exact Agree.refl _ _ | refine Agree.up ?_ rfl | refine Agree.hav2 ?_ rfl | refine Agree.ups2 ?_ rfl)) (by refine ⟨?_, trivial⟩; first | exact congrArg (Value.int .i64) (by rw [hcs, if_pos (by omega)]; omega) | exact congrArg (Value.int .i64) (by rw [hcs, if_neg (by omega)]; omega)) ?_)
          exact hS27
        ·
          have hc24b := hc24
          try simp only [decide_eq_true_eq, decide_eq_false_iff_not, Bool.not_eq_true', Bool.not_eq_false', Bool.and_eq_true, Bool.or_eq_true, Int.not_lt, Int.not_le, ne_eq, Decidable.not_not] at hc24
          refine wp_skip ?_
          have hS28 := hS23.fr3; clear hS23
          have hS29 := hS28.fr3; clear hS28
          have hS30 : St _ _ [.blk k (.cells #[.pointer (some ⟨kd, 0, none⟩), .slice ad rs.length cap] 123), .ow 125 2 ad rs.length cap (List.flatMap rc rs), dk kd da dc l b s] _ := hS29.only 3; clear hS29
          refine hK14 _ _ (came (()) (by repeat' (first | exact Agree.refl _ _ | refine Agree.up ?_ rfl | refine Agree.hav2 ?_ rfl | refine Agree.ups2 ?_ rfl)) (by refine ⟨?_, trivial⟩; first | exact congrArg (Value.int .i64) (by rw [hcs, if_pos (by omega)]; omega) | exact congrArg (Value.int .i64) (by rw [hcs, if_neg (by omega)]; omega)) ?_)
          exact hS30
      ·
        have hS14 := hJ14
        try dsimp only at hS14 ⊢
        refine wp_region_lit ?_
        refine l_q rfl rfl (q_addx rfl rfl (by first | decide | omega) (by first | decide | omega)) ?_
        refine l_q rfl rfl (q_moveI rfl) ?_
        refine l_nil ?_
        refine hK9 _ _ (came ((i + 1)) (by repeat' (first | exact Agree.refl _ _ | refine Agree.up ?_ rfl | refine Agree.hav2 ?_ rfl | refine Agree.ups2 ?_ rfl)) (by repeat' (first | exact trivial | refine ⟨by first | rfl | exact int_succ _ | assumption, ?_⟩)) ?_)
        exact ⟨⟨hS14, by (show i + 1 ≤ rs.length); omega⟩, by (show rs.length - (i + 1) < rs.length - i); omega⟩
    ·
      have hc12b := hc12
      try simp only [decide_eq_true_eq, decide_eq_false_iff_not, Bool.not_eq_true', Bool.not_eq_false', Bool.and_eq_true, Bool.or_eq_true, Int.not_lt, Int.not_le, ne_eq, Decidable.not_not] at hc12
      obtain rfl : i = rs.length := by omega
      refine wp_exit ?_
      refine hK7 _ _ ?_
      refine wp_seq_k (fun K31 hK31 => ?_)
      refine wp_region_lit ?_
      refine l_q rfl rfl (q_moveI rfl) ?_
      refine l_q rfl rfl (q_assignI rfl) ?_
      refine l_nil ?_
      refine hK31 _ _ ?_
      refine wp_ret ?_
      refine c_ret1 rfl rfl ?_
      have hS32 := wk_close hS9; clear hS9
      exact ⟨_, _, rfl, ⟨congrArg (fun q => Value.int .i64 ((cnt (b + s) q : Nat) : Int)) List.take_length, rfl⟩, hS32⟩

set_option maxRecDepth 100000 in
theorem wRead_ok (k kd : Nat) (ad : Option Addr) (cap : Nat) (rs : List Rc) (g : Gh) (hn : rs.length ≤ 2000000000) (hR : RsOk g rs) (z : Int) (w : World) (hS : St w (owns [wk k kd ad cap rs, .fz g]) [wk k kd ad cap rs, .fz g] w) : Calls Try.prog 37 #[pV k, .int .i64 z] w (Post w [wk k kd ad cap rs, .fz g] fun v G => ∃ ad' cap', v = .tuple #[.slice ad' (rdB (rs.map Rc.abs) z).length cap', .int .i64 ((rdE (rs.map Rc.abs) z : Nat) : Int)] ∧ G = [.ow 5 1 ad' (rdB (rs.map Rc.abs) z).length cap' (bv (rdB (rs.map Rc.abs) z)), wk k kd ad cap rs, .fz g]) := by
  refine c_enter Try.func37 rfl rfl rfl ?_
  refine wp_seq_k (fun K1 hK1 => ?_)
  refine wp_region_lit ?_
  refine l_q rfl rfl (q_assignS rfl) ?_
  refine l_q rfl rfl (q_assignI rfl) ?_
  refine l_nil ?_
  refine hK1 _ _ ?_
  refine wp_seq_k (fun K2 hK2 => ?_)
  refine wp_seq_k (fun K3 hK3 => ?_)
  refine wp_region_lit ?_
  refine l_q rfl rfl (q_moveP rfl) ?_
  refine l_q rfl rfl (q_peq rfl (by kernel_rfl)) ?_
  refine l_nil ?_
  refine hK3 _ _ ?_
  refine c_condF rfl rfl ?_
  refine wp_skip ?_
  refine hK2 _ _ ?_
  refine wp_seq_k (fun K5 hK5 => ?_)
  refine wp_region_lit ?_
  refine l_q rfl rfl (q_moveP rfl) ?_
  refine l_q rfl rfl (q_moveI rfl) ?_
  refine l_e rfl (fun K hK => ?_)
  refine e_call (by kernel_rfl) (find_ok _ _ _ _ rs z (by first | omega | (simp only [List.length_append, List.length_map, List.length_cons, List.length_nil, List.length_take, List.length_drop, List.length_set] <;> omega)) _ (St.begin (Γ := [_]) hS)) rfl (after_M (Γ1 := [_]) hS (fun v6 G6 w6 hv6 hS6 => ?_))
  clear hS
  obtain ⟨rfl, rfl⟩ := hv6
  have hS7 : St _ _ [wk k kd ad cap rs, .fz g] _ := hS6; clear hS6
  refine hK _ _ ?_; clear hK K
  refine l_q rfl rfl (q_assignI rfl) ?_
  refine l_nil ?_
  refine hK5 _ _ ?_
  refine wp_seq_k (fun K8 hK8 => ?_)
  refine wp_seq_k (fun K9 hK9 => ?_)
  refine wp_region_lit ?_
  refine l_q rfl rfl (q_moveI rfl) ?_
  refine l_q rfl rfl (q_lss rfl rfl) ?_
  refine l_nil ?_
  refine hK9 _ _ ?_
  refine c_cond rfl (fun hc10 => ?_) (fun hc10 => ?_)
  ·
    have hc10b := hc10
    try simp only [decide_eq_true_eq, decide_eq_false_iff_not, Bool.not_eq_true', Bool.not_eq_false', Bool.and_eq_true, Bool.or_eq_true, Int.not_lt, Int.not_le, ne_eq, Decidable.not_not] at hc10
    have hrd := fIdx_no_rd (rs := rs) (z := z) (by omega)
    refine wp_seq_k (fun K11 hK11 => ?_)
    refine wp_region_lit ?_
    refine l_q rfl rfl (q_assignS rfl) ?_
    refine l_q rfl rfl (q_assignI rfl) ?_
    refine l_nil ?_
    refine hK11 _ _ ?_
    refine wp_ret ?_
    refine c_ret2 rfl rfl rfl ?_
    have hS12 : St _ _ [.ow 5 1 none 0 0 (bv []), wk k kd ad cap rs, .fz g] _ := hS7.ow_nil 5 1; clear hS7
    exact ⟨_, _, rfl, ⟨none, 0, by rw [rdB, rdE, hrd]; rfl, by rw [rdB, hrd]; rfl⟩, hS12⟩
  ·
    have hc10b := hc10
    try simp only [decide_eq_true_eq, decide_eq_false_iff_not, Bool.not_eq_true', Bool.not_eq_false', Bool.and_eq_true, Bool.or_eq_true, Int.not_lt, Int.not_le, ne_eq, Decidable.not_not] at hc10
    obtain ⟨q, hq⟩ : ∃ q : Nat, fIdx rs z = (q : Int) := ⟨(fIdx rs z).toNat, by omega⟩
    have hql := fIdx_lt (rs := rs) (z := z)
    refine wp_skip ?_
    refine hK8 _ _ ?_
    refine wp_seq_k (fun K13 hK13 => ?_)
    refine wp_region_lit ?_
    refine l_q rfl rfl (q_moveP rfl) ?_
    refine l_q rfl rfl (q_nilCheck rfl) ?_
    refine l_q rfl rfl (q_fieldAddr (ft := 121) (o := 1) rfl (by kernel_rfl)) ?_
    have hS14 := wk_open hS7; clear hS7
    refine l_q rfl rfl (q_load1 rfl (by kernel_rfl) (hS14.cell (i := 0) rfl rfl)) ?_
    refine l_q rfl rfl (q_moveI rfl) ?_
    refine l_q rfl rfl (q_ixG (e := 125) (m := 2) (j := q) rfl rfl (by kernel_rfl) (by kernel_rfl) (by first | rfl | omega) (by omega) (hS14.owG (i := 1) rfl) (by rw [rows_len (c := rc) (m := 2) (fun _ => rfl)]; first | omega | (simp only [List.length_append, List.length_map, List.length_cons, List.length_nil, List.length_take, List.length_drop, List.length_set] <;> omega))) ?_
    refine l_q rfl rfl (q_fieldG (ft := 23) (o := 1) rfl (by kernel_rfl)) ?_
    obtain ⟨x15, hx15⟩ : ∃ x, (rs)[q]? = some x := ⟨_, List.getElem?_eq_getElem (by first | omega | (simp; omega))⟩
    have hr_x15 := hR x15 (List.mem_of_getElem? hx15)
    refine l_q rfl rfl (q_load1 rfl (by kernel_rfl) (SlG.cell (hS14.owG (i := 1) rfl) (Gle.refl _) (row_at hx15 (c := rc) (m := 2) (fun _ => rfl) (j := 1) rfl))) ?_
    have hrd := (fIdx_rd hq hx15).2
    refine l_e rfl (fun K hK => ?_)
    refine e_call (by kernel_rfl) (Clone_ok x15.b _ _ x15.b.length (by first | omega | (simp only [List.length_append, List.length_map, List.length_cons, List.length_nil, List.length_take, List.length_drop, List.length_set] <;> omega)) (by first | omega | (simp only [List.length_append, List.length_map, List.length_cons, List.length_nil, List.length_take, List.length_drop, List.length_set] <;> omega)) _ ((hR x15 (List.mem_of_getElem? hx15)).1.mono (hS14.fz (i := 2) rfl))) rfl (after_N hS14 (fun v16 G16 w16 hv16 hS16 => ?_))
    clear hS14
    obtain ⟨ad16, cp16, rfl, rfl⟩ := hv16
    have hS17 : St _ _ [.ow 5 1 ad16 x15.b.length cp16 (bv x15.b), .blk k (.cells #[.pointer (some ⟨kd, 0, none⟩), .slice ad rs.length cap] 123), .ow 125 2 ad rs.length cap (List.flatMap rc rs), .fz g] _ := hS16; clear hS16
    refine hK _ _ ?_; clear hK K
    refine l_q rfl rfl (q_assignS rfl) ?_
    refine l_q rfl rfl (q_assignI rfl) ?_
    refine l_nil ?_
    refine hK13 _ _ ?_
    refine wp_ret ?_
    refine c_ret2 rfl rfl rfl ?_
    have hS18 := hS17.fr2; clear hS17
    have hS19 := hS18.fr2; clear hS18
    have hS20 := wk_close hS19; clear hS19
    have hS21 := hS20.fr2; clear hS20
    have hS22 := hS21.fr1; clear hS21
    have hS23 := hS22.fr2; clear hS22
    exact ⟨_, _, rfl, ⟨_, _, by rw [rdB, rdE, hrd]; rfl, by rw [rdB, hrd]; rfl⟩, hS23⟩

set_option maxRecDepth 100000 in
theorem cloneR (xs : List Value) (h1 : ∀ u ∈ xs, u.oneCell' = true) (ad : Option Addr) (cap m : Nat) (hm : xs.length = m * 2) (hn : m ≤ 2000000000) (w : World) (hG : SlG (hw w) ad xs) : Calls Try.prog 77 #[.slice ad m cap] w (PostN w fun v G => ∃ ad' cap', v = .slice ad' m cap' ∧ G = [.ow 125 2 ad' m cap' xs]) := by
  have hS := St.start w
  refine c_enter Try.func77 rfl rfl rfl ?_
  refine wp_seq_k (fun K1 hK1 => ?_)
  refine wp_region_lit ?_
  refine l_q rfl rfl (q_assignS rfl) ?_
  refine l_nil ?_
  refine hK1 _ _ ?_
  refine wp_seq_k (fun K2 hK2 => ?_)
  refine wp_seq_k (fun K3 hK3 => ?_)
  refine wp_region_lit ?_
  refine l_q rfl rfl (q_moveS rfl) ?_
  refine l_q rfl rfl (q_slice_eql 125 rfl rfl (by kernel_rfl)) ?_
  refine l_nil ?_
  refine hK3 _ _ ?_
  refine c_cond rfl (fun hc4 => ?_) (fun hc4 => ?_)
  ·
    have hc4b := hc4
    try simp only [decide_eq_true_eq, decide_eq_false_iff_not, Bool.not_eq_true', Bool.not_eq_false', Bool.and_eq_true, Bool.or_eq_true, Int.not_lt, Int.not_le, ne_eq, Decidable.not_not] at hc4
    have ha := hc4
    obtain rfl : ad = none := by cases ad with | none => rfl | some a => cases ha
    obtain rfl : xs = [] := SlG.ofNone hG
    obtain rfl : m = 0 := by simp only [List.length_nil] at hm; omega
    refine wp_seq_k (fun K5 hK5 => ?_)
    refine wp_region_lit ?_
    refine l_q rfl rfl (q_assignS rfl) ?_
    refine l_nil ?_
    refine hK5 _ _ ?_
    refine wp_ret ?_
    refine c_ret1 rfl rfl ?_
    exact ⟨_, _, rfl, ⟨_, _, rfl, rfl⟩, hS.ow_nil _ _⟩
  ·
    have hc4b := hc4
    try simp only [decide_eq_true_eq, decide_eq_false_iff_not, Bool.not_eq_true', Bool.not_eq_false', Bool.and_eq_true, Bool.or_eq_true, Int.not_lt, Int.not_le, ne_eq, Decidable.not_not] at hc4
    refine wp_skip ?_
    refine hK2 _ _ ?_
    refine wp_seq_k (fun K6 hK6 => ?_)
    refine wp_region_lit ?_
    refine l_e rfl (fun K hK => ?_)
    refine e_buildSlice0 (e := 125) (m := 2) hS (by kernel_rfl) (by kernel_rfl) (fun b7 w7 (hS7 : St _ _ [.blk b7 (.cells #[] 125)] _) => ?_)
    clear hS
    have hS7o : St _ _ [.ow 125 2 (some ⟨b7, 0, none⟩) 0 0 []] _ := hS7.blkOw' (i := 0) (m := 0) (size := 2) (xs := []) rfl rfl rfl (by decide); clear hS7
    refine hK _ _ ?_; clear hK K
    refine l_q rfl rfl (q_moveS rfl) ?_
    refine l_e rfl (fun K hK => ?_)
    refine e_app (e := 125) (size := 2) (bytes := 32) (i := 0) (m' := m) (by kernel_rfl) hS7o rfl rfl rfl (SlG.src (e := 125) (by kernel_rfl) (hG.mono hS7o.base) (by first | assumption | omega | (simp only [List.length_append, List.length_map, List.length_cons, List.length_nil, List.length_take, List.length_drop, List.length_set] <;> omega)) (by decide) h1) (by first | omega | (simp only [List.length_append, List.length_map, List.length_cons, List.length_nil, List.length_take, List.length_drop, List.length_set]; omega) | (simp; done)) rfl (by first | omega | (simp only [maxLen, List.length_append, List.length_map, List.length_cons, List.length_nil, List.length_take, List.length_drop, List.length_set] <;> omega) | (simp only [maxLen]; omega)) (by first | omega | (simp only [List.length_append, List.length_map, List.length_cons, List.length_nil, List.length_take, List.length_drop, List.length_set] <;> omega)) (fun ad8 cp8 w8 (hS8 : St _ _ [.ow 125 2 ad8 m cp8 xs] _) => ?_)
    clear hS7o
    refine hK _ _ ?_; clear hK K
    refine l_q rfl rfl (q_assignS rfl) ?_
    refine l_nil ?_
    refine hK6 _ _ ?_
    refine wp_ret ?_
    refine c_ret1 rfl rfl ?_
    exact ⟨_, _, rfl, ⟨_, _, rfl, rfl⟩, hS8⟩

end Go.Proofs.Ytmbbkliekgiolaa
