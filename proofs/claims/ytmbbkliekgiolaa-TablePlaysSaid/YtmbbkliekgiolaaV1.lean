/- slices.Insert at bytes. -/
import Derived.Test.YtmbbkliekgiolaaV0
set_option linter.unusedVariables false
set_option linter.unusedSimpArgs false
namespace Go.Proofs.Ytmbbkliekgiolaa
open Go.RowKit
theorem ow_ov {w0 w : World} {Γ Γ1 : List Ch} {e size n cap i l mx : Nat} {ad : Option Addr} {xs : List Value} {g : Gh} (hs : 0 < size) (h : St w0 (owns Γ1) Γ w) (hi : Γ[i]? = some (.ow e size ad n cap xs)) (hg : Rog Γ1 w0 g) (hn : 0 < n) :
    subS ad l size mx = none ∨ ∃ gb off cur T, subS ad l size mx = some ⟨gb, off, none⟩ ∧ w.heap[gb]? = some (.cells cur T (0, 0)) ∧ cur.size ≠ 0 ∧ ∀ o, g gb ≠ some o := by
  obtain ⟨h1, h2, h3, h4⟩ := (h.sat.get hi).1
  rcases h4 with ⟨rfl, h0⟩ | ⟨gb, off, cur, rfl, hgb, hle, hx⟩
  · left; unfold subS; split <;> rfl
  · right
    have hcs : cur.size ≠ 0 := by
      have : 0 < cap * size := Nat.mul_pos (by omega) hs
      omega
    have hno : ∀ o, g gb ≠ some o := fun o e => by
      have h5 := hg gb o e
      rcases ((h.sat.get hi).2 gb ⟨_, rfl, rfl⟩).1 with h6 | h6
      · exact h5.2 h6
      · have := (Array.getElem?_eq_some_iff.1 h5.1).1; omega
    by_cases hm : mx = l
    · exact ⟨gb, off, cur, _, by simp [subS, hm], hgb, hcs, hno⟩
    · exact ⟨gb, off + l * size, cur, _, by simp [subS, hm, addr_add], hgb, hcs, hno⟩
attribute [local irreducible] Oper.wp Sem.run Code.wp wpList wpAnyO callFunc execOp Calls

theorem x_insB (args : Array Value) (w : World) : (callFunc 99 args).run Try.prog w = ((Extern.SlicesOverlaps.overlaps #[23, 23] #[4] args).run Try.prog w).andThen fun v w' => .ok (.value v) w' :=
  run_callFunc_extern (e := Extern.SlicesOverlaps.overlaps #[23, 23] #[4]) Try.func99 (by kernel_rfl) (by kernel_rfl) (by kernel_rfl) (by kernel_rfl) args w
set_option maxHeartbeats 1000000 in
set_option maxRecDepth 100000 in
theorem insB (n i m cap c2 : Nat) (ad ad2 : Option Addr) (xs zs : List Value) (hx1 : ∀ u ∈ xs, u.oneCell' = true) (hz1 : ∀ u ∈ zs, u.oneCell' = true) (hi : i ≤ n) (hzl : zs.length = m * 1) (hnm : n + m ≤ 100000000) (g : Gh) (hZ : SlP g ad2 zs) (w : World) (hg : Rog [.ow 5 1 ad n cap xs] w g) (hS : St w (owns [.ow 5 1 ad n cap xs]) [.ow 5 1 ad n cap xs] w) : Calls Try.prog 93 #[.slice ad n cap, .int .i64 ((i : Nat) : Int), .slice ad2 m c2] w (Post w [.ow 5 1 ad n cap xs] fun v G => ∃ ad' cap', v = .slice ad' (n + m) cap' ∧ G = [.ow 5 1 ad' (n + m) cap' (xs.take (i * 1) ++ zs ++ xs.drop (i * 1))]) := by
  have hxl := (hS.owLen (i := 0) rfl).1
  have hcl := (hS.owLen (i := 0) rfl).2.1
  have hmi : i * 1 + m * 1 = (i + m) * 1 := by omega
  have hni : n * 1 - i * 1 = (n - i) * 1 := by omega
  refine c_enter Try.func93 rfl rfl rfl ?_
  refine wp_seq_k (fun K1 hK1 => ?_)
  refine wp_region_lit ?_
  refine l_q rfl rfl (q_assignS rfl) ?_
  refine l_nil ?_
  refine hK1 _ _ ?_
  refine wp_seq_k (fun K2 hK2 => ?_)
  refine wp_region_lit ?_
  refine l_q rfl rfl (q_moveS rfl) ?_
  refine l_q rfl rfl (q_moveI rfl) ?_
  have hcp3 := (hS.owLen (i := 0) rfl).2.1
  refine l_q rfl rfl (q_sliceX (e := 5) (size := 1) (l := i) (h := n) (m := cap) (ad' := (subS ad i 1 cap)) (len' := (n - i)) (cap' := (cap - i)) rfl (by kernel_rfl) (by kernel_rfl) rfl rfl ⟨_, int_nat (by first | rfl | omega) rfl⟩ (by omega) (by first | omega | (simp only [List.length_append, List.length_map, List.length_cons, List.length_nil, List.length_take, List.length_drop, List.length_set] <;> omega)) (by first | omega | (simp only [List.length_append, List.length_map, List.length_cons, List.length_nil, List.length_take, List.length_drop, List.length_set] <;> omega)) rfl rfl rfl rfl) ?_
  refine l_nil ?_
  refine hK2 _ _ ?_
  refine wp_seq_k (fun K4 hK4 => ?_)
  refine wp_region_lit ?_
  refine l_q rfl rfl (q_moveS rfl) ?_
  refine l_q rfl rfl (q_lenSl (e := 5) rfl (by kernel_rfl)) ?_
  refine l_q rfl rfl (q_assignI rfl) ?_
  refine l_nil ?_
  refine hK4 _ _ ?_
  refine wp_seq_k (fun K5 hK5 => ?_)
  refine wp_seq_k (fun K6 hK6 => ?_)
  refine wp_region_lit ?_
  refine l_q rfl rfl (q_moveI rfl) ?_
  refine l_q rfl rfl (q_eql rfl rfl) ?_
  refine l_nil ?_
  refine hK6 _ _ ?_
  refine c_cond rfl (fun hc7 => ?_) (fun hc7 => ?_)
  ·
    have hc7b := hc7
    try simp only [decide_eq_true_eq, decide_eq_false_iff_not, Bool.not_eq_true', Bool.not_eq_false', Bool.and_eq_true, Bool.or_eq_true, Int.not_lt, Int.not_le, ne_eq, Decidable.not_not] at hc7
    have hm0 : m = 0 := by omega
    subst hm0
    obtain rfl : zs = [] := List.eq_nil_of_length_eq_zero (by omega)
    refine wp_seq_k (fun K8 hK8 => ?_)
    refine wp_region_lit ?_
    refine l_q rfl rfl (q_moveS rfl) ?_
    refine l_q rfl rfl (q_assignS rfl) ?_
    refine l_nil ?_
    refine hK8 _ _ ?_
    refine wp_ret ?_
    refine c_ret1 rfl rfl ?_
    have e1 : xs.take (i * 1) ++ [] ++ xs.drop (i * 1) = xs := by rw [List.append_nil, List.take_append_drop]
    exact ⟨_, _, rfl, ⟨ad, cap, rfl, by rw [e1] <;> rfl⟩, hS⟩
  ·
    have hc7b := hc7
    try simp only [decide_eq_true_eq, decide_eq_false_iff_not, Bool.not_eq_true', Bool.not_eq_false', Bool.and_eq_true, Bool.or_eq_true, Int.not_lt, Int.not_le, ne_eq, Decidable.not_not] at hc7
    refine wp_skip ?_
    refine hK5 _ _ ?_
    refine wp_seq_k (fun K9 hK9 => ?_)
    refine wp_region_lit ?_
    refine l_q rfl rfl (q_moveS rfl) ?_
    refine l_q rfl rfl (q_lenSl (e := 5) rfl (by kernel_rfl)) ?_
    refine l_q rfl rfl (q_assignI rfl) ?_
    refine l_nil ?_
    refine hK9 _ _ ?_
    refine wp_seq_k (fun K10 hK10 => ?_)
    refine wp_seq_k (fun K11 hK11 => ?_)
    refine wp_region_lit ?_
    refine l_q rfl rfl (q_moveI rfl) ?_
    refine l_q rfl rfl (q_moveI rfl) ?_
    refine l_q rfl rfl (q_eql rfl rfl) ?_
    refine l_nil ?_
    refine hK11 _ _ ?_
    refine c_cond rfl (fun hc12 => ?_) (fun hc12 => ?_)
    ·
      have hc12b := hc12
      try simp only [decide_eq_true_eq, decide_eq_false_iff_not, Bool.not_eq_true', Bool.not_eq_false', Bool.and_eq_true, Bool.or_eq_true, Int.not_lt, Int.not_le, ne_eq, Decidable.not_not] at hc12
      have hin : i = n := by omega
      refine wp_seq_k (fun K13 hK13 => ?_)
      refine wp_region_lit ?_
      refine l_q rfl rfl (q_moveS rfl) ?_
      refine l_q rfl rfl (q_moveS rfl) ?_
      refine l_e rfl (fun K hK => ?_)
      refine e_app (e := 5) (size := 1) (bytes := 1) (i := 0) (m' := (n + m)) (by kernel_rfl) hS rfl rfl rfl (SlG.src (e := 5) (by kernel_rfl) ((SlP.slg hZ).mono (hg.le hS)) (by first | assumption | omega | (simp only [List.length_append, List.length_map, List.length_cons, List.length_nil, List.length_take, List.length_drop, List.length_set] <;> omega)) (by decide) hz1) (by first | omega | (simp only [List.length_append, List.length_map, List.length_cons, List.length_nil, List.length_take, List.length_drop, List.length_set]; omega) | (simp; done)) rfl (by first | omega | (simp only [maxLen, List.length_append, List.length_map, List.length_cons, List.length_nil, List.length_take, List.length_drop, List.length_set] <;> omega) | (simp only [maxLen]; omega)) (by first | omega | (simp only [List.length_append, List.length_map, List.length_cons, List.length_nil, List.length_take, List.length_drop, List.length_set] <;> omega)) (fun ad14 cp14 w14 (hS14 : St _ _ [.ow 5 1 ad14 (n + m) cp14 (xs ++ zs)] _) => ?_)
      clear hS
      refine hK _ _ ?_; clear hK K
      refine l_q rfl rfl (q_assignS rfl) ?_
      refine l_nil ?_
      refine hK13 _ _ ?_
      refine wp_ret ?_
      refine c_ret1 rfl rfl ?_
      have e1 : xs.take (i * 1) ++ zs ++ xs.drop (i * 1) = xs ++ zs := by rw [List.take_of_length_le (by omega), List.drop_eq_nil_of_le (by omega), List.append_nil]
      exact ⟨_, _, rfl, ⟨_, _, rfl, by rw [e1]⟩, hS14⟩
    ·
      have hc12b := hc12
      try simp only [decide_eq_true_eq, decide_eq_false_iff_not, Bool.not_eq_true', Bool.not_eq_false', Bool.and_eq_true, Bool.or_eq_true, Int.not_lt, Int.not_le, ne_eq, Decidable.not_not] at hc12
      refine wp_skip ?_
      refine hK10 _ _ ?_
      refine wp_seq_k (fun K15 hK15 => ?_)
      refine wp_seq_k (fun K16 hK16 => ?_)
      refine wp_region_lit ?_
      refine l_q rfl rfl (q_moveI rfl) ?_
      refine l_q rfl rfl (q_moveI rfl) ?_
      refine l_q rfl rfl (q_addx rfl rfl (by first | decide | omega) (by first | decide | omega)) ?_
      refine l_q rfl rfl (q_moveS rfl) ?_
      refine l_q rfl rfl (q_capSl (e := 5) rfl (by kernel_rfl)) ?_
      refine l_q rfl rfl (q_gtr rfl rfl) ?_
      refine l_nil ?_
      refine hK16 _ _ ?_
      refine c_cond rfl (fun hc17 => ?_) (fun hc17 => ?_)
      ·
        have hc17b := hc17
        try simp only [decide_eq_true_eq, decide_eq_false_iff_not, Bool.not_eq_true', Bool.not_eq_false', Bool.and_eq_true, Bool.or_eq_true, Int.not_lt, Int.not_le, ne_eq, Decidable.not_not] at hc17
        refine wp_seq_k (fun K18 hK18 => ?_)
        refine wp_region_lit ?_
        refine l_q rfl rfl (q_moveS rfl) ?_
        refine l_q rfl rfl (q_moveI rfl) ?_
        refine l_q rfl rfl (q_sliceX (e := 5) (size := 1) (l := 0) (h := i) (m := cap) (ad' := ad) (len' := i) (cap' := cap) rfl (by kernel_rfl) (by kernel_rfl) rfl ⟨_, int_nat (by first | rfl | omega) rfl⟩ rfl (by omega) (by first | omega | (simp only [List.length_append, List.length_map, List.length_cons, List.length_nil, List.length_take, List.length_drop, List.length_set] <;> omega)) (by first | omega | (simp only [List.length_append, List.length_map, List.length_cons, List.length_nil, List.length_take, List.length_drop, List.length_set] <;> omega)) rfl subS_zero (Nat.sub_zero _) (Nat.sub_zero _)) ?_
        refine l_q rfl rfl (q_moveI rfl) ?_
        refine l_q rfl rfl (q_moveI rfl) ?_
        refine l_q rfl rfl (q_addx rfl rfl (by first | decide | omega) (by first | decide | omega)) ?_
        refine l_q rfl rfl (q_moveI rfl) ?_
        refine l_q rfl rfl (q_subx rfl rfl (by first | decide | omega) (by first | decide | omega)) ?_
        refine l_e rfl (fun K hK => ?_)
        refine e_appZ (e := 5) (size := 1) (bytes := 1) (m := i) (l := n + m - i) (m' := n + m) (kn := .i64) (by kernel_rfl) (by kernel_rfl) hS rfl (SlG.takeN (hS.owG (i := 0) rfl) (i * 1)) (by rw [List.length_take, hxl]; exact Nat.min_eq_left (Nat.mul_le_mul_right _ hi)) rfl (by omega) (by omega) (by omega) (by simp only [maxLen]; omega) (by omega) (fun b19 cq19 w19 yz19 hyl19 (hS19 : St _ _ [.ow 5 1 (some ⟨b19, 0, none⟩) (n + m) cq19 (xs.take (i * 1) ++ yz19), .ow 5 1 ad n cap xs] _) => ?_)
        clear hS
        have hyl := hyl19
        refine hK _ _ ?_; clear hK K
        refine l_q rfl rfl (q_assignS rfl) ?_
        refine l_nil ?_
        refine hK18 _ _ ?_
        refine wp_seq_k (fun K20 hK20 => ?_)
        refine wp_region_lit ?_
        refine l_q rfl rfl (q_moveS rfl) ?_
        refine l_q rfl rfl (q_moveI rfl) ?_
        have hcp21 := (hS19.owLen (i := 0) rfl).2.1
        refine l_q rfl rfl (q_sliceX (e := 5) (size := 1) (l := i) (h := (n + m)) (m := cq19) (ad' := (subS (some ⟨b19, 0, none⟩) i 1 cq19)) (len' := ((n + m) - i)) (cap' := (cq19 - i)) rfl (by kernel_rfl) (by kernel_rfl) rfl rfl ⟨_, int_nat (by first | rfl | omega) rfl⟩ (by omega) (by first | omega | (simp only [List.length_append, List.length_map, List.length_cons, List.length_nil, List.length_take, List.length_drop, List.length_set] <;> omega)) (by first | omega | (simp only [List.length_append, List.length_map, List.length_cons, List.length_nil, List.length_take, List.length_drop, List.length_set] <;> omega)) rfl rfl rfl rfl) ?_
        refine l_q rfl rfl (q_moveS rfl) ?_
        refine l_e rfl (fun K hK => ?_)
        refine e_cpyX (e := 5) (size := 1) (i := 0) (lo := i) (mx := cq19) (N := m) hS19 (by kernel_rfl) (by kernel_rfl) (by decide) rfl rfl rfl (by first | omega | (simp only [List.length_append, List.length_map, List.length_cons, List.length_nil, List.length_take, List.length_drop, List.length_set] <;> omega)) (by first | omega | (simp only [List.length_append, List.length_map, List.length_cons, List.length_nil, List.length_take, List.length_drop, List.length_set] <;> omega)) rfl ((SlP.slg hZ).mono (hg.le hS19)) (by simp only [hxl, hzl, hyl, List.length_append, List.length_map, List.length_cons, List.length_nil, List.length_take, List.length_drop, List.length_set] <;> omega) (by omega) (fun u hu => hz1 u (List.mem_of_mem_take hu)) rfl (fun w22 (hS22 : St _ _ [.ow 5 1 (some ⟨b19, 0, none⟩) (n + m) cq19 ((xs.take (i * 1) ++ yz19).take (i * 1) ++ zs.take (m * 1) ++ (xs.take (i * 1) ++ yz19).drop (i * 1 + m * 1)), .ow 5 1 ad n cap xs] _) => ?_)
        clear hS19
        refine hK _ _ ?_; clear hK K
        refine l_nil ?_
        refine hK20 _ _ ?_
        refine wp_seq_k (fun K23 hK23 => ?_)
        refine r_any (by kernel_rfl) hS22 (fun w24 hS24 => ?_)
        clear hS22
        refine o_pure (i := 0) (fun _ _ => trivial) rfl rfl (by kernel_rfl) (goes0 rfl) (QOk.then (QOk.then QOk.body)) (fun w => q_moveS rfl) ?_
        refine o_pure (i := 1) (fun _ _ => trivial) rfl rfl (by kernel_rfl) (goes0 rfl) (QOk.then (QOk.then QOk.body)) (fun w => q_moveI rfl) ?_
        refine o_pure (i := 2) (fun _ _ => trivial) rfl rfl (by kernel_rfl) (goes0 rfl) (QOk.then (QOk.then QOk.body)) (fun w => q_moveI rfl) ?_
        refine o_pure (i := 3) (fun _ _ => trivial) rfl rfl (by kernel_rfl) (goes0 rfl) (QOk.then (QOk.then QOk.body)) (fun w => q_addx rfl rfl (by first | decide | omega) (by first | decide | omega)) ?_
        refine o_pure (i := 4) (fun _ _ => trivial) rfl rfl (by kernel_rfl) (goes0 rfl) (QOk.then (QOk.then QOk.body)) (fun w => q_sliceX (e := 5) (size := 1) (l := (i + m)) (h := (n + m)) (m := cq19) (ad' := (subS (some ⟨b19, 0, none⟩) (i + m) 1 cq19)) (len' := ((n + m) - (i + m))) (cap' := (cq19 - (i + m))) rfl (by kernel_rfl) (by kernel_rfl) rfl rfl ⟨_, int_nat (by first | rfl | omega) rfl⟩ (by omega) (by first | omega | (simp only [List.length_append, List.length_map, List.length_cons, List.length_nil, List.length_take, List.length_drop, List.length_set] <;> omega)) (by first | omega | (simp only [List.length_append, List.length_map, List.length_cons, List.length_nil, List.length_take, List.length_drop, List.length_set] <;> omega)) rfl rfl rfl rfl) ?_
        refine o_pure (i := 5) (fun _ _ => trivial) rfl rfl (by kernel_rfl) (goes0 rfl) (QOk.then (QOk.then QOk.body)) (fun w => q_moveS rfl) ?_
        refine o_pure (i := 6) (fun _ _ => trivial) rfl rfl (by kernel_rfl) (goes0 rfl) (QOk.then (QOk.then QOk.body)) (fun w => q_moveI rfl) ?_
        refine o_pure (i := 7) (fun _ _ => trivial) rfl rfl (by kernel_rfl) (goes0 rfl) (QOk.then (QOk.then QOk.body)) (fun w => q_sliceX (e := 5) (size := 1) (l := i) (h := n) (m := cap) (ad' := (subS ad i 1 cap)) (len' := (n - i)) (cap' := (cap - i)) rfl (by kernel_rfl) (by kernel_rfl) rfl rfl ⟨_, int_nat (by first | rfl | omega) rfl⟩ (by omega) (by first | omega | (simp only [List.length_append, List.length_map, List.length_cons, List.length_nil, List.length_take, List.length_drop, List.length_set] <;> omega)) (by first | omega | (simp only [List.length_append, List.length_map, List.length_cons, List.length_nil, List.length_take, List.length_drop, List.length_set] <;> omega)) rfl rfl rfl rfl) ?_
        refine o_eff (i := 8) (by kernel_rfl) rfl (goes0 rfl) (fun K hK => ?_)
        refine e_cpyX (e := 5) (size := 1) (i := 0) (lo := (i + m)) (mx := cq19) (N := (n - i)) hS24 (by kernel_rfl) (by kernel_rfl) (by decide) rfl rfl rfl (by first | omega | (simp only [List.length_append, List.length_map, List.length_cons, List.length_nil, List.length_take, List.length_drop, List.length_set] <;> omega)) (by first | omega | (simp only [List.length_append, List.length_map, List.length_cons, List.length_nil, List.length_take, List.length_drop, List.length_set] <;> omega)) rfl (SlG.sub (l := i) (size := 1) (m := cap) (n := n - i) (hS24.owG (i := 1) rfl) (by omega) (by decide)) (by simp only [hxl, hzl, hyl, List.length_append, List.length_map, List.length_cons, List.length_nil, List.length_take, List.length_drop, List.length_set] <;> omega) (by omega) (fun u hu => (fun u hu => hx1 u (List.mem_of_mem_drop (List.mem_of_mem_take hu))) u (List.mem_of_mem_take hu)) (by have := ins_cells2 (xs := xs) (ys := yz19) (zs := zs) (I := i * 1) (M := m * 1) (N := n * 1) (L := (n + m - i) * 1) (by omega) hxl hyl (by omega) hzl; simp only at this; rw [← this]; simp only [hmi, hni, ← Nat.add_mul, List.take_take, Nat.min_self]) (fun w25 (hS25 : St _ _ [.ow 5 1 (some ⟨b19, 0, none⟩) (n + m) cq19 (xs.take (i * 1) ++ zs ++ xs.drop (i * 1)), .ow 5 1 ad n cap xs] _) => ?_)
        clear hS24
        refine hK _ _ trivial ?_; clear hK K
        refine o_done (by kernel_rfl) ?_
        refine hK23 _ _ ?_
        refine wp_seq_k (fun K26 hK26 => ?_)
        refine wp_region_lit ?_
        refine l_q rfl rfl (q_moveS rfl) ?_
        refine l_q rfl rfl (q_assignS rfl) ?_
        refine l_nil ?_
        refine hK26 _ _ ?_
        refine wp_ret ?_
        refine c_ret1 rfl rfl ?_
        have hS27 := hS25.only 1; clear hS25
        simp only [List.take_succ_cons, List.take_zero] at hS27
        exact ⟨_, _, rfl, ⟨_, _, rfl, rfl⟩, hS27⟩
      ·
        have hc17b := hc17
        try simp only [decide_eq_true_eq, decide_eq_false_iff_not, Bool.not_eq_true', Bool.not_eq_false', Bool.and_eq_true, Bool.or_eq_true, Int.not_lt, Int.not_le, ne_eq, Decidable.not_not] at hc17
        refine wp_skip ?_
        refine hK15 _ _ ?_
        refine wp_seq_k (fun K28 hK28 => ?_)
        refine wp_region_lit ?_
        refine l_q rfl rfl (q_moveS rfl) ?_
        refine l_q rfl rfl (q_moveI rfl) ?_
        refine l_q rfl rfl (q_moveI rfl) ?_
        refine l_q rfl rfl (q_addx rfl rfl (by first | decide | omega) (by first | decide | omega)) ?_
        have hcap : n + m ≤ cap := by omega
        obtain ⟨ys, hyl0, hS29⟩ := hS.owExt (i := 0) (hh := n + m) rfl (by omega) hcap; clear hS
        have hS30 : St _ _ [.ow 5 1 ad (n + m) cap (xs ++ ys)] _ := hS29; clear hS29
        have hyl : ys.length = m * 1 := by rw [hyl0]; congr 1; omega
        refine l_q rfl rfl (q_sliceX (e := 5) (size := 1) (l := 0) (h := (n + m)) (m := cap) (ad' := ad) (len' := (n + m)) (cap' := cap) rfl (by kernel_rfl) (by kernel_rfl) rfl ⟨_, int_nat (by first | rfl | omega) rfl⟩ rfl (by omega) (by first | omega | (simp only [List.length_append, List.length_map, List.length_cons, List.length_nil, List.length_take, List.length_drop, List.length_set] <;> omega)) (by first | omega | (simp only [List.length_append, List.length_map, List.length_cons, List.length_nil, List.length_take, List.length_drop, List.length_set] <;> omega)) rfl subS_zero (Nat.sub_zero _) (Nat.sub_zero _)) ?_
        refine l_q rfl rfl (q_assignS rfl) ?_
        refine l_nil ?_
        refine hK28 _ _ ?_
        refine wp_seq_k (fun K31 hK31 => ?_)
        refine wp_seq_k (fun K32 hK32 => ?_)
        refine wp_region_lit ?_
        refine l_q rfl rfl (q_moveS rfl) ?_
        refine l_q rfl rfl (q_moveS rfl) ?_
        refine l_q rfl rfl (q_moveI rfl) ?_
        refine l_q rfl rfl (q_moveI rfl) ?_
        refine l_q rfl rfl (q_addx rfl rfl (by first | decide | omega) (by first | decide | omega)) ?_
        refine l_q rfl rfl (q_sliceX (e := 5) (size := 1) (l := (i + m)) (h := (n + m)) (m := cap) (ad' := (subS ad (i + m) 1 cap)) (len' := ((n + m) - (i + m))) (cap' := (cap - (i + m))) rfl (by kernel_rfl) (by kernel_rfl) rfl rfl ⟨_, int_nat (by first | rfl | omega) rfl⟩ (by omega) (by first | omega | (simp only [List.length_append, List.length_map, List.length_cons, List.length_nil, List.length_take, List.length_drop, List.length_set] <;> omega)) (by first | omega | (simp only [List.length_append, List.length_map, List.length_cons, List.length_nil, List.length_take, List.length_drop, List.length_set] <;> omega)) rfl rfl rfl rfl) ?_
        have hA : subS ad (i + m) 1 cap = none ∨ ∃ gb off cur T, subS ad (i + m) 1 cap = some ⟨gb, off, none⟩ ∧ w.heap[gb]? = some (.cells cur T (0, 0)) ∧ cur.size ≠ 0 ∧ ∀ o, g gb ≠ some o := ow_ov (by decide) hS30 (i := 0) rfl hg (by omega)
        refine l_q rfl rfl (q_ext rfl (ov_apart (e := 5) (size := 1) x_insB (by kernel_rfl) (by kernel_rfl) (by decide) hZ (hg.le hS30) hzl hA)) ?_
        refine l_q rfl rfl (q_not rfl) ?_
        refine l_nil ?_
        refine hK32 _ _ ?_
        refine c_condT rfl rfl ?_
        refine wp_seq_k (fun K34 hK34 => ?_)
        refine r_any (by kernel_rfl) hS30 (fun w35 hS35 => ?_)
        clear hS30
        refine o_pure (i := 0) (fun _ _ => trivial) rfl rfl (by kernel_rfl) (goes0 rfl) (QOk.then (QOk.then QOk.body)) (fun w => q_moveS rfl) ?_
        refine o_pure (i := 1) (fun _ _ => trivial) rfl rfl (by kernel_rfl) (goes0 rfl) (QOk.then (QOk.then QOk.body)) (fun w => q_moveI rfl) ?_
        refine o_pure (i := 2) (fun _ _ => trivial) rfl rfl (by kernel_rfl) (goes0 rfl) (QOk.then (QOk.then QOk.body)) (fun w => q_moveI rfl) ?_
        refine o_pure (i := 3) (fun _ _ => trivial) rfl rfl (by kernel_rfl) (goes0 rfl) (QOk.then (QOk.then QOk.body)) (fun w => q_addx rfl rfl (by first | decide | omega) (by first | decide | omega)) ?_
        refine o_pure (i := 4) (fun _ _ => trivial) rfl rfl (by kernel_rfl) (goes0 rfl) (QOk.then (QOk.then QOk.body)) (fun w => q_sliceX (e := 5) (size := 1) (l := (i + m)) (h := (n + m)) (m := cap) (ad' := (subS ad (i + m) 1 cap)) (len' := ((n + m) - (i + m))) (cap' := (cap - (i + m))) rfl (by kernel_rfl) (by kernel_rfl) rfl rfl ⟨_, int_nat (by first | rfl | omega) rfl⟩ (by omega) (by first | omega | (simp only [List.length_append, List.length_map, List.length_cons, List.length_nil, List.length_take, List.length_drop, List.length_set] <;> omega)) (by first | omega | (simp only [List.length_append, List.length_map, List.length_cons, List.length_nil, List.length_take, List.length_drop, List.length_set] <;> omega)) rfl rfl rfl rfl) ?_
        refine o_pure (i := 5) (fun _ _ => trivial) rfl rfl (by kernel_rfl) (goes0 rfl) (QOk.then (QOk.then QOk.body)) (fun w => q_moveS rfl) ?_
        refine o_pure (i := 6) (fun _ _ => trivial) rfl rfl (by kernel_rfl) (goes0 rfl) (QOk.then (QOk.then QOk.body)) (fun w => q_moveI rfl) ?_
        refine o_pure (i := 7) (fun _ _ => trivial) rfl rfl (by kernel_rfl) (goes0 rfl) (QOk.then (QOk.then QOk.body)) (fun w => q_sliceX (e := 5) (size := 1) (l := i) (h := (n + m)) (m := cap) (ad' := (subS ad i 1 cap)) (len' := ((n + m) - i)) (cap' := (cap - i)) rfl (by kernel_rfl) (by kernel_rfl) rfl rfl ⟨_, int_nat (by first | rfl | omega) rfl⟩ (by omega) (by first | omega | (simp only [List.length_append, List.length_map, List.length_cons, List.length_nil, List.length_take, List.length_drop, List.length_set] <;> omega)) (by first | omega | (simp only [List.length_append, List.length_map, List.length_cons, List.length_nil, List.length_take, List.length_drop, List.length_set] <;> omega)) rfl rfl rfl rfl) ?_
        refine o_eff (i := 8) (by kernel_rfl) rfl (goes0 rfl) (fun K hK => ?_)
        refine e_cpyX (e := 5) (size := 1) (i := 0) (lo := (i + m)) (mx := cap) (N := (n - i)) hS35 (by kernel_rfl) (by kernel_rfl) (by decide) rfl rfl rfl (by first | omega | (simp only [List.length_append, List.length_map, List.length_cons, List.length_nil, List.length_take, List.length_drop, List.length_set] <;> omega)) (by first | omega | (simp only [List.length_append, List.length_map, List.length_cons, List.length_nil, List.length_take, List.length_drop, List.length_set] <;> omega)) rfl (SlG.sub (l := i) (size := 1) (m := cap) (n := n + m - i) (hS35.owG (i := 0) rfl) (by omega) (by decide)) (by simp only [hxl, hzl, hyl, List.length_append, List.length_map, List.length_cons, List.length_nil, List.length_take, List.length_drop, List.length_set] <;> omega) (by omega) (fun u hu => by rw [List.take_take, Nat.min_eq_left (show (n - i) * 1 ≤ (n + m - i) * 1 by omega), List.drop_append_of_le_length (by omega), List.take_append_of_le_length (by rw [List.length_drop]; omega)] at hu; exact hx1 u (List.mem_of_mem_drop (List.mem_of_mem_take hu))) rfl (fun w36 (hS36 : St _ _ [.ow 5 1 ad (n + m) cap ((xs ++ ys).take ((i + m) * 1) ++ (((xs ++ ys).drop (i * 1)).take ((n + m - i) * 1)).take ((n - i) * 1) ++ (xs ++ ys).drop ((i + m) * 1 + (n - i) * 1))] _) => ?_)
        clear hS35
        refine hK _ _ trivial ?_; clear hK K
        refine o_done (by kernel_rfl) ?_
        refine hK34 _ _ ?_
        refine wp_seq_k (fun K37 hK37 => ?_)
        refine wp_region_lit ?_
        refine l_q rfl rfl (q_moveS rfl) ?_
        refine l_q rfl rfl (q_moveI rfl) ?_
        refine l_q rfl rfl (q_sliceX (e := 5) (size := 1) (l := i) (h := (n + m)) (m := cap) (ad' := (subS ad i 1 cap)) (len' := ((n + m) - i)) (cap' := (cap - i)) rfl (by kernel_rfl) (by kernel_rfl) rfl rfl ⟨_, int_nat (by first | rfl | omega) rfl⟩ (by omega) (by first | omega | (simp only [List.length_append, List.length_map, List.length_cons, List.length_nil, List.length_take, List.length_drop, List.length_set] <;> omega)) (by first | omega | (simp only [List.length_append, List.length_map, List.length_cons, List.length_nil, List.length_take, List.length_drop, List.length_set] <;> omega)) rfl rfl rfl rfl) ?_
        refine l_q rfl rfl (q_moveS rfl) ?_
        refine l_e rfl (fun K hK => ?_)
        refine e_cpyX (e := 5) (size := 1) (i := 0) (lo := i) (mx := cap) (N := m) hS36 (by kernel_rfl) (by kernel_rfl) (by decide) rfl rfl rfl (by first | omega | (simp only [List.length_append, List.length_map, List.length_cons, List.length_nil, List.length_take, List.length_drop, List.length_set] <;> omega)) (by first | omega | (simp only [List.length_append, List.length_map, List.length_cons, List.length_nil, List.length_take, List.length_drop, List.length_set] <;> omega)) rfl ((SlP.slg hZ).mono (hg.le hS36)) (by simp only [hxl, hzl, hyl, List.length_append, List.length_map, List.length_cons, List.length_nil, List.length_take, List.length_drop, List.length_set] <;> omega) (by omega) (fun u hu => hz1 u (List.mem_of_mem_take hu)) (by have := ins_cells (xs := xs) (ys := ys) (zs := zs) (I := i * 1) (M := m * 1) (N := n * 1) (by omega) hxl hyl hzl; simp only at this; rw [← this]; simp only [hmi, hni, List.take_take]; rw [Nat.min_eq_left (show (n - i) * 1 ≤ (n + m - i) * 1 by omega)]) (fun w38 (hS38 : St _ _ [.ow 5 1 ad (n + m) cap (xs.take (i * 1) ++ zs ++ xs.drop (i * 1))] _) => ?_)
        clear hS36
        refine hK _ _ ?_; clear hK K
        refine l_nil ?_
        refine hK37 _ _ ?_
        refine wp_seq_k (fun K39 hK39 => ?_)
        refine wp_region_lit ?_
        refine l_q rfl rfl (q_moveS rfl) ?_
        refine l_q rfl rfl (q_assignS rfl) ?_
        refine l_nil ?_
        refine hK39 _ _ ?_
        refine wp_ret ?_
        refine c_ret1 rfl rfl ?_
        exact ⟨_, _, rfl, ⟨_, _, rfl, rfl⟩, hS38⟩

end Go.Proofs.Ytmbbkliekgiolaa
