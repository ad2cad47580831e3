/- law07: WalKeeps. -/
import Derived.Test.YtmbbkliekgiolaaVf
set_option linter.unusedVariables false
set_option linter.unusedSimpArgs false
namespace Go.Proofs.Ytmbbkliekgiolaa
open Go.RowKit
theorem QInv.mono {g g' : Gh} {rs : List Rc} {l : List Nat} {b s N : Nat} (h : QInv g rs l b s N) (hg : Gle g g') : QInv g' rs l b s N := ⟨h.1.mono hg, h.2⟩
theorem SbG.snoc {g g' : Gh} {aa : List Sb} {ad : Option Addr} {cap : Nat} {m : List Nat} (h : ∀ a ∈ aa, SbG g a) (hg : Gle g g') (h1 : SlG g' ad (bv m)) (h2 : Bytes m) : ∀ a ∈ aa ++ [⟨ad, cap, m⟩], SbG g' a := fun a ha =>
  (List.mem_append.1 ha).elim (fun q => ⟨(h a q).1.mono hg, (h a q).2⟩) (fun q => by rw [List.mem_singleton] at q; subst q; exact ⟨h1, h2⟩)
theorem all_snoc {aa : List Sb} {rs : List Rc} {i : Nat} {r : Rc} {ad : Option Addr} {cap : Nat} {m : List Nat} (h : aa.map (·.b) = (rs.take i).map (·.b)) (hr : rs[i]? = some r) (hm : m = r.b) : (aa ++ [(⟨ad, cap, m⟩ : Sb)]).map (·.b) = (rs.take (i + 1)).map (·.b) := by
  have hi : i < rs.length := (List.getElem?_eq_some_iff.1 hr).1
  have : rs.take (i + 1) = rs.take i ++ [r] := by rw [List.take_add_one, hr]; rfl
  rw [this, List.map_append, List.map_append, h]; subst hm; rfl
/-- What two losses of power leave of a log. -/
def KInv (rs : List Rc) (l : List Nat) (b s : Nat) (l1 : List Nat) (s1 : Nat) : Prop := (∃ x, x ≤ l.length ∧ l1 = l.take x) ∧ s1 ≤ l1.length ∧ ∀ r ∈ rs.map Rc.abs, r.1 + 5 + r.2.length ≤ b + s → r.1 + 5 + r.2.length ≤ b + s1
theorem KInv.start {rs : List Rc} {l : List Nat} {b s : Nat} (hs : s ≤ l.length) : KInv rs l b s l s := ⟨⟨l.length, Nat.le_refl _, (List.take_length).symm⟩, hs, fun _ _ h => h⟩
theorem KInv.len {rs : List Rc} {l l1 : List Nat} {b s s1 : Nat} (h : KInv rs l b s l1 s1) : s1 ≤ l1.length ∧ l1.length ≤ l.length := by
  obtain ⟨⟨x, hx, rfl⟩, h2, _⟩ := h
  exact ⟨h2, by rw [List.length_take]; omega⟩
theorem KInv.step {rs rs' : List Rc} {l l1 : List Nat} {b s s1 p : Nat} (h : KInv rs l b s l1 s1) (hw : Whole l b (rs.map Rc.abs)) (hp1 : s1 ≤ p) (hp2 : p ≤ l1.length) (hrs : rs'.map Rc.abs = (scan (l1.take p) b).1) :
    KInv rs l b s ((l1.take p).take (scan (l1.take p) b).2) (scan (l1.take p) b).2 ∧ (∃ j, rs'.map Rc.abs = (rs.map Rc.abs).take j) ∧ cnt (b + s) rs ≤ rs'.length ∧ rs'.length ≤ rs.length ∧ Whole ((l1.take p).take (scan (l1.take p) b).2) b (rs'.map Rc.abs) ∧ cnt (b + (scan (l1.take p) b).2) rs' = rs'.length := by
  obtain ⟨⟨x, hx, rfl⟩, h2, h3⟩ := h
  have hxl : (l.take x).length = x := by rw [List.length_take]; omega
  have hpx : p ≤ x := by omega
  have e1 : (l.take x).take p = l.take p := by rw [List.take_take, Nat.min_eq_left hpx]
  rw [e1] at hrs ⊢
  obtain ⟨j, j1, j2, j3, j4⟩ := scan_cut l.length l b p (Nat.le_refl _) (by omega)
  rw [show scan l b = (rs.map Rc.abs, l.length) from hw] at j1 j2 j4
  have j1 : (scan (l.take p) b).1 = (rs.map Rc.abs).take j := j1
  have j4 : ∀ i r, (rs.map Rc.abs)[i]? = some r → (i < j ↔ r.1 + 5 + r.2.length ≤ b + p) := j4
  have j2 : j ≤ (rs.map Rc.abs).length := j2
  have hlen := (scan_len (l.take p).length (l.take p) b (Nat.le_refl _)).2
  have hwh : Whole ((l.take p).take (scan (l.take p) b).2) b (rs'.map Rc.abs) := by rw [hrs]; exact whole_scan _ _ _ (Nat.le_refl _)
  have hl2 : ((l.take p).take (scan (l.take p) b).2).length = (scan (l.take p) b).2 := by rw [List.length_take, List.length_take]; omega
  have hr'l : rs'.length = j := by
    have := congrArg List.length (hrs.trans j1)
    rw [List.length_map, List.length_take] at this; omega
  refine ⟨⟨⟨(scan (l.take p) b).2, by omega, by rw [List.take_take, Nat.min_eq_left j3]⟩, by omega, fun r hr hle => ?_⟩, ⟨j, hrs.trans j1⟩, ?_, by rw [List.length_map] at j2; omega, hwh, ?_⟩
  · have h9 := h3 r hr hle
    obtain ⟨i, hi, rfl⟩ := List.mem_iff_getElem.1 hr
    have hij := (j4 i _ (List.getElem?_eq_getElem hi)).2 (by omega)
    refine (hlen _ ?_).2
    rw [j1]
    exact List.mem_take_iff_getElem.2 ⟨i, by omega, rfl⟩
  · have e2 : cnt (b + s) rs = (rs.map Rc.abs).countP (fun r => decide (r.1 + 5 + r.2.length ≤ b + s)) := by rw [List.countP_map]; rfl
    rw [e2, ← List.take_append_drop j (rs.map Rc.abs), List.countP_append]
    have e3 : ((rs.map Rc.abs).drop j).countP (fun r => decide (r.1 + 5 + r.2.length ≤ b + s)) = 0 := by
      rw [List.countP_eq_zero]
      intro r hr
      obtain ⟨i, hi, rfl⟩ := List.mem_iff_getElem.1 hr
      rw [List.getElem_drop]
      rw [List.length_drop] at hi
      intro hle
      have hle := of_decide_eq_true hle
      have h9 := h3 _ (List.getElem_mem (by omega : j + i < (rs.map Rc.abs).length)) hle
      have := (j4 (j + i) _ (List.getElem?_eq_getElem (by omega))).2 (by omega)
      omega
    have e4 := List.countP_le_length (p := fun r : Nat × List Nat => decide (r.1 + 5 + r.2.length ≤ b + s)) (l := (rs.map Rc.abs).take j)
    rw [List.length_take] at e4
    omega
  · have := tail_cnt hwh
    rwa [hl2] at this
theorem keep_at {rs rs' : List Rc} {j k : Nat} {r' : Rc} (h : rs'.map Rc.abs = (rs.map Rc.abs).take j) (hr : rs'[k]? = some r') : ∃ r, rs[k]? = some r ∧ r.n = r'.n ∧ r.b = r'.b := by
  have h1 : (rs'.map Rc.abs)[k]? = some (r'.n, r'.b) := by rw [List.getElem?_map, hr]; rfl
  rw [h, List.getElem?_take] at h1
  split at h1
  · rw [List.getElem?_map] at h1
    cases hk : rs[k]? with
    | none => rw [hk] at h1; cases h1
    | some r =>
      rw [hk] at h1
      have h1 : (r.n, r.b) = (r'.n, r'.b) := by simpa [Rc.abs] using h1
      exact ⟨r, rfl, (Prod.mk.inj h1).1, (Prod.mk.inj h1).2⟩
  · cases h1
theorem all_at {aa : List Sb} {rs : List Rc} {k : Nat} {a : Sb} {r : Rc} (h : aa.map (·.b) = rs.map (·.b)) (ha : aa[k]? = some a) (hr : rs[k]? = some r) : a.b = r.b := by
  have h1 : (aa.map (·.b))[k]? = some a.b := by rw [List.getElem?_map, ha]; rfl
  rw [h, List.getElem?_map, hr] at h1
  simpa using h1.symm
theorem num_at {rs : List Rc} {k : Nat} {r : Rc} {x : Int} (hx : (nums rs)[k]? = some x) (hr : rs[k]? = some r) : x = ((r.n : Nat) : Int) := by
  obtain ⟨q, hq, rfl⟩ := nums_at hx
  rw [hr] at hq; injection hq with hq; rw [hq]
attribute [local irreducible] Oper.wp Sem.run Code.wp wpList wpAnyO callFunc execOp Calls
attribute [local irreducible] scan waE waN waL waR crc cnt rdE rdB fr apE apN apL trE trR trL trB trS tri fIdx numN sameB pwN Whole
attribute [local irreducible] KInv

set_option maxHeartbeats 4000000 in
set_option maxRecDepth 100000 in
theorem walKeeps_ok (acts : List Ac7) (sa : Option Addr) (sc : Nat) (n0 n1 : Int) (hn0 : -9223372036854775808 ≤ n0) (hn1 : -9223372036854775808 ≤ n1) (w : World) (hG : SlG (hw w) sa (List.flatMap ac7 acts)) (hok : ∀ a ∈ acts, Ac7Ok w a) : Calls Try.prog 13 #[.slice sa acts.length sc, .agg #[.int .i64 n0, .int .i64 n1]] w (PostR w fun v => v = .bool true) := by
  have hS := St.start w
  refine c_enter Try.func13 rfl rfl rfl ?_
  refine wp_seq_k (fun K1 hK1 => ?_)
  refine wp_region_lit ?_
  refine l_e rfl (fun K hK => ?_)
  refine e_boxA hS rfl (fun b2 w2 (hS2 : St _ _ [.blk b2 (.cells #[.int .i64 n0, .int .i64 n1] 98)] _) => ?_)
  clear hS
  refine hK _ _ ?_; clear hK K
  refine l_q rfl rfl (q_assignB rfl) ?_
  refine l_nil ?_
  refine hK1 _ _ ?_
  refine wp_seq_k (fun K3 hK3 => ?_)
  have hS4 := hS2.fz0; clear hS2
  refine wp_region_lit ?_
  refine l_e rfl (fun K hK => ?_)
  refine e_call (by kernel_rfl) (dNew_ok _) rfl (after_N hS4 (fun v5 G5 w5 hv5 hS5 => ?_))
  clear hS4
  obtain ⟨k5, rfl, rfl⟩ := hv5
  have hS6 : St _ _ [dk k5 none 0 [] 0 0, .fz (fun _ => none), .blk b2 (.cells #[.int .i64 n0, .int .i64 n1] 98)] _ := hS5; clear hS5
  refine hK _ _ ?_; clear hK K
  refine l_q rfl rfl (q_assignP rfl) ?_
  refine l_nil ?_
  refine hK3 _ _ ?_
  refine wp_seq_k (fun K7 hK7 => ?_)
  refine wp_region_lit ?_
  refine l_q rfl rfl (q_moveP rfl) ?_
  refine l_e rfl (fun K hK => ?_)
  have hsl8 := scan_le [].length [] 0 (Nat.le_refl _)
  refine e_call (by kernel_rfl) (wOpen_ok _ _ _ _ _ _ _ Bytes.nil (by first | omega | (simp only [List.length_append, List.length_map, List.length_cons, List.length_nil, List.length_take, List.length_drop, List.length_set] <;> omega)) (by first | omega | (simp only [List.length_append, List.length_map, List.length_cons, List.length_nil, List.length_take, List.length_drop, List.length_set] <;> omega)) (by first | omega | (simp only [List.length_append, List.length_map, List.length_cons, List.length_nil, List.length_take, List.length_drop, List.length_set] <;> omega)) _ (St.begin (Γ := [_, _]) hS6)) rfl (after_M (Γ1 := [_, _]) hS6 (fun v8 G8 w8 hv8 hS8 => ?_))
  clear hS6
  obtain ⟨k8, ad8, cp8, rs8, da8, dc8, g8, rfl, rfl, hle8, hrs8, hab8⟩ := hv8
  have hS9 : St _ _ [wk k8 k5 ad8 cp8 rs8, dk k5 da8 dc8 ([].take (scan [] 0).2) 0 ((scan [] 0).2), .fz g8, .blk b2 (.cells #[.int .i64 n0, .int .i64 n1] 98)] _ := hS8; clear hS8
  refine hK _ _ ?_; clear hK K
  refine l_q rfl rfl (q_move rfl) ?_
  refine l_q rfl rfl (q_extract rfl rfl) ?_
  refine l_q rfl rfl (q_extract rfl rfl) ?_
  refine l_q rfl rfl (q_assignP rfl) ?_
  have hr0 : rs8.map Rc.abs = [] := by rw [hab8, scan0]
  have hrl : rs8.length = 0 := by have := congrArg List.length hr0; simpa using this
  have hS10 : St _ _ [wk k8 k5 ad8 cp8 rs8, dk k5 da8 dc8 [] 0 0, .fz g8, .blk b2 (.cells #[.int .i64 n0, .int .i64 n1] 98)] _ := hS9.cast (by rw [scan0]; rfl); clear hS9
  refine l_q rfl rfl (q_assignI rfl) ?_
  refine l_nil ?_
  refine hK7 _ _ ?_
  refine wp_seq_k (fun K11 hK11 => ?_)
  refine wp_seq_k (fun K12 hK12 => ?_)
  refine wp_region_lit ?_
  refine l_e rfl (fun K hK => ?_)
  refine e_call (by kernel_rfl) (alive7_ok _) rfl (after_R hS10 (fun v13 w13 hv13 hS13 => ?_))
  clear hS10
  obtain rfl := hv13
  refine hK _ _ ?_; clear hK K
  refine l_q rfl rfl (q_not rfl) ?_
  refine l_q rfl rfl (q_moveB rfl) ?_
  refine l_on rfl rfl rfl ?_
  refine l_q rfl rfl (q_moveI rfl) ?_
  refine l_on rfl rfl rfl ?_
  refine l_q rfl rfl (q_neq rfl rfl) ?_
  refine l_q rfl rfl (q_pickF rfl rfl rfl) ?_
  refine l_q rfl rfl (q_moveB rfl) ?_
  refine l_on rfl rfl (by decide) ?_
  refine l_q rfl rfl (q_moveP rfl) ?_
  refine l_on rfl rfl (by decide) ?_
  refine l_q rfl rfl (q_peq rfl (by kernel_rfl)) ?_
  refine l_q rfl rfl (q_pickF rfl (by decide) rfl) ?_
  refine l_nil ?_
  refine hK12 _ _ ?_
  refine c_condF rfl rfl ?_
  refine wp_skip ?_
  refine hK11 _ _ ?_
  refine wp_seq_k (fun K15 hK15 => ?_)
  refine wp_region_lit ?_
  refine l_q rfl rfl (q_assignS rfl) ?_
  refine l_nil ?_
  refine hK15 _ _ ?_
  refine wp_seq_k (fun K16 hK16 => ?_)
  refine wp_seq_k (fun K17 hK17 => ?_)
  refine wp_region_lit ?_
  refine l_q rfl rfl (q_assignI rfl) ?_
  refine l_nil ?_
  refine hK17 _ _ ?_
  refine wp_block ?_
  refine c_loop (τ := (Option Addr) × (Option Addr) × Nat × Nat × (List Rc) × (List Nat) × Nat × Nat × Gh × Nat) [(9, 10), (39, 79)] (fun x => (fun (da : Option Addr) (ad : Option Addr) (dc : Nat) (cap : Nat) (rs : List Rc) (l : List Nat) (b : Nat) (s : Nat) (g : Gh) (i : Nat) => [(9, .int .i64 ((i : Nat) : Int))]) x.1 x.2.1 x.2.2.1 x.2.2.2.1 x.2.2.2.2.1 x.2.2.2.2.2.1 x.2.2.2.2.2.2.1 x.2.2.2.2.2.2.2.1 x.2.2.2.2.2.2.2.2.1 x.2.2.2.2.2.2.2.2.2) (fun x w' => (fun (da : Option Addr) (ad : Option Addr) (dc : Nat) (cap : Nat) (rs : List Rc) (l : List Nat) (b : Nat) (s : Nat) (g : Gh) (i : Nat) => St w (fun _ => False) [wk k8 k5 ad cap rs, dk k5 da dc l b s, .fz g, .blk b2 (.cells #[.int .i64 n0, .int .i64 n1] 98)] w' ∧ i ≤ 40 ∧ QInv g rs l b s (400 * i)) x.1 x.2.1 x.2.2.1 x.2.2.2.1 x.2.2.2.2.1 x.2.2.2.2.2.1 x.2.2.2.2.2.2.1 x.2.2.2.2.2.2.2.1 x.2.2.2.2.2.2.2.2.1 x.2.2.2.2.2.2.2.2.2) (fun x => (fun (da : Option Addr) (ad : Option Addr) (dc : Nat) (cap : Nat) (rs : List Rc) (l : List Nat) (b : Nat) (s : Nat) (g : Gh) (i : Nat) => 40 - i) x.1 x.2.1 x.2.2.1 x.2.2.2.1 x.2.2.2.2.1 x.2.2.2.2.2.1 x.2.2.2.2.2.2.1 x.2.2.2.2.2.2.2.1 x.2.2.2.2.2.2.2.2.1 x.2.2.2.2.2.2.2.2.2) (⟨da8, ad8, dc8, cp8, rs8, [], 0, 0, g8, 0⟩) ?_ (by repeat' (first | exact trivial | refine ⟨by first | rfl | exact int_succ _ | assumption, ?_⟩)) (fun x18 j18 w18 hJ18 K18 hK18 => ?_)
  ·
    exact ⟨hS13, Nat.zero_le _, QInv.start hr0 hrs8⟩
  ·
    obtain ⟨da, ad, dc, cap, rs, l, b, s, g, i⟩ := x18
    obtain ⟨hS18, hi, hI⟩ := hJ18
    try dsimp only at hS18 hi hI ⊢
    obtain ⟨_, _, hIs, hIn, hIw⟩ := id hI
    have hIlt := whole_lt hIw
    have hIl := whole_len hIw
    refine wp_seq_k (fun K19 hK19 => ?_)
    refine wp_seq_k (fun K20 hK20 => ?_)
    refine wp_region_lit ?_
    refine l_q rfl rfl (q_moveI rfl) ?_
    refine l_q rfl rfl (q_moveS rfl) ?_
    refine l_q rfl rfl (q_lenSl (e := 78) rfl (by kernel_rfl)) ?_
    refine l_q rfl rfl (q_lss rfl rfl) ?_
    refine l_q rfl rfl (q_moveB rfl) ?_
    refine g_splitL (t := 43) rfl (fun hg21 => ?_) (fun hg21 => ?_)
    ·
      have hg21b := hg21
      try simp only [decide_eq_true_eq, decide_eq_false_iff_not, Bool.not_eq_true', Bool.not_eq_false', Bool.and_eq_true, Bool.or_eq_true, Int.not_lt, Int.not_le, ne_eq, Decidable.not_not] at hg21
      refine l_on rfl rfl hg21b ?_
      refine l_q rfl rfl (q_moveI rfl) ?_
      refine l_on rfl rfl hg21b ?_
      refine l_q rfl rfl (q_lss rfl rfl) ?_
      refine l_q rfl rfl (q_pickT rfl hg21b rfl) ?_
      refine l_nil ?_
      refine hK20 _ _ ?_
      refine c_cond rfl (fun hc22 => ?_) (fun hc22 => ?_)
      ·
        have hc22b := hc22
        try simp only [decide_eq_true_eq, decide_eq_false_iff_not, Bool.not_eq_true', Bool.not_eq_false', Bool.and_eq_true, Bool.or_eq_true, Int.not_lt, Int.not_le, ne_eq, Decidable.not_not] at hc22
        refine wp_skip ?_
        refine hK19 _ _ ?_
        refine wp_seq_k (fun K23 hK23 => ?_)
        refine wp_block ?_
        refine wp_seq_k (fun K24 hK24 => ?_)
        refine wp_region_lit ?_
        refine l_q rfl rfl (q_moveS rfl) ?_
        refine l_q rfl rfl (q_moveI rfl) ?_
        refine l_q rfl rfl (q_ixG (e := 78) (m := 4) (j := i) rfl rfl (by kernel_rfl) (by kernel_rfl) (by first | rfl | omega) (by omega) hG (by rw [rows_len (c := ac7) (m := 4) (fun _ => rfl)]; first | omega | (simp only [List.length_append, List.length_map, List.length_cons, List.length_nil, List.length_take, List.length_drop, List.length_set] <;> omega))) ?_
        obtain ⟨x25, hx25⟩ : ∃ x, (acts)[i]? = some x := ⟨_, List.getElem?_eq_getElem (by first | omega | (simp only [List.length_append, List.length_map, List.length_cons, List.length_nil, List.length_take, List.length_drop, List.length_set] <;> omega) | (simp <;> omega))⟩
        have ha_x25 := hok x25 (List.mem_of_getElem? hx25)
        obtain ⟨⟨hk0_x25, hk1_x25⟩, ⟨hi0_x25, hi1_x25⟩, ⟨hn0_x25, hn1_x25⟩, _⟩ := id ha_x25
        refine l_q rfl rfl (q_loadGA (m := 4) rfl (by kernel_rfl) (by kernel_rfl) (hG.mono hS18.base) (row_take hx25 (c := ac7) (m := 4) (fun _ => rfl)) rfl (by decide)) ?_
        refine l_e rfl (fun K hK => ?_)
        refine e_alloc (zv := .agg #[.int .i64 0, .int .i64 0, .int .i64 0, .slice none 0 0]) hS18 (by kernel_rfl) (fun b26 w26 (hS26 : St _ _ [.blk b26 (.cells #[.int .i64 (0 : Int), .int .i64 (0 : Int), .int .i64 (0 : Int), .slice none 0 0] 78), wk k8 k5 ad cap rs, dk k5 da dc l b s, .fz g, .blk b2 (.cells #[.int .i64 n0, .int .i64 n1] 98)] _) => ?_)
        clear hS18
        refine hK _ _ ?_; clear hK K
        refine l_e rfl (fun K hK => ?_)
        refine e_storeA hS26 rfl rfl (by kernel_rfl) (by repeat' (first | exact trivial | refine ⟨by first | rfl | assumption | exact one_if (by assumption), ?_⟩)) (i := 0) rfl rfl (fun w27 (hS27 : St _ _ [.blk b26 (.cells #[.int .i64 x25.k, .int .i64 x25.i, .int .i64 x25.n, .slice x25.ad x25.b.length x25.cap] 78), wk k8 k5 ad cap rs, dk k5 da dc l b s, .fz g, .blk b2 (.cells #[.int .i64 n0, .int .i64 n1] 98)] _) => ?_)
        clear hS26
        refine hK _ _ ?_; clear hK K
        refine l_nil ?_
        refine hK24 _ _ ?_
        refine wp_seq_k (fun K28 hK28 => ?_)
        refine wp_region_lit ?_
        refine l_q rfl rfl (q_fieldAddr (ft := 3) (o := 0) rfl (by kernel_rfl)) ?_
        refine l_q rfl rfl (q_load1 rfl (by kernel_rfl) (hS27.cell (i := 0) rfl rfl)) ?_
        refine l_nil ?_
        refine hK28 _ _ ?_
        refine wp_block ?_
        refine wp_seq_k (fun K29 hK29 => ?_)
        refine wp_region_lit ?_
        refine l_q rfl rfl (q_eql rfl rfl) ?_
        refine l_q rfl rfl (q_assignB rfl) ?_
        refine l_nil ?_
        refine hK29 _ _ ?_
        refine c_cond rfl (fun hc30 => ?_) (fun hc30 => ?_)
        ·
          have hc30b := hc30
          try simp only [decide_eq_true_eq, decide_eq_false_iff_not, Bool.not_eq_true', Bool.not_eq_false', Bool.and_eq_true, Bool.or_eq_true, Int.not_lt, Int.not_le, ne_eq, Decidable.not_not] at hc30
          refine wp_seq_k (fun K31 hK31 => ?_)
          refine wp_region_lit ?_
          refine l_q rfl rfl (q_fieldAddr (ft := 23) (o := 3) rfl (by kernel_rfl)) ?_
          refine l_q rfl rfl (q_load1 rfl (by kernel_rfl) (hS27.cell (i := 0) rfl rfl)) ?_
          refine l_q rfl rfl (q_lenSl (e := 5) rfl (by kernel_rfl)) ?_
          refine l_q rfl rfl (q_leq rfl rfl) ?_
          refine l_nil ?_
          refine hK31 _ _ ?_
          refine c_cond rfl (fun hc32 => ?_) (fun hc32 => ?_)
          ·
            have hc32b := hc32
            try simp only [decide_eq_true_eq, decide_eq_false_iff_not, Bool.not_eq_true', Bool.not_eq_false', Bool.and_eq_true, Bool.or_eq_true, Int.not_lt, Int.not_le, ne_eq, Decidable.not_not] at hc32
            refine wp_region_lit ?_
            refine l_q rfl rfl (q_moveP rfl) ?_
            refine l_q rfl rfl (q_fieldAddr (ft := 23) (o := 3) rfl (by kernel_rfl)) ?_
            refine l_q rfl rfl (q_load1 rfl (by kernel_rfl) (hS27.cell (i := 0) rfl rfl)) ?_
            refine l_e rfl (fun K hK => ?_)
            have hS34 := hS27.fr3; clear hS27
            have hS35 := hS34.fr3; clear hS34
            have hS36 := hS35.fr3; clear hS35
            refine e_call (by kernel_rfl) (wAppend_ok _ _ _ _ _ _ _ _ _ _ _ (by first | omega | (simp only [List.length_append, List.length_map, List.length_cons, List.length_nil, List.length_take, List.length_drop, List.length_set] <;> omega)) hI.2.1 (by first | omega | (simp only [List.length_append, List.length_map, List.length_cons, List.length_nil, List.length_take, List.length_drop, List.length_set] <;> omega)) (by first | omega | (simp only [List.length_append, List.length_map, List.length_cons, List.length_nil, List.length_take, List.length_drop, List.length_set] <;> omega)) hI.1 _ x25.b (hok x25 (List.mem_of_getElem? hx25)).2.2.2.2.1 _ _ (by first | omega | (simp only [List.length_append, List.length_map, List.length_cons, List.length_nil, List.length_take, List.length_drop, List.length_set] <;> omega)) (hok x25 (List.mem_of_getElem? hx25)).2.2.2.1 _ (St.rogB (Γ1 := [_, _, _]) hS36) (St.begin (Γ := [_, _, _]) hS36)) rfl (after_M (Γ1 := [_, _, _]) hS36 (fun v33 G33 w33 hv33 hS33 => ?_))
            clear hS36
            obtain ⟨ad33, cp33, rs33, da33, dc33, g33, rfl, rfl, hle33, hrs33, hab33⟩ := hv33
            have hS37 : St _ _ [wk k8 k5 ad33 cp33 rs33, dk k5 da33 dc33 (waL l x25.b) b s, .fz g33, .blk b26 (.cells #[.int .i64 x25.k, .int .i64 x25.i, .int .i64 x25.n, .slice x25.ad x25.b.length x25.cap] 78), .blk b2 (.cells #[.int .i64 n0, .int .i64 n1] 98)] _ := hS33; clear hS33
            have hL33 := waL_len l x25.b
            refine hK _ _ ?_; clear hK K
            refine l_nil ?_
            refine hK23 _ _ ?_
            refine wp_region_lit ?_
            refine l_q rfl rfl (q_moveI rfl) ?_
            refine l_q rfl rfl (q_addx rfl rfl (by first | decide | omega) (by first | decide | omega)) ?_
            refine l_q rfl rfl (q_assignI rfl) ?_
            refine l_nil ?_
            have hS38 := hS37.fr4; clear hS37
            have hS39 := hS38.fr3; clear hS38
            have hS40 := hS39.fr3; clear hS39
            have hS41 := hS40.fr3; clear hS40
            have hS42 : St _ _ [wk k8 k5 ad33 cp33 rs33, dk k5 da33 dc33 (waL l x25.b) b s, .fz g33, .blk b2 (.cells #[.int .i64 n0, .int .i64 n1] 98)] _ := hS41.only 4; clear hS41
            refine hK18 _ _ (came (⟨da33, ad33, dc33, cp33, rs33, (waL l x25.b), b, s, g33, (i + 1)⟩) (by repeat' (first | exact Agree.refl _ _ | refine Agree.up ?_ rfl | refine Agree.hav2 ?_ rfl | refine Agree.ups2 ?_ rfl)) (by repeat' (first | exact trivial | refine ⟨by first | rfl | exact int_succ _ | assumption, ?_⟩)) ?_)
            exact ⟨⟨hS42, (by show i + 1 ≤ 40; omega), (hI.appended hrs33 hab33 (hok x25 (List.mem_of_getElem? hx25)).2.2.2.2.1 (by show _ ≤ 400 * (i + 1); omega))⟩, by (show 40 - (i + 1) < 40 - i); omega⟩
          ·
            have hc32b := hc32
            try simp only [decide_eq_true_eq, decide_eq_false_iff_not, Bool.not_eq_true', Bool.not_eq_false', Bool.and_eq_true, Bool.or_eq_true, Int.not_lt, Int.not_le, ne_eq, Decidable.not_not] at hc32
            refine wp_skip ?_
            refine hK23 _ _ ?_
            refine wp_region_lit ?_
            refine l_q rfl rfl (q_moveI rfl) ?_
            refine l_q rfl rfl (q_addx rfl rfl (by first | decide | omega) (by first | decide | omega)) ?_
            refine l_q rfl rfl (q_assignI rfl) ?_
            refine l_nil ?_
            have hS43 := hS27.fr4; clear hS27
            have hS44 := hS43.fr4; clear hS43
            have hS45 := hS44.fr4; clear hS44
            have hS46 := hS45.fr4; clear hS45
            have hS47 : St _ _ [wk k8 k5 ad cap rs, dk k5 da dc l b s, .fz g, .blk b2 (.cells #[.int .i64 n0, .int .i64 n1] 98)] _ := hS46.only 4; clear hS46
            refine hK18 _ _ (came (⟨da, ad, dc, cap, rs, l, b, s, g, (i + 1)⟩) (by repeat' (first | exact Agree.refl _ _ | refine Agree.up ?_ rfl | refine Agree.hav2 ?_ rfl | refine Agree.ups2 ?_ rfl)) (by repeat' (first | exact trivial | refine ⟨by first | rfl | exact int_succ _ | assumption, ?_⟩)) ?_)
            exact ⟨⟨hS47, (by show i + 1 ≤ 40; omega), (hI.more (by show _ ≤ 400 * (i + 1); omega))⟩, by (show 40 - (i + 1) < 40 - i); omega⟩
        ·
          have hc30b := hc30
          try simp only [decide_eq_true_eq, decide_eq_false_iff_not, Bool.not_eq_true', Bool.not_eq_false', Bool.and_eq_true, Bool.or_eq_true, Int.not_lt, Int.not_le, ne_eq, Decidable.not_not] at hc30
          refine wp_seq_k (fun K48 hK48 => ?_)
          refine wp_region_lit ?_
          refine l_q rfl rfl (q_eql rfl rfl) ?_
          refine l_q rfl rfl (q_assignB rfl) ?_
          refine l_nil ?_
          refine hK48 _ _ ?_
          refine c_cond rfl (fun hc49 => ?_) (fun hc49 => ?_)
          ·
            have hc49b := hc49
            try simp only [decide_eq_true_eq, decide_eq_false_iff_not, Bool.not_eq_true', Bool.not_eq_false', Bool.and_eq_true, Bool.or_eq_true, Int.not_lt, Int.not_le, ne_eq, Decidable.not_not] at hc49
            refine wp_region_lit ?_
            refine l_q rfl rfl (q_moveP rfl) ?_
            refine l_e rfl (fun K hK => ?_)
            have hS51 := hS27.fr2; clear hS27
            have hS52 := hS51.fr2; clear hS51
            refine e_call (by kernel_rfl) (wSync_ok _ _ _ _ _ _ _ _ _ _ _ (St.begin (Γ := [_, _]) hS52)) rfl (after_M (Γ1 := [_, _]) hS52 (fun v50 G50 w50 hv50 hS50 => ?_))
            clear hS52
            obtain ⟨rfl, rfl⟩ := hv50
            have hS53 : St _ _ [wk k8 k5 ad cap rs, dk k5 da dc l b l.length, .blk b26 (.cells #[.int .i64 x25.k, .int .i64 x25.i, .int .i64 x25.n, .slice x25.ad x25.b.length x25.cap] 78), .fz g, .blk b2 (.cells #[.int .i64 n0, .int .i64 n1] 98)] _ := hS50; clear hS50
            refine hK _ _ ?_; clear hK K
            refine l_nil ?_
            refine hK23 _ _ ?_
            refine wp_region_lit ?_
            refine l_q rfl rfl (q_moveI rfl) ?_
            refine l_q rfl rfl (q_addx rfl rfl (by first | decide | omega) (by first | decide | omega)) ?_
            refine l_q rfl rfl (q_assignI rfl) ?_
            refine l_nil ?_
            have hS54 := hS53.fr4; clear hS53
            have hS55 := hS54.fr4; clear hS54
            have hS56 := hS55.fr3; clear hS55
            have hS57 := hS56.fr3; clear hS56
            have hS58 : St _ _ [wk k8 k5 ad cap rs, dk k5 da dc l b l.length, .fz g, .blk b2 (.cells #[.int .i64 n0, .int .i64 n1] 98)] _ := hS57.only 4; clear hS57
            refine hK18 _ _ (came (⟨da, ad, dc, cap, rs, l, b, l.length, g, (i + 1)⟩) (by repeat' (first | exact Agree.refl _ _ | refine Agree.up ?_ rfl | refine Agree.hav2 ?_ rfl | refine Agree.ups2 ?_ rfl)) (by repeat' (first | exact trivial | refine ⟨by first | rfl | exact int_succ _ | assumption, ?_⟩)) ?_)
            exact ⟨⟨hS58, (by show i + 1 ≤ 40; omega), (hI.synced.more (by show _ ≤ 400 * (i + 1); omega))⟩, by (show 40 - (i + 1) < 40 - i); omega⟩
          ·
            have hc49b := hc49
            try simp only [decide_eq_true_eq, decide_eq_false_iff_not, Bool.not_eq_true', Bool.not_eq_false', Bool.and_eq_true, Bool.or_eq_true, Int.not_lt, Int.not_le, ne_eq, Decidable.not_not] at hc49
            refine wp_seq_k (fun K59 hK59 => ?_)
            refine wp_region_lit ?_
            refine l_q rfl rfl (q_eql rfl rfl) ?_
            refine l_q rfl rfl (q_assignB rfl) ?_
            refine l_nil ?_
            refine hK59 _ _ ?_
            refine c_cond rfl (fun hc60 => ?_) (fun hc60 => ?_)
            ·
              have hc60b := hc60
              try simp only [decide_eq_true_eq, decide_eq_false_iff_not, Bool.not_eq_true', Bool.not_eq_false', Bool.and_eq_true, Bool.or_eq_true, Int.not_lt, Int.not_le, ne_eq, Decidable.not_not] at hc60
              refine r_any (by kernel_rfl) hS27 (fun w61 hS61 => ?_)
              clear hS27
              refine o_pure (i := 0) (fun _ _ => trivial) rfl rfl (by kernel_rfl) (goes0 rfl) (QOk.inBlock (QOk.inBlock (QOk.then (QOk.then (QOk.inBlock (QOk.then QOk.body)))))) (fun w => q_moveP rfl) ?_
              refine o_pure (i := 1) (fun _ _ => trivial) rfl rfl (by kernel_rfl) (goes0 rfl) (QOk.inBlock (QOk.inBlock (QOk.then (QOk.then (QOk.inBlock (QOk.then QOk.body)))))) (fun w => q_moveP rfl) ?_
              refine o_pure (i := 3) (fun _ _ => trivial) rfl rfl (by kernel_rfl) (goes0 rfl) (QOk.inBlock (QOk.inBlock (QOk.then (QOk.then (QOk.inBlock (QOk.then QOk.body)))))) (fun w => q_moveP rfl) ?_
              refine o_pure (i := 5) (fun _ _ => trivial) rfl rfl (by kernel_rfl) (goes0 rfl) (QOk.inBlock (QOk.inBlock (QOk.then (QOk.then (QOk.inBlock (QOk.then QOk.body)))))) (fun w => q_fieldAddr (ft := 3) (o := 1) rfl (by kernel_rfl)) ?_
              refine o_held (i := 6) [7, 8] (fun _ _ => trivial) rfl rfl (by kernel_rfl) (goes0 rfl) (QOk.inBlock (QOk.inBlock (QOk.then (QOk.then (QOk.inBlock (QOk.then QOk.body)))))) (q_load1 rfl (by kernel_rfl) (hS61.cell (i := 0) rfl rfl)) ?_
              refine o_eff (i := 2) (by kernel_rfl) rfl (goes0 rfl) (fun K hK => ?_)
              have hS63 := hS61.fr1; clear hS61
              refine e_call (by kernel_rfl) (wNumbers_ok _ _ _ _ _ (by first | omega | (simp only [List.length_append, List.length_map, List.length_cons, List.length_nil, List.length_take, List.length_drop, List.length_set] <;> omega)) _ (St.begin (Γ := [_]) hS63)) rfl (after_M (Γ1 := [_]) hS63 (fun v62 G62 w62 hv62 hS62 => ?_))
              clear hS63
              obtain ⟨ad62, cp62, rfl, rfl⟩ := hv62
              have hS64 : St _ _ [.ow 3 1 ad62 rs.length cp62 (iv (nums rs)), wk k8 k5 ad cap rs, .blk b26 (.cells #[.int .i64 x25.k, .int .i64 x25.i, .int .i64 x25.n, .slice x25.ad x25.b.length x25.cap] 78), dk k5 da dc l b s, .fz g, .blk b2 (.cells #[.int .i64 n0, .int .i64 n1] 98)] _ := hS62; clear hS62
              refine hK _ _ ⟨trivial, fun _ _ => by first | exact q_load1 rfl (by kernel_rfl) (hS64.cell (i := 2) rfl rfl)⟩ ?_; clear hK K
              refine o_eff (i := 4) (by kernel_rfl) rfl (goes0 rfl) (fun K hK => ?_)
              have hS66 := hS64.fr3; clear hS64
              refine e_call (by kernel_rfl) (dEnd_ok _ _ _ _ _ _ hI.2.1 (by first | omega | (simp; omega)) (by first | omega | (simp; omega)) _ (St.begin (Γ := [_]) hS66)) rfl (after_M (Γ1 := [_]) hS66 (fun v65 G65 w65 hv65 hS65 => ?_))
              clear hS66
              obtain ⟨rfl, rfl⟩ := hv65
              have hS67 : St _ _ [dk k5 da dc l b s, .ow 3 1 ad62 rs.length cp62 (iv (nums rs)), wk k8 k5 ad cap rs, .blk b26 (.cells #[.int .i64 x25.k, .int .i64 x25.i, .int .i64 x25.n, .slice x25.ad x25.b.length x25.cap] 78), .fz g, .blk b2 (.cells #[.int .i64 n0, .int .i64 n1] 98)] _ := hS65; clear hS65
              refine hK _ _ ⟨trivial, fun _ _ => by first | exact q_load1 rfl (by kernel_rfl) (hS67.cell (i := 3) rfl rfl)⟩ ?_; clear hK K
              refine o_eff (i := 7) (by kernel_rfl) rfl (goes0 rfl) (fun K hK => ?_)
              refine e_call (by kernel_rfl) (number_ok (nums rs) rs.length (((b + l.length) : Nat) : Int) x25.i (by first | exact nums_len _ | exact (by first | omega | (simp only [List.length_append, List.length_map, List.length_cons, List.length_nil, List.length_take, List.length_drop, List.length_set] <;> omega))) (by first | omega | (simp only [List.length_append, List.length_map, List.length_cons, List.length_nil, List.length_take, List.length_drop, List.length_set] <;> omega)) (by first | omega | (simp only [List.length_append, List.length_map, List.length_cons, List.length_nil, List.length_take, List.length_drop, List.length_set] <;> omega)) _ _ _ (hS67.owG (i := 1) rfl)) rfl (after_R hS67 (fun v68 w68 hv68 hS68 => ?_))
              clear hS67
              obtain rfl := hv68
              refine hK _ _ ⟨trivial, fun h => absurd h (by decide)⟩ ?_; clear hK K
              have hnb := numN_bd hI.1 (e := b + l.length) (by omega) x25.i
              refine o_eff (i := 8) (by kernel_rfl) rfl (goes0 rfl) (fun K hK => ?_)
              have hF69 := tr_fit rs l b s (numN (nums rs) (((b + l.length) : Nat) : Int) x25.i) (by first | omega | (simp only [List.length_append, List.length_map, List.length_cons, List.length_nil, List.length_take, List.length_drop, List.length_set] <;> omega))
              have hRt69 := trR_ok hI.1 l b s (numN (nums rs) (((b + l.length) : Nat) : Int) x25.i) 
              have hS70 := hS68.fr2; clear hS68
              refine e_call (by kernel_rfl) (wTrim_ok _ _ _ _ _ _ _ _ _ _ (by first | omega | (simp only [List.length_append, List.length_map, List.length_cons, List.length_nil, List.length_take, List.length_drop, List.length_set] <;> omega)) hI.2.1 (by first | omega | (simp only [List.length_append, List.length_map, List.length_cons, List.length_nil, List.length_take, List.length_drop, List.length_set] <;> omega)) (by first | omega | (simp only [List.length_append, List.length_map, List.length_cons, List.length_nil, List.length_take, List.length_drop, List.length_set] <;> omega)) _ (by first | omega | (simp only [List.length_append, List.length_map, List.length_cons, List.length_nil, List.length_take, List.length_drop, List.length_set] <;> omega)) (by first | omega | (simp only [List.length_append, List.length_map, List.length_cons, List.length_nil, List.length_take, List.length_drop, List.length_set] <;> omega)) _ (St.begin (Γ := [_, _]) hS70)) rfl (after_M (Γ1 := [_, _]) hS70 (fun v69 G69 w69 hv69 hS69 => ?_))
              clear hS70
              obtain ⟨ad69, cp69, da69, dc69, rfl, rfl⟩ := hv69
              have hS71 : St _ _ [wk k8 k5 ad69 cp69 (trR rs l b s (numN (nums rs) (((b + l.length) : Nat) : Int) x25.i)), dk k5 da69 dc69 (trL rs l b s (numN (nums rs) (((b + l.length) : Nat) : Int) x25.i)) (trB rs l b s (numN (nums rs) (((b + l.length) : Nat) : Int) x25.i)) (trS rs l b s (numN (nums rs) (((b + l.length) : Nat) : Int) x25.i)), .ow 3 1 ad62 rs.length cp62 (iv (nums rs)), .blk b26 (.cells #[.int .i64 x25.k, .int .i64 x25.i, .int .i64 x25.n, .slice x25.ad x25.b.length x25.cap] 78), .fz g, .blk b2 (.cells #[.int .i64 n0, .int .i64 n1] 98)] _ := hS69; clear hS69
              refine hK _ _ ⟨trivial, fun h => absurd h (by decide)⟩ ?_; clear hK K
              refine o_done (by kernel_rfl) ?_
              refine hK23 _ _ ?_
              refine wp_region_lit ?_
              refine l_q rfl rfl (q_moveI rfl) ?_
              refine l_q rfl rfl (q_addx rfl rfl (by first | decide | omega) (by first | decide | omega)) ?_
              refine l_q rfl rfl (q_assignI rfl) ?_
              refine l_nil ?_
              have hS72 := hS71.fr5; clear hS71
              have hS73 := hS72.fr5; clear hS72
              have hS74 := hS73.fr3; clear hS73
              have hS75 := hS74.fr3; clear hS74
              have hS76 : St _ _ [wk k8 k5 ad69 cp69 (trR rs l b s (numN (nums rs) (((b + l.length) : Nat) : Int) x25.i)), dk k5 da69 dc69 (trL rs l b s (numN (nums rs) (((b + l.length) : Nat) : Int) x25.i)) (trB rs l b s (numN (nums rs) (((b + l.length) : Nat) : Int) x25.i)) (trS rs l b s (numN (nums rs) (((b + l.length) : Nat) : Int) x25.i)), .fz g, .blk b2 (.cells #[.int .i64 n0, .int .i64 n1] 98)] _ := hS75.only 4; clear hS75
              refine hK18 _ _ (came (⟨da69, ad69, dc69, cp69, (trR rs l b s (numN (nums rs) (((b + l.length) : Nat) : Int) x25.i)), (trL rs l b s (numN (nums rs) (((b + l.length) : Nat) : Int) x25.i)), (trB rs l b s (numN (nums rs) (((b + l.length) : Nat) : Int) x25.i)), (trS rs l b s (numN (nums rs) (((b + l.length) : Nat) : Int) x25.i)), g, (i + 1)⟩) (by repeat' (first | exact Agree.refl _ _ | refine Agree.up ?_ rfl | refine Agree.hav2 ?_ rfl | refine Agree.ups2 ?_ rfl)) (by repeat' (first | exact trivial | refine ⟨by first | rfl | exact int_succ _ | assumption, ?_⟩)) ?_)
              exact ⟨⟨hS76, (by show i + 1 ≤ 40; omega), (hI.trimmed.more (by show _ ≤ 400 * (i + 1); omega))⟩, by (show 40 - (i + 1) < 40 - i); omega⟩
            ·
              have hc60b := hc60
              try simp only [decide_eq_true_eq, decide_eq_false_iff_not, Bool.not_eq_true', Bool.not_eq_false', Bool.and_eq_true, Bool.or_eq_true, Int.not_lt, Int.not_le, ne_eq, Decidable.not_not] at hc60
              refine wp_skip ?_
              refine hK23 _ _ ?_
              refine wp_region_lit ?_
              refine l_q rfl rfl (q_moveI rfl) ?_
              refine l_q rfl rfl (q_addx rfl rfl (by first | decide | omega) (by first | decide | omega)) ?_
              refine l_q rfl rfl (q_assignI rfl) ?_
              refine l_nil ?_
              have hS77 := hS27.fr4; clear hS27
              have hS78 := hS77.fr4; clear hS77
              have hS79 := hS78.fr4; clear hS78
              have hS80 := hS79.fr4; clear hS79
              have hS81 : St _ _ [wk k8 k5 ad cap rs, dk k5 da dc l b s, .fz g, .blk b2 (.cells #[.int .i64 n0, .int .i64 n1] 98)] _ := hS80.only 4; clear hS80
              refine hK18 _ _ (came (⟨da, ad, dc, cap, rs, l, b, s, g, (i + 1)⟩) (by repeat' (first | exact Agree.refl _ _ | refine Agree.up ?_ rfl | refine Agree.hav2 ?_ rfl | refine Agree.ups2 ?_ rfl)) (by repeat' (first | exact trivial | refine ⟨by first | rfl | exact int_succ _ | assumption, ?_⟩)) ?_)
              exact ⟨⟨hS81, (by show i + 1 ≤ 40; omega), (hI.more (by show _ ≤ 400 * (i + 1); omega))⟩, by (show 40 - (i + 1) < 40 - i); omega⟩
      ·
        have hc22b := hc22
        try simp only [decide_eq_true_eq, decide_eq_false_iff_not, Bool.not_eq_true', Bool.not_eq_false', Bool.and_eq_true, Bool.or_eq_true, Int.not_lt, Int.not_le, ne_eq, Decidable.not_not] at hc22
        refine wp_exit ?_
        refine hK16 _ _ ?_
        refine wp_seq_k (fun K82 hK82 => ?_)
        refine wp_region_lit ?_
        refine l_q rfl rfl (q_moveP rfl) ?_
        refine l_e rfl (fun K hK => ?_)
        refine e_call (by kernel_rfl) (wNumbers_ok _ _ _ _ _ (by first | omega | (simp only [List.length_append, List.length_map, List.length_cons, List.length_nil, List.length_take, List.length_drop, List.length_set] <;> omega)) _ (St.begin (Γ := [_]) hS18)) rfl (after_M (Γ1 := [_]) hS18 (fun v83 G83 w83 hv83 hS83 => ?_))
        clear hS18
        obtain ⟨ad83, cp83, rfl, rfl⟩ := hv83
        have hS84 : St _ _ [.ow 3 1 ad83 rs.length cp83 (iv (nums rs)), wk k8 k5 ad cap rs, dk k5 da dc l b s, .fz g, .blk b2 (.cells #[.int .i64 n0, .int .i64 n1] 98)] _ := hS83; clear hS83
        refine hK _ _ ?_; clear hK K
        refine l_q rfl rfl (q_assignS rfl) ?_
        refine l_nil ?_
        refine hK82 _ _ ?_
        refine wp_seq_k (fun K85 hK85 => ?_)
        refine wp_seq_k (fun K86 hK86 => ?_)
        have hS87 : St _ _ [.ow 23 1 none 0 0 (List.flatMap sb []), .ow 3 1 ad83 rs.length cp83 (iv (nums rs)), wk k8 k5 ad cap rs, dk k5 da dc l b s, .fz g, .blk b2 (.cells #[.int .i64 n0, .int .i64 n1] 98)] _ := hS84.ow_nil 23 1; clear hS84
        refine wp_region_lit ?_
        refine l_q rfl rfl (q_assignI rfl) ?_
        refine l_nil ?_
        refine hK86 _ _ ?_
        refine wp_block ?_
        have hS88 := hS87.fr5; clear hS87
        have hS89 := hS88.fr1; clear hS88
        have hS90 := hS89.fr2; clear hS89
        have hS91 := hS90.fr5; clear hS90
        have hS92 := hS91.fr5; clear hS91
        have hS93 := hS92.fr5; clear hS92
        refine c_loop (τ := Gh × Nat × (Option Addr) × Nat × (List Sb)) [(4, 4), (8, 8), (12, 14), (82, 102)] (fun x => (fun (g : Gh) (i : Nat) (aad : Option Addr) (acap : Nat) (aa : List Sb) => [(12, .int .i64 ((i : Nat) : Int)), (8, .slice aad aa.length acap)]) x.1 x.2.1 x.2.2.1 x.2.2.2.1 x.2.2.2.2) (fun x w' => (fun (g : Gh) (i : Nat) (aad : Option Addr) (acap : Nat) (aa : List Sb) => St w (fun _ => False) [wk k8 k5 ad cap rs, dk k5 da dc l b s, .fz g, .ow 3 1 ad83 rs.length cp83 (iv (nums rs)), .ow 23 1 aad aa.length acap (List.flatMap sb aa), .blk b2 (.cells #[.int .i64 n0, .int .i64 n1] 98)] w' ∧ RsOk g rs ∧ i ≤ rs.length ∧ (∀ a ∈ aa, SbG g a) ∧ aa.map (·.b) = (rs.take i).map (·.b)) x.1 x.2.1 x.2.2.1 x.2.2.2.1 x.2.2.2.2) (fun x => (fun (g : Gh) (i : Nat) (aad : Option Addr) (acap : Nat) (aa : List Sb) => rs.length - i) x.1 x.2.1 x.2.2.1 x.2.2.2.1 x.2.2.2.2) (⟨g, 0, none, 0, []⟩) ?_ (by repeat' (first | exact trivial | refine ⟨by first | rfl | exact int_succ _ | assumption, ?_⟩)) (fun x94 j94 w94 hJ94 K94 hK94 => ?_)
        ·
          exact ⟨hS93, hI.1, Nat.zero_le _, (fun _ h => by cases h), rfl⟩
        ·
          obtain ⟨g, i, aad, acap, aa⟩ := x94
          obtain ⟨hS94, hrs, hi3, haa, hab3⟩ := hJ94
          try dsimp only at hS94 hrs hi3 haa hab3 ⊢
          have hnl := nums_len rs
          have hal3 : aa.length = i := by have := congrArg List.length hab3; rw [List.length_map, List.length_map, List.length_take] at this; omega
          refine wp_seq_k (fun K95 hK95 => ?_)
          refine wp_seq_k (fun K96 hK96 => ?_)
          refine wp_region_lit ?_
          refine l_q rfl rfl (q_moveI rfl) ?_
          refine l_q rfl rfl (q_moveS rfl) ?_
          refine l_q rfl rfl (q_lenSl (e := 3) rfl (by kernel_rfl)) ?_
          refine l_q rfl rfl (q_lss rfl rfl) ?_
          refine l_nil ?_
          refine hK96 _ _ ?_
          refine c_cond rfl (fun hc97 => ?_) (fun hc97 => ?_)
          ·
            have hc97b := hc97
            try simp only [decide_eq_true_eq, decide_eq_false_iff_not, Bool.not_eq_true', Bool.not_eq_false', Bool.and_eq_true, Bool.or_eq_true, Int.not_lt, Int.not_le, ne_eq, Decidable.not_not] at hc97
            refine wp_skip ?_
            refine hK95 _ _ ?_
            refine wp_seq_k (fun K98 hK98 => ?_)
            refine wp_block ?_
            refine wp_seq_k (fun K99 hK99 => ?_)
            refine wp_region_lit ?_
            refine l_q rfl rfl (q_moveP rfl) ?_
            refine l_q rfl rfl (q_moveS rfl) ?_
            refine l_q rfl rfl (q_moveI rfl) ?_
            refine l_q rfl rfl (q_ixG (e := 3) (m := 1) (j := i) rfl rfl (by kernel_rfl) (by kernel_rfl) (by first | rfl | omega) (by omega) (hS94.owG (i := 3) rfl) (by rw [iv_len]; first | omega | (simp only [List.length_append, List.length_map, List.length_cons, List.length_nil, List.length_take, List.length_drop, List.length_set] <;> omega))) ?_
            obtain ⟨x100, hx100⟩ : ∃ x, ((nums rs))[i]? = some x := ⟨_, List.getElem?_eq_getElem (by first | omega | (simp only [List.length_append, List.length_map, List.length_cons, List.length_nil, List.length_take, List.length_drop, List.length_set] <;> omega) | (simp <;> omega))⟩
            refine l_q rfl rfl (q_load1 rfl (by kernel_rfl) (SlG.cell (hS94.owG (i := 3) rfl) (Gle.refl _) (at1 (iv_at hx100)))) ?_
            refine l_e rfl (fun K hK => ?_)
            have hS102 := hS94.fr2; clear hS94
            have hS103 := hS102.fr1; clear hS102
            refine e_call (by kernel_rfl) (wRead_ok _ _ _ _ _ _ (by first | omega | (simp only [List.length_append, List.length_map, List.length_cons, List.length_nil, List.length_take, List.length_drop, List.length_set] <;> omega)) hrs _ _ (St.begin (Γ := [_, _]) hS103)) rfl (after_M (Γ1 := [_, _]) hS103 (fun v101 G101 w101 hv101 hS101 => ?_))
            clear hS103
            obtain ⟨ad101, cp101, rfl, rfl⟩ := hv101
            have hS104 : St _ _ [.ow 5 1 ad101 ((rdB (List.map Rc.abs rs) x100).length) cp101 (bv (rdB (List.map Rc.abs rs) x100)), wk k8 k5 ad cap rs, .fz g, dk k5 da dc l b s, .ow 3 1 ad83 rs.length cp83 (iv (nums rs)), .ow 23 1 aad aa.length acap (List.flatMap sb aa), .blk b2 (.cells #[.int .i64 n0, .int .i64 n1] 98)] _ := hS101; clear hS101
            refine hK _ _ ?_; clear hK K
            obtain ⟨ra, hra, hrn⟩ := nums_at hx100
            obtain ⟨hrE, hrB⟩ := play_rd hIw rfl hra
            rw [hrn] at hrE hrB
            refine l_q rfl rfl (q_move rfl) ?_
            refine l_q rfl rfl (q_extract rfl rfl) ?_
            refine l_q rfl rfl (q_extract rfl rfl) ?_
            refine l_q rfl rfl (q_assignS rfl) ?_
            refine l_q rfl rfl (q_assignI rfl) ?_
            refine l_nil ?_
            refine hK99 _ _ ?_
            refine wp_seq_k (fun K105 hK105 => ?_)
            refine wp_seq_k (fun K106 hK106 => ?_)
            refine wp_region_lit ?_
            refine l_q rfl rfl (q_moveI rfl) ?_
            refine l_q rfl rfl (q_neq rfl rfl) ?_
            refine l_nil ?_
            refine hK106 _ _ ?_
            refine c_condF rfl (decide_eq_false (by rw [hrE]; simp)) ?_
            refine wp_skip ?_
            refine hK105 _ _ ?_
            have hS108 := hS104.fr2; clear hS104
            have hS109 := hS108.fr1; clear hS108
            obtain ⟨g110, hle110, hfz110, hS110⟩ := hS109.freezeOw; clear hS109
            have hR110_1 := RsOk.mono hrs hle110
            refine wp_region_lit ?_
            refine l_q rfl rfl (q_moveS rfl) ?_
            refine l_q rfl rfl (q_moveS rfl) ?_
            refine l_e rfl (fun K hK => ?_)
            refine e_buildSlice1 (e := 23) (zv := .slice none 0 0) (xs := [.tmp 100]) hS110 (by kernel_rfl) (by kernel_rfl) (by kernel_rfl) rfl rfl rfl rfl (allone (by repeat' (first | exact trivial | refine ⟨by first | rfl | assumption, ?_⟩))) rfl (fun b111 w111 (hS111 : St _ _ [.blk b111 (.cells #[.slice ad101 ((rdB (List.map Rc.abs rs) x100).length) cp101] 23), .fz g110, wk k8 k5 ad cap rs, dk k5 da dc l b s, .ow 3 1 ad83 rs.length cp83 (iv (nums rs)), .ow 23 1 aad aa.length acap (List.flatMap sb aa), .blk b2 (.cells #[.int .i64 n0, .int .i64 n1] 98)] _) => ?_)
            clear hS110
            have hS111o : St _ _ [.ow 23 1 (some ⟨b111, 0, none⟩) 1 1 (List.flatMap sb [Sb.mk ad101 cp101 (rdB (List.map Rc.abs rs) x100)]), .fz g110, wk k8 k5 ad cap rs, dk k5 da dc l b s, .ow 3 1 ad83 rs.length cp83 (iv (nums rs)), .ow 23 1 aad aa.length acap (List.flatMap sb aa), .blk b2 (.cells #[.int .i64 n0, .int .i64 n1] 98)] _ := hS111.blkOw' (i := 0) (m := 1) (size := 1) (xs := List.flatMap sb [Sb.mk ad101 cp101 (rdB (List.map Rc.abs rs) x100)]) rfl rfl rfl (by decide); clear hS111
            refine hK _ _ ?_; clear hK K
            refine l_e rfl (fun K hK => ?_)
            refine e_app (e := 23) (size := 1) (bytes := 24) (i := 5) (m' := (aa ++ [Sb.mk ad101 cp101 (rdB (List.map Rc.abs rs) x100)]).length) (by kernel_rfl) hS111o rfl rfl rfl (SlG.src (e := 23) (by kernel_rfl) (hS111o.owG (i := 0) rfl) ((rows_len (c := sb) (m := 1) (fun _ => rfl) _).trans (by first | rfl | (simp only [List.length_append, List.length_map, List.length_cons, List.length_nil, List.length_take, List.length_drop, List.length_set]; done) | (simp only [List.length_append, List.length_map, List.length_cons, List.length_nil, List.length_take, List.length_drop, List.length_set]; omega) | omega)) (by decide) (rows_one sb_ones)) (by first | omega | (simp only [List.length_append, List.length_map, List.length_cons, List.length_nil, List.length_take, List.length_drop, List.length_set] <;> omega) | (simp; done)) rows_app (by first | omega | (simp only [maxLen, List.length_append, List.length_map, List.length_cons, List.length_nil, List.length_take, List.length_drop, List.length_set] <;> omega) | (simp only [maxLen]; omega)) (by first | omega | (simp only [List.length_append, List.length_map, List.length_cons, List.length_nil, List.length_take, List.length_drop, List.length_set] <;> omega)) (fun ad112 cp112 w112 (hS112 : St _ _ [.ow 23 1 (some ⟨b111, 0, none⟩) 1 1 (List.flatMap sb [Sb.mk ad101 cp101 (rdB (List.map Rc.abs rs) x100)]), .fz g110, wk k8 k5 ad cap rs, dk k5 da dc l b s, .ow 3 1 ad83 rs.length cp83 (iv (nums rs)), .ow 23 1 ad112 ((aa ++ [Sb.mk ad101 cp101 (rdB (List.map Rc.abs rs) x100)]).length) cp112 (List.flatMap sb (aa ++ [Sb.mk ad101 cp101 (rdB (List.map Rc.abs rs) x100)])), .blk b2 (.cells #[.int .i64 n0, .int .i64 n1] 98)] _) => ?_)
            clear hS111o
            refine hK _ _ ?_; clear hK K
            refine l_q rfl rfl (q_assignS rfl) ?_
            refine l_nil ?_
            refine hK98 _ _ ?_
            refine wp_region_lit ?_
            refine l_q rfl rfl (q_moveI rfl) ?_
            refine l_q rfl rfl (q_addx rfl rfl (by first | decide | omega) (by first | decide | omega)) ?_
            refine l_q rfl rfl (q_assignI rfl) ?_
            refine l_nil ?_
            have hS113 := hS112.fr6; clear hS112
            have hS114 := hS113.fr6; clear hS113
            have hS115 := hS114.fr6; clear hS114
            have hS116 := hS115.fr4; clear hS115
            have hS117 := hS116.fr6; clear hS116
            have hS118 := hS117.fr6; clear hS117
            have hS119 : St _ _ [wk k8 k5 ad cap rs, dk k5 da dc l b s, .fz g110, .ow 3 1 ad83 rs.length cp83 (iv (nums rs)), .ow 23 1 ad112 ((aa ++ [Sb.mk ad101 cp101 (rdB (List.map Rc.abs rs) x100)]).length) cp112 (List.flatMap sb (aa ++ [Sb.mk ad101 cp101 (rdB (List.map Rc.abs rs) x100)])), .blk b2 (.cells #[.int .i64 n0, .int .i64 n1] 98)] _ := hS118.only 6; clear hS118
            refine hK94 _ _ (came (⟨g110, (i + 1), ad112, cp112, (aa ++ [Sb.mk ad101 cp101 (rdB (List.map Rc.abs rs) x100)])⟩) (by repeat' (first | exact Agree.refl _ _ | refine Agree.up ?_ rfl | refine Agree.hav2 ?_ rfl | refine Agree.ups2 ?_ rfl)) (by repeat' (first | exact trivial | refine ⟨by first | rfl | exact int_succ _ | assumption, ?_⟩)) ?_)
            exact ⟨⟨hS119, hrs.mono hle110, (by show i + 1 ≤ rs.length; omega), SbG.snoc haa hle110 hfz110 (rdB_bytes hrs _), all_snoc hab3 hra (hrB.trans rfl)⟩, by (show rs.length - (i + 1) < rs.length - i); omega⟩
          ·
            have hc97b := hc97
            try simp only [decide_eq_true_eq, decide_eq_false_iff_not, Bool.not_eq_true', Bool.not_eq_false', Bool.and_eq_true, Bool.or_eq_true, Int.not_lt, Int.not_le, ne_eq, Decidable.not_not] at hc97
            refine wp_exit ?_
            refine hK85 _ _ ?_
            refine wp_seq_k (fun K120 hK120 => ?_)
            have hi9 : i = rs.length := by omega
            have hab9 : aa.map (·.b) = rs.map (·.b) := by rw [hab3, hi9, List.take_length]
            have hal9 : aa.length = rs.length := by have := congrArg List.length hab9; simpa using this
            have hK0 := KInv.start (rs := rs) (b := b) hIs
            refine wp_region_lit ?_
            refine l_q rfl rfl (q_moveP rfl) ?_
            refine l_e rfl (fun K hK => ?_)
            refine e_call (by kernel_rfl) (wSafe_ok _ _ _ _ _ _ _ _ _ _ (by first | omega | (simp only [List.length_append, List.length_map, List.length_cons, List.length_nil, List.length_take, List.length_drop, List.length_set] <;> omega)) hI.2.1 (by first | omega | (simp only [List.length_append, List.length_map, List.length_cons, List.length_nil, List.length_take, List.length_drop, List.length_set] <;> omega)) (by first | omega | (simp only [List.length_append, List.length_map, List.length_cons, List.length_nil, List.length_take, List.length_drop, List.length_set] <;> omega)) _ hrs _ (St.begin (Γ := [_, _]) hS94)) rfl (after_M (Γ1 := [_, _]) hS94 (fun v121 G121 w121 hv121 hS121 => ?_))
            clear hS94
            obtain ⟨rfl, rfl⟩ := hv121
            have hS122 : St _ _ [wk k8 k5 ad cap rs, dk k5 da dc l b s, .fz g, .ow 3 1 ad83 rs.length cp83 (iv (nums rs)), .ow 23 1 aad aa.length acap (List.flatMap sb aa), .blk b2 (.cells #[.int .i64 n0, .int .i64 n1] 98)] _ := hS121; clear hS121
            refine hK _ _ ?_; clear hK K
            refine l_q rfl rfl (q_assignI rfl) ?_
            refine l_nil ?_
            refine hK120 _ _ ?_
            refine wp_seq_k (fun K123 hK123 => ?_)
            refine wp_seq_k (fun K124 hK124 => ?_)
            refine wp_region_lit ?_
            refine l_q rfl rfl (q_assignI rfl) ?_
            refine l_nil ?_
            refine hK124 _ _ ?_
            refine wp_block ?_
            refine c_rounds 3 ?_
            refine c_round ?_
            refine wp_seq_k (fun K125 hK125 => ?_)
            refine wp_seq_k (fun K126 hK126 => ?_)
            refine wp_region_lit ?_
            refine l_q rfl rfl (q_moveI rfl) ?_
            refine l_q rfl rfl (q_lss rfl rfl) ?_
            refine l_nil ?_
            refine hK126 _ _ ?_
            refine c_condT rfl (by decide) ?_
            refine wp_skip ?_
            refine hK125 _ _ ?_
            refine wp_seq_k (fun K128 hK128 => ?_)
            refine wp_block ?_
            refine wp_seq_k (fun K129 hK129 => ?_)
            refine wp_region_lit ?_
            refine l_q rfl rfl (q_moveP rfl) ?_
            refine l_q rfl rfl (q_moveI rfl) ?_
            refine l_q rfl rfl (q_indexAddrA (len := 2) (e := 3) (m := 1) rfl rfl (by kernel_rfl) (by kernel_rfl) (by decide) (by decide)) ?_
            refine l_q rfl rfl (q_load1 rfl (by kernel_rfl) (hS122.cell (i := 5) rfl rfl)) ?_
            refine l_e rfl (fun K hK => ?_)
            have hS131 := hS122.fr1; clear hS122
            have hF130 := pwN_le (l := l) (s := s) n0 (by first | omega | (simp only [List.length_append, List.length_map, List.length_cons, List.length_nil, List.length_take, List.length_drop, List.length_set] <;> omega))
            refine e_call (by kernel_rfl) (dPower_ok _ _ _ _ _ _ hI.2.1 (by first | omega | (simp only [List.length_append, List.length_map, List.length_cons, List.length_nil, List.length_take, List.length_drop, List.length_set] <;> omega)) (by first | omega | (simp only [List.length_append, List.length_map, List.length_cons, List.length_nil, List.length_take, List.length_drop, List.length_set] <;> omega)) _ (by first | omega | (simp only [List.length_append, List.length_map, List.length_cons, List.length_nil, List.length_take, List.length_drop, List.length_set] <;> omega)) _ (St.begin (Γ := [_]) hS131)) rfl (after_M (Γ1 := [_]) hS131 (fun v130 G130 w130 hv130 hS130 => ?_))
            clear hS131
            obtain ⟨k130, ad130, cp130, rfl, rfl⟩ := hv130
            have hS132 : St _ _ [dk k130 ad130 cp130 (l.take (pwN l s n0)) b (pwN l s n0), dk k5 da dc l b s, wk k8 k5 ad cap rs, .fz g, .ow 3 1 ad83 rs.length cp83 (iv (nums rs)), .ow 23 1 aad aa.length acap (List.flatMap sb aa), .blk b2 (.cells #[.int .i64 n0, .int .i64 n1] 98)] _ := hS130; clear hS130
            refine hK _ _ ?_; clear hK K
            refine l_q rfl rfl (q_assignP rfl) ?_
            refine l_nil ?_
            refine hK129 _ _ ?_
            refine wp_seq_k (fun K133 hK133 => ?_)
            refine wp_region_lit ?_
            refine l_q rfl rfl (q_moveP rfl) ?_
            refine l_e rfl (fun K hK => ?_)
            have hsl134 := scan_le (l.take (pwN l s n0)).length (l.take (pwN l s n0)) b (Nat.le_refl _)
            have hS135 := hS132.fr3; clear hS132
            have hS136 := hS135.fr1; clear hS135
            refine e_call (by kernel_rfl) (wOpen_ok _ _ _ _ _ _ _ (Bytes.take hI.2.1) (by first | omega | (simp only [List.length_append, List.length_map, List.length_cons, List.length_nil, List.length_take, List.length_drop, List.length_set] <;> omega)) (by first | omega | (simp only [List.length_append, List.length_map, List.length_cons, List.length_nil, List.length_take, List.length_drop, List.length_set] <;> omega)) (by first | omega | (simp only [List.length_append, List.length_map, List.length_cons, List.length_nil, List.length_take, List.length_drop, List.length_set] <;> omega)) _ (St.begin (Γ := [_, _]) hS136)) rfl (after_M (Γ1 := [_, _]) hS136 (fun v134 G134 w134 hv134 hS134 => ?_))
            clear hS136
            obtain ⟨k134, ad134, cp134, rs134, da134, dc134, g134, rfl, rfl, hle134, hrs134, hab134⟩ := hv134
            have hS137 : St _ _ [wk k134 k130 ad134 cp134 rs134, dk k130 da134 dc134 ((l.take (pwN l s n0)).take (scan (l.take (pwN l s n0)) b).2) b ((scan (l.take (pwN l s n0)) b).2), .fz g134, dk k5 da dc l b s, wk k8 k5 ad cap rs, .ow 3 1 ad83 rs.length cp83 (iv (nums rs)), .ow 23 1 aad aa.length acap (List.flatMap sb aa), .blk b2 (.cells #[.int .i64 n0, .int .i64 n1] 98)] _ := hS134; clear hS134
            have hR134_4 := RsOk.mono hrs hle134
            have hok134_6 := SbG.all haa hle134
            refine hK _ _ ?_; clear hK K
            refine l_q rfl rfl (q_move rfl) ?_
            obtain ⟨hK1, ⟨j1, hj1⟩, hkc1, hkn1, hkw1, hks1⟩ := hK0.step hIw (p := (pwN l s n0)) hF130.1 hF130.2 hab134
            obtain ⟨L1, hL1⟩ : ∃ L, L = ((l.take (pwN l s n0)).take (scan (l.take (pwN l s n0)) b).2) := ⟨_, rfl⟩
            obtain ⟨z1, hz1⟩ : ∃ z, z = (scan (l.take (pwN l s n0)) b).2 := ⟨_, rfl⟩
            rw [← hL1, ← hz1] at hK1
            rw [← hL1] at hkw1
            rw [← hz1] at hks1
            have hLB1 : Bytes L1 := by rw [hL1]; exact (Bytes.take (Bytes.take hI.2.1))
            have hLl1 := hK1.len
            have hS138 : St _ _ [wk k134 k130 ad134 cp134 rs134, dk k130 da134 dc134 L1 b z1, .fz g134, dk k5 da dc l b s, wk k8 k5 ad cap rs, .ow 3 1 ad83 rs.length cp83 (iv (nums rs)), .ow 23 1 aad aa.length acap (List.flatMap sb aa), .blk b2 (.cells #[.int .i64 n0, .int .i64 n1] 98)] _ := hS137.cast (by rw [show L1 = ((l.take (pwN l s n0)).take (scan (l.take (pwN l s n0)) b).2) from hL1, show z1 = (scan (l.take (pwN l s n0)) b).2 from hz1]); clear hS137
            refine l_q rfl rfl (q_extract rfl rfl) ?_
            refine l_q rfl rfl (q_extract rfl rfl) ?_
            refine l_q rfl rfl (q_assignP rfl) ?_
            refine l_q rfl rfl (q_assignI rfl) ?_
            refine l_nil ?_
            refine hK133 _ _ ?_
            refine wp_seq_k (fun K139 hK139 => ?_)
            refine wp_seq_k (fun K140 hK140 => ?_)
            refine wp_region_lit ?_
            refine l_q rfl rfl (q_moveI rfl) ?_
            refine l_q rfl rfl (q_neq rfl rfl) ?_
            refine l_q rfl rfl (q_moveB rfl) ?_
            refine l_on rfl rfl (by decide) ?_
            refine l_q rfl rfl (q_moveP rfl) ?_
            refine l_on rfl rfl (by decide) ?_
            refine l_q rfl rfl (q_peq rfl (by kernel_rfl)) ?_
            refine l_q rfl rfl (q_pickF rfl (by decide) rfl) ?_
            refine l_nil ?_
            refine hK140 _ _ ?_
            refine c_condF rfl rfl ?_
            refine wp_skip ?_
            refine hK139 _ _ ?_
            refine wp_seq_k (fun K142 hK142 => ?_)
            refine wp_region_lit ?_
            refine l_q rfl rfl (q_moveP rfl) ?_
            refine l_e rfl (fun K hK => ?_)
            refine e_call (by kernel_rfl) (wNumbers_ok _ _ _ _ _ (by first | omega | (simp only [List.length_append, List.length_map, List.length_cons, List.length_nil, List.length_take, List.length_drop, List.length_set] <;> omega)) _ (St.begin (Γ := [_]) hS138)) rfl (after_M (Γ1 := [_]) hS138 (fun v143 G143 w143 hv143 hS143 => ?_))
            clear hS138
            obtain ⟨ad143, cp143, rfl, rfl⟩ := hv143
            have hS144 : St _ _ [.ow 3 1 ad143 rs134.length cp143 (iv (nums rs134)), wk k134 k130 ad134 cp134 rs134, dk k130 da134 dc134 L1 b z1, .fz g134, dk k5 da dc l b s, wk k8 k5 ad cap rs, .ow 3 1 ad83 rs.length cp83 (iv (nums rs)), .ow 23 1 aad aa.length acap (List.flatMap sb aa), .blk b2 (.cells #[.int .i64 n0, .int .i64 n1] 98)] _ := hS143; clear hS143
            refine hK _ _ ?_; clear hK K
            refine l_q rfl rfl (q_assignS rfl) ?_
            have hnl2 := nums_len rs134
            have hnl := nums_len rs
            refine l_nil ?_
            refine hK142 _ _ ?_
            refine wp_seq_k (fun K145 hK145 => ?_)
            refine wp_seq_k (fun K146 hK146 => ?_)
            refine wp_region_lit ?_
            refine l_q rfl rfl (q_moveS rfl) ?_
            refine l_q rfl rfl (q_lenSl (e := 3) rfl (by kernel_rfl)) ?_
            refine l_q rfl rfl (q_moveI rfl) ?_
            refine l_q rfl rfl (q_lss rfl rfl) ?_
            refine l_q rfl rfl (q_moveB rfl) ?_
            refine l_on rfl rfl (decide_eq_false (by omega)) ?_
            refine l_q rfl rfl (q_moveS rfl) ?_
            refine l_on rfl rfl (decide_eq_false (by omega)) ?_
            refine l_q rfl rfl (q_lenSl (e := 3) rfl (by kernel_rfl)) ?_
            refine l_on rfl rfl (decide_eq_false (by omega)) ?_
            refine l_q rfl rfl (q_moveS rfl) ?_
            refine l_on rfl rfl (decide_eq_false (by omega)) ?_
            refine l_q rfl rfl (q_lenSl (e := 3) rfl (by kernel_rfl)) ?_
            refine l_on rfl rfl (decide_eq_false (by omega)) ?_
            refine l_q rfl rfl (q_gtr rfl rfl) ?_
            refine l_q rfl rfl (q_pickF rfl (decide_eq_false (by omega)) rfl) ?_
            refine l_q rfl rfl (q_moveB rfl) ?_
            refine l_on rfl rfl (decide_eq_false (by omega)) ?_
            refine l_q rfl rfl (q_moveP rfl) ?_
            refine l_on rfl rfl (decide_eq_false (by omega)) ?_
            refine l_e rfl (fun K hK => ?_)
            have hS150 := hS144.fr2; clear hS144
            have hS151 := hS150.fr2; clear hS150
            refine e_call (by kernel_rfl) (wSafe_ok _ _ _ _ _ _ _ _ _ _ (by first | omega | (simp only [List.length_append, List.length_map, List.length_cons, List.length_nil, List.length_take, List.length_drop, List.length_set] <;> omega)) hLB1 (by first | omega | (simp only [List.length_append, List.length_map, List.length_cons, List.length_nil, List.length_take, List.length_drop, List.length_set] <;> omega)) (by first | omega | (simp only [List.length_append, List.length_map, List.length_cons, List.length_nil, List.length_take, List.length_drop, List.length_set] <;> omega)) _ hrs134 _ (St.begin (Γ := [_, _]) hS151)) rfl (after_M (Γ1 := [_, _]) hS151 (fun v149 G149 w149 hv149 hS149 => ?_))
            clear hS151
            obtain ⟨rfl, rfl⟩ := hv149
            have hS152 : St _ _ [wk k134 k130 ad134 cp134 rs134, dk k130 da134 dc134 L1 b z1, .ow 3 1 ad143 rs134.length cp143 (iv (nums rs134)), .fz g134, dk k5 da dc l b s, wk k8 k5 ad cap rs, .ow 3 1 ad83 rs.length cp83 (iv (nums rs)), .ow 23 1 aad aa.length acap (List.flatMap sb aa), .blk b2 (.cells #[.int .i64 n0, .int .i64 n1] 98)] _ := hS149; clear hS149
            refine hK _ _ ?_; clear hK K
            refine l_on rfl rfl (decide_eq_false (by omega)) ?_
            refine l_q rfl rfl (q_moveS rfl) ?_
            refine l_on rfl rfl (decide_eq_false (by omega)) ?_
            refine l_q rfl rfl (q_lenSl (e := 3) rfl (by kernel_rfl)) ?_
            refine l_on rfl rfl (decide_eq_false (by omega)) ?_
            refine l_q rfl rfl (q_neq rfl rfl) ?_
            refine l_q rfl rfl (q_pickF rfl (decide_eq_false (by omega)) rfl) ?_
            refine l_nil ?_
            refine hK146 _ _ ?_
            refine c_condF rfl (decide_eq_false (by rw [hks1]; simp)) ?_
            refine wp_skip ?_
            refine hK145 _ _ ?_
            refine wp_seq_k (fun K154 hK154 => ?_)
            refine wp_region_lit ?_
            refine l_q rfl rfl (q_assignI rfl) ?_
            refine l_nil ?_
            refine hK154 _ _ ?_
            refine wp_block ?_
            have hS155 := hS152.fr8; clear hS152
            have hS156 := hS155.fr8; clear hS155
            have hS157 := hS156.fr8; clear hS156
            have hS158 := hS157.fr5; clear hS157
            have hS159 := hS158.fr6; clear hS158
            have hS160 := hS159.fr6; clear hS159
            have hS161 := hS160.fr6; clear hS160
            have hS162 : St _ _ [wk k134 k130 ad134 cp134 rs134, dk k130 da134 dc134 L1 b z1, .fz g134, .ow 3 1 ad143 rs134.length cp143 (iv (nums rs134)), .ow 3 1 ad83 rs.length cp83 (iv (nums rs)), .ow 23 1 aad aa.length acap (List.flatMap sb aa), .blk b2 (.cells #[.int .i64 n0, .int .i64 n1] 98)] _ := hS161.only 7; clear hS161
            refine c_loop (τ := Nat) [(4, 4), (20, 22), (145, 182)] (fun x => (fun (k : Nat) => [(20, .int .i64 ((k : Nat) : Int))]) x) (fun x w' => (fun (k : Nat) => St w (fun _ => False) [wk k134 k130 ad134 cp134 rs134, dk k130 da134 dc134 L1 b z1, .fz g134, .ow 3 1 ad143 rs134.length cp143 (iv (nums rs134)), .ow 3 1 ad83 rs.length cp83 (iv (nums rs)), .ow 23 1 aad aa.length acap (List.flatMap sb aa), .blk b2 (.cells #[.int .i64 n0, .int .i64 n1] 98)] w' ∧ k ≤ rs134.length) x) (fun x => (fun (k : Nat) => rs134.length - k) x) (0) ?_ (by repeat' (first | exact trivial | refine ⟨by first | rfl | exact int_succ _ | assumption, ?_⟩)) (fun k j163 w163 hJ163 K163 hK163 => ?_)
            ·
              exact ⟨hS162, Nat.zero_le _⟩
            ·
              obtain ⟨hS163, hk⟩ := hJ163
              try dsimp only at hS163 hk ⊢
              have hnl2 := nums_len rs134
              have hnl := nums_len rs
              refine wp_seq_k (fun K164 hK164 => ?_)
              refine wp_seq_k (fun K165 hK165 => ?_)
              refine wp_region_lit ?_
              refine l_q rfl rfl (q_moveI rfl) ?_
              refine l_q rfl rfl (q_moveS rfl) ?_
              refine l_q rfl rfl (q_lenSl (e := 3) rfl (by kernel_rfl)) ?_
              refine l_q rfl rfl (q_lss rfl rfl) ?_
              refine l_nil ?_
              refine hK165 _ _ ?_
              refine c_cond rfl (fun hc166 => ?_) (fun hc166 => ?_)
              ·
                have hc166b := hc166
                try simp only [decide_eq_true_eq, decide_eq_false_iff_not, Bool.not_eq_true', Bool.not_eq_false', Bool.and_eq_true, Bool.or_eq_true, Int.not_lt, Int.not_le, ne_eq, Decidable.not_not] at hc166
                refine wp_skip ?_
                refine hK164 _ _ ?_
                refine wp_seq_k (fun K167 hK167 => ?_)
                refine wp_block ?_
                refine wp_seq_k (fun K168 hK168 => ?_)
                refine wp_region_lit ?_
                refine l_q rfl rfl (q_moveP rfl) ?_
                refine l_q rfl rfl (q_moveS rfl) ?_
                refine l_q rfl rfl (q_moveI rfl) ?_
                refine l_q rfl rfl (q_ixG (e := 3) (m := 1) (j := k) rfl rfl (by kernel_rfl) (by kernel_rfl) (by first | rfl | omega) (by omega) (hS163.owG (i := 3) rfl) (by rw [iv_len]; first | omega | (simp only [List.length_append, List.length_map, List.length_cons, List.length_nil, List.length_take, List.length_drop, List.length_set] <;> omega))) ?_
                obtain ⟨x169, hx169⟩ : ∃ x, ((nums rs134))[k]? = some x := ⟨_, List.getElem?_eq_getElem (by first | omega | (simp only [List.length_append, List.length_map, List.length_cons, List.length_nil, List.length_take, List.length_drop, List.length_set] <;> omega) | (simp <;> omega))⟩
                refine l_q rfl rfl (q_load1 rfl (by kernel_rfl) (SlG.cell (hS163.owG (i := 3) rfl) (Gle.refl _) (at1 (iv_at hx169)))) ?_
                refine l_e rfl (fun K hK => ?_)
                have hS171 := hS163.fr2; clear hS163
                have hS172 := hS171.fr1; clear hS171
                refine e_call (by kernel_rfl) (wRead_ok _ _ _ _ _ _ (by first | omega | (simp only [List.length_append, List.length_map, List.length_cons, List.length_nil, List.length_take, List.length_drop, List.length_set] <;> omega)) hrs134 _ _ (St.begin (Γ := [_, _]) hS172)) rfl (after_M (Γ1 := [_, _]) hS172 (fun v170 G170 w170 hv170 hS170 => ?_))
                clear hS172
                obtain ⟨ad170, cp170, rfl, rfl⟩ := hv170
                have hS173 : St _ _ [.ow 5 1 ad170 ((rdB (List.map Rc.abs rs134) x169).length) cp170 (bv (rdB (List.map Rc.abs rs134) x169)), wk k134 k130 ad134 cp134 rs134, .fz g134, dk k130 da134 dc134 L1 b z1, .ow 3 1 ad143 rs134.length cp143 (iv (nums rs134)), .ow 3 1 ad83 rs.length cp83 (iv (nums rs)), .ow 23 1 aad aa.length acap (List.flatMap sb aa), .blk b2 (.cells #[.int .i64 n0, .int .i64 n1] 98)] _ := hS170; clear hS170
                refine hK _ _ ?_; clear hK K
                obtain ⟨ra, hra, hrn⟩ := nums_at hx169
                obtain ⟨hrE, hrB⟩ := play_rd hkw1 rfl hra
                rw [hrn] at hrE hrB
                obtain ⟨rb, hrb, hrbn, hrbb⟩ := keep_at hj1 hra
                refine l_q rfl rfl (q_move rfl) ?_
                refine l_q rfl rfl (q_extract rfl rfl) ?_
                refine l_q rfl rfl (q_extract rfl rfl) ?_
                refine l_q rfl rfl (q_assignS rfl) ?_
                refine l_q rfl rfl (q_assignI rfl) ?_
                refine l_nil ?_
                refine hK168 _ _ ?_
                refine wp_seq_k (fun K174 hK174 => ?_)
                refine r_any (by kernel_rfl) hS173 (fun w175 hS175 => ?_)
                clear hS173
                refine o_pure (i := 0) (fun _ _ => trivial) rfl rfl (by kernel_rfl) (goes0 rfl) (QOk.then (QOk.inBlock (QOk.then (QOk.then (QOk.inBlock (QOk.inBlock (QOk.then (QOk.then (QOk.inBlock (QOk.then QOk.body)))))))))) (fun w => q_moveI rfl) ?_
                refine o_pure (i := 1) (fun _ _ => trivial) rfl rfl (by kernel_rfl) (goes0 rfl) (QOk.then (QOk.inBlock (QOk.then (QOk.then (QOk.inBlock (QOk.inBlock (QOk.then (QOk.then (QOk.inBlock (QOk.then QOk.body)))))))))) (fun w => q_neq rfl rfl) ?_
                refine o_pure (i := 2) (fun _ _ => trivial) rfl rfl (by kernel_rfl) (goes0 rfl) (QOk.then (QOk.inBlock (QOk.then (QOk.then (QOk.inBlock (QOk.inBlock (QOk.then (QOk.then (QOk.inBlock (QOk.then QOk.body)))))))))) (fun w => q_moveB rfl) ?_
                refine o_pure (i := 3) (fun _ _ => trivial) rfl rfl (by kernel_rfl) (goes1 rfl rfl (decide_eq_false (by rw [hrE]; simp))) (QOk.then (QOk.inBlock (QOk.then (QOk.then (QOk.inBlock (QOk.inBlock (QOk.then (QOk.then (QOk.inBlock (QOk.then QOk.body)))))))))) (fun w => q_moveS rfl) ?_
                refine o_pure (i := 4) (fun _ _ => trivial) rfl rfl (by kernel_rfl) (goes1 rfl rfl (decide_eq_false (by rw [hrE]; simp))) (QOk.then (QOk.inBlock (QOk.then (QOk.then (QOk.inBlock (QOk.inBlock (QOk.then (QOk.then (QOk.inBlock (QOk.then QOk.body)))))))))) (fun w => q_moveI rfl) ?_
                refine o_pure (i := 5) (fun _ _ => trivial) rfl rfl (by kernel_rfl) (goes1 rfl rfl (decide_eq_false (by rw [hrE]; simp))) (QOk.then (QOk.inBlock (QOk.then (QOk.then (QOk.inBlock (QOk.inBlock (QOk.then (QOk.then (QOk.inBlock (QOk.then QOk.body)))))))))) (fun w => q_ixG (e := 3) (m := 1) (j := k) rfl rfl (by kernel_rfl) (by kernel_rfl) (by first | rfl | omega) (by omega) (hS175.owG (i := 4) rfl) (by rw [iv_len]; first | omega | (simp only [List.length_append, List.length_map, List.length_cons, List.length_nil, List.length_take, List.length_drop, List.length_set] <;> omega))) ?_
                refine o_held (i := 6) [11, 12, 13, 14, 15, 16, 17, 18, 19, 20, 21, 22] (fun _ _ => trivial) rfl rfl (by kernel_rfl) (goes1 rfl rfl (decide_eq_false (by rw [hrE]; simp))) (QOk.then (QOk.inBlock (QOk.then (QOk.then (QOk.inBlock (QOk.inBlock (QOk.then (QOk.then (QOk.inBlock (QOk.then QOk.body)))))))))) (q_load1 rfl (by kernel_rfl) (SlG.cell (hS175.owG (i := 4) rfl) (Gle.refl _) (at1 (iv_at hx169)))) ?_
                refine o_pure (i := 7) (fun j w => ⟨(fun _ _ => trivial) j w, fun _ h => h⟩) rfl rfl (by kernel_rfl) (goes1 rfl rfl (decide_eq_false (by rw [hrE]; simp))) (QOk.then (QOk.inBlock (QOk.then (QOk.then (QOk.inBlock (QOk.inBlock (QOk.then (QOk.then (QOk.inBlock (QOk.then QOk.body)))))))))) (fun w => q_moveS rfl) ?_
                refine o_pure (i := 8) (fun j w => ⟨(fun _ _ => trivial) j w, fun _ h => h⟩) rfl rfl (by kernel_rfl) (goes1 rfl rfl (decide_eq_false (by rw [hrE]; simp))) (QOk.then (QOk.inBlock (QOk.then (QOk.then (QOk.inBlock (QOk.inBlock (QOk.then (QOk.then (QOk.inBlock (QOk.then QOk.body)))))))))) (fun w => q_moveI rfl) ?_
                refine o_pure (i := 9) (fun j w => ⟨(fun _ _ => trivial) j w, fun _ h => h⟩) rfl rfl (by kernel_rfl) (goes1 rfl rfl (decide_eq_false (by rw [hrE]; simp))) (QOk.then (QOk.inBlock (QOk.then (QOk.then (QOk.inBlock (QOk.inBlock (QOk.then (QOk.then (QOk.inBlock (QOk.then QOk.body)))))))))) (fun w => q_ixG (e := 3) (m := 1) (j := k) rfl rfl (by kernel_rfl) (by kernel_rfl) (by first | rfl | omega) (by omega) (hS175.owG (i := 5) rfl) (by rw [iv_len]; first | omega | (simp only [List.length_append, List.length_map, List.length_cons, List.length_nil, List.length_take, List.length_drop, List.length_set] <;> omega))) ?_
                obtain ⟨x177, hx177⟩ : ∃ x, ((nums rs))[k]? = some x := ⟨_, List.getElem?_eq_getElem (by first | omega | (simp only [List.length_append, List.length_map, List.length_cons, List.length_nil, List.length_take, List.length_drop, List.length_set] <;> omega) | (simp <;> omega))⟩
                refine o_held (i := 10) [11, 12, 13, 14, 15, 16, 17, 18, 19, 20, 21, 22] (fun j w => ⟨(fun _ _ => trivial) j w, fun _ h => h⟩) rfl rfl (by kernel_rfl) (goes1 rfl rfl (decide_eq_false (by rw [hrE]; simp))) (QOk.then (QOk.inBlock (QOk.then (QOk.then (QOk.inBlock (QOk.inBlock (QOk.then (QOk.then (QOk.inBlock (QOk.then QOk.body)))))))))) (q_load1 rfl (by kernel_rfl) (SlG.cell (hS175.owG (i := 5) rfl) (Gle.refl _) (at1 (iv_at hx177)))) ?_
                have hsn := num_at hx177 hrb
                rw [hrbn, hrn] at hsn
                refine o_pure (i := 11) (fun j w => ⟨(fun j w => ⟨(fun _ _ => trivial) j w, fun _ h => h⟩) j w, fun _ h => h⟩) rfl rfl (by kernel_rfl) (goes1 rfl rfl (decide_eq_false (by rw [hrE]; simp))) (QOk.then (QOk.inBlock (QOk.then (QOk.then (QOk.inBlock (QOk.inBlock (QOk.then (QOk.then (QOk.inBlock (QOk.then QOk.body)))))))))) (fun w => q_neq rfl rfl) ?_
                refine o_pure (i := 12) (fun j w => ⟨(fun j w => ⟨(fun _ _ => trivial) j w, fun _ h => h⟩) j w, fun _ h => h⟩) rfl rfl (by kernel_rfl) (goes0 rfl) (QOk.then (QOk.inBlock (QOk.then (QOk.then (QOk.inBlock (QOk.inBlock (QOk.then (QOk.then (QOk.inBlock (QOk.then QOk.body)))))))))) (fun w => q_pickF rfl (decide_eq_false (by rw [hrE]; simp)) rfl) ?_
                refine o_pure (i := 13) (fun j w => ⟨(fun j w => ⟨(fun _ _ => trivial) j w, fun _ h => h⟩) j w, fun _ h => h⟩) rfl rfl (by kernel_rfl) (goes0 rfl) (QOk.then (QOk.inBlock (QOk.then (QOk.then (QOk.inBlock (QOk.inBlock (QOk.then (QOk.then (QOk.inBlock (QOk.then QOk.body)))))))))) (fun w => q_moveB rfl) ?_
                refine o_pure (i := 14) (fun j w => ⟨(fun j w => ⟨(fun _ _ => trivial) j w, fun _ h => h⟩) j w, fun _ h => h⟩) rfl rfl (by kernel_rfl) (goes1 rfl rfl (decide_eq_false (by rw [hsn]; simp))) (QOk.then (QOk.inBlock (QOk.then (QOk.then (QOk.inBlock (QOk.inBlock (QOk.then (QOk.then (QOk.inBlock (QOk.then QOk.body)))))))))) (fun w => q_moveS rfl) ?_
                refine o_held (i := 15) [21, 22] (fun j w => ⟨(fun j w => ⟨(fun _ _ => trivial) j w, fun _ h => h⟩) j w, fun _ h => h⟩) rfl rfl (by kernel_rfl) (goes1 rfl rfl (decide_eq_false (by rw [hsn]; simp))) (QOk.then (QOk.inBlock (QOk.then (QOk.then (QOk.inBlock (QOk.inBlock (QOk.then (QOk.then (QOk.inBlock (QOk.then QOk.body)))))))))) (q_convBS (l := (rdB (List.map Rc.abs rs134) x169)) rfl (hS175.owG (i := 0) rfl) (by first | omega | (simp only [List.length_append, List.length_map, List.length_cons, List.length_nil, List.length_take, List.length_drop, List.length_set] <;> omega)) (by kernel_rfl) (by kernel_rfl)) ?_
                refine o_pure (i := 16) (fun j w => ⟨(fun j w => ⟨(fun j w => ⟨(fun _ _ => trivial) j w, fun _ h => h⟩) j w, fun _ h => h⟩) j w, fun _ h => h⟩) rfl rfl (by kernel_rfl) (goes1 rfl rfl (decide_eq_false (by rw [hsn]; simp))) (QOk.then (QOk.inBlock (QOk.then (QOk.then (QOk.inBlock (QOk.inBlock (QOk.then (QOk.then (QOk.inBlock (QOk.then QOk.body)))))))))) (fun w => q_moveS rfl) ?_
                refine o_pure (i := 17) (fun j w => ⟨(fun j w => ⟨(fun j w => ⟨(fun _ _ => trivial) j w, fun _ h => h⟩) j w, fun _ h => h⟩) j w, fun _ h => h⟩) rfl rfl (by kernel_rfl) (goes1 rfl rfl (decide_eq_false (by rw [hsn]; simp))) (QOk.then (QOk.inBlock (QOk.then (QOk.then (QOk.inBlock (QOk.inBlock (QOk.then (QOk.then (QOk.inBlock (QOk.then QOk.body)))))))))) (fun w => q_moveI rfl) ?_
                refine o_pure (i := 18) (fun j w => ⟨(fun j w => ⟨(fun j w => ⟨(fun _ _ => trivial) j w, fun _ h => h⟩) j w, fun _ h => h⟩) j w, fun _ h => h⟩) rfl rfl (by kernel_rfl) (goes1 rfl rfl (decide_eq_false (by rw [hsn]; simp))) (QOk.then (QOk.inBlock (QOk.then (QOk.then (QOk.inBlock (QOk.inBlock (QOk.then (QOk.then (QOk.inBlock (QOk.then QOk.body)))))))))) (fun w => q_ixG (e := 23) (m := 1) (j := k) rfl rfl (by kernel_rfl) (by kernel_rfl) (by first | rfl | omega) (by omega) (hS175.owG (i := 6) rfl) (by rw [rows_len (c := sb) (m := 1) (fun _ => rfl)]; first | omega | (simp only [List.length_append, List.length_map, List.length_cons, List.length_nil, List.length_take, List.length_drop, List.length_set] <;> omega))) ?_
                obtain ⟨x179, hx179⟩ : ∃ x, (aa)[k]? = some x := ⟨_, List.getElem?_eq_getElem (by first | omega | (simp only [List.length_append, List.length_map, List.length_cons, List.length_nil, List.length_take, List.length_drop, List.length_set] <;> omega) | (simp <;> omega))⟩
                refine o_held (i := 19) [20, 21, 22] (fun j w => ⟨(fun j w => ⟨(fun j w => ⟨(fun _ _ => trivial) j w, fun _ h => h⟩) j w, fun _ h => h⟩) j w, fun _ h => h⟩) rfl rfl (by kernel_rfl) (goes1 rfl rfl (decide_eq_false (by rw [hsn]; simp))) (QOk.then (QOk.inBlock (QOk.then (QOk.then (QOk.inBlock (QOk.inBlock (QOk.then (QOk.then (QOk.inBlock (QOk.then QOk.body)))))))))) (q_load1 rfl (by kernel_rfl) (SlG.cell (hS175.owG (i := 6) rfl) (Gle.refl _) (row_at hx179 (c := sb) (m := 1) (fun _ => rfl) (j := 0) rfl))) ?_
                have hsa := all_at hab9 hx179 hrb
                rw [hrbb, ← hrB] at hsa
                refine o_held (i := 20) [21, 22] (fun j w => ⟨(fun j w => ⟨(fun j w => ⟨(fun j w => ⟨(fun _ _ => trivial) j w, fun _ h => h⟩) j w, fun _ h => h⟩) j w, fun _ h => h⟩) j w, fun _ h => h⟩) rfl rfl (by kernel_rfl) (goes1 rfl rfl (decide_eq_false (by rw [hsn]; simp))) (QOk.then (QOk.inBlock (QOk.then (QOk.then (QOk.inBlock (QOk.inBlock (QOk.then (QOk.then (QOk.inBlock (QOk.then QOk.body)))))))))) (q_convBS (l := x179.b) rfl ((hok134_6 x179 (List.mem_of_getElem? hx179)).1.mono (hS175.fz (i := 2) rfl)) (by first | omega | (simp only [List.length_append, List.length_map, List.length_cons, List.length_nil, List.length_take, List.length_drop, List.length_set] <;> omega)) (by kernel_rfl) (by kernel_rfl)) ?_
                refine o_pure (i := 21) (fun j w => ⟨(fun j w => ⟨(fun j w => ⟨(fun j w => ⟨(fun j w => ⟨(fun _ _ => trivial) j w, fun _ h => h⟩) j w, fun _ h => h⟩) j w, fun _ h => h⟩) j w, fun _ h => h⟩) j w, fun _ h => h⟩) rfl rfl (by kernel_rfl) (goes1 rfl rfl (decide_eq_false (by rw [hsn]; simp))) (QOk.then (QOk.inBlock (QOk.then (QOk.then (QOk.inBlock (QOk.inBlock (QOk.then (QOk.then (QOk.inBlock (QOk.then QOk.body)))))))))) (fun w => q_str_neq (l := (rdB (List.map Rc.abs rs134) x169)) (m := x179.b) rfl rfl (rdB_bytes hrs134 _) (hok134_6 x179 (List.mem_of_getElem? hx179)).2) ?_
                refine o_pure (i := 22) (fun j w => ⟨(fun j w => ⟨(fun j w => ⟨(fun j w => ⟨(fun j w => ⟨(fun _ _ => trivial) j w, fun _ h => h⟩) j w, fun _ h => h⟩) j w, fun _ h => h⟩) j w, fun _ h => h⟩) j w, fun _ h => h⟩) rfl rfl (by kernel_rfl) (goes0 rfl) (QOk.then (QOk.inBlock (QOk.then (QOk.then (QOk.inBlock (QOk.inBlock (QOk.then (QOk.then (QOk.inBlock (QOk.then QOk.body)))))))))) (fun w => q_pickF rfl (decide_eq_false (by rw [hsn]; simp)) rfl) ?_
                refine o_done (by kernel_rfl) ?_
                refine hK174 _ _ ?_
                refine c_condF rfl (by rw [hsa]; simp) ?_
                refine wp_skip ?_
                refine hK167 _ _ ?_
                refine wp_region_lit ?_
                refine l_q rfl rfl (q_moveI rfl) ?_
                refine l_q rfl rfl (q_addx rfl rfl (by first | decide | omega) (by first | decide | omega)) ?_
                refine l_q rfl rfl (q_assignI rfl) ?_
                refine l_nil ?_
                have hS181 := hS175.fr7; clear hS175
                have hS182 := hS181.fr7; clear hS181
                have hS183 := hS182.fr7; clear hS182
                have hS184 := hS183.fr7; clear hS183
                have hS185 := hS184.fr6; clear hS184
                have hS186 := hS185.fr7; clear hS185
                have hS187 := hS186.fr7; clear hS186
                have hS188 : St _ _ [wk k134 k130 ad134 cp134 rs134, dk k130 da134 dc134 L1 b z1, .fz g134, .ow 3 1 ad143 rs134.length cp143 (iv (nums rs134)), .ow 3 1 ad83 rs.length cp83 (iv (nums rs)), .ow 23 1 aad aa.length acap (List.flatMap sb aa), .blk b2 (.cells #[.int .i64 n0, .int .i64 n1] 98)] _ := hS187.only 7; clear hS187
                refine hK163 _ _ (came ((k + 1)) (by repeat' (first | exact Agree.refl _ _ | refine Agree.up ?_ rfl | refine Agree.hav2 ?_ rfl | refine Agree.ups2 ?_ rfl)) (by repeat' (first | exact trivial | refine ⟨by first | rfl | exact int_succ _ | assumption, ?_⟩)) ?_)
                exact ⟨⟨hS188, (by show k + 1 ≤ rs134.length; omega)⟩, by (show rs134.length - (k + 1) < rs134.length - k); omega⟩
              ·
                have hc166b := hc166
                try simp only [decide_eq_true_eq, decide_eq_false_iff_not, Bool.not_eq_true', Bool.not_eq_false', Bool.and_eq_true, Bool.or_eq_true, Int.not_lt, Int.not_le, ne_eq, Decidable.not_not] at hc166
                refine wp_exit ?_
                refine hK128 _ _ ?_
                refine wp_region_lit ?_
                refine l_q rfl rfl (q_moveI rfl) ?_
                refine l_q rfl rfl (q_addx rfl rfl (by first | decide | omega) (by first | decide | omega)) ?_
                refine l_q rfl rfl (q_assignI rfl) ?_
                refine l_nil ?_
                refine c_round ?_
                refine wp_seq_k (fun K189 hK189 => ?_)
                refine wp_seq_k (fun K190 hK190 => ?_)
                refine wp_region_lit ?_
                refine l_q rfl rfl (q_moveI rfl) ?_
                refine l_q rfl rfl (q_lss rfl rfl) ?_
                refine l_nil ?_
                refine hK190 _ _ ?_
                refine c_condT rfl (by decide) ?_
                refine wp_skip ?_
                refine hK189 _ _ ?_
                refine wp_seq_k (fun K192 hK192 => ?_)
                refine wp_block ?_
                refine wp_seq_k (fun K193 hK193 => ?_)
                refine wp_region_lit ?_
                refine l_q rfl rfl (q_moveP rfl) ?_
                refine l_q rfl rfl (q_moveI rfl) ?_
                refine l_q rfl rfl (q_indexAddrA (len := 2) (e := 3) (m := 1) rfl rfl (by kernel_rfl) (by kernel_rfl) (by decide) (by decide)) ?_
                refine l_q rfl rfl (q_load1 rfl (by kernel_rfl) (hS163.cell (i := 6) rfl rfl)) ?_
                refine l_e rfl (fun K hK => ?_)
                have hS195 := hS163.fr1; clear hS163
                have hF194 := pwN_le (l := L1) (s := z1) n1 (by first | omega | (simp only [List.length_append, List.length_map, List.length_cons, List.length_nil, List.length_take, List.length_drop, List.length_set] <;> omega))
                refine e_call (by kernel_rfl) (dPower_ok _ _ _ _ _ _ hLB1 (by first | omega | (simp only [List.length_append, List.length_map, List.length_cons, List.length_nil, List.length_take, List.length_drop, List.length_set] <;> omega)) (by first | omega | (simp only [List.length_append, List.length_map, List.length_cons, List.length_nil, List.length_take, List.length_drop, List.length_set] <;> omega)) _ (by first | omega | (simp only [List.length_append, List.length_map, List.length_cons, List.length_nil, List.length_take, List.length_drop, List.length_set] <;> omega)) _ (St.begin (Γ := [_]) hS195)) rfl (after_M (Γ1 := [_]) hS195 (fun v194 G194 w194 hv194 hS194 => ?_))
                clear hS195
                obtain ⟨k194, ad194, cp194, rfl, rfl⟩ := hv194
                have hS196 : St _ _ [dk k194 ad194 cp194 (L1.take (pwN L1 z1 n1)) b (pwN L1 z1 n1), dk k130 da134 dc134 L1 b z1, wk k134 k130 ad134 cp134 rs134, .fz g134, .ow 3 1 ad143 rs134.length cp143 (iv (nums rs134)), .ow 3 1 ad83 rs.length cp83 (iv (nums rs)), .ow 23 1 aad aa.length acap (List.flatMap sb aa), .blk b2 (.cells #[.int .i64 n0, .int .i64 n1] 98)] _ := hS194; clear hS194
                refine hK _ _ ?_; clear hK K
                refine l_q rfl rfl (q_assignP rfl) ?_
                refine l_nil ?_
                refine hK193 _ _ ?_
                refine wp_seq_k (fun K197 hK197 => ?_)
                refine wp_region_lit ?_
                refine l_q rfl rfl (q_moveP rfl) ?_
                refine l_e rfl (fun K hK => ?_)
                have hsl198 := scan_le (L1.take (pwN L1 z1 n1)).length (L1.take (pwN L1 z1 n1)) b (Nat.le_refl _)
                have hS199 := hS196.fr3; clear hS196
                have hS200 := hS199.fr1; clear hS199
                refine e_call (by kernel_rfl) (wOpen_ok _ _ _ _ _ _ _ (Bytes.take hLB1) (by first | omega | (simp only [List.length_append, List.length_map, List.length_cons, List.length_nil, List.length_take, List.length_drop, List.length_set] <;> omega)) (by first | omega | (simp only [List.length_append, List.length_map, List.length_cons, List.length_nil, List.length_take, List.length_drop, List.length_set] <;> omega)) (by first | omega | (simp only [List.length_append, List.length_map, List.length_cons, List.length_nil, List.length_take, List.length_drop, List.length_set] <;> omega)) _ (St.begin (Γ := [_, _]) hS200)) rfl (after_M (Γ1 := [_, _]) hS200 (fun v198 G198 w198 hv198 hS198 => ?_))
                clear hS200
                obtain ⟨k198, ad198, cp198, rs198, da198, dc198, g198, rfl, rfl, hle198, hrs198, hab198⟩ := hv198
                have hS201 : St _ _ [wk k198 k194 ad198 cp198 rs198, dk k194 da198 dc198 ((L1.take (pwN L1 z1 n1)).take (scan (L1.take (pwN L1 z1 n1)) b).2) b ((scan (L1.take (pwN L1 z1 n1)) b).2), .fz g198, dk k130 da134 dc134 L1 b z1, wk k134 k130 ad134 cp134 rs134, .ow 3 1 ad143 rs134.length cp143 (iv (nums rs134)), .ow 3 1 ad83 rs.length cp83 (iv (nums rs)), .ow 23 1 aad aa.length acap (List.flatMap sb aa), .blk b2 (.cells #[.int .i64 n0, .int .i64 n1] 98)] _ := hS198; clear hS198
                have hR198_4 := RsOk.mono hrs134 hle198
                have hok198_7 := SbG.all hok134_6 hle198
                refine hK _ _ ?_; clear hK K
                refine l_q rfl rfl (q_move rfl) ?_
                obtain ⟨hK2, ⟨j2, hj2⟩, hkc2, hkn2, hkw2, hks2⟩ := hK1.step hIw (p := (pwN L1 z1 n1)) hF194.1 hF194.2 hab198
                obtain ⟨L2, hL2⟩ : ∃ L, L = ((L1.take (pwN L1 z1 n1)).take (scan (L1.take (pwN L1 z1 n1)) b).2) := ⟨_, rfl⟩
                obtain ⟨z2, hz2⟩ : ∃ z, z = (scan (L1.take (pwN L1 z1 n1)) b).2 := ⟨_, rfl⟩
                rw [← hL2, ← hz2] at hK2
                rw [← hL2] at hkw2
                rw [← hz2] at hks2
                have hLB2 : Bytes L2 := by rw [hL2]; exact (Bytes.take (Bytes.take hLB1))
                have hLl2 := hK2.len
                have hS202 : St _ _ [wk k198 k194 ad198 cp198 rs198, dk k194 da198 dc198 L2 b z2, .fz g198, dk k130 da134 dc134 L1 b z1, wk k134 k130 ad134 cp134 rs134, .ow 3 1 ad143 rs134.length cp143 (iv (nums rs134)), .ow 3 1 ad83 rs.length cp83 (iv (nums rs)), .ow 23 1 aad aa.length acap (List.flatMap sb aa), .blk b2 (.cells #[.int .i64 n0, .int .i64 n1] 98)] _ := hS201.cast (by rw [show L2 = ((L1.take (pwN L1 z1 n1)).take (scan (L1.take (pwN L1 z1 n1)) b).2) from hL2, show z2 = (scan (L1.take (pwN L1 z1 n1)) b).2 from hz2]); clear hS201
                refine l_q rfl rfl (q_extract rfl rfl) ?_
                refine l_q rfl rfl (q_extract rfl rfl) ?_
                refine l_q rfl rfl (q_assignP rfl) ?_
                refine l_q rfl rfl (q_assignI rfl) ?_
                refine l_nil ?_
                refine hK197 _ _ ?_
                refine wp_seq_k (fun K203 hK203 => ?_)
                refine wp_seq_k (fun K204 hK204 => ?_)
                refine wp_region_lit ?_
                refine l_q rfl rfl (q_moveI rfl) ?_
                refine l_q rfl rfl (q_neq rfl rfl) ?_
                refine l_q rfl rfl (q_moveB rfl) ?_
                refine l_on rfl rfl (by decide) ?_
                refine l_q rfl rfl (q_moveP rfl) ?_
                refine l_on rfl rfl (by decide) ?_
                refine l_q rfl rfl (q_peq rfl (by kernel_rfl)) ?_
                refine l_q rfl rfl (q_pickF rfl (by decide) rfl) ?_
                refine l_nil ?_
                refine hK204 _ _ ?_
                refine c_condF rfl rfl ?_
                refine wp_skip ?_
                refine hK203 _ _ ?_
                refine wp_seq_k (fun K206 hK206 => ?_)
                refine wp_region_lit ?_
                refine l_q rfl rfl (q_moveP rfl) ?_
                refine l_e rfl (fun K hK => ?_)
                refine e_call (by kernel_rfl) (wNumbers_ok _ _ _ _ _ (by first | omega | (simp only [List.length_append, List.length_map, List.length_cons, List.length_nil, List.length_take, List.length_drop, List.length_set] <;> omega)) _ (St.begin (Γ := [_]) hS202)) rfl (after_M (Γ1 := [_]) hS202 (fun v207 G207 w207 hv207 hS207 => ?_))
                clear hS202
                obtain ⟨ad207, cp207, rfl, rfl⟩ := hv207
                have hS208 : St _ _ [.ow 3 1 ad207 rs198.length cp207 (iv (nums rs198)), wk k198 k194 ad198 cp198 rs198, dk k194 da198 dc198 L2 b z2, .fz g198, dk k130 da134 dc134 L1 b z1, wk k134 k130 ad134 cp134 rs134, .ow 3 1 ad143 rs134.length cp143 (iv (nums rs134)), .ow 3 1 ad83 rs.length cp83 (iv (nums rs)), .ow 23 1 aad aa.length acap (List.flatMap sb aa), .blk b2 (.cells #[.int .i64 n0, .int .i64 n1] 98)] _ := hS207; clear hS207
                refine hK _ _ ?_; clear hK K
                refine l_q rfl rfl (q_assignS rfl) ?_
                have hnl2 := nums_len rs198
                have hnl := nums_len rs
                refine l_nil ?_
                refine hK206 _ _ ?_
                refine wp_seq_k (fun K209 hK209 => ?_)
                refine wp_seq_k (fun K210 hK210 => ?_)
                refine wp_region_lit ?_
                refine l_q rfl rfl (q_moveS rfl) ?_
                refine l_q rfl rfl (q_lenSl (e := 3) rfl (by kernel_rfl)) ?_
                refine l_q rfl rfl (q_moveI rfl) ?_
                refine l_q rfl rfl (q_lss rfl rfl) ?_
                refine l_q rfl rfl (q_moveB rfl) ?_
                refine l_on rfl rfl (decide_eq_false (by omega)) ?_
                refine l_q rfl rfl (q_moveS rfl) ?_
                refine l_on rfl rfl (decide_eq_false (by omega)) ?_
                refine l_q rfl rfl (q_lenSl (e := 3) rfl (by kernel_rfl)) ?_
                refine l_on rfl rfl (decide_eq_false (by omega)) ?_
                refine l_q rfl rfl (q_moveS rfl) ?_
                refine l_on rfl rfl (decide_eq_false (by omega)) ?_
                refine l_q rfl rfl (q_lenSl (e := 3) rfl (by kernel_rfl)) ?_
                refine l_on rfl rfl (decide_eq_false (by omega)) ?_
                refine l_q rfl rfl (q_gtr rfl rfl) ?_
                refine l_q rfl rfl (q_pickF rfl (decide_eq_false (by omega)) rfl) ?_
                refine l_q rfl rfl (q_moveB rfl) ?_
                refine l_on rfl rfl (decide_eq_false (by omega)) ?_
                refine l_q rfl rfl (q_moveP rfl) ?_
                refine l_on rfl rfl (decide_eq_false (by omega)) ?_
                refine l_e rfl (fun K hK => ?_)
                have hS214 := hS208.fr2; clear hS208
                have hS215 := hS214.fr2; clear hS214
                refine e_call (by kernel_rfl) (wSafe_ok _ _ _ _ _ _ _ _ _ _ (by first | omega | (simp only [List.length_append, List.length_map, List.length_cons, List.length_nil, List.length_take, List.length_drop, List.length_set] <;> omega)) hLB2 (by first | omega | (simp only [List.length_append, List.length_map, List.length_cons, List.length_nil, List.length_take, List.length_drop, List.length_set] <;> omega)) (by first | omega | (simp only [List.length_append, List.length_map, List.length_cons, List.length_nil, List.length_take, List.length_drop, List.length_set] <;> omega)) _ hrs198 _ (St.begin (Γ := [_, _]) hS215)) rfl (after_M (Γ1 := [_, _]) hS215 (fun v213 G213 w213 hv213 hS213 => ?_))
                clear hS215
                obtain ⟨rfl, rfl⟩ := hv213
                have hS216 : St _ _ [wk k198 k194 ad198 cp198 rs198, dk k194 da198 dc198 L2 b z2, .ow 3 1 ad207 rs198.length cp207 (iv (nums rs198)), .fz g198, dk k130 da134 dc134 L1 b z1, wk k134 k130 ad134 cp134 rs134, .ow 3 1 ad143 rs134.length cp143 (iv (nums rs134)), .ow 3 1 ad83 rs.length cp83 (iv (nums rs)), .ow 23 1 aad aa.length acap (List.flatMap sb aa), .blk b2 (.cells #[.int .i64 n0, .int .i64 n1] 98)] _ := hS213; clear hS213
                refine hK _ _ ?_; clear hK K
                refine l_on rfl rfl (decide_eq_false (by omega)) ?_
                refine l_q rfl rfl (q_moveS rfl) ?_
                refine l_on rfl rfl (decide_eq_false (by omega)) ?_
                refine l_q rfl rfl (q_lenSl (e := 3) rfl (by kernel_rfl)) ?_
                refine l_on rfl rfl (decide_eq_false (by omega)) ?_
                refine l_q rfl rfl (q_neq rfl rfl) ?_
                refine l_q rfl rfl (q_pickF rfl (decide_eq_false (by omega)) rfl) ?_
                refine l_nil ?_
                refine hK210 _ _ ?_
                refine c_condF rfl (decide_eq_false (by rw [hks2]; simp)) ?_
                refine wp_skip ?_
                refine hK209 _ _ ?_
                refine wp_seq_k (fun K218 hK218 => ?_)
                refine wp_region_lit ?_
                refine l_q rfl rfl (q_assignI rfl) ?_
                refine l_nil ?_
                refine hK218 _ _ ?_
                refine wp_block ?_
                have hS219 := hS216.fr9; clear hS216
                have hS220 := hS219.fr9; clear hS219
                have hS221 := hS220.fr9; clear hS220
                have hS222 := hS221.fr5; clear hS221
                have hS223 := hS222.fr6; clear hS222
                have hS224 := hS223.fr6; clear hS223
                have hS225 := hS224.fr6; clear hS224
                have hS226 : St _ _ [wk k198 k194 ad198 cp198 rs198, dk k194 da198 dc198 L2 b z2, .fz g198, .ow 3 1 ad207 rs198.length cp207 (iv (nums rs198)), .ow 3 1 ad83 rs.length cp83 (iv (nums rs)), .ow 23 1 aad aa.length acap (List.flatMap sb aa), .blk b2 (.cells #[.int .i64 n0, .int .i64 n1] 98)] _ := hS225.only 7; clear hS225
                refine c_loop (τ := Nat) [(4, 4), (20, 22), (145, 182)] (fun x => (fun (k : Nat) => [(20, .int .i64 ((k : Nat) : Int))]) x) (fun x w' => (fun (k : Nat) => St w (fun _ => False) [wk k198 k194 ad198 cp198 rs198, dk k194 da198 dc198 L2 b z2, .fz g198, .ow 3 1 ad207 rs198.length cp207 (iv (nums rs198)), .ow 3 1 ad83 rs.length cp83 (iv (nums rs)), .ow 23 1 aad aa.length acap (List.flatMap sb aa), .blk b2 (.cells #[.int .i64 n0, .int .i64 n1] 98)] w' ∧ k ≤ rs198.length) x) (fun x => (fun (k : Nat) => rs198.length - k) x) (0) ?_ (by repeat' (first | exact trivial | refine ⟨by first | rfl | exact int_succ _ | assumption, ?_⟩)) (fun k j227 w227 hJ227 K227 hK227 => ?_)
                ·
                  exact ⟨hS226, Nat.zero_le _⟩
                ·
                  obtain ⟨hS227, hk⟩ := hJ227
                  try dsimp only at hS227 hk ⊢
                  have hnl2 := nums_len rs198
                  have hnl := nums_len rs
                  refine wp_seq_k (fun K228 hK228 => ?_)
                  refine wp_seq_k (fun K229 hK229 => ?_)
                  refine wp_region_lit ?_
                  refine l_q rfl rfl (q_moveI rfl) ?_
                  refine l_q rfl rfl (q_moveS rfl) ?_
                  refine l_q rfl rfl (q_lenSl (e := 3) rfl (by kernel_rfl)) ?_
                  refine l_q rfl rfl (q_lss rfl rfl) ?_
                  refine l_nil ?_
                  refine hK229 _ _ ?_
                  refine c_cond rfl (fun hc230 => ?_) (fun hc230 => ?_)
                  ·
                    have hc230b := hc230
                    try simp only [decide_eq_true_eq, decide_eq_false_iff_not, Bool.not_eq_true', Bool.not_eq_false', Bool.and_eq_true, Bool.or_eq_true, Int.not_lt, Int.not_le, ne_eq, Decidable.not_not] at hc230
                    refine wp_skip ?_
                    refine hK228 _ _ ?_
                    refine wp_seq_k (fun K231 hK231 => ?_)
                    refine wp_block ?_
                    refine wp_seq_k (fun K232 hK232 => ?_)
                    refine wp_region_lit ?_
                    refine l_q rfl rfl (q_moveP rfl) ?_
                    refine l_q rfl rfl (q_moveS rfl) ?_
                    refine l_q rfl rfl (q_moveI rfl) ?_
                    refine l_q rfl rfl (q_ixG (e := 3) (m := 1) (j := k) rfl rfl (by kernel_rfl) (by kernel_rfl) (by first | rfl | omega) (by omega) (hS227.owG (i := 3) rfl) (by rw [iv_len]; first | omega | (simp only [List.length_append, List.length_map, List.length_cons, List.length_nil, List.length_take, List.length_drop, List.length_set] <;> omega))) ?_
                    obtain ⟨x233, hx233⟩ : ∃ x, ((nums rs198))[k]? = some x := ⟨_, List.getElem?_eq_getElem (by first | omega | (simp only [List.length_append, List.length_map, List.length_cons, List.length_nil, List.length_take, List.length_drop, List.length_set] <;> omega) | (simp <;> omega))⟩
                    refine l_q rfl rfl (q_load1 rfl (by kernel_rfl) (SlG.cell (hS227.owG (i := 3) rfl) (Gle.refl _) (at1 (iv_at hx233)))) ?_
                    refine l_e rfl (fun K hK => ?_)
                    have hS235 := hS227.fr2; clear hS227
                    have hS236 := hS235.fr1; clear hS235
                    refine e_call (by kernel_rfl) (wRead_ok _ _ _ _ _ _ (by first | omega | (simp only [List.length_append, List.length_map, List.length_cons, List.length_nil, List.length_take, List.length_drop, List.length_set] <;> omega)) hrs198 _ _ (St.begin (Γ := [_, _]) hS236)) rfl (after_M (Γ1 := [_, _]) hS236 (fun v234 G234 w234 hv234 hS234 => ?_))
                    clear hS236
                    obtain ⟨ad234, cp234, rfl, rfl⟩ := hv234
                    have hS237 : St _ _ [.ow 5 1 ad234 ((rdB (List.map Rc.abs rs198) x233).length) cp234 (bv (rdB (List.map Rc.abs rs198) x233)), wk k198 k194 ad198 cp198 rs198, .fz g198, dk k194 da198 dc198 L2 b z2, .ow 3 1 ad207 rs198.length cp207 (iv (nums rs198)), .ow 3 1 ad83 rs.length cp83 (iv (nums rs)), .ow 23 1 aad aa.length acap (List.flatMap sb aa), .blk b2 (.cells #[.int .i64 n0, .int .i64 n1] 98)] _ := hS234; clear hS234
                    refine hK _ _ ?_; clear hK K
                    obtain ⟨ra, hra, hrn⟩ := nums_at hx233
                    obtain ⟨hrE, hrB⟩ := play_rd hkw2 rfl hra
                    rw [hrn] at hrE hrB
                    obtain ⟨rb, hrb, hrbn, hrbb⟩ := keep_at hj2 hra
                    refine l_q rfl rfl (q_move rfl) ?_
                    refine l_q rfl rfl (q_extract rfl rfl) ?_
                    refine l_q rfl rfl (q_extract rfl rfl) ?_
                    refine l_q rfl rfl (q_assignS rfl) ?_
                    refine l_q rfl rfl (q_assignI rfl) ?_
                    refine l_nil ?_
                    refine hK232 _ _ ?_
                    refine wp_seq_k (fun K238 hK238 => ?_)
                    refine r_any (by kernel_rfl) hS237 (fun w239 hS239 => ?_)
                    clear hS237
                    refine o_pure (i := 0) (fun _ _ => trivial) rfl rfl (by kernel_rfl) (goes0 rfl) (QOk.then (QOk.inBlock (QOk.then (QOk.then (QOk.inBlock (QOk.inBlock (QOk.then (QOk.then (QOk.inBlock (QOk.then QOk.body)))))))))) (fun w => q_moveI rfl) ?_
                    refine o_pure (i := 1) (fun _ _ => trivial) rfl rfl (by kernel_rfl) (goes0 rfl) (QOk.then (QOk.inBlock (QOk.then (QOk.then (QOk.inBlock (QOk.inBlock (QOk.then (QOk.then (QOk.inBlock (QOk.then QOk.body)))))))))) (fun w => q_neq rfl rfl) ?_
                    refine o_pure (i := 2) (fun _ _ => trivial) rfl rfl (by kernel_rfl) (goes0 rfl) (QOk.then (QOk.inBlock (QOk.then (QOk.then (QOk.inBlock (QOk.inBlock (QOk.then (QOk.then (QOk.inBlock (QOk.then QOk.body)))))))))) (fun w => q_moveB rfl) ?_
                    refine o_pure (i := 3) (fun _ _ => trivial) rfl rfl (by kernel_rfl) (goes1 rfl rfl (decide_eq_false (by rw [hrE]; simp))) (QOk.then (QOk.inBlock (QOk.then (QOk.then (QOk.inBlock (QOk.inBlock (QOk.then (QOk.then (QOk.inBlock (QOk.then QOk.body)))))))))) (fun w => q_moveS rfl) ?_
                    refine o_pure (i := 4) (fun _ _ => trivial) rfl rfl (by kernel_rfl) (goes1 rfl rfl (decide_eq_false (by rw [hrE]; simp))) (QOk.then (QOk.inBlock (QOk.then (QOk.then (QOk.inBlock (QOk.inBlock (QOk.then (QOk.then (QOk.inBlock (QOk.then QOk.body)))))))))) (fun w => q_moveI rfl) ?_
                    refine o_pure (i := 5) (fun _ _ => trivial) rfl rfl (by kernel_rfl) (goes1 rfl rfl (decide_eq_false (by rw [hrE]; simp))) (QOk.then (QOk.inBlock (QOk.then (QOk.then (QOk.inBlock (QOk.inBlock (QOk.then (QOk.then (QOk.inBlock (QOk.then QOk.body)))))))))) (fun w => q_ixG (e := 3) (m := 1) (j := k) rfl rfl (by kernel_rfl) (by kernel_rfl) (by first | rfl | omega) (by omega) (hS239.owG (i := 4) rfl) (by rw [iv_len]; first | omega | (simp only [List.length_append, List.length_map, List.length_cons, List.length_nil, List.length_take, List.length_drop, List.length_set] <;> omega))) ?_
                    refine o_held (i := 6) [11, 12, 13, 14, 15, 16, 17, 18, 19, 20, 21, 22] (fun _ _ => trivial) rfl rfl (by kernel_rfl) (goes1 rfl rfl (decide_eq_false (by rw [hrE]; simp))) (QOk.then (QOk.inBlock (QOk.then (QOk.then (QOk.inBlock (QOk.inBlock (QOk.then (QOk.then (QOk.inBlock (QOk.then QOk.body)))))))))) (q_load1 rfl (by kernel_rfl) (SlG.cell (hS239.owG (i := 4) rfl) (Gle.refl _) (at1 (iv_at hx233)))) ?_
                    refine o_pure (i := 7) (fun j w => ⟨(fun _ _ => trivial) j w, fun _ h => h⟩) rfl rfl (by kernel_rfl) (goes1 rfl rfl (decide_eq_false (by rw [hrE]; simp))) (QOk.then (QOk.inBlock (QOk.then (QOk.then (QOk.inBlock (QOk.inBlock (QOk.then (QOk.then (QOk.inBlock (QOk.then QOk.body)))))))))) (fun w => q_moveS rfl) ?_
                    refine o_pure (i := 8) (fun j w => ⟨(fun _ _ => trivial) j w, fun _ h => h⟩) rfl rfl (by kernel_rfl) (goes1 rfl rfl (decide_eq_false (by rw [hrE]; simp))) (QOk.then (QOk.inBlock (QOk.then (QOk.then (QOk.inBlock (QOk.inBlock (QOk.then (QOk.then (QOk.inBlock (QOk.then QOk.body)))))))))) (fun w => q_moveI rfl) ?_
                    refine o_pure (i := 9) (fun j w => ⟨(fun _ _ => trivial) j w, fun _ h => h⟩) rfl rfl (by kernel_rfl) (goes1 rfl rfl (decide_eq_false (by rw [hrE]; simp))) (QOk.then (QOk.inBlock (QOk.then (QOk.then (QOk.inBlock (QOk.inBlock (QOk.then (QOk.then (QOk.inBlock (QOk.then QOk.body)))))))))) (fun w => q_ixG (e := 3) (m := 1) (j := k) rfl rfl (by kernel_rfl) (by kernel_rfl) (by first | rfl | omega) (by omega) (hS239.owG (i := 5) rfl) (by rw [iv_len]; first | omega | (simp only [List.length_append, List.length_map, List.length_cons, List.length_nil, List.length_take, List.length_drop, List.length_set] <;> omega))) ?_
                    obtain ⟨x241, hx241⟩ : ∃ x, ((nums rs))[k]? = some x := ⟨_, List.getElem?_eq_getElem (by first | omega | (simp only [List.length_append, List.length_map, List.length_cons, List.length_nil, List.length_take, List.length_drop, List.length_set] <;> omega) | (simp <;> omega))⟩
                    refine o_held (i := 10) [11, 12, 13, 14, 15, 16, 17, 18, 19, 20, 21, 22] (fun j w => ⟨(fun _ _ => trivial) j w, fun _ h => h⟩) rfl rfl (by kernel_rfl) (goes1 rfl rfl (decide_eq_false (by rw [hrE]; simp))) (QOk.then (QOk.inBlock (QOk.then (QOk.then (QOk.inBlock (QOk.inBlock (QOk.then (QOk.then (QOk.inBlock (QOk.then QOk.body)))))))))) (q_load1 rfl (by kernel_rfl) (SlG.cell (hS239.owG (i := 5) rfl) (Gle.refl _) (at1 (iv_at hx241)))) ?_
                    have hsn := num_at hx241 hrb
                    rw [hrbn, hrn] at hsn
                    refine o_pure (i := 11) (fun j w => ⟨(fun j w => ⟨(fun _ _ => trivial) j w, fun _ h => h⟩) j w, fun _ h => h⟩) rfl rfl (by kernel_rfl) (goes1 rfl rfl (decide_eq_false (by rw [hrE]; simp))) (QOk.then (QOk.inBlock (QOk.then (QOk.then (QOk.inBlock (QOk.inBlock (QOk.then (QOk.then (QOk.inBlock (QOk.then QOk.body)))))))))) (fun w => q_neq rfl rfl) ?_
                    refine o_pure (i := 12) (fun j w => ⟨(fun j w => ⟨(fun _ _ => trivial) j w, fun _ h => h⟩) j w, fun _ h => h⟩) rfl rfl (by kernel_rfl) (goes0 rfl) (QOk.then (QOk.inBlock (QOk.then (QOk.then (QOk.inBlock (QOk.inBlock (QOk.then (QOk.then (QOk.inBlock (QOk.then QOk.body)))))))))) (fun w => q_pickF rfl (decide_eq_false (by rw [hrE]; simp)) rfl) ?_
                    refine o_pure (i := 13) (fun j w => ⟨(fun j w => ⟨(fun _ _ => trivial) j w, fun _ h => h⟩) j w, fun _ h => h⟩) rfl rfl (by kernel_rfl) (goes0 rfl) (QOk.then (QOk.inBlock (QOk.then (QOk.then (QOk.inBlock (QOk.inBlock (QOk.then (QOk.then (QOk.inBlock (QOk.then QOk.body)))))))))) (fun w => q_moveB rfl) ?_
                    refine o_pure (i := 14) (fun j w => ⟨(fun j w => ⟨(fun _ _ => trivial) j w, fun _ h => h⟩) j w, fun _ h => h⟩) rfl rfl (by kernel_rfl) (goes1 rfl rfl (decide_eq_false (by rw [hsn]; simp))) (QOk.then (QOk.inBlock (QOk.then (QOk.then (QOk.inBlock (QOk.inBlock (QOk.then (QOk.then (QOk.inBlock (QOk.then QOk.body)))))))))) (fun w => q_moveS rfl) ?_
                    refine o_held (i := 15) [21, 22] (fun j w => ⟨(fun j w => ⟨(fun _ _ => trivial) j w, fun _ h => h⟩) j w, fun _ h => h⟩) rfl rfl (by kernel_rfl) (goes1 rfl rfl (decide_eq_false (by rw [hsn]; simp))) (QOk.then (QOk.inBlock (QOk.then (QOk.then (QOk.inBlock (QOk.inBlock (QOk.then (QOk.then (QOk.inBlock (QOk.then QOk.body)))))))))) (q_convBS (l := (rdB (List.map Rc.abs rs198) x233)) rfl (hS239.owG (i := 0) rfl) (by first | omega | (simp only [List.length_append, List.length_map, List.length_cons, List.length_nil, List.length_take, List.length_drop, List.length_set] <;> omega)) (by kernel_rfl) (by kernel_rfl)) ?_
                    refine o_pure (i := 16) (fun j w => ⟨(fun j w => ⟨(fun j w => ⟨(fun _ _ => trivial) j w, fun _ h => h⟩) j w, fun _ h => h⟩) j w, fun _ h => h⟩) rfl rfl (by kernel_rfl) (goes1 rfl rfl (decide_eq_false (by rw [hsn]; simp))) (QOk.then (QOk.inBlock (QOk.then (QOk.then (QOk.inBlock (QOk.inBlock (QOk.then (QOk.then (QOk.inBlock (QOk.then QOk.body)))))))))) (fun w => q_moveS rfl) ?_
                    refine o_pure (i := 17) (fun j w => ⟨(fun j w => ⟨(fun j w => ⟨(fun _ _ => trivial) j w, fun _ h => h⟩) j w, fun _ h => h⟩) j w, fun _ h => h⟩) rfl rfl (by kernel_rfl) (goes1 rfl rfl (decide_eq_false (by rw [hsn]; simp))) (QOk.then (QOk.inBlock (QOk.then (QOk.then (QOk.inBlock (QOk.inBlock (QOk.then (QOk.then (QOk.inBlock (QOk.then QOk.body)))))))))) (fun w => q_moveI rfl) ?_
                    refine o_pure (i := 18) (fun j w => ⟨(fun j w => ⟨(fun j w => ⟨(fun _ _ => trivial) j w, fun _ h => h⟩) j w, fun _ h => h⟩) j w, fun _ h => h⟩) rfl rfl (by kernel_rfl) (goes1 rfl rfl (decide_eq_false (by rw [hsn]; simp))) (QOk.then (QOk.inBlock (QOk.then (QOk.then (QOk.inBlock (QOk.inBlock (QOk.then (QOk.then (QOk.inBlock (QOk.then QOk.body)))))))))) (fun w => q_ixG (e := 23) (m := 1) (j := k) rfl rfl (by kernel_rfl) (by kernel_rfl) (by first | rfl | omega) (by omega) (hS239.owG (i := 6) rfl) (by rw [rows_len (c := sb) (m := 1) (fun _ => rfl)]; first | omega | (simp only [List.length_append, List.length_map, List.length_cons, List.length_nil, List.length_take, List.length_drop, List.length_set] <;> omega))) ?_
                    obtain ⟨x243, hx243⟩ : ∃ x, (aa)[k]? = some x := ⟨_, List.getElem?_eq_getElem (by first | omega | (simp only [List.length_append, List.length_map, List.length_cons, List.length_nil, List.length_take, List.length_drop, List.length_set] <;> omega) | (simp <;> omega))⟩
                    refine o_held (i := 19) [20, 21, 22] (fun j w => ⟨(fun j w => ⟨(fun j w => ⟨(fun _ _ => trivial) j w, fun _ h => h⟩) j w, fun _ h => h⟩) j w, fun _ h => h⟩) rfl rfl (by kernel_rfl) (goes1 rfl rfl (decide_eq_false (by rw [hsn]; simp))) (QOk.then (QOk.inBlock (QOk.then (QOk.then (QOk.inBlock (QOk.inBlock (QOk.then (QOk.then (QOk.inBlock (QOk.then QOk.body)))))))))) (q_load1 rfl (by kernel_rfl) (SlG.cell (hS239.owG (i := 6) rfl) (Gle.refl _) (row_at hx243 (c := sb) (m := 1) (fun _ => rfl) (j := 0) rfl))) ?_
                    have hsa := all_at hab9 hx243 hrb
                    rw [hrbb, ← hrB] at hsa
                    refine o_held (i := 20) [21, 22] (fun j w => ⟨(fun j w => ⟨(fun j w => ⟨(fun j w => ⟨(fun _ _ => trivial) j w, fun _ h => h⟩) j w, fun _ h => h⟩) j w, fun _ h => h⟩) j w, fun _ h => h⟩) rfl rfl (by kernel_rfl) (goes1 rfl rfl (decide_eq_false (by rw [hsn]; simp))) (QOk.then (QOk.inBlock (QOk.then (QOk.then (QOk.inBlock (QOk.inBlock (QOk.then (QOk.then (QOk.inBlock (QOk.then QOk.body)))))))))) (q_convBS (l := x243.b) rfl ((hok198_7 x243 (List.mem_of_getElem? hx243)).1.mono (hS239.fz (i := 2) rfl)) (by first | omega | (simp only [List.length_append, List.length_map, List.length_cons, List.length_nil, List.length_take, List.length_drop, List.length_set] <;> omega)) (by kernel_rfl) (by kernel_rfl)) ?_
                    refine o_pure (i := 21) (fun j w => ⟨(fun j w => ⟨(fun j w => ⟨(fun j w => ⟨(fun j w => ⟨(fun _ _ => trivial) j w, fun _ h => h⟩) j w, fun _ h => h⟩) j w, fun _ h => h⟩) j w, fun _ h => h⟩) j w, fun _ h => h⟩) rfl rfl (by kernel_rfl) (goes1 rfl rfl (decide_eq_false (by rw [hsn]; simp))) (QOk.then (QOk.inBlock (QOk.then (QOk.then (QOk.inBlock (QOk.inBlock (QOk.then (QOk.then (QOk.inBlock (QOk.then QOk.body)))))))))) (fun w => q_str_neq (l := (rdB (List.map Rc.abs rs198) x233)) (m := x243.b) rfl rfl (rdB_bytes hrs198 _) (hok198_7 x243 (List.mem_of_getElem? hx243)).2) ?_
                    refine o_pure (i := 22) (fun j w => ⟨(fun j w => ⟨(fun j w => ⟨(fun j w => ⟨(fun j w => ⟨(fun _ _ => trivial) j w, fun _ h => h⟩) j w, fun _ h => h⟩) j w, fun _ h => h⟩) j w, fun _ h => h⟩) j w, fun _ h => h⟩) rfl rfl (by kernel_rfl) (goes0 rfl) (QOk.then (QOk.inBlock (QOk.then (QOk.then (QOk.inBlock (QOk.inBlock (QOk.then (QOk.then (QOk.inBlock (QOk.then QOk.body)))))))))) (fun w => q_pickF rfl (decide_eq_false (by rw [hsn]; simp)) rfl) ?_
                    refine o_done (by kernel_rfl) ?_
                    refine hK238 _ _ ?_
                    refine c_condF rfl (by rw [hsa]; simp) ?_
                    refine wp_skip ?_
                    refine hK231 _ _ ?_
                    refine wp_region_lit ?_
                    refine l_q rfl rfl (q_moveI rfl) ?_
                    refine l_q rfl rfl (q_addx rfl rfl (by first | decide | omega) (by first | decide | omega)) ?_
                    refine l_q rfl rfl (q_assignI rfl) ?_
                    refine l_nil ?_
                    have hS245 := hS239.fr7; clear hS239
                    have hS246 := hS245.fr7; clear hS245
                    have hS247 := hS246.fr7; clear hS246
                    have hS248 := hS247.fr7; clear hS247
                    have hS249 := hS248.fr6; clear hS248
                    have hS250 := hS249.fr7; clear hS249
                    have hS251 := hS250.fr7; clear hS250
                    have hS252 : St _ _ [wk k198 k194 ad198 cp198 rs198, dk k194 da198 dc198 L2 b z2, .fz g198, .ow 3 1 ad207 rs198.length cp207 (iv (nums rs198)), .ow 3 1 ad83 rs.length cp83 (iv (nums rs)), .ow 23 1 aad aa.length acap (List.flatMap sb aa), .blk b2 (.cells #[.int .i64 n0, .int .i64 n1] 98)] _ := hS251.only 7; clear hS251
                    refine hK227 _ _ (came ((k + 1)) (by repeat' (first | exact Agree.refl _ _ | refine Agree.up ?_ rfl | refine Agree.hav2 ?_ rfl | refine Agree.ups2 ?_ rfl)) (by repeat' (first | exact trivial | refine ⟨by first | rfl | exact int_succ _ | assumption, ?_⟩)) ?_)
                    exact ⟨⟨hS252, (by show k + 1 ≤ rs198.length; omega)⟩, by (show rs198.length - (k + 1) < rs198.length - k); omega⟩
                  ·
                    have hc230b := hc230
                    try simp only [decide_eq_true_eq, decide_eq_false_iff_not, Bool.not_eq_true', Bool.not_eq_false', Bool.and_eq_true, Bool.or_eq_true, Int.not_lt, Int.not_le, ne_eq, Decidable.not_not] at hc230
                    refine wp_exit ?_
                    refine hK192 _ _ ?_
                    refine wp_region_lit ?_
                    refine l_q rfl rfl (q_moveI rfl) ?_
                    refine l_q rfl rfl (q_addx rfl rfl (by first | decide | omega) (by first | decide | omega)) ?_
                    refine l_q rfl rfl (q_assignI rfl) ?_
                    refine l_nil ?_
                    refine c_round ?_
                    refine wp_seq_k (fun K253 hK253 => ?_)
                    refine wp_seq_k (fun K254 hK254 => ?_)
                    refine wp_region_lit ?_
                    refine l_q rfl rfl (q_moveI rfl) ?_
                    refine l_q rfl rfl (q_lss rfl rfl) ?_
                    refine l_nil ?_
                    refine hK254 _ _ ?_
                    refine c_condF rfl (by decide) ?_
                    refine wp_exit ?_
                    refine hK123 _ _ ?_
                    refine wp_seq_k (fun K256 hK256 => ?_)
                    refine wp_region_lit ?_
                    refine l_q rfl rfl (q_assignB rfl) ?_
                    refine l_nil ?_
                    refine hK256 _ _ ?_
                    refine wp_ret ?_
                    refine c_ret1 rfl rfl ?_
                    exact ⟨_, rfl, rfl, hS227.drop⟩
    ·
      have hg21b := hg21
      try simp only [decide_eq_true_eq, decide_eq_false_iff_not, Bool.not_eq_true', Bool.not_eq_false', Bool.and_eq_true, Bool.or_eq_true, Int.not_lt, Int.not_le, ne_eq, Decidable.not_not] at hg21
      refine l_off rfl rfl rfl hg21b ?_
      refine l_off rfl rfl rfl hg21b ?_
      refine l_q rfl rfl (q_pickF rfl hg21b rfl) ?_
      refine l_nil ?_
      refine hK20 _ _ ?_
      refine c_condF rfl rfl ?_
      refine wp_exit ?_
      refine hK16 _ _ ?_
      refine wp_seq_k (fun K258 hK258 => ?_)
      refine wp_region_lit ?_
      refine l_q rfl rfl (q_moveP rfl) ?_
      refine l_e rfl (fun K hK => ?_)
      refine e_call (by kernel_rfl) (wNumbers_ok _ _ _ _ _ (by first | omega | (simp only [List.length_append, List.length_map, List.length_cons, List.length_nil, List.length_take, List.length_drop, List.length_set] <;> omega)) _ (St.begin (Γ := [_]) hS18)) rfl (after_M (Γ1 := [_]) hS18 (fun v259 G259 w259 hv259 hS259 => ?_))
      clear hS18
      obtain ⟨ad259, cp259, rfl, rfl⟩ := hv259
      have hS260 : St _ _ [.ow 3 1 ad259 rs.length cp259 (iv (nums rs)), wk k8 k5 ad cap rs, dk k5 da dc l b s, .fz g, .blk b2 (.cells #[.int .i64 n0, .int .i64 n1] 98)] _ := hS259; clear hS259
      refine hK _ _ ?_; clear hK K
      refine l_q rfl rfl (q_assignS rfl) ?_
      refine l_nil ?_
      refine hK258 _ _ ?_
      refine wp_seq_k (fun K261 hK261 => ?_)
      refine wp_seq_k (fun K262 hK262 => ?_)
      have hS263 : St _ _ [.ow 23 1 none 0 0 (List.flatMap sb []), .ow 3 1 ad259 rs.length cp259 (iv (nums rs)), wk k8 k5 ad cap rs, dk k5 da dc l b s, .fz g, .blk b2 (.cells #[.int .i64 n0, .int .i64 n1] 98)] _ := hS260.ow_nil 23 1; clear hS260
      refine wp_region_lit ?_
      refine l_q rfl rfl (q_assignI rfl) ?_
      refine l_nil ?_
      refine hK262 _ _ ?_
      refine wp_block ?_
      have hS264 := hS263.fr5; clear hS263
      have hS265 := hS264.fr1; clear hS264
      have hS266 := hS265.fr2; clear hS265
      have hS267 := hS266.fr5; clear hS266
      have hS268 := hS267.fr5; clear hS267
      have hS269 := hS268.fr5; clear hS268
      refine c_loop (τ := Gh × Nat × (Option Addr) × Nat × (List Sb)) [(4, 4), (8, 8), (12, 14), (82, 102)] (fun x => (fun (g : Gh) (i : Nat) (aad : Option Addr) (acap : Nat) (aa : List Sb) => [(12, .int .i64 ((i : Nat) : Int)), (8, .slice aad aa.length acap)]) x.1 x.2.1 x.2.2.1 x.2.2.2.1 x.2.2.2.2) (fun x w' => (fun (g : Gh) (i : Nat) (aad : Option Addr) (acap : Nat) (aa : List Sb) => St w (fun _ => False) [wk k8 k5 ad cap rs, dk k5 da dc l b s, .fz g, .ow 3 1 ad259 rs.length cp259 (iv (nums rs)), .ow 23 1 aad aa.length acap (List.flatMap sb aa), .blk b2 (.cells #[.int .i64 n0, .int .i64 n1] 98)] w' ∧ RsOk g rs ∧ i ≤ rs.length ∧ (∀ a ∈ aa, SbG g a) ∧ aa.map (·.b) = (rs.take i).map (·.b)) x.1 x.2.1 x.2.2.1 x.2.2.2.1 x.2.2.2.2) (fun x => (fun (g : Gh) (i : Nat) (aad : Option Addr) (acap : Nat) (aa : List Sb) => rs.length - i) x.1 x.2.1 x.2.2.1 x.2.2.2.1 x.2.2.2.2) (⟨g, 0, none, 0, []⟩) ?_ (by repeat' (first | exact trivial | refine ⟨by first | rfl | exact int_succ _ | assumption, ?_⟩)) (fun x270 j270 w270 hJ270 K270 hK270 => ?_)
      ·
        exact ⟨hS269, hI.1, Nat.zero_le _, (fun _ h => by cases h), rfl⟩
      ·
        obtain ⟨g, i, aad, acap, aa⟩ := x270
        obtain ⟨hS270, hrs, hi3, haa, hab3⟩ := hJ270
        try dsimp only at hS270 hrs hi3 haa hab3 ⊢
        have hnl := nums_len rs
        have hal3 : aa.length = i := by have := congrArg List.length hab3; rw [List.length_map, List.length_map, List.length_take] at this; omega
        refine wp_seq_k (fun K271 hK271 => ?_)
        refine wp_seq_k (fun K272 hK272 => ?_)
        refine wp_region_lit ?_
        refine l_q rfl rfl (q_moveI rfl) ?_
        refine l_q rfl rfl (q_moveS rfl) ?_
        refine l_q rfl rfl (q_lenSl (e := 3) rfl (by kernel_rfl)) ?_
        refine l_q rfl rfl (q_lss rfl rfl) ?_
        refine l_nil ?_
        refine hK272 _ _ ?_
        refine c_cond rfl (fun hc273 => ?_) (fun hc273 => ?_)
        ·
          have hc273b := hc273
          try simp only [decide_eq_true_eq, decide_eq_false_iff_not, Bool.not_eq_true', Bool.not_eq_false', Bool.and_eq_true, Bool.or_eq_true, Int.not_lt, Int.not_le, ne_eq, Decidable.not_not] at hc273
          refine wp_skip ?_
          refine hK271 _ _ ?_
          refine wp_seq_k (fun K274 hK274 => ?_)
          refine wp_block ?_
          refine wp_seq_k (fun K275 hK275 => ?_)
          refine wp_region_lit ?_
          refine l_q rfl rfl (q_moveP rfl) ?_
          refine l_q rfl rfl (q_moveS rfl) ?_
          refine l_q rfl rfl (q_moveI rfl) ?_
          refine l_q rfl rfl (q_ixG (e := 3) (m := 1) (j := i) rfl rfl (by kernel_rfl) (by kernel_rfl) (by first | rfl | omega) (by omega) (hS270.owG (i := 3) rfl) (by rw [iv_len]; first | omega | (simp only [List.length_append, List.length_map, List.length_cons, List.length_nil, List.length_take, List.length_drop, List.length_set] <;> omega))) ?_
          obtain ⟨x276, hx276⟩ : ∃ x, ((nums rs))[i]? = some x := ⟨_, List.getElem?_eq_getElem (by first | omega | (simp only [List.length_append, List.length_map, List.length_cons, List.length_nil, List.length_take, List.length_drop, List.length_set] <;> omega) | (simp <;> omega))⟩
          refine l_q rfl rfl (q_load1 rfl (by kernel_rfl) (SlG.cell (hS270.owG (i := 3) rfl) (Gle.refl _) (at1 (iv_at hx276)))) ?_
          refine l_e rfl (fun K hK => ?_)
          have hS278 := hS270.fr2; clear hS270
          have hS279 := hS278.fr1; clear hS278
          refine e_call (by kernel_rfl) (wRead_ok _ _ _ _ _ _ (by first | omega | (simp only [List.length_append, List.length_map, List.length_cons, List.length_nil, List.length_take, List.length_drop, List.length_set] <;> omega)) hrs _ _ (St.begin (Γ := [_, _]) hS279)) rfl (after_M (Γ1 := [_, _]) hS279 (fun v277 G277 w277 hv277 hS277 => ?_))
          clear hS279
          obtain ⟨ad277, cp277, rfl, rfl⟩ := hv277
          have hS280 : St _ _ [.ow 5 1 ad277 ((rdB (List.map Rc.abs rs) x276).length) cp277 (bv (rdB (List.map Rc.abs rs) x276)), wk k8 k5 ad cap rs, .fz g, dk k5 da dc l b s, .ow 3 1 ad259 rs.length cp259 (iv (nums rs)), .ow 23 1 aad aa.length acap (List.flatMap sb aa), .blk b2 (.cells #[.int .i64 n0, .int .i64 n1] 98)] _ := hS277; clear hS277
          refine hK _ _ ?_; clear hK K
          obtain ⟨ra, hra, hrn⟩ := nums_at hx276
          obtain ⟨hrE, hrB⟩ := play_rd hIw rfl hra
          rw [hrn] at hrE hrB
          refine l_q rfl rfl (q_move rfl) ?_
          refine l_q rfl rfl (q_extract rfl rfl) ?_
          refine l_q rfl rfl (q_extract rfl rfl) ?_
          refine l_q rfl rfl (q_assignS rfl) ?_
          refine l_q rfl rfl (q_assignI rfl) ?_
          refine l_nil ?_
          refine hK275 _ _ ?_
          refine wp_seq_k (fun K281 hK281 => ?_)
          refine wp_seq_k (fun K282 hK282 => ?_)
          refine wp_region_lit ?_
          refine l_q rfl rfl (q_moveI rfl) ?_
          refine l_q rfl rfl (q_neq rfl rfl) ?_
          refine l_nil ?_
          refine hK282 _ _ ?_
          refine c_condF rfl (decide_eq_false (by rw [hrE]; simp)) ?_
          refine wp_skip ?_
          refine hK281 _ _ ?_
          have hS284 := hS280.fr2; clear hS280
          have hS285 := hS284.fr1; clear hS284
          obtain ⟨g286, hle286, hfz286, hS286⟩ := hS285.freezeOw; clear hS285
          have hR286_1 := RsOk.mono hrs hle286
          refine wp_region_lit ?_
          refine l_q rfl rfl (q_moveS rfl) ?_
          refine l_q rfl rfl (q_moveS rfl) ?_
          refine l_e rfl (fun K hK => ?_)
          refine e_buildSlice1 (e := 23) (zv := .slice none 0 0) (xs := [.tmp 100]) hS286 (by kernel_rfl) (by kernel_rfl) (by kernel_rfl) rfl rfl rfl rfl (allone (by repeat' (first | exact trivial | refine ⟨by first | rfl | assumption, ?_⟩))) rfl (fun b287 w287 (hS287 : St _ _ [.blk b287 (.cells #[.slice ad277 ((rdB (List.map Rc.abs rs) x276).length) cp277] 23), .fz g286, wk k8 k5 ad cap rs, dk k5 da dc l b s, .ow 3 1 ad259 rs.length cp259 (iv (nums rs)), .ow 23 1 aad aa.length acap (List.flatMap sb aa), .blk b2 (.cells #[.int .i64 n0, .int .i64 n1] 98)] _) => ?_)
          clear hS286
          have hS287o : St _ _ [.ow 23 1 (some ⟨b287, 0, none⟩) 1 1 (List.flatMap sb [Sb.mk ad277 cp277 (rdB (List.map Rc.abs rs) x276)]), .fz g286, wk k8 k5 ad cap rs, dk k5 da dc l b s, .ow 3 1 ad259 rs.length cp259 (iv (nums rs)), .ow 23 1 aad aa.length acap (List.flatMap sb aa), .blk b2 (.cells #[.int .i64 n0, .int .i64 n1] 98)] _ := hS287.blkOw' (i := 0) (m := 1) (size := 1) (xs := List.flatMap sb [Sb.mk ad277 cp277 (rdB (List.map Rc.abs rs) x276)]) rfl rfl rfl (by decide); clear hS287
          refine hK _ _ ?_; clear hK K
          refine l_e rfl (fun K hK => ?_)
          refine e_app (e := 23) (size := 1) (bytes := 24) (i := 5) (m' := (aa ++ [Sb.mk ad277 cp277 (rdB (List.map Rc.abs rs) x276)]).length) (by kernel_rfl) hS287o rfl rfl rfl (SlG.src (e := 23) (by kernel_rfl) (hS287o.owG (i := 0) rfl) ((rows_len (c := sb) (m := 1) (fun _ => rfl) _).trans (by first | rfl | (simp only [List.length_append, List.length_map, List.length_cons, List.length_nil, List.length_take, List.length_drop, List.length_set]; done) | (simp only [List.length_append, List.length_map, List.length_cons, List.length_nil, List.length_take, List.length_drop, List.length_set]; omega) | omega)) (by decide) (rows_one sb_ones)) (by first | omega | (simp only [List.length_append, List.length_map, List.length_cons, List.length_nil, List.length_take, List.length_drop, List.length_set] <;> omega) | (simp; done)) rows_app (by first | omega | (simp only [maxLen, List.length_append, List.length_map, List.length_cons, List.length_nil, List.length_take, List.length_drop, List.length_set] <;> omega) | (simp only [maxLen]; omega)) (by first | omega | (simp only [List.length_append, List.length_map, List.length_cons, List.length_nil, List.length_take, List.length_drop, List.length_set] <;> omega)) (fun ad288 cp288 w288 (hS288 : St _ _ [.ow 23 1 (some ⟨b287, 0, none⟩) 1 1 (List.flatMap sb [Sb.mk ad277 cp277 (rdB (List.map Rc.abs rs) x276)]), .fz g286, wk k8 k5 ad cap rs, dk k5 da dc l b s, .ow 3 1 ad259 rs.length cp259 (iv (nums rs)), .ow 23 1 ad288 ((aa ++ [Sb.mk ad277 cp277 (rdB (List.map Rc.abs rs) x276)]).length) cp288 (List.flatMap sb (aa ++ [Sb.mk ad277 cp277 (rdB (List.map Rc.abs rs) x276)])), .blk b2 (.cells #[.int .i64 n0, .int .i64 n1] 98)] _) => ?_)
          clear hS287o
          refine hK _ _ ?_; clear hK K
          refine l_q rfl rfl (q_assignS rfl) ?_
          refine l_nil ?_
          refine hK274 _ _ ?_
          refine wp_region_lit ?_
          refine l_q rfl rfl (q_moveI rfl) ?_
          refine l_q rfl rfl (q_addx rfl rfl (by first | decide | omega) (by first | decide | omega)) ?_
          refine l_q rfl rfl (q_assignI rfl) ?_
          refine l_nil ?_
          have hS289 := hS288.fr6; clear hS288
          have hS290 := hS289.fr6; clear hS289
          have hS291 := hS290.fr6; clear hS290
          have hS292 := hS291.fr4; clear hS291
          have hS293 := hS292.fr6; clear hS292
          have hS294 := hS293.fr6; clear hS293
          have hS295 : St _ _ [wk k8 k5 ad cap rs, dk k5 da dc l b s, .fz g286, .ow 3 1 ad259 rs.length cp259 (iv (nums rs)), .ow 23 1 ad288 ((aa ++ [Sb.mk ad277 cp277 (rdB (List.map Rc.abs rs) x276)]).length) cp288 (List.flatMap sb (aa ++ [Sb.mk ad277 cp277 (rdB (List.map Rc.abs rs) x276)])), .blk b2 (.cells #[.int .i64 n0, .int .i64 n1] 98)] _ := hS294.only 6; clear hS294
          refine hK270 _ _ (came (⟨g286, (i + 1), ad288, cp288, (aa ++ [Sb.mk ad277 cp277 (rdB (List.map Rc.abs rs) x276)])⟩) (by repeat' (first | exact Agree.refl _ _ | refine Agree.up ?_ rfl | refine Agree.hav2 ?_ rfl | refine Agree.ups2 ?_ rfl)) (by repeat' (first | exact trivial | refine ⟨by first | rfl | exact int_succ _ | assumption, ?_⟩)) ?_)
          exact ⟨⟨hS295, hrs.mono hle286, (by show i + 1 ≤ rs.length; omega), SbG.snoc haa hle286 hfz286 (rdB_bytes hrs _), all_snoc hab3 hra (hrB.trans rfl)⟩, by (show rs.length - (i + 1) < rs.length - i); omega⟩
        ·
          have hc273b := hc273
          try simp only [decide_eq_true_eq, decide_eq_false_iff_not, Bool.not_eq_true', Bool.not_eq_false', Bool.and_eq_true, Bool.or_eq_true, Int.not_lt, Int.not_le, ne_eq, Decidable.not_not] at hc273
          refine wp_exit ?_
          refine hK261 _ _ ?_
          refine wp_seq_k (fun K296 hK296 => ?_)
          have hi9 : i = rs.length := by omega
          have hab9 : aa.map (·.b) = rs.map (·.b) := by rw [hab3, hi9, List.take_length]
          have hal9 : aa.length = rs.length := by have := congrArg List.length hab9; simpa using this
          have hK0 := KInv.start (rs := rs) (b := b) hIs
          refine wp_region_lit ?_
          refine l_q rfl rfl (q_moveP rfl) ?_
          refine l_e rfl (fun K hK => ?_)
          refine e_call (by kernel_rfl) (wSafe_ok _ _ _ _ _ _ _ _ _ _ (by first | omega | (simp only [List.length_append, List.length_map, List.length_cons, List.length_nil, List.length_take, List.length_drop, List.length_set] <;> omega)) hI.2.1 (by first | omega | (simp only [List.length_append, List.length_map, List.length_cons, List.length_nil, List.length_take, List.length_drop, List.length_set] <;> omega)) (by first | omega | (simp only [List.length_append, List.length_map, List.length_cons, List.length_nil, List.length_take, List.length_drop, List.length_set] <;> omega)) _ hrs _ (St.begin (Γ := [_, _]) hS270)) rfl (after_M (Γ1 := [_, _]) hS270 (fun v297 G297 w297 hv297 hS297 => ?_))
          clear hS270
          obtain ⟨rfl, rfl⟩ := hv297
          have hS298 : St _ _ [wk k8 k5 ad cap rs, dk k5 da dc l b s, .fz g, .ow 3 1 ad259 rs.length cp259 (iv (nums rs)), .ow 23 1 aad aa.length acap (List.flatMap sb aa), .blk b2 (.cells #[.int .i64 n0, .int .i64 n1] 98)] _ := hS297; clear hS297
          refine hK _ _ ?_; clear hK K
          refine l_q rfl rfl (q_assignI rfl) ?_
          refine l_nil ?_
          refine hK296 _ _ ?_
          refine wp_seq_k (fun K299 hK299 => ?_)
          refine wp_seq_k (fun K300 hK300 => ?_)
          refine wp_region_lit ?_
          refine l_q rfl rfl (q_assignI rfl) ?_
          refine l_nil ?_
          refine hK300 _ _ ?_
          refine wp_block ?_
          refine c_rounds 3 ?_
          refine c_round ?_
          refine wp_seq_k (fun K301 hK301 => ?_)
          refine wp_seq_k (fun K302 hK302 => ?_)
          refine wp_region_lit ?_
          refine l_q rfl rfl (q_moveI rfl) ?_
          refine l_q rfl rfl (q_lss rfl rfl) ?_
          refine l_nil ?_
          refine hK302 _ _ ?_
          refine c_condT rfl (by decide) ?_
          refine wp_skip ?_
          refine hK301 _ _ ?_
          refine wp_seq_k (fun K304 hK304 => ?_)
          refine wp_block ?_
          refine wp_seq_k (fun K305 hK305 => ?_)
          refine wp_region_lit ?_
          refine l_q rfl rfl (q_moveP rfl) ?_
          refine l_q rfl rfl (q_moveI rfl) ?_
          refine l_q rfl rfl (q_indexAddrA (len := 2) (e := 3) (m := 1) rfl rfl (by kernel_rfl) (by kernel_rfl) (by decide) (by decide)) ?_
          refine l_q rfl rfl (q_load1 rfl (by kernel_rfl) (hS298.cell (i := 5) rfl rfl)) ?_
          refine l_e rfl (fun K hK => ?_)
          have hS307 := hS298.fr1; clear hS298
          have hF306 := pwN_le (l := l) (s := s) n0 (by first | omega | (simp only [List.length_append, List.length_map, List.length_cons, List.length_nil, List.length_take, List.length_drop, List.length_set] <;> omega))
          refine e_call (by kernel_rfl) (dPower_ok _ _ _ _ _ _ hI.2.1 (by first | omega | (simp only [List.length_append, List.length_map, List.length_cons, List.length_nil, List.length_take, List.length_drop, List.length_set] <;> omega)) (by first | omega | (simp only [List.length_append, List.length_map, List.length_cons, List.length_nil, List.length_take, List.length_drop, List.length_set] <;> omega)) _ (by first | omega | (simp only [List.length_append, List.length_map, List.length_cons, List.length_nil, List.length_take, List.length_drop, List.length_set] <;> omega)) _ (St.begin (Γ := [_]) hS307)) rfl (after_M (Γ1 := [_]) hS307 (fun v306 G306 w306 hv306 hS306 => ?_))
          clear hS307
          obtain ⟨k306, ad306, cp306, rfl, rfl⟩ := hv306
          have hS308 : St _ _ [dk k306 ad306 cp306 (l.take (pwN l s n0)) b (pwN l s n0), dk k5 da dc l b s, wk k8 k5 ad cap rs, .fz g, .ow 3 1 ad259 rs.length cp259 (iv (nums rs)), .ow 23 1 aad aa.length acap (List.flatMap sb aa), .blk b2 (.cells #[.int .i64 n0, .int .i64 n1] 98)] _ := hS306; clear hS306
          refine hK _ _ ?_; clear hK K
          refine l_q rfl rfl (q_assignP rfl) ?_
          refine l_nil ?_
          refine hK305 _ _ ?_
          refine wp_seq_k (fun K309 hK309 => ?_)
          refine wp_region_lit ?_
          refine l_q rfl rfl (q_moveP rfl) ?_
          refine l_e rfl (fun K hK => ?_)
          have hsl310 := scan_le (l.take (pwN l s n0)).length (l.take (pwN l s n0)) b (Nat.le_refl _)
          have hS311 := hS308.fr3; clear hS308
          have hS312 := hS311.fr1; clear hS311
          refine e_call (by kernel_rfl) (wOpen_ok _ _ _ _ _ _ _ (Bytes.take hI.2.1) (by first | omega | (simp only [List.length_append, List.length_map, List.length_cons, List.length_nil, List.length_take, List.length_drop, List.length_set] <;> omega)) (by first | omega | (simp only [List.length_append, List.length_map, List.length_cons, List.length_nil, List.length_take, List.length_drop, List.length_set] <;> omega)) (by first | omega | (simp only [List.length_append, List.length_map, List.length_cons, List.length_nil, List.length_take, List.length_drop, List.length_set] <;> omega)) _ (St.begin (Γ := [_, _]) hS312)) rfl (after_M (Γ1 := [_, _]) hS312 (fun v310 G310 w310 hv310 hS310 => ?_))
          clear hS312
          obtain ⟨k310, ad310, cp310, rs310, da310, dc310, g310, rfl, rfl, hle310, hrs310, hab310⟩ := hv310
          have hS313 : St _ _ [wk k310 k306 ad310 cp310 rs310, dk k306 da310 dc310 ((l.take (pwN l s n0)).take (scan (l.take (pwN l s n0)) b).2) b ((scan (l.take (pwN l s n0)) b).2), .fz g310, dk k5 da dc l b s, wk k8 k5 ad cap rs, .ow 3 1 ad259 rs.length cp259 (iv (nums rs)), .ow 23 1 aad aa.length acap (List.flatMap sb aa), .blk b2 (.cells #[.int .i64 n0, .int .i64 n1] 98)] _ := hS310; clear hS310
          have hR310_4 := RsOk.mono hrs hle310
          have hok310_6 := SbG.all haa hle310
          refine hK _ _ ?_; clear hK K
          refine l_q rfl rfl (q_move rfl) ?_
          obtain ⟨hK1, ⟨j1, hj1⟩, hkc1, hkn1, hkw1, hks1⟩ := hK0.step hIw (p := (pwN l s n0)) hF306.1 hF306.2 hab310
          obtain ⟨L1, hL1⟩ : ∃ L, L = ((l.take (pwN l s n0)).take (scan (l.take (pwN l s n0)) b).2) := ⟨_, rfl⟩
          obtain ⟨z1, hz1⟩ : ∃ z, z = (scan (l.take (pwN l s n0)) b).2 := ⟨_, rfl⟩
          rw [← hL1, ← hz1] at hK1
          rw [← hL1] at hkw1
          rw [← hz1] at hks1
          have hLB1 : Bytes L1 := by rw [hL1]; exact (Bytes.take (Bytes.take hI.2.1))
          have hLl1 := hK1.len
          have hS314 : St _ _ [wk k310 k306 ad310 cp310 rs310, dk k306 da310 dc310 L1 b z1, .fz g310, dk k5 da dc l b s, wk k8 k5 ad cap rs, .ow 3 1 ad259 rs.length cp259 (iv (nums rs)), .ow 23 1 aad aa.length acap (List.flatMap sb aa), .blk b2 (.cells #[.int .i64 n0, .int .i64 n1] 98)] _ := hS313.cast (by rw [show L1 = ((l.take (pwN l s n0)).take (scan (l.take (pwN l s n0)) b).2) from hL1, show z1 = (scan (l.take (pwN l s n0)) b).2 from hz1]); clear hS313
          refine l_q rfl rfl (q_extract rfl rfl) ?_
          refine l_q rfl rfl (q_extract rfl rfl) ?_
          refine l_q rfl rfl (q_assignP rfl) ?_
          refine l_q rfl rfl (q_assignI rfl) ?_
          refine l_nil ?_
          refine hK309 _ _ ?_
          refine wp_seq_k (fun K315 hK315 => ?_)
          refine wp_seq_k (fun K316 hK316 => ?_)
          refine wp_region_lit ?_
          refine l_q rfl rfl (q_moveI rfl) ?_
          refine l_q rfl rfl (q_neq rfl rfl) ?_
          refine l_q rfl rfl (q_moveB rfl) ?_
          refine l_on rfl rfl (by decide) ?_
          refine l_q rfl rfl (q_moveP rfl) ?_
          refine l_on rfl rfl (by decide) ?_
          refine l_q rfl rfl (q_peq rfl (by kernel_rfl)) ?_
          refine l_q rfl rfl (q_pickF rfl (by decide) rfl) ?_
          refine l_nil ?_
          refine hK316 _ _ ?_
          refine c_condF rfl rfl ?_
          refine wp_skip ?_
          refine hK315 _ _ ?_
          refine wp_seq_k (fun K318 hK318 => ?_)
          refine wp_region_lit ?_
          refine l_q rfl rfl (q_moveP rfl) ?_
          refine l_e rfl (fun K hK => ?_)
          refine e_call (by kernel_rfl) (wNumbers_ok _ _ _ _ _ (by first | omega | (simp only [List.length_append, List.length_map, List.length_cons, List.length_nil, List.length_take, List.length_drop, List.length_set] <;> omega)) _ (St.begin (Γ := [_]) hS314)) rfl (after_M (Γ1 := [_]) hS314 (fun v319 G319 w319 hv319 hS319 => ?_))
          clear hS314
          obtain ⟨ad319, cp319, rfl, rfl⟩ := hv319
          have hS320 : St _ _ [.ow 3 1 ad319 rs310.length cp319 (iv (nums rs310)), wk k310 k306 ad310 cp310 rs310, dk k306 da310 dc310 L1 b z1, .fz g310, dk k5 da dc l b s, wk k8 k5 ad cap rs, .ow 3 1 ad259 rs.length cp259 (iv (nums rs)), .ow 23 1 aad aa.length acap (List.flatMap sb aa), .blk b2 (.cells #[.int .i64 n0, .int .i64 n1] 98)] _ := hS319; clear hS319
          refine hK _ _ ?_; clear hK K
          refine l_q rfl rfl (q_assignS rfl) ?_
          have hnl2 := nums_len rs310
          have hnl := nums_len rs
          refine l_nil ?_
          refine hK318 _ _ ?_
          refine wp_seq_k (fun K321 hK321 => ?_)
          refine wp_seq_k (fun K322 hK322 => ?_)
          refine wp_region_lit ?_
          refine l_q rfl rfl (q_moveS rfl) ?_
          refine l_q rfl rfl (q_lenSl (e := 3) rfl (by kernel_rfl)) ?_
          refine l_q rfl rfl (q_moveI rfl) ?_
          refine l_q rfl rfl (q_lss rfl rfl) ?_
          refine l_q rfl rfl (q_moveB rfl) ?_
          refine l_on rfl rfl (decide_eq_false (by omega)) ?_
          refine l_q rfl rfl (q_moveS rfl) ?_
          refine l_on rfl rfl (decide_eq_false (by omega)) ?_
          refine l_q rfl rfl (q_lenSl (e := 3) rfl (by kernel_rfl)) ?_
          refine l_on rfl rfl (decide_eq_false (by omega)) ?_
          refine l_q rfl rfl (q_moveS rfl) ?_
          refine l_on rfl rfl (decide_eq_false (by omega)) ?_
          refine l_q rfl rfl (q_lenSl (e := 3) rfl (by kernel_rfl)) ?_
          refine l_on rfl rfl (decide_eq_false (by omega)) ?_
          refine l_q rfl rfl (q_gtr rfl rfl) ?_
          refine l_q rfl rfl (q_pickF rfl (decide_eq_false (by omega)) rfl) ?_
          refine l_q rfl rfl (q_moveB rfl) ?_
          refine l_on rfl rfl (decide_eq_false (by omega)) ?_
          refine l_q rfl rfl (q_moveP rfl) ?_
          refine l_on rfl rfl (decide_eq_false (by omega)) ?_
          refine l_e rfl (fun K hK => ?_)
          have hS326 := hS320.fr2; clear hS320
          have hS327 := hS326.fr2; clear hS326
          refine e_call (by kernel_rfl) (wSafe_ok _ _ _ _ _ _ _ _ _ _ (by first | omega | (simp only [List.length_append, List.length_map, List.length_cons, List.length_nil, List.length_take, List.length_drop, List.length_set] <;> omega)) hLB1 (by first | omega | (simp only [List.length_append, List.length_map, List.length_cons, List.length_nil, List.length_take, List.length_drop, List.length_set] <;> omega)) (by first | omega | (simp only [List.length_append, List.length_map, List.length_cons, List.length_nil, List.length_take, List.length_drop, List.length_set] <;> omega)) _ hrs310 _ (St.begin (Γ := [_, _]) hS327)) rfl (after_M (Γ1 := [_, _]) hS327 (fun v325 G325 w325 hv325 hS325 => ?_))
          clear hS327
          obtain ⟨rfl, rfl⟩ := hv325
          have hS328 : St _ _ [wk k310 k306 ad310 cp310 rs310, dk k306 da310 dc310 L1 b z1, .ow 3 1 ad319 rs310.length cp319 (iv (nums rs310)), .fz g310, dk k5 da dc l b s, wk k8 k5 ad cap rs, .ow 3 1 ad259 rs.length cp259 (iv (nums rs)), .ow 23 1 aad aa.length acap (List.flatMap sb aa), .blk b2 (.cells #[.int .i64 n0, .int .i64 n1] 98)] _ := hS325; clear hS325
          refine hK _ _ ?_; clear hK K
          refine l_on rfl rfl (decide_eq_false (by omega)) ?_
          refine l_q rfl rfl (q_moveS rfl) ?_
          refine l_on rfl rfl (decide_eq_false (by omega)) ?_
          refine l_q rfl rfl (q_lenSl (e := 3) rfl (by kernel_rfl)) ?_
          refine l_on rfl rfl (decide_eq_false (by omega)) ?_
          refine l_q rfl rfl (q_neq rfl rfl) ?_
          refine l_q rfl rfl (q_pickF rfl (decide_eq_false (by omega)) rfl) ?_
          refine l_nil ?_
          refine hK322 _ _ ?_
          refine c_condF rfl (decide_eq_false (by rw [hks1]; simp)) ?_
          refine wp_skip ?_
          refine hK321 _ _ ?_
          refine wp_seq_k (fun K330 hK330 => ?_)
          refine wp_region_lit ?_
          refine l_q rfl rfl (q_assignI rfl) ?_
          refine l_nil ?_
          refine hK330 _ _ ?_
          refine wp_block ?_
          have hS331 := hS328.fr8; clear hS328
          have hS332 := hS331.fr8; clear hS331
          have hS333 := hS332.fr8; clear hS332
          have hS334 := hS333.fr5; clear hS333
          have hS335 := hS334.fr6; clear hS334
          have hS336 := hS335.fr6; clear hS335
          have hS337 := hS336.fr6; clear hS336
          have hS338 : St _ _ [wk k310 k306 ad310 cp310 rs310, dk k306 da310 dc310 L1 b z1, .fz g310, .ow 3 1 ad319 rs310.length cp319 (iv (nums rs310)), .ow 3 1 ad259 rs.length cp259 (iv (nums rs)), .ow 23 1 aad aa.length acap (List.flatMap sb aa), .blk b2 (.cells #[.int .i64 n0, .int .i64 n1] 98)] _ := hS337.only 7; clear hS337
          refine c_loop (τ := Nat) [(4, 4), (20, 22), (145, 182)] (fun x => (fun (k : Nat) => [(20, .int .i64 ((k : Nat) : Int))]) x) (fun x w' => (fun (k : Nat) => St w (fun _ => False) [wk k310 k306 ad310 cp310 rs310, dk k306 da310 dc310 L1 b z1, .fz g310, .ow 3 1 ad319 rs310.length cp319 (iv (nums rs310)), .ow 3 1 ad259 rs.length cp259 (iv (nums rs)), .ow 23 1 aad aa.length acap (List.flatMap sb aa), .blk b2 (.cells #[.int .i64 n0, .int .i64 n1] 98)] w' ∧ k ≤ rs310.length) x) (fun x => (fun (k : Nat) => rs310.length - k) x) (0) ?_ (by repeat' (first | exact trivial | refine ⟨by first | rfl | exact int_succ _ | assumption, ?_⟩)) (fun k j339 w339 hJ339 K339 hK339 => ?_)
          ·
            exact ⟨hS338, Nat.zero_le _⟩
          ·
            obtain ⟨hS339, hk⟩ := hJ339
            try dsimp only at hS339 hk ⊢
            have hnl2 := nums_len rs310
            have hnl := nums_len rs
            refine wp_seq_k (fun K340 hK340 => ?_)
            refine wp_seq_k (fun K341 hK341 => ?_)
            refine wp_region_lit ?_
            refine l_q rfl rfl (q_moveI rfl) ?_
            refine l_q rfl rfl (q_moveS rfl) ?_
            refine l_q rfl rfl (q_lenSl (e := 3) rfl (by kernel_rfl)) ?_
            refine l_q rfl rfl (q_lss rfl rfl) ?_
            refine l_nil ?_
            refine hK341 _ _ ?_
            refine c_cond rfl (fun hc342 => ?_) (fun hc342 => ?_)
            ·
              have hc342b := hc342
              try simp only [decide_eq_true_eq, decide_eq_false_iff_not, Bool.not_eq_true', Bool.not_eq_false', Bool.and_eq_true, Bool.or_eq_true, Int.not_lt, Int.not_le, ne_eq, Decidable.not_not] at hc342
              refine wp_skip ?_
              refine hK340 _ _ ?_
              refine wp_seq_k (fun K343 hK343 => ?_)
              refine wp_block ?_
              refine wp_seq_k (fun K344 hK344 => ?_)
              refine wp_region_lit ?_
              refine l_q rfl rfl (q_moveP rfl) ?_
              refine l_q rfl rfl (q_moveS rfl) ?_
              refine l_q rfl rfl (q_moveI rfl) ?_
              refine l_q rfl rfl (q_ixG (e := 3) (m := 1) (j := k) rfl rfl (by kernel_rfl) (by kernel_rfl) (by first | rfl | omega) (by omega) (hS339.owG (i := 3) rfl) (by rw [iv_len]; first | omega | (simp only [List.length_append, List.length_map, List.length_cons, List.length_nil, List.length_take, List.length_drop, List.length_set] <;> omega))) ?_
              obtain ⟨x345, hx345⟩ : ∃ x, ((nums rs310))[k]? = some x := ⟨_, List.getElem?_eq_getElem (by first | omega | (simp only [List.length_append, List.length_map, List.length_cons, List.length_nil, List.length_take, List.length_drop, List.length_set] <;> omega) | (simp <;> omega))⟩
              refine l_q rfl rfl (q_load1 rfl (by kernel_rfl) (SlG.cell (hS339.owG (i := 3) rfl) (Gle.refl _) (at1 (iv_at hx345)))) ?_
              refine l_e rfl (fun K hK => ?_)
              have hS347 := hS339.fr2; clear hS339
              have hS348 := hS347.fr1; clear hS347
              refine e_call (by kernel_rfl) (wRead_ok _ _ _ _ _ _ (by first | omega | (simp only [List.length_append, List.length_map, List.length_cons, List.length_nil, List.length_take, List.length_drop, List.length_set] <;> omega)) hrs310 _ _ (St.begin (Γ := [_, _]) hS348)) rfl (after_M (Γ1 := [_, _]) hS348 (fun v346 G346 w346 hv346 hS346 => ?_))
              clear hS348
              obtain ⟨ad346, cp346, rfl, rfl⟩ := hv346
              have hS349 : St _ _ [.ow 5 1 ad346 ((rdB (List.map Rc.abs rs310) x345).length) cp346 (bv (rdB (List.map Rc.abs rs310) x345)), wk k310 k306 ad310 cp310 rs310, .fz g310, dk k306 da310 dc310 L1 b z1, .ow 3 1 ad319 rs310.length cp319 (iv (nums rs310)), .ow 3 1 ad259 rs.length cp259 (iv (nums rs)), .ow 23 1 aad aa.length acap (List.flatMap sb aa), .blk b2 (.cells #[.int .i64 n0, .int .i64 n1] 98)] _ := hS346; clear hS346
              refine hK _ _ ?_; clear hK K
              obtain ⟨ra, hra, hrn⟩ := nums_at hx345
              obtain ⟨hrE, hrB⟩ := play_rd hkw1 rfl hra
              rw [hrn] at hrE hrB
              obtain ⟨rb, hrb, hrbn, hrbb⟩ := keep_at hj1 hra
              refine l_q rfl rfl (q_move rfl) ?_
              refine l_q rfl rfl (q_extract rfl rfl) ?_
              refine l_q rfl rfl (q_extract rfl rfl) ?_
              refine l_q rfl rfl (q_assignS rfl) ?_
              refine l_q rfl rfl (q_assignI rfl) ?_
              refine l_nil ?_
              refine hK344 _ _ ?_
              refine wp_seq_k (fun K350 hK350 => ?_)
              refine r_any (by kernel_rfl) hS349 (fun w351 hS351 => ?_)
              clear hS349
              refine o_pure (i := 0) (fun _ _ => trivial) rfl rfl (by kernel_rfl) (goes0 rfl) (QOk.then (QOk.inBlock (QOk.then (QOk.then (QOk.inBlock (QOk.inBlock (QOk.then (QOk.then (QOk.inBlock (QOk.then QOk.body)))))))))) (fun w => q_moveI rfl) ?_
              refine o_pure (i := 1) (fun _ _ => trivial) rfl rfl (by kernel_rfl) (goes0 rfl) (QOk.then (QOk.inBlock (QOk.then (QOk.then (QOk.inBlock (QOk.inBlock (QOk.then (QOk.then (QOk.inBlock (QOk.then QOk.body)))))))))) (fun w => q_neq rfl rfl) ?_
              refine o_pure (i := 2) (fun _ _ => trivial) rfl rfl (by kernel_rfl) (goes0 rfl) (QOk.then (QOk.inBlock (QOk.then (QOk.then (QOk.inBlock (QOk.inBlock (QOk.then (QOk.then (QOk.inBlock (QOk.then QOk.body)))))))))) (fun w => q_moveB rfl) ?_
              refine o_pure (i := 3) (fun _ _ => trivial) rfl rfl (by kernel_rfl) (goes1 rfl rfl (decide_eq_false (by rw [hrE]; simp))) (QOk.then (QOk.inBlock (QOk.then (QOk.then (QOk.inBlock (QOk.inBlock (QOk.then (QOk.then (QOk.inBlock (QOk.then QOk.body)))))))))) (fun w => q_moveS rfl) ?_
              refine o_pure (i := 4) (fun _ _ => trivial) rfl rfl (by kernel_rfl) (goes1 rfl rfl (decide_eq_false (by rw [hrE]; simp))) (QOk.then (QOk.inBlock (QOk.then (QOk.then (QOk.inBlock (QOk.inBlock (QOk.then (QOk.then (QOk.inBlock (QOk.then QOk.body)))))))))) (fun w => q_moveI rfl) ?_
              refine o_pure (i := 5) (fun _ _ => trivial) rfl rfl (by kernel_rfl) (goes1 rfl rfl (decide_eq_false (by rw [hrE]; simp))) (QOk.then (QOk.inBlock (QOk.then (QOk.then (QOk.inBlock (QOk.inBlock (QOk.then (QOk.then (QOk.inBlock (QOk.then QOk.body)))))))))) (fun w => q_ixG (e := 3) (m := 1) (j := k) rfl rfl (by kernel_rfl) (by kernel_rfl) (by first | rfl | omega) (by omega) (hS351.owG (i := 4) rfl) (by rw [iv_len]; first | omega | (simp only [List.length_append, List.length_map, List.length_cons, List.length_nil, List.length_take, List.length_drop, List.length_set] <;> omega))) ?_
              refine o_held (i := 6) [11, 12, 13, 14, 15, 16, 17, 18, 19, 20, 21, 22] (fun _ _ => trivial) rfl rfl (by kernel_rfl) (goes1 rfl rfl (decide_eq_false (by rw [hrE]; simp))) (QOk.then (QOk.inBlock (QOk.then (QOk.then (QOk.inBlock (QOk.inBlock (QOk.then (QOk.then (QOk.inBlock (QOk.then QOk.body)))))))))) (q_load1 rfl (by kernel_rfl) (SlG.cell (hS351.owG (i := 4) rfl) (Gle.refl _) (at1 (iv_at hx345)))) ?_
              refine o_pure (i := 7) (fun j w => ⟨(fun _ _ => trivial) j w, fun _ h => h⟩) rfl rfl (by kernel_rfl) (goes1 rfl rfl (decide_eq_false (by rw [hrE]; simp))) (QOk.then (QOk.inBlock (QOk.then (QOk.then (QOk.inBlock (QOk.inBlock (QOk.then (QOk.then (QOk.inBlock (QOk.then QOk.body)))))))))) (fun w => q_moveS rfl) ?_
              refine o_pure (i := 8) (fun j w => ⟨(fun _ _ => trivial) j w, fun _ h => h⟩) rfl rfl (by kernel_rfl) (goes1 rfl rfl (decide_eq_false (by rw [hrE]; simp))) (QOk.then (QOk.inBlock (QOk.then (QOk.then (QOk.inBlock (QOk.inBlock (QOk.then (QOk.then (QOk.inBlock (QOk.then QOk.body)))))))))) (fun w => q_moveI rfl) ?_
              refine o_pure (i := 9) (fun j w => ⟨(fun _ _ => trivial) j w, fun _ h => h⟩) rfl rfl (by kernel_rfl) (goes1 rfl rfl (decide_eq_false (by rw [hrE]; simp))) (QOk.then (QOk.inBlock (QOk.then (QOk.then (QOk.inBlock (QOk.inBlock (QOk.then (QOk.then (QOk.inBlock (QOk.then QOk.body)))))))))) (fun w => q_ixG (e := 3) (m := 1) (j := k) rfl rfl (by kernel_rfl) (by kernel_rfl) (by first | rfl | omega) (by omega) (hS351.owG (i := 5) rfl) (by rw [iv_len]; first | omega | (simp only [List.length_append, List.length_map, List.length_cons, List.length_nil, List.length_take, List.length_drop, List.length_set] <;> omega))) ?_
              obtain ⟨x353, hx353⟩ : ∃ x, ((nums rs))[k]? = some x := ⟨_, List.getElem?_eq_getElem (by first | omega | (simp only [List.length_append, List.length_map, List.length_cons, List.length_nil, List.length_take, List.length_drop, List.length_set] <;> omega) | (simp <;> omega))⟩
              refine o_held (i := 10) [11, 12, 13, 14, 15, 16, 17, 18, 19, 20, 21, 22] (fun j w => ⟨(fun _ _ => trivial) j w, fun _ h => h⟩) rfl rfl (by kernel_rfl) (goes1 rfl rfl (decide_eq_false (by rw [hrE]; simp))) (QOk.then (QOk.inBlock (QOk.then (QOk.then (QOk.inBlock (QOk.inBlock (QOk.then (QOk.then (QOk.inBlock (QOk.then QOk.body)))))))))) (q_load1 rfl (by kernel_rfl) (SlG.cell (hS351.owG (i := 5) rfl) (Gle.refl _) (at1 (iv_at hx353)))) ?_
              have hsn := num_at hx353 hrb
              rw [hrbn, hrn] at hsn
              refine o_pure (i := 11) (fun j w => ⟨(fun j w => ⟨(fun _ _ => trivial) j w, fun _ h => h⟩) j w, fun _ h => h⟩) rfl rfl (by kernel_rfl) (goes1 rfl rfl (decide_eq_false (by rw [hrE]; simp))) (QOk.then (QOk.inBlock (QOk.then (QOk.then (QOk.inBlock (QOk.inBlock (QOk.then (QOk.then (QOk.inBlock (QOk.then QOk.body)))))))))) (fun w => q_neq rfl rfl) ?_
              refine o_pure (i := 12) (fun j w => ⟨(fun j w => ⟨(fun _ _ => trivial) j w, fun _ h => h⟩) j w, fun _ h => h⟩) rfl rfl (by kernel_rfl) (goes0 rfl) (QOk.then (QOk.inBlock (QOk.then (QOk.then (QOk.inBlock (QOk.inBlock (QOk.then (QOk.then (QOk.inBlock (QOk.then QOk.body)))))))))) (fun w => q_pickF rfl (decide_eq_false (by rw [hrE]; simp)) rfl) ?_
              refine o_pure (i := 13) (fun j w => ⟨(fun j w => ⟨(fun _ _ => trivial) j w, fun _ h => h⟩) j w, fun _ h => h⟩) rfl rfl (by kernel_rfl) (goes0 rfl) (QOk.then (QOk.inBlock (QOk.then (QOk.then (QOk.inBlock (QOk.inBlock (QOk.then (QOk.then (QOk.inBlock (QOk.then QOk.body)))))))))) (fun w => q_moveB rfl) ?_
              refine o_pure (i := 14) (fun j w => ⟨(fun j w => ⟨(fun _ _ => trivial) j w, fun _ h => h⟩) j w, fun _ h => h⟩) rfl rfl (by kernel_rfl) (goes1 rfl rfl (decide_eq_false (by rw [hsn]; simp))) (QOk.then (QOk.inBlock (QOk.then (QOk.then (QOk.inBlock (QOk.inBlock (QOk.then (QOk.then (QOk.inBlock (QOk.then QOk.body)))))))))) (fun w => q_moveS rfl) ?_
              refine o_held (i := 15) [21, 22] (fun j w => ⟨(fun j w => ⟨(fun _ _ => trivial) j w, fun _ h => h⟩) j w, fun _ h => h⟩) rfl rfl (by kernel_rfl) (goes1 rfl rfl (decide_eq_false (by rw [hsn]; simp))) (QOk.then (QOk.inBlock (QOk.then (QOk.then (QOk.inBlock (QOk.inBlock (QOk.then (QOk.then (QOk.inBlock (QOk.then QOk.body)))))))))) (q_convBS (l := (rdB (List.map Rc.abs rs310) x345)) rfl (hS351.owG (i := 0) rfl) (by first | omega | (simp only [List.length_append, List.length_map, List.length_cons, List.length_nil, List.length_take, List.length_drop, List.length_set] <;> omega)) (by kernel_rfl) (by kernel_rfl)) ?_
              refine o_pure (i := 16) (fun j w => ⟨(fun j w => ⟨(fun j w => ⟨(fun _ _ => trivial) j w, fun _ h => h⟩) j w, fun _ h => h⟩) j w, fun _ h => h⟩) rfl rfl (by kernel_rfl) (goes1 rfl rfl (decide_eq_false (by rw [hsn]; simp))) (QOk.then (QOk.inBlock (QOk.then (QOk.then (QOk.inBlock (QOk.inBlock (QOk.then (QOk.then (QOk.inBlock (QOk.then QOk.body)))))))))) (fun w => q_moveS rfl) ?_
              refine o_pure (i := 17) (fun j w => ⟨(fun j w => ⟨(fun j w => ⟨(fun _ _ => trivial) j w, fun _ h => h⟩) j w, fun _ h => h⟩) j w, fun _ h => h⟩) rfl rfl (by kernel_rfl) (goes1 rfl rfl (decide_eq_false (by rw [hsn]; simp))) (QOk.then (QOk.inBlock (QOk.then (QOk.then (QOk.inBlock (QOk.inBlock (QOk.then (QOk.then (QOk.inBlock (QOk.then QOk.body)))))))))) (fun w => q_moveI rfl) ?_
              refine o_pure (i := 18) (fun j w => ⟨(fun j w => ⟨(fun j w => ⟨(fun _ _ => trivial) j w, fun _ h => h⟩) j w, fun _ h => h⟩) j w, fun _ h => h⟩) rfl rfl (by kernel_rfl) (goes1 rfl rfl (decide_eq_false (by rw [hsn]; simp))) (QOk.then (QOk.inBlock (QOk.then (QOk.then (QOk.inBlock (QOk.inBlock (QOk.then (QOk.then (QOk.inBlock (QOk.then QOk.body)))))))))) (fun w => q_ixG (e := 23) (m := 1) (j := k) rfl rfl (by kernel_rfl) (by kernel_rfl) (by first | rfl | omega) (by omega) (hS351.owG (i := 6) rfl) (by rw [rows_len (c := sb) (m := 1) (fun _ => rfl)]; first | omega | (simp only [List.length_append, List.length_map, List.length_cons, List.length_nil, List.length_take, List.length_drop, List.length_set] <;> omega))) ?_
              obtain ⟨x355, hx355⟩ : ∃ x, (aa)[k]? = some x := ⟨_, List.getElem?_eq_getElem (by first | omega | (simp only [List.length_append, List.length_map, List.length_cons, List.length_nil, List.length_take, List.length_drop, List.length_set] <;> omega) | (simp <;> omega))⟩
              refine o_held (i := 19) [20, 21, 22] (fun j w => ⟨(fun j w => ⟨(fun j w => ⟨(fun _ _ => trivial) j w, fun _ h => h⟩) j w, fun _ h => h⟩) j w, fun _ h => h⟩) rfl rfl (by kernel_rfl) (goes1 rfl rfl (decide_eq_false (by rw [hsn]; simp))) (QOk.then (QOk.inBlock (QOk.then (QOk.then (QOk.inBlock (QOk.inBlock (QOk.then (QOk.then (QOk.inBlock (QOk.then QOk.body)))))))))) (q_load1 rfl (by kernel_rfl) (SlG.cell (hS351.owG (i := 6) rfl) (Gle.refl _) (row_at hx355 (c := sb) (m := 1) (fun _ => rfl) (j := 0) rfl))) ?_
              have hsa := all_at hab9 hx355 hrb
              rw [hrbb, ← hrB] at hsa
              refine o_held (i := 20) [21, 22] (fun j w => ⟨(fun j w => ⟨(fun j w => ⟨(fun j w => ⟨(fun _ _ => trivial) j w, fun _ h => h⟩) j w, fun _ h => h⟩) j w, fun _ h => h⟩) j w, fun _ h => h⟩) rfl rfl (by kernel_rfl) (goes1 rfl rfl (decide_eq_false (by rw [hsn]; simp))) (QOk.then (QOk.inBlock (QOk.then (QOk.then (QOk.inBlock (QOk.inBlock (QOk.then (QOk.then (QOk.inBlock (QOk.then QOk.body)))))))))) (q_convBS (l := x355.b) rfl ((hok310_6 x355 (List.mem_of_getElem? hx355)).1.mono (hS351.fz (i := 2) rfl)) (by first | omega | (simp only [List.length_append, List.length_map, List.length_cons, List.length_nil, List.length_take, List.length_drop, List.length_set] <;> omega)) (by kernel_rfl) (by kernel_rfl)) ?_
              refine o_pure (i := 21) (fun j w => ⟨(fun j w => ⟨(fun j w => ⟨(fun j w => ⟨(fun j w => ⟨(fun _ _ => trivial) j w, fun _ h => h⟩) j w, fun _ h => h⟩) j w, fun _ h => h⟩) j w, fun _ h => h⟩) j w, fun _ h => h⟩) rfl rfl (by kernel_rfl) (goes1 rfl rfl (decide_eq_false (by rw [hsn]; simp))) (QOk.then (QOk.inBlock (QOk.then (QOk.then (QOk.inBlock (QOk.inBlock (QOk.then (QOk.then (QOk.inBlock (QOk.then QOk.body)))))))))) (fun w => q_str_neq (l := (rdB (List.map Rc.abs rs310) x345)) (m := x355.b) rfl rfl (rdB_bytes hrs310 _) (hok310_6 x355 (List.mem_of_getElem? hx355)).2) ?_
              refine o_pure (i := 22) (fun j w => ⟨(fun j w => ⟨(fun j w => ⟨(fun j w => ⟨(fun j w => ⟨(fun _ _ => trivial) j w, fun _ h => h⟩) j w, fun _ h => h⟩) j w, fun _ h => h⟩) j w, fun _ h => h⟩) j w, fun _ h => h⟩) rfl rfl (by kernel_rfl) (goes0 rfl) (QOk.then (QOk.inBlock (QOk.then (QOk.then (QOk.inBlock (QOk.inBlock (QOk.then (QOk.then (QOk.inBlock (QOk.then QOk.body)))))))))) (fun w => q_pickF rfl (decide_eq_false (by rw [hsn]; simp)) rfl) ?_
              refine o_done (by kernel_rfl) ?_
              refine hK350 _ _ ?_
              refine c_condF rfl (by rw [hsa]; simp) ?_
              refine wp_skip ?_
              refine hK343 _ _ ?_
              refine wp_region_lit ?_
              refine l_q rfl rfl (q_moveI rfl) ?_
              refine l_q rfl rfl (q_addx rfl rfl (by first | decide | omega) (by first | decide | omega)) ?_
              refine l_q rfl rfl (q_assignI rfl) ?_
              refine l_nil ?_
              have hS357 := hS351.fr7; clear hS351
              have hS358 := hS357.fr7; clear hS357
              have hS359 := hS358.fr7; clear hS358
              have hS360 := hS359.fr7; clear hS359
              have hS361 := hS360.fr6; clear hS360
              have hS362 := hS361.fr7; clear hS361
              have hS363 := hS362.fr7; clear hS362
              have hS364 : St _ _ [wk k310 k306 ad310 cp310 rs310, dk k306 da310 dc310 L1 b z1, .fz g310, .ow 3 1 ad319 rs310.length cp319 (iv (nums rs310)), .ow 3 1 ad259 rs.length cp259 (iv (nums rs)), .ow 23 1 aad aa.length acap (List.flatMap sb aa), .blk b2 (.cells #[.int .i64 n0, .int .i64 n1] 98)] _ := hS363.only 7; clear hS363
              refine hK339 _ _ (came ((k + 1)) (by repeat' (first | exact Agree.refl _ _ | refine Agree.up ?_ rfl | refine Agree.hav2 ?_ rfl | refine Agree.ups2 ?_ rfl)) (by repeat' (first | exact trivial | refine ⟨by first | rfl | exact int_succ _ | assumption, ?_⟩)) ?_)
              exact ⟨⟨hS364, (by show k + 1 ≤ rs310.length; omega)⟩, by (show rs310.length - (k + 1) < rs310.length - k); omega⟩
            ·
              have hc342b := hc342
              try simp only [decide_eq_true_eq, decide_eq_false_iff_not, Bool.not_eq_true', Bool.not_eq_false', Bool.and_eq_true, Bool.or_eq_true, Int.not_lt, Int.not_le, ne_eq, Decidable.not_not] at hc342
              refine wp_exit ?_
              refine hK304 _ _ ?_
              refine wp_region_lit ?_
              refine l_q rfl rfl (q_moveI rfl) ?_
              refine l_q rfl rfl (q_addx rfl rfl (by first | decide | omega) (by first | decide | omega)) ?_
              refine l_q rfl rfl (q_assignI rfl) ?_
              refine l_nil ?_
              refine c_round ?_
              refine wp_seq_k (fun K365 hK365 => ?_)
              refine wp_seq_k (fun K366 hK366 => ?_)
              refine wp_region_lit ?_
              refine l_q rfl rfl (q_moveI rfl) ?_
              refine l_q rfl rfl (q_lss rfl rfl) ?_
              refine l_nil ?_
              refine hK366 _ _ ?_
              refine c_condT rfl (by decide) ?_
              refine wp_skip ?_
              refine hK365 _ _ ?_
              refine wp_seq_k (fun K368 hK368 => ?_)
              refine wp_block ?_
              refine wp_seq_k (fun K369 hK369 => ?_)
              refine wp_region_lit ?_
              refine l_q rfl rfl (q_moveP rfl) ?_
              refine l_q rfl rfl (q_moveI rfl) ?_
              refine l_q rfl rfl (q_indexAddrA (len := 2) (e := 3) (m := 1) rfl rfl (by kernel_rfl) (by kernel_rfl) (by decide) (by decide)) ?_
              refine l_q rfl rfl (q_load1 rfl (by kernel_rfl) (hS339.cell (i := 6) rfl rfl)) ?_
              refine l_e rfl (fun K hK => ?_)
              have hS371 := hS339.fr1; clear hS339
              have hF370 := pwN_le (l := L1) (s := z1) n1 (by first | omega | (simp only [List.length_append, List.length_map, List.length_cons, List.length_nil, List.length_take, List.length_drop, List.length_set] <;> omega))
              refine e_call (by kernel_rfl) (dPower_ok _ _ _ _ _ _ hLB1 (by first | omega | (simp only [List.length_append, List.length_map, List.length_cons, List.length_nil, List.length_take, List.length_drop, List.length_set] <;> omega)) (by first | omega | (simp only [List.length_append, List.length_map, List.length_cons, List.length_nil, List.length_take, List.length_drop, List.length_set] <;> omega)) _ (by first | omega | (simp only [List.length_append, List.length_map, List.length_cons, List.length_nil, List.length_take, List.length_drop, List.length_set] <;> omega)) _ (St.begin (Γ := [_]) hS371)) rfl (after_M (Γ1 := [_]) hS371 (fun v370 G370 w370 hv370 hS370 => ?_))
              clear hS371
              obtain ⟨k370, ad370, cp370, rfl, rfl⟩ := hv370
              have hS372 : St _ _ [dk k370 ad370 cp370 (L1.take (pwN L1 z1 n1)) b (pwN L1 z1 n1), dk k306 da310 dc310 L1 b z1, wk k310 k306 ad310 cp310 rs310, .fz g310, .ow 3 1 ad319 rs310.length cp319 (iv (nums rs310)), .ow 3 1 ad259 rs.length cp259 (iv (nums rs)), .ow 23 1 aad aa.length acap (List.flatMap sb aa), .blk b2 (.cells #[.int .i64 n0, .int .i64 n1] 98)] _ := hS370; clear hS370
              refine hK _ _ ?_; clear hK K
              refine l_q rfl rfl (q_assignP rfl) ?_
              refine l_nil ?_
              refine hK369 _ _ ?_
              refine wp_seq_k (fun K373 hK373 => ?_)
              refine wp_region_lit ?_
              refine l_q rfl rfl (q_moveP rfl) ?_
              refine l_e rfl (fun K hK => ?_)
              have hsl374 := scan_le (L1.take (pwN L1 z1 n1)).length (L1.take (pwN L1 z1 n1)) b (Nat.le_refl _)
              have hS375 := hS372.fr3; clear hS372
              have hS376 := hS375.fr1; clear hS375
              refine e_call (by kernel_rfl) (wOpen_ok _ _ _ _ _ _ _ (Bytes.take hLB1) (by first | omega | (simp only [List.length_append, List.length_map, List.length_cons, List.length_nil, List.length_take, List.length_drop, List.length_set] <;> omega)) (by first | omega | (simp only [List.length_append, List.length_map, List.length_cons, List.length_nil, List.length_take, List.length_drop, List.length_set] <;> omega)) (by first | omega | (simp only [List.length_append, List.length_map, List.length_cons, List.length_nil, List.length_take, List.length_drop, List.length_set] <;> omega)) _ (St.begin (Γ := [_, _]) hS376)) rfl (after_M (Γ1 := [_, _]) hS376 (fun v374 G374 w374 hv374 hS374 => ?_))
              clear hS376
              obtain ⟨k374, ad374, cp374, rs374, da374, dc374, g374, rfl, rfl, hle374, hrs374, hab374⟩ := hv374
              have hS377 : St _ _ [wk k374 k370 ad374 cp374 rs374, dk k370 da374 dc374 ((L1.take (pwN L1 z1 n1)).take (scan (L1.take (pwN L1 z1 n1)) b).2) b ((scan (L1.take (pwN L1 z1 n1)) b).2), .fz g374, dk k306 da310 dc310 L1 b z1, wk k310 k306 ad310 cp310 rs310, .ow 3 1 ad319 rs310.length cp319 (iv (nums rs310)), .ow 3 1 ad259 rs.length cp259 (iv (nums rs)), .ow 23 1 aad aa.length acap (List.flatMap sb aa), .blk b2 (.cells #[.int .i64 n0, .int .i64 n1] 98)] _ := hS374; clear hS374
              have hR374_4 := RsOk.mono hrs310 hle374
              have hok374_7 := SbG.all hok310_6 hle374
              refine hK _ _ ?_; clear hK K
              refine l_q rfl rfl (q_move rfl) ?_
              obtain ⟨hK2, ⟨j2, hj2⟩, hkc2, hkn2, hkw2, hks2⟩ := hK1.step hIw (p := (pwN L1 z1 n1)) hF370.1 hF370.2 hab374
              obtain ⟨L2, hL2⟩ : ∃ L, L = ((L1.take (pwN L1 z1 n1)).take (scan (L1.take (pwN L1 z1 n1)) b).2) := ⟨_, rfl⟩
              obtain ⟨z2, hz2⟩ : ∃ z, z = (scan (L1.take (pwN L1 z1 n1)) b).2 := ⟨_, rfl⟩
              rw [← hL2, ← hz2] at hK2
              rw [← hL2] at hkw2
              rw [← hz2] at hks2
              have hLB2 : Bytes L2 := by rw [hL2]; exact (Bytes.take (Bytes.take hLB1))
              have hLl2 := hK2.len
              have hS378 : St _ _ [wk k374 k370 ad374 cp374 rs374, dk k370 da374 dc374 L2 b z2, .fz g374, dk k306 da310 dc310 L1 b z1, wk k310 k306 ad310 cp310 rs310, .ow 3 1 ad319 rs310.length cp319 (iv (nums rs310)), .ow 3 1 ad259 rs.length cp259 (iv (nums rs)), .ow 23 1 aad aa.length acap (List.flatMap sb aa), .blk b2 (.cells #[.int .i64 n0, .int .i64 n1] 98)] _ := hS377.cast (by rw [show L2 = ((L1.take (pwN L1 z1 n1)).take (scan (L1.take (pwN L1 z1 n1)) b).2) from hL2, show z2 = (scan (L1.take (pwN L1 z1 n1)) b).2 from hz2]); clear hS377
              refine l_q rfl rfl (q_extract rfl rfl) ?_
              refine l_q rfl rfl (q_extract rfl rfl) ?_
              refine l_q rfl rfl (q_assignP rfl) ?_
              refine l_q rfl rfl (q_assignI rfl) ?_
              refine l_nil ?_
              refine hK373 _ _ ?_
              refine wp_seq_k (fun K379 hK379 => ?_)
              refine wp_seq_k (fun K380 hK380 => ?_)
              refine wp_region_lit ?_
              refine l_q rfl rfl (q_moveI rfl) ?_
              refine l_q rfl rfl (q_neq rfl rfl) ?_
              refine l_q rfl rfl (q_moveB rfl) ?_
              refine l_on rfl rfl (by decide) ?_
              refine l_q rfl rfl (q_moveP rfl) ?_
              refine l_on rfl rfl (by decide) ?_
              refine l_q rfl rfl (q_peq rfl (by kernel_rfl)) ?_
              refine l_q rfl rfl (q_pickF rfl (by decide) rfl) ?_
              refine l_nil ?_
              refine hK380 _ _ ?_
              refine c_condF rfl rfl ?_
              refine wp_skip ?_
              refine hK379 _ _ ?_
              refine wp_seq_k (fun K382 hK382 => ?_)
              refine wp_region_lit ?_
              refine l_q rfl rfl (q_moveP rfl) ?_
              refine l_e rfl (fun K hK => ?_)
              refine e_call (by kernel_rfl) (wNumbers_ok _ _ _ _ _ (by first | omega | (simp only [List.length_append, List.length_map, List.length_cons, List.length_nil, List.length_take, List.length_drop, List.length_set] <;> omega)) _ (St.begin (Γ := [_]) hS378)) rfl (after_M (Γ1 := [_]) hS378 (fun v383 G383 w383 hv383 hS383 => ?_))
              clear hS378
              obtain ⟨ad383, cp383, rfl, rfl⟩ := hv383
              have hS384 : St _ _ [.ow 3 1 ad383 rs374.length cp383 (iv (nums rs374)), wk k374 k370 ad374 cp374 rs374, dk k370 da374 dc374 L2 b z2, .fz g374, dk k306 da310 dc310 L1 b z1, wk k310 k306 ad310 cp310 rs310, .ow 3 1 ad319 rs310.length cp319 (iv (nums rs310)), .ow 3 1 ad259 rs.length cp259 (iv (nums rs)), .ow 23 1 aad aa.length acap (List.flatMap sb aa), .blk b2 (.cells #[.int .i64 n0, .int .i64 n1] 98)] _ := hS383; clear hS383
              refine hK _ _ ?_; clear hK K
              refine l_q rfl rfl (q_assignS rfl) ?_
              have hnl2 := nums_len rs374
              have hnl := nums_len rs
              refine l_nil ?_
              refine hK382 _ _ ?_
              refine wp_seq_k (fun K385 hK385 => ?_)
              refine wp_seq_k (fun K386 hK386 => ?_)
              refine wp_region_lit ?_
              refine l_q rfl rfl (q_moveS rfl) ?_
              refine l_q rfl rfl (q_lenSl (e := 3) rfl (by kernel_rfl)) ?_
              refine l_q rfl rfl (q_moveI rfl) ?_
              refine l_q rfl rfl (q_lss rfl rfl) ?_
              refine l_q rfl rfl (q_moveB rfl) ?_
              refine l_on rfl rfl (decide_eq_false (by omega)) ?_
              refine l_q rfl rfl (q_moveS rfl) ?_
              refine l_on rfl rfl (decide_eq_false (by omega)) ?_
              refine l_q rfl rfl (q_lenSl (e := 3) rfl (by kernel_rfl)) ?_
              refine l_on rfl rfl (decide_eq_false (by omega)) ?_
              refine l_q rfl rfl (q_moveS rfl) ?_
              refine l_on rfl rfl (decide_eq_false (by omega)) ?_
              refine l_q rfl rfl (q_lenSl (e := 3) rfl (by kernel_rfl)) ?_
              refine l_on rfl rfl (decide_eq_false (by omega)) ?_
              refine l_q rfl rfl (q_gtr rfl rfl) ?_
              refine l_q rfl rfl (q_pickF rfl (decide_eq_false (by omega)) rfl) ?_
              refine l_q rfl rfl (q_moveB rfl) ?_
              refine l_on rfl rfl (decide_eq_false (by omega)) ?_
              refine l_q rfl rfl (q_moveP rfl) ?_
              refine l_on rfl rfl (decide_eq_false (by omega)) ?_
              refine l_e rfl (fun K hK => ?_)
              have hS390 := hS384.fr2; clear hS384
              have hS391 := hS390.fr2; clear hS390
              refine e_call (by kernel_rfl) (wSafe_ok _ _ _ _ _ _ _ _ _ _ (by first | omega | (simp only [List.length_append, List.length_map, List.length_cons, List.length_nil, List.length_take, List.length_drop, List.length_set] <;> omega)) hLB2 (by first | omega | (simp only [List.length_append, List.length_map, List.length_cons, List.length_nil, List.length_take, List.length_drop, List.length_set] <;> omega)) (by first | omega | (simp only [List.length_append, List.length_map, List.length_cons, List.length_nil, List.length_take, List.length_drop, List.length_set] <;> omega)) _ hrs374 _ (St.begin (Γ := [_, _]) hS391)) rfl (after_M (Γ1 := [_, _]) hS391 (fun v389 G389 w389 hv389 hS389 => ?_))
              clear hS391
              obtain ⟨rfl, rfl⟩ := hv389
              have hS392 : St _ _ [wk k374 k370 ad374 cp374 rs374, dk k370 da374 dc374 L2 b z2, .ow 3 1 ad383 rs374.length cp383 (iv (nums rs374)), .fz g374, dk k306 da310 dc310 L1 b z1, wk k310 k306 ad310 cp310 rs310, .ow 3 1 ad319 rs310.length cp319 (iv (nums rs310)), .ow 3 1 ad259 rs.length cp259 (iv (nums rs)), .ow 23 1 aad aa.length acap (List.flatMap sb aa), .blk b2 (.cells #[.int .i64 n0, .int .i64 n1] 98)] _ := hS389; clear hS389
              refine hK _ _ ?_; clear hK K
              refine l_on rfl rfl (decide_eq_false (by omega)) ?_
              refine l_q rfl rfl (q_moveS rfl) ?_
              refine l_on rfl rfl (decide_eq_false (by omega)) ?_
              refine l_q rfl rfl (q_lenSl (e := 3) rfl (by kernel_rfl)) ?_
              refine l_on rfl rfl (decide_eq_false (by omega)) ?_
              refine l_q rfl rfl (q_neq rfl rfl) ?_
              refine l_q rfl rfl (q_pickF rfl (decide_eq_false (by omega)) rfl) ?_
              refine l_nil ?_
              refine hK386 _ _ ?_
              refine c_condF rfl (decide_eq_false (by rw [hks2]; simp)) ?_
              refine wp_skip ?_
              refine hK385 _ _ ?_
              refine wp_seq_k (fun K394 hK394 => ?_)
              refine wp_region_lit ?_
              refine l_q rfl rfl (q_assignI rfl) ?_
              refine l_nil ?_
              refine hK394 _ _ ?_
              refine wp_block ?_
              have hS395 := hS392.fr9; clear hS392
              have hS396 := hS395.fr9; clear hS395
              have hS397 := hS396.fr9; clear hS396
              have hS398 := hS397.fr5; clear hS397
              have hS399 := hS398.fr6; clear hS398
              have hS400 := hS399.fr6; clear hS399
              have hS401 := hS400.fr6; clear hS400
              have hS402 : St _ _ [wk k374 k370 ad374 cp374 rs374, dk k370 da374 dc374 L2 b z2, .fz g374, .ow 3 1 ad383 rs374.length cp383 (iv (nums rs374)), .ow 3 1 ad259 rs.length cp259 (iv (nums rs)), .ow 23 1 aad aa.length acap (List.flatMap sb aa), .blk b2 (.cells #[.int .i64 n0, .int .i64 n1] 98)] _ := hS401.only 7; clear hS401
              refine c_loop (τ := Nat) [(4, 4), (20, 22), (145, 182)] (fun x => (fun (k : Nat) => [(20, .int .i64 ((k : Nat) : Int))]) x) (fun x w' => (fun (k : Nat) => St w (fun _ => False) [wk k374 k370 ad374 cp374 rs374, dk k370 da374 dc374 L2 b z2, .fz g374, .ow 3 1 ad383 rs374.length cp383 (iv (nums rs374)), .ow 3 1 ad259 rs.length cp259 (iv (nums rs)), .ow 23 1 aad aa.length acap (List.flatMap sb aa), .blk b2 (.cells #[.int .i64 n0, .int .i64 n1] 98)] w' ∧ k ≤ rs374.length) x) (fun x => (fun (k : Nat) => rs374.length - k) x) (0) ?_ (by repeat' (first | exact trivial | refine ⟨by first | rfl | exact int_succ _ | assumption, ?_⟩)) (fun k j403 w403 hJ403 K403 hK403 => ?_)
              ·
                exact ⟨hS402, Nat.zero_le _⟩
              ·
                obtain ⟨hS403, hk⟩ := hJ403
                try dsimp only at hS403 hk ⊢
                have hnl2 := nums_len rs374
                have hnl := nums_len rs
                refine wp_seq_k (fun K404 hK404 => ?_)
                refine wp_seq_k (fun K405 hK405 => ?_)
                refine wp_region_lit ?_
                refine l_q rfl rfl (q_moveI rfl) ?_
                refine l_q rfl rfl (q_moveS rfl) ?_
                refine l_q rfl rfl (q_lenSl (e := 3) rfl (by kernel_rfl)) ?_
                refine l_q rfl rfl (q_lss rfl rfl) ?_
                refine l_nil ?_
                refine hK405 _ _ ?_
                refine c_cond rfl (fun hc406 => ?_) (fun hc406 => ?_)
                ·
                  have hc406b := hc406
                  try simp only [decide_eq_true_eq, decide_eq_false_iff_not, Bool.not_eq_true', Bool.not_eq_false', Bool.and_eq_true, Bool.or_eq_true, Int.not_lt, Int.not_le, ne_eq, Decidable.not_not] at hc406
                  refine wp_skip ?_
                  refine hK404 _ _ ?_
                  refine wp_seq_k (fun K407 hK407 => ?_)
                  refine wp_block ?_
                  refine wp_seq_k (fun K408 hK408 => ?_)
                  refine wp_region_lit ?_
                  refine l_q rfl rfl (q_moveP rfl) ?_
                  refine l_q rfl rfl (q_moveS rfl) ?_
                  refine l_q rfl rfl (q_moveI rfl) ?_
                  refine l_q rfl rfl (q_ixG (e := 3) (m := 1) (j := k) rfl rfl (by kernel_rfl) (by kernel_rfl) (by first | rfl | omega) (by omega) (hS403.owG (i := 3) rfl) (by rw [iv_len]; first | omega | (simp only [List.length_append, List.length_map, List.length_cons, List.length_nil, List.length_take, List.length_drop, List.length_set] <;> omega))) ?_
                  obtain ⟨x409, hx409⟩ : ∃ x, ((nums rs374))[k]? = some x := ⟨_, List.getElem?_eq_getElem (by first | omega | (simp only [List.length_append, List.length_map, List.length_cons, List.length_nil, List.length_take, List.length_drop, List.length_set] <;> omega) | (simp <;> omega))⟩
                  refine l_q rfl rfl (q_load1 rfl (by kernel_rfl) (SlG.cell (hS403.owG (i := 3) rfl) (Gle.refl _) (at1 (iv_at hx409)))) ?_
                  refine l_e rfl (fun K hK => ?_)
                  have hS411 := hS403.fr2; clear hS403
                  have hS412 := hS411.fr1; clear hS411
                  refine e_call (by kernel_rfl) (wRead_ok _ _ _ _ _ _ (by first | omega | (simp only [List.length_append, List.length_map, List.length_cons, List.length_nil, List.length_take, List.length_drop, List.length_set] <;> omega)) hrs374 _ _ (St.begin (Γ := [_, _]) hS412)) rfl (after_M (Γ1 := [_, _]) hS412 (fun v410 G410 w410 hv410 hS410 => ?_))
                  clear hS412
                  obtain ⟨ad410, cp410, rfl, rfl⟩ := hv410
                  have hS413 : St _ _ [.ow 5 1 ad410 ((rdB (List.map Rc.abs rs374) x409).length) cp410 (bv (rdB (List.map Rc.abs rs374) x409)), wk k374 k370 ad374 cp374 rs374, .fz g374, dk k370 da374 dc374 L2 b z2, .ow 3 1 ad383 rs374.length cp383 (iv (nums rs374)), .ow 3 1 ad259 rs.length cp259 (iv (nums rs)), .ow 23 1 aad aa.length acap (List.flatMap sb aa), .blk b2 (.cells #[.int .i64 n0, .int .i64 n1] 98)] _ := hS410; clear hS410
                  refine hK _ _ ?_; clear hK K
                  obtain ⟨ra, hra, hrn⟩ := nums_at hx409
                  obtain ⟨hrE, hrB⟩ := play_rd hkw2 rfl hra
                  rw [hrn] at hrE hrB
                  obtain ⟨rb, hrb, hrbn, hrbb⟩ := keep_at hj2 hra
                  refine l_q rfl rfl (q_move rfl) ?_
                  refine l_q rfl rfl (q_extract rfl rfl) ?_
                  refine l_q rfl rfl (q_extract rfl rfl) ?_
                  refine l_q rfl rfl (q_assignS rfl) ?_
                  refine l_q rfl rfl (q_assignI rfl) ?_
                  refine l_nil ?_
                  refine hK408 _ _ ?_
                  refine wp_seq_k (fun K414 hK414 => ?_)
                  refine r_any (by kernel_rfl) hS413 (fun w415 hS415 => ?_)
                  clear hS413
                  refine o_pure (i := 0) (fun _ _ => trivial) rfl rfl (by kernel_rfl) (goes0 rfl) (QOk.then (QOk.inBlock (QOk.then (QOk.then (QOk.inBlock (QOk.inBlock (QOk.then (QOk.then (QOk.inBlock (QOk.then QOk.body)))))))))) (fun w => q_moveI rfl) ?_
                  refine o_pure (i := 1) (fun _ _ => trivial) rfl rfl (by kernel_rfl) (goes0 rfl) (QOk.then (QOk.inBlock (QOk.then (QOk.then (QOk.inBlock (QOk.inBlock (QOk.then (QOk.then (QOk.inBlock (QOk.then QOk.body)))))))))) (fun w => q_neq rfl rfl) ?_
                  refine o_pure (i := 2) (fun _ _ => trivial) rfl rfl (by kernel_rfl) (goes0 rfl) (QOk.then (QOk.inBlock (QOk.then (QOk.then (QOk.inBlock (QOk.inBlock (QOk.then (QOk.then (QOk.inBlock (QOk.then QOk.body)))))))))) (fun w => q_moveB rfl) ?_
                  refine o_pure (i := 3) (fun _ _ => trivial) rfl rfl (by kernel_rfl) (goes1 rfl rfl (decide_eq_false (by rw [hrE]; simp))) (QOk.then (QOk.inBlock (QOk.then (QOk.then (QOk.inBlock (QOk.inBlock (QOk.then (QOk.then (QOk.inBlock (QOk.then QOk.body)))))))))) (fun w => q_moveS rfl) ?_
                  refine o_pure (i := 4) (fun _ _ => trivial) rfl rfl (by kernel_rfl) (goes1 rfl rfl (decide_eq_false (by rw [hrE]; simp))) (QOk.then (QOk.inBlock (QOk.then (QOk.then (QOk.inBlock (QOk.inBlock (QOk.then (QOk.then (QOk.inBlock (QOk.then QOk.body)))))))))) (fun w => q_moveI rfl) ?_
                  refine o_pure (i := 5) (fun _ _ => trivial) rfl rfl (by kernel_rfl) (goes1 rfl rfl (decide_eq_false (by rw [hrE]; simp))) (QOk.then (QOk.inBlock (QOk.then (QOk.then (QOk.inBlock (QOk.inBlock (QOk.then (QOk.then (QOk.inBlock (QOk.then QOk.body)))))))))) (fun w => q_ixG (e := 3) (m := 1) (j := k) rfl rfl (by kernel_rfl) (by kernel_rfl) (by first | rfl | omega) (by omega) (hS415.owG (i := 4) rfl) (by rw [iv_len]; first | omega | (simp only [List.length_append, List.length_map, List.length_cons, List.length_nil, List.length_take, List.length_drop, List.length_set] <;> omega))) ?_
                  refine o_held (i := 6) [11, 12, 13, 14, 15, 16, 17, 18, 19, 20, 21, 22] (fun _ _ => trivial) rfl rfl (by kernel_rfl) (goes1 rfl rfl (decide_eq_false (by rw [hrE]; simp))) (QOk.then (QOk.inBlock (QOk.then (QOk.then (QOk.inBlock (QOk.inBlock (QOk.then (QOk.then (QOk.inBlock (QOk.then QOk.body)))))))))) (q_load1 rfl (by kernel_rfl) (SlG.cell (hS415.owG (i := 4) rfl) (Gle.refl _) (at1 (iv_at hx409)))) ?_
                  refine o_pure (i := 7) (fun j w => ⟨(fun _ _ => trivial) j w, fun _ h => h⟩) rfl rfl (by kernel_rfl) (goes1 rfl rfl (decide_eq_false (by rw [hrE]; simp))) (QOk.then (QOk.inBlock (QOk.then (QOk.then (QOk.inBlock (QOk.inBlock (QOk.then (QOk.then (QOk.inBlock (QOk.then QOk.body)))))))))) (fun w => q_moveS rfl) ?_
                  refine o_pure (i := 8) (fun j w => ⟨(fun _ _ => trivial) j w, fun _ h => h⟩) rfl rfl (by kernel_rfl) (goes1 rfl rfl (decide_eq_false (by rw [hrE]; simp))) (QOk.then (QOk.inBlock (QOk.then (QOk.then (QOk.inBlock (QOk.inBlock (QOk.then (QOk.then (QOk.inBlock (QOk.then QOk.body)))))))))) (fun w => q_moveI rfl) ?_
                  refine o_pure (i := 9) (fun j w => ⟨(fun _ _ => trivial) j w, fun _ h => h⟩) rfl rfl (by kernel_rfl) (goes1 rfl rfl (decide_eq_false (by rw [hrE]; simp))) (QOk.then (QOk.inBlock (QOk.then (QOk.then (QOk.inBlock (QOk.inBlock (QOk.then (QOk.then (QOk.inBlock (QOk.then QOk.body)))))))))) (fun w => q_ixG (e := 3) (m := 1) (j := k) rfl rfl (by kernel_rfl) (by kernel_rfl) (by first | rfl | omega) (by omega) (hS415.owG (i := 5) rfl) (by rw [iv_len]; first | omega | (simp only [List.length_append, List.length_map, List.length_cons, List.length_nil, List.length_take, List.length_drop, List.length_set] <;> omega))) ?_
                  obtain ⟨x417, hx417⟩ : ∃ x, ((nums rs))[k]? = some x := ⟨_, List.getElem?_eq_getElem (by first | omega | (simp only [List.length_append, List.length_map, List.length_cons, List.length_nil, List.length_take, List.length_drop, List.length_set] <;> omega) | (simp <;> omega))⟩
                  refine o_held (i := 10) [11, 12, 13, 14, 15, 16, 17, 18, 19, 20, 21, 22] (fun j w => ⟨(fun _ _ => trivial) j w, fun _ h => h⟩) rfl rfl (by kernel_rfl) (goes1 rfl rfl (decide_eq_false (by rw [hrE]; simp))) (QOk.then (QOk.inBlock (QOk.then (QOk.then (QOk.inBlock (QOk.inBlock (QOk.then (QOk.then (QOk.inBlock (QOk.then QOk.body)))))))))) (q_load1 rfl (by kernel_rfl) (SlG.cell (hS415.owG (i := 5) rfl) (Gle.refl _) (at1 (iv_at hx417)))) ?_
                  have hsn := num_at hx417 hrb
                  rw [hrbn, hrn] at hsn
                  refine o_pure (i := 11) (fun j w => ⟨(fun j w => ⟨(fun _ _ => trivial) j w, fun _ h => h⟩) j w, fun _ h => h⟩) rfl rfl (by kernel_rfl) (goes1 rfl rfl (decide_eq_false (by rw [hrE]; simp))) (QOk.then (QOk.inBlock (QOk.then (QOk.then (QOk.inBlock (QOk.inBlock (QOk.then (QOk.then (QOk.inBlock (QOk.then QOk.body)))))))))) (fun w => q_neq rfl rfl) ?_
                  refine o_pure (i := 12) (fun j w => ⟨(fun j w => ⟨(fun _ _ => trivial) j w, fun _ h => h⟩) j w, fun _ h => h⟩) rfl rfl (by kernel_rfl) (goes0 rfl) (QOk.then (QOk.inBlock (QOk.then (QOk.then (QOk.inBlock (QOk.inBlock (QOk.then (QOk.then (QOk.inBlock (QOk.then QOk.body)))))))))) (fun w => q_pickF rfl (decide_eq_false (by rw [hrE]; simp)) rfl) ?_
                  refine o_pure (i := 13) (fun j w => ⟨(fun j w => ⟨(fun _ _ => trivial) j w, fun _ h => h⟩) j w, fun _ h => h⟩) rfl rfl (by kernel_rfl) (goes0 rfl) (QOk.then (QOk.inBlock (QOk.then (QOk.then (QOk.inBlock (QOk.inBlock (QOk.then (QOk.then (QOk.inBlock (QOk.then QOk.body)))))))))) (fun w => q_moveB rfl) ?_
                  refine o_pure (i := 14) (fun j w => ⟨(fun j w => ⟨(fun _ _ => trivial) j w, fun _ h => h⟩) j w, fun _ h => h⟩) rfl rfl (by kernel_rfl) (goes1 rfl rfl (decide_eq_false (by rw [hsn]; simp))) (QOk.then (QOk.inBlock (QOk.then (QOk.then (QOk.inBlock (QOk.inBlock (QOk.then (QOk.then (QOk.inBlock (QOk.then QOk.body)))))))))) (fun w => q_moveS rfl) ?_
                  refine o_held (i := 15) [21, 22] (fun j w => ⟨(fun j w => ⟨(fun _ _ => trivial) j w, fun _ h => h⟩) j w, fun _ h => h⟩) rfl rfl (by kernel_rfl) (goes1 rfl rfl (decide_eq_false (by rw [hsn]; simp))) (QOk.then (QOk.inBlock (QOk.then (QOk.then (QOk.inBlock (QOk.inBlock (QOk.then (QOk.then (QOk.inBlock (QOk.then QOk.body)))))))))) (q_convBS (l := (rdB (List.map Rc.abs rs374) x409)) rfl (hS415.owG (i := 0) rfl) (by first | omega | (simp only [List.length_append, List.length_map, List.length_cons, List.length_nil, List.length_take, List.length_drop, List.length_set] <;> omega)) (by kernel_rfl) (by kernel_rfl)) ?_
                  refine o_pure (i := 16) (fun j w => ⟨(fun j w => ⟨(fun j w => ⟨(fun _ _ => trivial) j w, fun _ h => h⟩) j w, fun _ h => h⟩) j w, fun _ h => h⟩) rfl rfl (by kernel_rfl) (goes1 rfl rfl (decide_eq_false (by rw [hsn]; simp))) (QOk.then (QOk.inBlock (QOk.then (QOk.then (QOk.inBlock (QOk.inBlock (QOk.then (QOk.then (QOk.inBlock (QOk.then QOk.body)))))))))) (fun w => q_moveS rfl) ?_
                  refine o_pure (i := 17) (fun j w => ⟨(fun j w => ⟨(fun j w => ⟨(fun _ _ => trivial) j w, fun _ h => h⟩) j w, fun _ h => h⟩) j w, fun _ h => h⟩) rfl rfl (by kernel_rfl) (goes1 rfl rfl (decide_eq_false (by rw [hsn]; simp))) (QOk.then (QOk.inBlock (QOk.then (QOk.then (QOk.inBlock (QOk.inBlock (QOk.then (QOk.then (QOk.inBlock (QOk.then QOk.body)))))))))) (fun w => q_moveI rfl) ?_
                  refine o_pure (i := 18) (fun j w => ⟨(fun j w => ⟨(fun j w => ⟨(fun _ _ => trivial) j w, fun _ h => h⟩) j w, fun _ h => h⟩) j w, fun _ h => h⟩) rfl rfl (by kernel_rfl) (goes1 rfl rfl (decide_eq_false (by rw [hsn]; simp))) (QOk.then (QOk.inBlock (QOk.then (QOk.then (QOk.inBlock (QOk.inBlock (QOk.then (QOk.then (QOk.inBlock (QOk.then QOk.body)))))))))) (fun w => q_ixG (e := 23) (m := 1) (j := k) rfl rfl (by kernel_rfl) (by kernel_rfl) (by first | rfl | omega) (by omega) (hS415.owG (i := 6) rfl) (by rw [rows_len (c := sb) (m := 1) (fun _ => rfl)]; first | omega | (simp only [List.length_append, List.length_map, List.length_cons, List.length_nil, List.length_take, List.length_drop, List.length_set] <;> omega))) ?_
                  obtain ⟨x419, hx419⟩ : ∃ x, (aa)[k]? = some x := ⟨_, List.getElem?_eq_getElem (by first | omega | (simp only [List.length_append, List.length_map, List.length_cons, List.length_nil, List.length_take, List.length_drop, List.length_set] <;> omega) | (simp <;> omega))⟩
                  refine o_held (i := 19) [20, 21, 22] (fun j w => ⟨(fun j w => ⟨(fun j w => ⟨(fun _ _ => trivial) j w, fun _ h => h⟩) j w, fun _ h => h⟩) j w, fun _ h => h⟩) rfl rfl (by kernel_rfl) (goes1 rfl rfl (decide_eq_false (by rw [hsn]; simp))) (QOk.then (QOk.inBlock (QOk.then (QOk.then (QOk.inBlock (QOk.inBlock (QOk.then (QOk.then (QOk.inBlock (QOk.then QOk.body)))))))))) (q_load1 rfl (by kernel_rfl) (SlG.cell (hS415.owG (i := 6) rfl) (Gle.refl _) (row_at hx419 (c := sb) (m := 1) (fun _ => rfl) (j := 0) rfl))) ?_
                  have hsa := all_at hab9 hx419 hrb
                  rw [hrbb, ← hrB] at hsa
                  refine o_held (i := 20) [21, 22] (fun j w => ⟨(fun j w => ⟨(fun j w => ⟨(fun j w => ⟨(fun _ _ => trivial) j w, fun _ h => h⟩) j w, fun _ h => h⟩) j w, fun _ h => h⟩) j w, fun _ h => h⟩) rfl rfl (by kernel_rfl) (goes1 rfl rfl (decide_eq_false (by rw [hsn]; simp))) (QOk.then (QOk.inBlock (QOk.then (QOk.then (QOk.inBlock (QOk.inBlock (QOk.then (QOk.then (QOk.inBlock (QOk.then QOk.body)))))))))) (q_convBS (l := x419.b) rfl ((hok374_7 x419 (List.mem_of_getElem? hx419)).1.mono (hS415.fz (i := 2) rfl)) (by first | omega | (simp only [List.length_append, List.length_map, List.length_cons, List.length_nil, List.length_take, List.length_drop, List.length_set] <;> omega)) (by kernel_rfl) (by kernel_rfl)) ?_
                  refine o_pure (i := 21) (fun j w => ⟨(fun j w => ⟨(fun j w => ⟨(fun j w => ⟨(fun j w => ⟨(fun _ _ => trivial) j w, fun _ h => h⟩) j w, fun _ h => h⟩) j w, fun _ h => h⟩) j w, fun _ h => h⟩) j w, fun _ h => h⟩) rfl rfl (by kernel_rfl) (goes1 rfl rfl (decide_eq_false (by rw [hsn]; simp))) (QOk.then (QOk.inBlock (QOk.then (QOk.then (QOk.inBlock (QOk.inBlock (QOk.then (QOk.then (QOk.inBlock (QOk.then QOk.body)))))))))) (fun w => q_str_neq (l := (rdB (List.map Rc.abs rs374) x409)) (m := x419.b) rfl rfl (rdB_bytes hrs374 _) (hok374_7 x419 (List.mem_of_getElem? hx419)).2) ?_
                  refine o_pure (i := 22) (fun j w => ⟨(fun j w => ⟨(fun j w => ⟨(fun j w => ⟨(fun j w => ⟨(fun _ _ => trivial) j w, fun _ h => h⟩) j w, fun _ h => h⟩) j w, fun _ h => h⟩) j w, fun _ h => h⟩) j w, fun _ h => h⟩) rfl rfl (by kernel_rfl) (goes0 rfl) (QOk.then (QOk.inBlock (QOk.then (QOk.then (QOk.inBlock (QOk.inBlock (QOk.then (QOk.then (QOk.inBlock (QOk.then QOk.body)))))))))) (fun w => q_pickF rfl (decide_eq_false (by rw [hsn]; simp)) rfl) ?_
                  refine o_done (by kernel_rfl) ?_
                  refine hK414 _ _ ?_
                  refine c_condF rfl (by rw [hsa]; simp) ?_
                  refine wp_skip ?_
                  refine hK407 _ _ ?_
                  refine wp_region_lit ?_
                  refine l_q rfl rfl (q_moveI rfl) ?_
                  refine l_q rfl rfl (q_addx rfl rfl (by first | decide | omega) (by first | decide | omega)) ?_
                  refine l_q rfl rfl (q_assignI rfl) ?_
                  refine l_nil ?_
                  have hS421 := hS415.fr7; clear hS415
                  have hS422 := hS421.fr7; clear hS421
                  have hS423 := hS422.fr7; clear hS422
                  have hS424 := hS423.fr7; clear hS423
                  have hS425 := hS424.fr6; clear hS424
                  have hS426 := hS425.fr7; clear hS425
                  have hS427 := hS426.fr7; clear hS426
                  have hS428 : St _ _ [wk k374 k370 ad374 cp374 rs374, dk k370 da374 dc374 L2 b z2, .fz g374, .ow 3 1 ad383 rs374.length cp383 (iv (nums rs374)), .ow 3 1 ad259 rs.length cp259 (iv (nums rs)), .ow 23 1 aad aa.length acap (List.flatMap sb aa), .blk b2 (.cells #[.int .i64 n0, .int .i64 n1] 98)] _ := hS427.only 7; clear hS427
                  refine hK403 _ _ (came ((k + 1)) (by repeat' (first | exact Agree.refl _ _ | refine Agree.up ?_ rfl | refine Agree.hav2 ?_ rfl | refine Agree.ups2 ?_ rfl)) (by repeat' (first | exact trivial | refine ⟨by first | rfl | exact int_succ _ | assumption, ?_⟩)) ?_)
                  exact ⟨⟨hS428, (by show k + 1 ≤ rs374.length; omega)⟩, by (show rs374.length - (k + 1) < rs374.length - k); omega⟩
                ·
                  have hc406b := hc406
                  try simp only [decide_eq_true_eq, decide_eq_false_iff_not, Bool.not_eq_true', Bool.not_eq_false', Bool.and_eq_true, Bool.or_eq_true, Int.not_lt, Int.not_le, ne_eq, Decidable.not_not] at hc406
                  refine wp_exit ?_
                  refine hK368 _ _ ?_
                  refine wp_region_lit ?_
                  refine l_q rfl rfl (q_moveI rfl) ?_
                  refine l_q rfl rfl (q_addx rfl rfl (by first | decide | omega) (by first | decide | omega)) ?_
                  refine l_q rfl rfl (q_assignI rfl) ?_
                  refine l_nil ?_
                  refine c_round ?_
                  refine wp_seq_k (fun K429 hK429 => ?_)
                  refine wp_seq_k (fun K430 hK430 => ?_)
                  refine wp_region_lit ?_
                  refine l_q rfl rfl (q_moveI rfl) ?_
                  refine l_q rfl rfl (q_lss rfl rfl) ?_
                  refine l_nil ?_
                  refine hK430 _ _ ?_
                  refine c_condF rfl (by decide) ?_
                  refine wp_exit ?_
                  refine hK299 _ _ ?_
                  refine wp_seq_k (fun K432 hK432 => ?_)
                  refine wp_region_lit ?_
                  refine l_q rfl rfl (q_assignB rfl) ?_
                  refine l_nil ?_
                  refine hK432 _ _ ?_
                  refine wp_ret ?_
                  refine c_ret1 rfl rfl ?_
                  exact ⟨_, rfl, rfl, hS403.drop⟩

end Go.Proofs.Ytmbbkliekgiolaa
