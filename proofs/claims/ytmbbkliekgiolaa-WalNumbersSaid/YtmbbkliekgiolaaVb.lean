/- Both logs: what their functions keep; Same; a number that is spoken of. -/
import Derived.Test.YtmbbkliekgiolaaVa
set_option linter.unusedVariables false
set_option linter.unusedSimpArgs false
namespace Go.Proofs.Ytmbbkliekgiolaa
open Go.RowKit
theorem waL_bytes {l m : List Nat} (h : Bytes l) (h' : Bytes m) : Bytes (waL l m) := by
  unfold waL
  split
  · exact apL_bytes h (fr_bytes h')
  · exact h
theorem waL_len (l m : List Nat) : l.length ≤ (waL l m).length ∧ (waL l m).length ≤ l.length + m.length + 5 := by
  unfold waL
  split
  · have := apL_len l (fr m); rw [fr_len] at this; omega
  · omega
theorem rdB_bytes {g : Gh} {rs : List Rc} (h : RsOk g rs) (z : Int) : Bytes (rdB (rs.map Rc.abs) z) := by
  unfold rdB rdO
  cases hf : (rs.map Rc.abs).find? (fun r => decide (((r.1 : Nat) : Int) = z)) with
  | none => exact Bytes.nil
  | some r =>
    obtain ⟨q, hq, rfl⟩ := List.mem_map.1 (List.mem_of_find?_eq_some hf)
    exact (h q hq).2.1
theorem tr_fit (rs : List Rc) (l : List Nat) (b s : Nat) (z : Int) (hs : s ≤ l.length) : trS rs l b s z ≤ (trL rs l b s z).length ∧ trB rs l b s z + (trL rs l b s z).length = b + l.length := by
  unfold trS trL trB
  split
  · exact ⟨hs, rfl⟩
  · exact dr_fit z hs
theorem trL_bytes (rs : List Rc) {l : List Nat} (h : Bytes l) (b s : Nat) (z : Int) : Bytes (trL rs l b s z) := by
  unfold trL
  split
  · exact h
  · exact drL_bytes h _ _ _
theorem trR_ok {g : Gh} {rs : List Rc} (h : RsOk g rs) (l : List Nat) (b s : Nat) (z : Int) : RsOk g (trR rs l b s z) := by
  unfold trR
  split
  · exact h
  · exact h.drop
/-- Are two logs' numbers one? -/
def sameB (rs rs' : List Rc) : Bool := decide (rs.map (·.n) = rs'.map (·.n))
theorem same_len {rs rs' : List Rc} (h : rs.length ≠ rs'.length) : sameB rs rs' = false := decide_eq_false fun e => h (by have := congrArg List.length e; simpa using this)
theorem same_at {rs rs' : List Rc} {i : Nat} {r r' : Rc} (h : rs[i]? = some r) (h' : rs'[i]? = some r') (hn : r.n ≠ r'.n) : sameB rs rs' = false := decide_eq_false fun e => hn (by
  have h1 : (rs.map (·.n))[i]? = some r.n := by rw [List.getElem?_map, h]; rfl
  rw [e, List.getElem?_map, h'] at h1
  simpa using h1.symm)
theorem same_all {rs rs' : List Rc} (hl : rs.length = rs'.length) (h : ∀ j, j < rs'.length → ∀ r r', rs[j]? = some r → rs'[j]? = some r' → r.n = r'.n) : sameB rs rs' = true := decide_eq_true (by
  apply List.ext_getElem?
  intro j
  rw [List.getElem?_map, List.getElem?_map]
  by_cases hj : j < rs'.length
  · rw [List.getElem?_eq_getElem hj, List.getElem?_eq_getElem (by omega)]
    simp only [Option.map_some]
    rw [h j hj _ _ (List.getElem?_eq_getElem (by omega)) (List.getElem?_eq_getElem hj)]
  · rw [List.getElem?_eq_none (by omega), List.getElem?_eq_none (by omega)])
/-- The number of a record that is spoken of, or the end. -/
def numN (L : List Int) (e z : Int) : Int := L.getD (pickN z (L.length + 1)) e
theorem nums_at {rs : List Rc} {i : Nat} {x : Int} (h : (nums rs)[i]? = some x) : ∃ r, rs[i]? = some r ∧ ((r.n : Nat) : Int) = x := by
  unfold nums at h
  rw [List.getElem?_map] at h
  cases hr : rs[i]? with
  | none => rw [hr] at h; cases h
  | some r => rw [hr] at h; exact ⟨r, rfl, by simpa using h⟩
attribute [local irreducible] Oper.wp Sem.run Code.wp wpList wpAnyO callFunc execOp Calls
attribute [local irreducible] pickN

set_option maxRecDepth 100000 in
theorem number_ok (L : List Int) (m : Nat) (e z : Int) (hm : L.length = m) (hb : m ≤ 1000000) (hz : -9223372036854775808 ≤ z) (ad : Option Addr) (cap : Nat) (w : World) (hG : SlG (hw w) ad (iv L)) : Calls Try.prog 50 #[.slice ad m cap, .int .i64 e, .int .i64 z] w (PostR w fun v => v = .int .i64 (numN L e z)) := by
  have hS := St.start w
  subst hm
  refine c_enter Try.func50 rfl rfl rfl ?_
  refine wp_seq_k (fun K1 hK1 => ?_)
  refine wp_region_lit ?_
  refine l_q rfl rfl (q_assignI rfl) ?_
  refine l_nil ?_
  refine hK1 _ _ ?_
  refine wp_seq_k (fun K2 hK2 => ?_)
  refine wp_region_lit ?_
  refine l_q rfl rfl (q_moveI rfl) ?_
  refine l_q rfl rfl (q_moveS rfl) ?_
  refine l_q rfl rfl (q_lenSl (e := 3) rfl (by kernel_rfl)) ?_
  refine l_q rfl rfl (q_addx rfl rfl (by first | decide | omega) (by first | decide | omega)) ?_
  refine l_e rfl (fun K hK => ?_)
  refine e_callA (by kernel_rfl) (pickR_ok z (L.length + 1) (by omega) (by omega) _) (show _ = [.int .i64 z, .int .i64 (((L.length : Nat) : Int) + (1 : Int))] from rfl) (by rw [show (((L.length + 1) : Nat) : Int) = (((L.length : Nat) : Int) + (1 : Int)) from by omega]) (after_R hS (fun v3 w3 hv3 hS3 => ?_))
  clear hS
  obtain rfl := hv3
  refine hK _ _ ?_; clear hK K
  have hpl := pickN_lt z (n := L.length + 1) (by omega)
  refine l_q rfl rfl (q_assignI rfl) ?_
  refine l_nil ?_
  refine hK2 _ _ ?_
  refine wp_seq_k (fun K4 hK4 => ?_)
  refine wp_seq_k (fun K5 hK5 => ?_)
  refine wp_region_lit ?_
  refine l_q rfl rfl (q_moveI rfl) ?_
  refine l_q rfl rfl (q_moveS rfl) ?_
  refine l_q rfl rfl (q_lenSl (e := 3) rfl (by kernel_rfl)) ?_
  refine l_q rfl rfl (q_eql rfl rfl) ?_
  refine l_nil ?_
  refine hK5 _ _ ?_
  refine c_cond rfl (fun hc6 => ?_) (fun hc6 => ?_)
  ·
    have hc6b := hc6
    try simp only [decide_eq_true_eq, decide_eq_false_iff_not, Bool.not_eq_true', Bool.not_eq_false', Bool.and_eq_true, Bool.or_eq_true, Int.not_lt, Int.not_le, ne_eq, Decidable.not_not] at hc6
    have hx : numN L e z = e := by unfold numN; rw [List.getD_eq_getElem?_getD, List.getElem?_eq_none (by omega)]; rfl
    refine wp_seq_k (fun K7 hK7 => ?_)
    refine wp_region_lit ?_
    refine l_q rfl rfl (q_moveI rfl) ?_
    refine l_q rfl rfl (q_assignI rfl) ?_
    refine l_nil ?_
    refine hK7 _ _ ?_
    refine wp_ret ?_
    refine c_ret1 rfl rfl ?_
    exact ⟨_, rfl, congrArg (Value.int .i64) hx.symm, hS3.drop⟩
  ·
    have hc6b := hc6
    try simp only [decide_eq_true_eq, decide_eq_false_iff_not, Bool.not_eq_true', Bool.not_eq_false', Bool.and_eq_true, Bool.or_eq_true, Int.not_lt, Int.not_le, ne_eq, Decidable.not_not] at hc6
    refine wp_skip ?_
    refine hK4 _ _ ?_
    refine wp_seq_k (fun K8 hK8 => ?_)
    refine wp_region_lit ?_
    refine l_q rfl rfl (q_moveS rfl) ?_
    refine l_q rfl rfl (q_moveI rfl) ?_
    refine l_q rfl rfl (q_ixG (e := 3) (m := 1) (j := (pickN z (L.length + 1))) rfl rfl (by kernel_rfl) (by kernel_rfl) (by first | rfl | omega) (by omega) hG (by rw [iv_len]; first | omega | (simp only [List.length_append, List.length_map, List.length_cons, List.length_nil, List.length_take, List.length_drop, List.length_set] <;> omega))) ?_
    obtain ⟨x9, hx9⟩ : ∃ x, (L)[(pickN z (L.length + 1))]? = some x := ⟨_, List.getElem?_eq_getElem (by first | omega | (simp only [List.length_append, List.length_map, List.length_cons, List.length_nil, List.length_take, List.length_drop, List.length_set] <;> omega) | (simp <;> omega))⟩
    refine l_q rfl rfl (q_load1 rfl (by kernel_rfl) (SlG.cell (hG.mono hS3.base) (Gle.refl _) (at1 (iv_at hx9)))) ?_
    have hx : numN L e z = x9 := by unfold numN; rw [List.getD_eq_getElem?_getD, hx9]; rfl
    refine l_q rfl rfl (q_assignI rfl) ?_
    refine l_nil ?_
    refine hK8 _ _ ?_
    refine wp_ret ?_
    refine c_ret1 rfl rfl ?_
    exact ⟨_, rfl, congrArg (Value.int .i64) hx.symm, hS3.drop⟩

set_option maxRecDepth 100000 in
theorem same_ok (rs rs2 : List Rc) (m m2 : Nat) (hm : rs.length = m) (hm2 : rs2.length = m2) (hb : m + m2 ≤ 2000000) (ad ad2 : Option Addr) (cap cap2 : Nat) (w : World) (hG : SlG (hw w) ad (iv (nums rs))) (hG2 : SlG (hw w) ad2 (List.flatMap rc rs2)) : Calls Try.prog 55 #[.slice ad m cap, .slice ad2 m2 cap2] w (PostR w fun v => v = .bool (sameB rs rs2)) := by
  have hS := St.start w
  subst hm hm2
  refine c_enter Try.func55 rfl rfl rfl ?_
  refine wp_seq_k (fun K1 hK1 => ?_)
  refine wp_region_lit ?_
  refine l_q rfl rfl (q_assignB rfl) ?_
  refine l_nil ?_
  refine hK1 _ _ ?_
  refine wp_seq_k (fun K2 hK2 => ?_)
  refine wp_seq_k (fun K3 hK3 => ?_)
  refine wp_region_lit ?_
  refine l_q rfl rfl (q_moveS rfl) ?_
  refine l_q rfl rfl (q_lenSl (e := 3) rfl (by kernel_rfl)) ?_
  refine l_q rfl rfl (q_moveS rfl) ?_
  refine l_q rfl rfl (q_lenSl (e := 96) rfl (by kernel_rfl)) ?_
  refine l_q rfl rfl (q_neq rfl rfl) ?_
  refine l_nil ?_
  refine hK3 _ _ ?_
  refine c_cond rfl (fun hc4 => ?_) (fun hc4 => ?_)
  ·
    have hc4b := hc4
    try simp only [decide_eq_true_eq, decide_eq_false_iff_not, Bool.not_eq_true', Bool.not_eq_false', Bool.and_eq_true, Bool.or_eq_true, Int.not_lt, Int.not_le, ne_eq, Decidable.not_not] at hc4
    have hx := same_len (rs := rs) (rs' := rs2) (by omega)
    refine wp_seq_k (fun K5 hK5 => ?_)
    refine wp_region_lit ?_
    refine l_q rfl rfl (q_assignB rfl) ?_
    refine l_nil ?_
    refine hK5 _ _ ?_
    refine wp_ret ?_
    refine c_ret1 rfl rfl ?_
    exact ⟨_, rfl, congrArg Value.bool hx.symm, hS.drop⟩
  ·
    have hc4b := hc4
    try simp only [decide_eq_true_eq, decide_eq_false_iff_not, Bool.not_eq_true', Bool.not_eq_false', Bool.and_eq_true, Bool.or_eq_true, Int.not_lt, Int.not_le, ne_eq, Decidable.not_not] at hc4
    have hll : rs.length = rs2.length := by omega
    refine wp_skip ?_
    refine hK2 _ _ ?_
    refine wp_seq_k (fun K6 hK6 => ?_)
    refine wp_seq_k (fun K7 hK7 => ?_)
    refine wp_region_lit ?_
    refine l_q rfl rfl (q_assignI rfl) ?_
    refine l_nil ?_
    refine hK7 _ _ ?_
    refine wp_block ?_
    refine c_loop (τ := Nat) [(4, 5), (11, 26)] (fun x => (fun (i : Nat) => [(5, .int .i64 ((i : Nat) : Int))]) x) (fun x w' => (fun (i : Nat) => St w (fun _ => False) [] w' ∧ i ≤ rs2.length ∧ ∀ j, j < i → ∀ r r', rs[j]? = some r → rs2[j]? = some r' → r.n = r'.n) x) (fun x => (fun (i : Nat) => rs2.length - i) x) (0) ?_ (by repeat' (first | exact trivial | refine ⟨by first | rfl | exact int_succ _ | assumption, ?_⟩)) (fun i j8 w8 hJ8 K8 hK8 => ?_)
    ·
      exact ⟨hS, Nat.zero_le _, fun j hj => by omega⟩
    ·
      obtain ⟨hS8, hi, hj⟩ := hJ8
      try dsimp only at hS8 hi hj ⊢
      refine wp_seq_k (fun K9 hK9 => ?_)
      refine wp_seq_k (fun K10 hK10 => ?_)
      refine wp_region_lit ?_
      refine l_q rfl rfl (q_moveI rfl) ?_
      refine l_q rfl rfl (q_moveS rfl) ?_
      refine l_q rfl rfl (q_lenSl (e := 96) rfl (by kernel_rfl)) ?_
      refine l_q rfl rfl (q_lss rfl rfl) ?_
      refine l_nil ?_
      refine hK10 _ _ ?_
      refine c_cond rfl (fun hc11 => ?_) (fun hc11 => ?_)
      ·
        have hc11b := hc11
        try simp only [decide_eq_true_eq, decide_eq_false_iff_not, Bool.not_eq_true', Bool.not_eq_false', Bool.and_eq_true, Bool.or_eq_true, Int.not_lt, Int.not_le, ne_eq, Decidable.not_not] at hc11
        refine wp_skip ?_
        refine hK9 _ _ ?_
        refine wp_seq_k (fun K12 hK12 => ?_)
        refine wp_block ?_
        refine wp_seq_k (fun K13 hK13 => ?_)
        refine r_any (by kernel_rfl) hS8 (fun w14 hS14 => ?_)
        clear hS8
        refine o_pure (i := 0) (fun _ _ => trivial) rfl rfl (by kernel_rfl) (goes0 rfl) (QOk.then (QOk.inBlock (QOk.then (QOk.then (QOk.inBlock (QOk.then QOk.body)))))) (fun w => q_moveS rfl) ?_
        refine o_pure (i := 1) (fun _ _ => trivial) rfl rfl (by kernel_rfl) (goes0 rfl) (QOk.then (QOk.inBlock (QOk.then (QOk.then (QOk.inBlock (QOk.then QOk.body)))))) (fun w => q_moveI rfl) ?_
        refine o_pure (i := 2) (fun _ _ => trivial) rfl rfl (by kernel_rfl) (goes0 rfl) (QOk.then (QOk.inBlock (QOk.then (QOk.then (QOk.inBlock (QOk.then QOk.body)))))) (fun w => q_ixG (e := 3) (m := 1) (j := i) rfl rfl (by kernel_rfl) (by kernel_rfl) (by first | rfl | omega) (by omega) hG (by first | (rw [iv_len, nums_len]; omega) | (rw [rows_len (c := rc) (m := 2) (fun _ => rfl)]; omega))) ?_
        obtain ⟨x15, hx15⟩ : ∃ x, ((nums rs))[i]? = some x := ⟨_, List.getElem?_eq_getElem (by first | omega | (rw [nums_len]; omega) | (simp <;> omega))⟩
        refine o_held (i := 3) [9] (fun _ _ => trivial) rfl rfl (by kernel_rfl) (goes0 rfl) (QOk.then (QOk.inBlock (QOk.then (QOk.then (QOk.inBlock (QOk.then QOk.body)))))) (q_load1 rfl (by kernel_rfl) (SlG.cell (hG.mono hS14.base) (Gle.refl _) (at1 (iv_at hx15)))) ?_
        refine o_pure (i := 4) (fun j w => ⟨(fun _ _ => trivial) j w, fun _ h => h⟩) rfl rfl (by kernel_rfl) (goes0 rfl) (QOk.then (QOk.inBlock (QOk.then (QOk.then (QOk.inBlock (QOk.then QOk.body)))))) (fun w => q_moveS rfl) ?_
        refine o_pure (i := 5) (fun j w => ⟨(fun _ _ => trivial) j w, fun _ h => h⟩) rfl rfl (by kernel_rfl) (goes0 rfl) (QOk.then (QOk.inBlock (QOk.then (QOk.then (QOk.inBlock (QOk.then QOk.body)))))) (fun w => q_moveI rfl) ?_
        refine o_pure (i := 6) (fun j w => ⟨(fun _ _ => trivial) j w, fun _ h => h⟩) rfl rfl (by kernel_rfl) (goes0 rfl) (QOk.then (QOk.inBlock (QOk.then (QOk.then (QOk.inBlock (QOk.then QOk.body)))))) (fun w => q_ixG (e := 96) (m := 2) (j := i) rfl rfl (by kernel_rfl) (by kernel_rfl) (by first | rfl | omega) (by omega) hG2 (by first | (rw [iv_len, nums_len]; omega) | (rw [rows_len (c := rc) (m := 2) (fun _ => rfl)]; omega))) ?_
        refine o_pure (i := 7) (fun j w => ⟨(fun _ _ => trivial) j w, fun _ h => h⟩) rfl rfl (by kernel_rfl) (goes0 rfl) (QOk.then (QOk.inBlock (QOk.then (QOk.then (QOk.inBlock (QOk.then QOk.body)))))) (fun w => q_fieldG (ft := 3) (o := 0) rfl (by kernel_rfl)) ?_
        obtain ⟨x16, hx16⟩ : ∃ x, (rs2)[i]? = some x := ⟨_, List.getElem?_eq_getElem (by first | omega | (rw [nums_len]; omega) | (simp <;> omega))⟩
        refine o_held (i := 8) [9] (fun j w => ⟨(fun _ _ => trivial) j w, fun _ h => h⟩) rfl rfl (by kernel_rfl) (goes0 rfl) (QOk.then (QOk.inBlock (QOk.then (QOk.then (QOk.inBlock (QOk.then QOk.body)))))) (q_load1 rfl (by kernel_rfl) (SlG.cell (hG2.mono hS14.base) (Gle.refl _) (row_at hx16 (c := rc) (m := 2) (fun _ => rfl) (j := 0) rfl))) ?_
        obtain ⟨ra, hra, hrn⟩ := nums_at hx15
        refine o_pure (i := 9) (fun j w => ⟨(fun j w => ⟨(fun _ _ => trivial) j w, fun _ h => h⟩) j w, fun _ h => h⟩) rfl rfl (by kernel_rfl) (goes0 rfl) (QOk.then (QOk.inBlock (QOk.then (QOk.then (QOk.inBlock (QOk.then QOk.body)))))) (fun w => q_neq rfl rfl) ?_
        refine o_done (by kernel_rfl) ?_
        refine hK13 _ _ ?_
        refine c_cond rfl (fun hc17 => ?_) (fun hc17 => ?_)
        ·
          have hc17b := hc17
          try simp only [decide_eq_true_eq, decide_eq_false_iff_not, Bool.not_eq_true', Bool.not_eq_false', Bool.and_eq_true, Bool.or_eq_true, Int.not_lt, Int.not_le, ne_eq, Decidable.not_not] at hc17
          have hx := same_at hra hx16 (by omega)
          refine wp_seq_k (fun K18 hK18 => ?_)
          refine wp_region_lit ?_
          refine l_q rfl rfl (q_assignB rfl) ?_
          refine l_nil ?_
          refine hK18 _ _ ?_
          refine wp_ret ?_
          refine c_ret1 rfl rfl ?_
          exact ⟨_, rfl, congrArg Value.bool hx.symm, hS14.drop⟩
        ·
          have hc17b := hc17
          try simp only [decide_eq_true_eq, decide_eq_false_iff_not, Bool.not_eq_true', Bool.not_eq_false', Bool.and_eq_true, Bool.or_eq_true, Int.not_lt, Int.not_le, ne_eq, Decidable.not_not] at hc17
          refine wp_skip ?_
          refine hK12 _ _ ?_
          refine wp_region_lit ?_
          refine l_q rfl rfl (q_moveI rfl) ?_
          refine l_q rfl rfl (q_addx rfl rfl (by first | decide | omega) (by first | decide | omega)) ?_
          refine l_q rfl rfl (q_assignI rfl) ?_
          refine l_nil ?_
          refine hK8 _ _ (came ((i + 1)) (by repeat' (first | exact Agree.refl _ _ | refine Agree.up ?_ rfl | refine Agree.hav2 ?_ rfl | refine Agree.ups2 ?_ rfl)) (by repeat' (first | exact trivial | refine ⟨by first | rfl | exact int_succ _ | assumption, ?_⟩)) ?_)
          exact ⟨⟨hS14, by (show i + 1 ≤ rs2.length); omega, fun j hj' r r' hr hr' => by
                have hj' : j < i + 1 := hj'
                by_cases hji : j = i
                · subst hji; rw [hra] at hr; rw [hx16] at hr'; injection hr with hr; injection hr' with hr'; subst hr hr'; omega
                · exact hj j (by omega) r r' hr hr'⟩, by (show rs2.length - (i + 1) < rs2.length - i); omega⟩
      ·
        have hc11b := hc11
        try simp only [decide_eq_true_eq, decide_eq_false_iff_not, Bool.not_eq_true', Bool.not_eq_false', Bool.and_eq_true, Bool.or_eq_true, Int.not_lt, Int.not_le, ne_eq, Decidable.not_not] at hc11
        refine wp_exit ?_
        refine hK6 _ _ ?_
        refine wp_seq_k (fun K19 hK19 => ?_)
        refine wp_region_lit ?_
        refine l_q rfl rfl (q_assignB rfl) ?_
        refine l_nil ?_
        refine hK19 _ _ ?_
        refine wp_ret ?_
        refine c_ret1 rfl rfl ?_
        exact ⟨_, rfl, congrArg Value.bool (same_all hll (fun j hj' => hj j (by omega))).symm, hS8.drop⟩

end Go.Proofs.Ytmbbkliekgiolaa
