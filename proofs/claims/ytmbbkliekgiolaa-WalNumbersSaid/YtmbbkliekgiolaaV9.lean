/- The document's log (ref07). -/
import Derived.Test.YtmbbkliekgiolaaV8
set_option linter.unusedVariables false
set_option linter.unusedSimpArgs false
namespace Go.Proofs.Ytmbbkliekgiolaa
open Go.RowKit
theorem bytes_mid {p l q : List Nat} (h : Bytes (p ++ l ++ q)) : Bytes l := fun x hx => h x (List.mem_append_left _ (List.mem_append_right _ hx))
theorem bytes_pw {p l q : List Nat} {n : Nat} (h : Bytes (p ++ l ++ q)) : Bytes (p ++ l.take n ++ []) := by
  rw [List.append_nil]
  exact fun x hx => (List.mem_append.1 hx).elim (fun h' => h x (List.mem_append_left _ (List.mem_append_left _ h'))) (fun h' => h x (List.mem_append_left _ (List.mem_append_right _ (List.mem_of_mem_take h'))))
abbrev vO (kd : Nat) (ad : Option Addr) (m cap : Nat) : Obj := .cells #[.pointer (some ⟨kd, 0, none⟩), .slice ad m cap] 94
def vk (k kd : Nat) (ad : Option Addr) (cap : Nat) (rs : List Rc) : Ch := .pk [.blk k (vO kd ad rs.length cap), .ow 96 2 ad rs.length cap (List.flatMap rc rs)]
section
variable {w0 w : World} {D : Nat → Prop} {Γ : List Ch} {k kd cap : Nat} {ad : Option Addr} {rs : List Rc}
theorem vk_open (h : St w0 D (vk k kd ad cap rs :: Γ) w) : St w0 D (.blk k (vO kd ad rs.length cap) :: .ow 96 2 ad rs.length cap (List.flatMap rc rs) :: Γ) w := h.unpk
theorem vk_close (h : St w0 D (.blk k (vO kd ad rs.length cap) :: .ow 96 2 ad rs.length cap (List.flatMap rc rs) :: Γ) w) : St w0 D (vk k kd ad cap rs :: Γ) w := h.pk
end
/-- Where the document's Trim looks. -/
def triR (rs : List Rc) (e : Nat) (z : Int) : Int := if fIdx rs z < 0 ∧ z = (e : Int) then (rs.length : Int) else fIdx rs z
theorem triR_lt (rs : List Rc) (e : Nat) (z : Int) : -1 ≤ triR rs e z ∧ triR rs e z ≤ rs.length := by
  have := fIdx_lt (rs := rs) (z := z)
  unfold triR; split <;> omega
attribute [local irreducible] Oper.wp Sem.run Code.wp wpList wpAnyO callFunc execOp Calls
attribute [local irreducible] tri triR fIdx drE drL drB drS ctL ctS apE apN apL fr scan

set_option maxRecDepth 100000 in
theorem vfind_ok (k kd : Nat) (ad : Option Addr) (cap : Nat) (rs : List Rc) (z : Int) (hn : rs.length ≤ 1000000) (w : World) (hS : St w (owns [vk k kd ad cap rs]) [vk k kd ad cap rs] w) : Calls Try.prog 58 #[pV k, .int .i64 z] w (Post w [vk k kd ad cap rs] fun v G => v = .int .i64 (fIdx rs z) ∧ G = [vk k kd ad cap rs]) := by
  refine c_enter Try.func58 rfl rfl rfl ?_
  refine wp_seq_k (fun K1 hK1 => ?_)
  have hS2 := vk_open hS; clear hS
  refine wp_region_lit ?_
  refine l_q rfl rfl (q_assignI rfl) ?_
  refine l_nil ?_
  refine hK1 _ _ ?_
  refine wp_seq_k (fun K3 hK3 => ?_)
  refine wp_seq_k (fun K4 hK4 => ?_)
  refine wp_region_lit ?_
  refine l_q rfl rfl (q_assignI rfl) ?_
  refine l_nil ?_
  refine hK4 _ _ ?_
  refine wp_block ?_
  refine c_loop (τ := Nat) [(4, 25)] (fun x => (fun (i : Nat) => [(5, .int .i64 ((i : Nat) : Int))]) x) (fun x w' => (fun (i : Nat) => St w (owns [vk k kd ad cap rs]) [.blk k (.cells #[.pointer (some ⟨kd, 0, none⟩), .slice ad rs.length cap] 94), .ow 96 2 ad rs.length cap (List.flatMap rc rs)] w' ∧ i ≤ rs.length ∧ ∀ j, j < i → ∀ q, rs[j]? = some q → ((q.n : Nat) : Int) ≠ z) x) (fun x => (fun (i : Nat) => rs.length - i) x) (0) ?_ (by repeat' (first | exact trivial | refine ⟨by first | rfl | exact int_succ _ | assumption, ?_⟩)) (fun i j5 w5 hJ5 K5 hK5 => ?_)
  ·
    exact ⟨hS2, Nat.zero_le _, fun j hj => by omega⟩
  ·
    obtain ⟨hS5, hi, hj⟩ := hJ5
    try dsimp only at hS5 hi hj ⊢
    refine wp_seq_k (fun K6 hK6 => ?_)
    refine wp_seq_k (fun K7 hK7 => ?_)
    refine wp_region_lit ?_
    refine l_q rfl rfl (q_moveI rfl) ?_
    refine l_q rfl rfl (q_moveP rfl) ?_
    refine l_q rfl rfl (q_nilCheck rfl) ?_
    refine l_q rfl rfl (q_fieldAddr (ft := 92) (o := 1) rfl (by kernel_rfl)) ?_
    refine l_q rfl rfl (q_load1 rfl (by kernel_rfl) (hS5.cell (i := 0) rfl rfl)) ?_
    refine l_q rfl rfl (q_lenSl (e := 96) rfl (by kernel_rfl)) ?_
    refine l_q rfl rfl (q_lss rfl rfl) ?_
    refine l_nil ?_
    refine hK7 _ _ ?_
    refine c_cond rfl (fun hc8 => ?_) (fun hc8 => ?_)
    ·
      have hc8b := hc8
      try simp only [decide_eq_true_eq, decide_eq_false_iff_not, Bool.not_eq_true', Bool.not_eq_false', Bool.and_eq_true, Bool.or_eq_true, Int.not_lt, Int.not_le, ne_eq, Decidable.not_not] at hc8
      refine wp_skip ?_
      refine hK6 _ _ ?_
      refine wp_seq_k (fun K9 hK9 => ?_)
      refine wp_block ?_
      refine wp_seq_k (fun K10 hK10 => ?_)
      refine wp_region_lit ?_
      refine l_q rfl rfl (q_moveP rfl) ?_
      refine l_q rfl rfl (q_nilCheck rfl) ?_
      refine l_q rfl rfl (q_fieldAddr (ft := 92) (o := 1) rfl (by kernel_rfl)) ?_
      refine l_q rfl rfl (q_load1 rfl (by kernel_rfl) (hS5.cell (i := 0) rfl rfl)) ?_
      refine l_q rfl rfl (q_moveI rfl) ?_
      refine l_q rfl rfl (q_ixG (e := 96) (m := 2) (j := i) rfl rfl (by kernel_rfl) (by kernel_rfl) (by first | rfl | omega) (by omega) (hS5.owG (i := 1) rfl) (by rw [rows_len (c := rc) (m := 2) (fun _ => rfl)]; first | omega | (simp only [List.length_append, List.length_map, List.length_cons, List.length_nil, List.length_take, List.length_drop, List.length_set] <;> omega))) ?_
      refine l_q rfl rfl (q_fieldG (ft := 3) (o := 0) rfl (by kernel_rfl)) ?_
      obtain ⟨x11, hx11⟩ : ∃ x, (rs)[i]? = some x := ⟨_, List.getElem?_eq_getElem (by first | omega | (simp only [List.length_append, List.length_map, List.length_cons, List.length_nil, List.length_take, List.length_drop, List.length_set] <;> omega) | (simp <;> omega))⟩
      refine l_q rfl rfl (q_load1 rfl (by kernel_rfl) (SlG.cell (hS5.owG (i := 1) rfl) (Gle.refl _) (row_at hx11 (c := rc) (m := 2) (fun _ => rfl) (j := 0) rfl))) ?_
      refine l_q rfl rfl (q_moveI rfl) ?_
      refine l_q rfl rfl (q_eql rfl rfl) ?_
      refine l_nil ?_
      refine hK10 _ _ ?_
      refine c_cond rfl (fun hc12 => ?_) (fun hc12 => ?_)
      ·
        have hc12b := hc12
        try simp only [decide_eq_true_eq, decide_eq_false_iff_not, Bool.not_eq_true', Bool.not_eq_false', Bool.and_eq_true, Bool.or_eq_true, Int.not_lt, Int.not_le, ne_eq, Decidable.not_not] at hc12
        refine wp_seq_k (fun K13 hK13 => ?_)
        refine wp_region_lit ?_
        refine l_q rfl rfl (q_moveI rfl) ?_
        refine l_q rfl rfl (q_assignI rfl) ?_
        refine l_nil ?_
        refine hK13 _ _ ?_
        refine wp_ret ?_
        refine c_ret1 rfl rfl ?_
        have hS14 := vk_close hS5; clear hS5
        exact ⟨_, _, rfl, ⟨congrArg (Value.int .i64) (fIdx_at hx11 (by omega) hj).symm, rfl⟩, hS14⟩
      ·
        have hc12b := hc12
        try simp only [decide_eq_true_eq, decide_eq_false_iff_not, Bool.not_eq_true', Bool.not_eq_false', Bool.and_eq_true, Bool.or_eq_true, Int.not_lt, Int.not_le, ne_eq, Decidable.not_not] at hc12
        refine wp_skip ?_
        refine hK9 _ _ ?_
        refine wp_region_lit ?_
        refine l_q rfl rfl (q_moveI rfl) ?_
        refine l_q rfl rfl (q_addx rfl rfl (by first | decide | omega) (by first | decide | omega)) ?_
        refine l_q rfl rfl (q_assignI rfl) ?_
        refine l_nil ?_
        refine hK5 _ _ (came ((i + 1)) (by repeat' (first | exact Agree.refl _ _ | refine Agree.up ?_ rfl | refine Agree.hav2 ?_ rfl | refine Agree.ups2 ?_ rfl)) (by repeat' (first | exact trivial | refine ⟨by first | rfl | exact int_succ _ | assumption, ?_⟩)) ?_)
        exact ⟨⟨hS5, by (show i + 1 ≤ rs.length); omega, fun j hj' q hq => by
              have hj' : j < i + 1 := hj'
              by_cases hji : j = i
              · subst hji; rw [hx11] at hq; injection hq with hq; subst hq; omega
              · exact hj j (by omega) q hq⟩, by (show rs.length - (i + 1) < rs.length - i); omega⟩
    ·
      have hc8b := hc8
      try simp only [decide_eq_true_eq, decide_eq_false_iff_not, Bool.not_eq_true', Bool.not_eq_false', Bool.and_eq_true, Bool.or_eq_true, Int.not_lt, Int.not_le, ne_eq, Decidable.not_not] at hc8
      refine wp_exit ?_
      refine hK3 _ _ ?_
      refine wp_seq_k (fun K15 hK15 => ?_)
      refine wp_region_lit ?_
      refine l_q rfl rfl (q_assignI rfl) ?_
      refine l_nil ?_
      refine hK15 _ _ ?_
      refine wp_ret ?_
      refine c_ret1 rfl rfl ?_
      have hS16 := vk_close hS5; clear hS5
      exact ⟨_, _, rfl, ⟨congrArg (Value.int .i64) (fIdx_no (fun j hj' q hq => hj j (by omega) q hq)).symm, rfl⟩, hS16⟩

set_option maxRecDepth 100000 in
theorem vSafe_ok (k kd : Nat) (ad : Option Addr) (cap : Nat) (rs : List Rc) (da : Option Addr) (dc : Nat) (p l q : List Nat) (s : Nat) (hn : rs.length ≤ 1000000) (hA : Bytes (p ++ l ++ q)) (hb : (p ++ l ++ q).length ≤ 900000000) (hs : s ≤ l.length) (g : Gh) (hR : RsOk g rs) (w : World) (hS : St w (owns [vk k kd ad cap rs, rdk kd da dc p l q s]) [vk k kd ad cap rs, rdk kd da dc p l q s] w) : Calls Try.prog 56 #[pV k] w (Post w [vk k kd ad cap rs, rdk kd da dc p l q s] fun v G => v = .int .i64 ((cnt (p.length + s) rs : Nat) : Int) ∧ G = [vk k kd ad cap rs, rdk kd da dc p l q s]) := by
  have hAl : (p ++ l ++ q).length = p.length + l.length + q.length := by rw [List.length_append, List.length_append]
  refine c_enter Try.func56 rfl rfl rfl ?_
  refine wp_seq_k (fun K1 hK1 => ?_)
  have hS2 := vk_open hS; clear hS
  refine wp_region_lit ?_
  refine l_q rfl rfl (q_assignI rfl) ?_
  refine l_nil ?_
  refine hK1 _ _ ?_
  refine wp_seq_k (fun K3 hK3 => ?_)
  refine wp_region_lit ?_
  refine l_q rfl rfl (q_assignI rfl) ?_
  refine l_nil ?_
  refine hK3 _ _ ?_
  refine wp_seq_k (fun K4 hK4 => ?_)
  refine wp_seq_k (fun K5 hK5 => ?_)
  refine wp_region_lit ?_
  refine l_q rfl rfl (q_assignI rfl) ?_
  refine l_nil ?_
  refine hK5 _ _ ?_
  refine wp_block ?_
  have hS6 := hS2.fr2; clear hS2
  have hS7 := rd_open hS6; clear hS6
  have hS8 := hS7.fr1; clear hS7
  have hS9 := hS8.fr1; clear hS8
  have hS10 := hS9.fr3; clear hS9
  have hS11 := hS10.fr3; clear hS10
  refine c_loop (τ := Nat) [(3, 42)] (fun x => (fun (i : Nat) => [(3, .int .i64 (((cnt (p.length + s) (rs.take i)) : Nat) : Int)), (4, .int .i64 ((i : Nat) : Int))]) x) (fun x w' => (fun (i : Nat) => St w (owns [vk k kd ad cap rs, rdk kd da dc p l q s]) [.blk k (.cells #[.pointer (some ⟨kd, 0, none⟩), .slice ad rs.length cap] 94), .ow 96 2 ad rs.length cap (List.flatMap rc rs), .blk kd (.cells #[.slice da ((p ++ l ++ q).length) dc, .int .i64 ((p.length : Nat) : Int), .int .i64 (((p.length + l.length) : Nat) : Int), .int .i64 (((p.length + s) : Nat) : Int)] 85), .ow 5 1 da ((p ++ l ++ q).length) dc (bv (p ++ l ++ q))] w' ∧ i ≤ rs.length) x) (fun x => (fun (i : Nat) => rs.length - i) x) (0) ?_ (by repeat' (first | exact trivial | refine ⟨by first | rfl | exact int_succ _ | assumption, ?_⟩)) (fun i j12 w12 hJ12 K12 hK12 => ?_)
  ·
    exact ⟨hS11, Nat.zero_le _⟩
  ·
    obtain ⟨hS12, hi⟩ := hJ12
    try dsimp only at hS12 hi ⊢
    refine wp_seq_k (fun K13 hK13 => ?_)
    refine wp_seq_k (fun K14 hK14 => ?_)
    refine wp_region_lit ?_
    refine l_q rfl rfl (q_moveI rfl) ?_
    refine l_q rfl rfl (q_moveP rfl) ?_
    refine l_q rfl rfl (q_nilCheck rfl) ?_
    refine l_q rfl rfl (q_fieldAddr (ft := 92) (o := 1) rfl (by kernel_rfl)) ?_
    refine l_q rfl rfl (q_load1 rfl (by kernel_rfl) (hS12.cell (i := 0) rfl rfl)) ?_
    refine l_q rfl rfl (q_lenSl (e := 96) rfl (by kernel_rfl)) ?_
    refine l_q rfl rfl (q_lss rfl rfl) ?_
    refine l_nil ?_
    refine hK14 _ _ ?_
    refine c_cond rfl (fun hc15 => ?_) (fun hc15 => ?_)
    ·
      have hc15b := hc15
      try simp only [decide_eq_true_eq, decide_eq_false_iff_not, Bool.not_eq_true', Bool.not_eq_false', Bool.and_eq_true, Bool.or_eq_true, Int.not_lt, Int.not_le, ne_eq, Decidable.not_not] at hc15
      refine wp_skip ?_
      refine hK13 _ _ ?_
      refine c_cut (τ := Unit) [(3, 3), (14, 42)] (fun x => [(3, .int .i64 (((cnt (p.length + s) (rs.take (i + 1))) : Nat) : Int))]) (fun x w' => St w (owns [vk k kd ad cap rs, rdk kd da dc p l q s]) [.blk k (.cells #[.pointer (some ⟨kd, 0, none⟩), .slice ad rs.length cap] 94), .ow 96 2 ad rs.length cap (List.flatMap rc rs), .blk kd (.cells #[.slice da ((p ++ l ++ q).length) dc, .int .i64 ((p.length : Nat) : Int), .int .i64 (((p.length + l.length) : Nat) : Int), .int .i64 (((p.length + s) : Nat) : Int)] 85), .ow 5 1 da ((p ++ l ++ q).length) dc (bv (p ++ l ++ q))] w') (fun K17 hK17 => ?_) (fun x17 j17 w17 hJ17 => ?_)
      ·
        refine wp_block ?_
        refine wp_seq_k (fun K18 hK18 => ?_)
        refine r_any (by kernel_rfl) hS12 (fun w19 hS19 => ?_)
        clear hS12
        refine o_pure (i := 0) (fun _ _ => trivial) rfl rfl (by kernel_rfl) (goes0 rfl) (QOk.then (QOk.inBlock (QOk.then (QOk.then (QOk.inBlock (QOk.then QOk.body)))))) (fun w => q_moveP rfl) ?_
        refine o_pure (i := 1) (fun _ _ => trivial) rfl rfl (by kernel_rfl) (goes0 rfl) (QOk.then (QOk.inBlock (QOk.then (QOk.then (QOk.inBlock (QOk.then QOk.body)))))) (fun w => q_nilCheck rfl) ?_
        refine o_pure (i := 2) (fun _ _ => trivial) rfl rfl (by kernel_rfl) (goes0 rfl) (QOk.then (QOk.inBlock (QOk.then (QOk.then (QOk.inBlock (QOk.then QOk.body)))))) (fun w => q_fieldAddr (ft := 92) (o := 1) rfl (by kernel_rfl)) ?_
        refine o_held (i := 3) [5, 6, 7, 8, 18, 26] (fun _ _ => trivial) rfl rfl (by kernel_rfl) (goes0 rfl) (QOk.then (QOk.inBlock (QOk.then (QOk.then (QOk.inBlock (QOk.then QOk.body)))))) (q_load1 rfl (by kernel_rfl) (hS19.cell (i := 0) rfl rfl)) ?_
        refine o_pure (i := 4) (fun j w => ⟨(fun _ _ => trivial) j w, fun _ h => h⟩) rfl rfl (by kernel_rfl) (goes0 rfl) (QOk.then (QOk.inBlock (QOk.then (QOk.then (QOk.inBlock (QOk.then QOk.body)))))) (fun w => q_moveI rfl) ?_
        refine o_pure (i := 5) (fun j w => ⟨(fun _ _ => trivial) j w, fun _ h => h⟩) rfl rfl (by kernel_rfl) (goes0 rfl) (QOk.then (QOk.inBlock (QOk.then (QOk.then (QOk.inBlock (QOk.then QOk.body)))))) (fun w => q_ixG (e := 96) (m := 2) (j := i) rfl rfl (by kernel_rfl) (by kernel_rfl) (by first | rfl | omega) (by omega) (hS19.owG (i := 1) rfl) (by rw [rows_len (c := rc) (m := 2) (fun _ => rfl)]; first | omega | (simp only [List.length_append, List.length_map, List.length_cons, List.length_nil, List.length_take, List.length_drop, List.length_set] <;> omega))) ?_
        refine o_pure (i := 6) (fun j w => ⟨(fun _ _ => trivial) j w, fun _ h => h⟩) rfl rfl (by kernel_rfl) (goes0 rfl) (QOk.then (QOk.inBlock (QOk.then (QOk.then (QOk.inBlock (QOk.then QOk.body)))))) (fun w => q_fieldG (ft := 3) (o := 0) rfl (by kernel_rfl)) ?_
        obtain ⟨x20, hx20⟩ : ∃ x, (rs)[i]? = some x := ⟨_, List.getElem?_eq_getElem (by first | omega | (simp only [List.length_append, List.length_map, List.length_cons, List.length_nil, List.length_take, List.length_drop, List.length_set] <;> omega) | (simp <;> omega))⟩
        refine o_held (i := 7) [8, 18, 26] (fun j w => ⟨(fun _ _ => trivial) j w, fun _ h => h⟩) rfl rfl (by kernel_rfl) (goes0 rfl) (QOk.then (QOk.inBlock (QOk.then (QOk.then (QOk.inBlock (QOk.then QOk.body)))))) (q_load1 rfl (by kernel_rfl) (SlG.cell (hS19.owG (i := 1) rfl) (Gle.refl _) (row_at hx20 (c := rc) (m := 2) (fun _ => rfl) (j := 0) rfl))) ?_
        have hcs := cnt_snoc (p.length + s) hx20
        have hcl := cnt_le (p.length + s) (rs.take i)
        have hct : (rs.take i).length ≤ 2000000000 := by rw [List.length_take]; omega
        have hrr := hR x20 (List.mem_of_getElem? hx20)
        refine o_pure (i := 8) (fun j w => ⟨(fun j w => ⟨(fun _ _ => trivial) j w, fun _ h => h⟩) j w, fun _ h => h⟩) rfl rfl (by kernel_rfl) (goes0 rfl) (QOk.then (QOk.inBlock (QOk.then (QOk.then (QOk.inBlock (QOk.then QOk.body)))))) (fun w => q_addx rfl rfl (by first | decide | omega) (by first | decide | omega)) ?_
        refine o_pure (i := 9) (fun j w => ⟨(fun j w => ⟨(fun _ _ => trivial) j w, fun _ h => h⟩) j w, fun _ h => h⟩) rfl rfl (by kernel_rfl) (goes0 rfl) (QOk.then (QOk.inBlock (QOk.then (QOk.then (QOk.inBlock (QOk.then QOk.body)))))) (fun w => q_moveP rfl) ?_
        refine o_pure (i := 10) (fun j w => ⟨(fun j w => ⟨(fun _ _ => trivial) j w, fun _ h => h⟩) j w, fun _ h => h⟩) rfl rfl (by kernel_rfl) (goes0 rfl) (QOk.then (QOk.inBlock (QOk.then (QOk.then (QOk.inBlock (QOk.then QOk.body)))))) (fun w => q_nilCheck rfl) ?_
        refine o_pure (i := 11) (fun j w => ⟨(fun j w => ⟨(fun _ _ => trivial) j w, fun _ h => h⟩) j w, fun _ h => h⟩) rfl rfl (by kernel_rfl) (goes0 rfl) (QOk.then (QOk.inBlock (QOk.then (QOk.then (QOk.inBlock (QOk.then QOk.body)))))) (fun w => q_fieldAddr (ft := 92) (o := 1) rfl (by kernel_rfl)) ?_
        refine o_held (i := 12) [14, 15, 16, 17, 18, 26] (fun j w => ⟨(fun j w => ⟨(fun _ _ => trivial) j w, fun _ h => h⟩) j w, fun _ h => h⟩) rfl rfl (by kernel_rfl) (goes0 rfl) (QOk.then (QOk.inBlock (QOk.then (QOk.then (QOk.inBlock (QOk.then QOk.body)))))) (q_load1 rfl (by kernel_rfl) (hS19.cell (i := 0) rfl rfl)) ?_
        refine o_pure (i := 13) (fun j w => ⟨(fun j w => ⟨(fun j w => ⟨(fun _ _ => trivial) j w, fun _ h => h⟩) j w, fun _ h => h⟩) j w, fun _ h => h⟩) rfl rfl (by kernel_rfl) (goes0 rfl) (QOk.then (QOk.inBlock (QOk.then (QOk.then (QOk.inBlock (QOk.then QOk.body)))))) (fun w => q_moveI rfl) ?_
        refine o_pure (i := 14) (fun j w => ⟨(fun j w => ⟨(fun j w => ⟨(fun _ _ => trivial) j w, fun _ h => h⟩) j w, fun _ h => h⟩) j w, fun _ h => h⟩) rfl rfl (by kernel_rfl) (goes0 rfl) (QOk.then (QOk.inBlock (QOk.then (QOk.then (QOk.inBlock (QOk.then QOk.body)))))) (fun w => q_ixG (e := 96) (m := 2) (j := i) rfl rfl (by kernel_rfl) (by kernel_rfl) (by first | rfl | omega) (by omega) (hS19.owG (i := 1) rfl) (by rw [rows_len (c := rc) (m := 2) (fun _ => rfl)]; first | omega | (simp only [List.length_append, List.length_map, List.length_cons, List.length_nil, List.length_take, List.length_drop, List.length_set] <;> omega))) ?_
        refine o_pure (i := 15) (fun j w => ⟨(fun j w => ⟨(fun j w => ⟨(fun _ _ => trivial) j w, fun _ h => h⟩) j w, fun _ h => h⟩) j w, fun _ h => h⟩) rfl rfl (by kernel_rfl) (goes0 rfl) (QOk.then (QOk.inBlock (QOk.then (QOk.then (QOk.inBlock (QOk.then QOk.body)))))) (fun w => q_fieldG (ft := 23) (o := 1) rfl (by kernel_rfl)) ?_
        refine o_held (i := 16) [17, 18, 26] (fun j w => ⟨(fun j w => ⟨(fun j w => ⟨(fun _ _ => trivial) j w, fun _ h => h⟩) j w, fun _ h => h⟩) j w, fun _ h => h⟩) rfl rfl (by kernel_rfl) (goes0 rfl) (QOk.then (QOk.inBlock (QOk.then (QOk.then (QOk.inBlock (QOk.then QOk.body)))))) (q_load1 rfl (by kernel_rfl) (SlG.cell (hS19.owG (i := 1) rfl) (Gle.refl _) (row_at hx20 (c := rc) (m := 2) (fun _ => rfl) (j := 1) rfl))) ?_
        refine o_pure (i := 17) (fun j w => ⟨(fun j w => ⟨(fun j w => ⟨(fun j w => ⟨(fun _ _ => trivial) j w, fun _ h => h⟩) j w, fun _ h => h⟩) j w, fun _ h => h⟩) j w, fun _ h => h⟩) rfl rfl (by kernel_rfl) (goes0 rfl) (QOk.then (QOk.inBlock (QOk.then (QOk.then (QOk.inBlock (QOk.then QOk.body)))))) (fun w => q_lenSl (e := 5) rfl (by kernel_rfl)) ?_
        refine o_pure (i := 18) (fun j w => ⟨(fun j w => ⟨(fun j w => ⟨(fun j w => ⟨(fun _ _ => trivial) j w, fun _ h => h⟩) j w, fun _ h => h⟩) j w, fun _ h => h⟩) j w, fun _ h => h⟩) rfl rfl (by kernel_rfl) (goes0 rfl) (QOk.then (QOk.inBlock (QOk.then (QOk.then (QOk.inBlock (QOk.then QOk.body)))))) (fun w => q_addx rfl rfl (by first | decide | omega) (by first | decide | omega)) ?_
        refine o_pure (i := 19) (fun j w => ⟨(fun j w => ⟨(fun j w => ⟨(fun j w => ⟨(fun _ _ => trivial) j w, fun _ h => h⟩) j w, fun _ h => h⟩) j w, fun _ h => h⟩) j w, fun _ h => h⟩) rfl rfl (by kernel_rfl) (goes0 rfl) (QOk.then (QOk.inBlock (QOk.then (QOk.then (QOk.inBlock (QOk.then QOk.body)))))) (fun w => q_moveP rfl) ?_
        refine o_pure (i := 20) (fun j w => ⟨(fun j w => ⟨(fun j w => ⟨(fun j w => ⟨(fun _ _ => trivial) j w, fun _ h => h⟩) j w, fun _ h => h⟩) j w, fun _ h => h⟩) j w, fun _ h => h⟩) rfl rfl (by kernel_rfl) (goes0 rfl) (QOk.then (QOk.inBlock (QOk.then (QOk.then (QOk.inBlock (QOk.then QOk.body)))))) (fun w => q_nilCheck rfl) ?_
        refine o_pure (i := 21) (fun j w => ⟨(fun j w => ⟨(fun j w => ⟨(fun j w => ⟨(fun _ _ => trivial) j w, fun _ h => h⟩) j w, fun _ h => h⟩) j w, fun _ h => h⟩) j w, fun _ h => h⟩) rfl rfl (by kernel_rfl) (goes0 rfl) (QOk.then (QOk.inBlock (QOk.then (QOk.then (QOk.inBlock (QOk.then QOk.body)))))) (fun w => q_fieldAddr (ft := 83) (o := 0) rfl (by kernel_rfl)) ?_
        refine o_held (i := 22) [23, 24, 25, 26] (fun j w => ⟨(fun j w => ⟨(fun j w => ⟨(fun j w => ⟨(fun _ _ => trivial) j w, fun _ h => h⟩) j w, fun _ h => h⟩) j w, fun _ h => h⟩) j w, fun _ h => h⟩) rfl rfl (by kernel_rfl) (goes0 rfl) (QOk.then (QOk.inBlock (QOk.then (QOk.then (QOk.inBlock (QOk.then QOk.body)))))) (q_load1 rfl (by kernel_rfl) (hS19.cell (i := 0) rfl rfl)) ?_
        refine o_pure (i := 23) (fun j w => ⟨(fun j w => ⟨(fun j w => ⟨(fun j w => ⟨(fun j w => ⟨(fun _ _ => trivial) j w, fun _ h => h⟩) j w, fun _ h => h⟩) j w, fun _ h => h⟩) j w, fun _ h => h⟩) j w, fun _ h => h⟩) rfl rfl (by kernel_rfl) (goes0 rfl) (QOk.then (QOk.inBlock (QOk.then (QOk.then (QOk.inBlock (QOk.then QOk.body)))))) (fun w => q_nilCheck rfl) ?_
        refine o_pure (i := 24) (fun j w => ⟨(fun j w => ⟨(fun j w => ⟨(fun j w => ⟨(fun j w => ⟨(fun _ _ => trivial) j w, fun _ h => h⟩) j w, fun _ h => h⟩) j w, fun _ h => h⟩) j w, fun _ h => h⟩) j w, fun _ h => h⟩) rfl rfl (by kernel_rfl) (goes0 rfl) (QOk.then (QOk.inBlock (QOk.then (QOk.then (QOk.inBlock (QOk.then QOk.body)))))) (fun w => q_fieldAddr (ft := 3) (o := 3) rfl (by kernel_rfl)) ?_
        refine o_held (i := 25) [26] (fun j w => ⟨(fun j w => ⟨(fun j w => ⟨(fun j w => ⟨(fun j w => ⟨(fun _ _ => trivial) j w, fun _ h => h⟩) j w, fun _ h => h⟩) j w, fun _ h => h⟩) j w, fun _ h => h⟩) j w, fun _ h => h⟩) rfl rfl (by kernel_rfl) (goes0 rfl) (QOk.then (QOk.inBlock (QOk.then (QOk.then (QOk.inBlock (QOk.then QOk.body)))))) (q_load1 rfl (by kernel_rfl) (hS19.cell (i := 2) rfl rfl)) ?_
        refine o_pure (i := 26) (fun j w => ⟨(fun j w => ⟨(fun j w => ⟨(fun j w => ⟨(fun j w => ⟨(fun j w => ⟨(fun _ _ => trivial) j w, fun _ h => h⟩) j w, fun _ h => h⟩) j w, fun _ h => h⟩) j w, fun _ h => h⟩) j w, fun _ h => h⟩) j w, fun _ h => h⟩) rfl rfl (by kernel_rfl) (goes0 rfl) (QOk.then (QOk.inBlock (QOk.then (QOk.then (QOk.inBlock (QOk.then QOk.body)))))) (fun w => q_leq rfl rfl) ?_
        refine o_done (by kernel_rfl) ?_
        refine hK18 _ _ ?_
        refine c_cond rfl (fun hc21 => ?_) (fun hc21 => ?_)
        ·
          have hc21b := hc21
          try simp only [decide_eq_true_eq, decide_eq_false_iff_not, Bool.not_eq_true', Bool.not_eq_false', Bool.and_eq_true, Bool.or_eq_true, Int.not_lt, Int.not_le, ne_eq, Decidable.not_not] at hc21
          refine wp_region_lit ?_
          refine l_q rfl rfl (q_moveI rfl) ?_
          refine l_q rfl rfl (q_addx rfl rfl (by first | decide | omega) (by first | decide | omega)) ?_
          refine l_q rfl rfl (q_assignI rfl) ?_
          refine l_nil ?_
          refine hK17 _ _ (came (()) (by repeat' (first | exact Agree.refl _ _ | refine Agree.up ?_ rfl | refine Agree.hav2 ?_ rfl | refine Agree.ups2 ?_ rfl)) (by refine ⟨?_, trivial⟩; first | exact congrArg (Value.int .i64) (by rw [hcs, if_pos (by omega)]; omega) | exact congrArg (Value.int .i64) (by rw [hcs, if_neg (by omega)]; omega)) ?_)
          exact hS19
        ·
          have hc21b := hc21
          try simp only [decide_eq_true_eq, decide_eq_false_iff_not, Bool.not_eq_true', Bool.not_eq_false', Bool.and_eq_true, Bool.or_eq_true, Int.not_lt, Int.not_le, ne_eq, Decidable.not_not] at hc21
          refine wp_skip ?_
          refine hK17 _ _ (came (()) (by repeat' (first | exact Agree.refl _ _ | refine Agree.up ?_ rfl | refine Agree.hav2 ?_ rfl | refine Agree.ups2 ?_ rfl)) (by refine ⟨?_, trivial⟩; first | exact congrArg (Value.int .i64) (by rw [hcs, if_pos (by omega)]; omega) | exact congrArg (Value.int .i64) (by rw [hcs, if_neg (by omega)]; omega)) ?_)
          exact hS19
      ·
        have hS17 := hJ17
        try dsimp only at hS17 ⊢
        refine wp_region_lit ?_
        refine l_q rfl rfl (q_moveI rfl) ?_
        refine l_q rfl rfl (q_addx rfl rfl (by first | decide | omega) (by first | decide | omega)) ?_
        refine l_q rfl rfl (q_assignI rfl) ?_
        refine l_nil ?_
        refine hK12 _ _ (came ((i + 1)) (by repeat' (first | exact Agree.refl _ _ | refine Agree.up ?_ rfl | refine Agree.hav2 ?_ rfl | refine Agree.ups2 ?_ rfl)) (by repeat' (first | exact trivial | refine ⟨by first | rfl | exact int_succ _ | assumption, ?_⟩)) ?_)
        exact ⟨⟨hS17, by (show i + 1 ≤ rs.length); omega⟩, by (show rs.length - (i + 1) < rs.length - i); omega⟩
    ·
      have hc15b := hc15
      try simp only [decide_eq_true_eq, decide_eq_false_iff_not, Bool.not_eq_true', Bool.not_eq_false', Bool.and_eq_true, Bool.or_eq_true, Int.not_lt, Int.not_le, ne_eq, Decidable.not_not] at hc15
      obtain rfl : i = rs.length := by omega
      refine wp_exit ?_
      refine hK4 _ _ ?_
      refine wp_seq_k (fun K22 hK22 => ?_)
      refine wp_region_lit ?_
      refine l_q rfl rfl (q_moveI rfl) ?_
      refine l_q rfl rfl (q_assignI rfl) ?_
      refine l_nil ?_
      refine hK22 _ _ ?_
      refine wp_ret ?_
      refine c_ret1 rfl rfl ?_
      have hS23 := vk_close hS12; clear hS12
      have hS24 := hS23.fr2; clear hS23
      have hS25 := hS24.fr2; clear hS24
      have hS26 := rd_close hS25; clear hS25
      have hS27 := hS26.fr1; clear hS26
      exact ⟨_, _, rfl, ⟨congrArg (fun q => Value.int .i64 ((cnt (p.length + s) q : Nat) : Int)) List.take_length, rfl⟩, hS27⟩

set_option maxRecDepth 100000 in
theorem vTrim_ok (k kd : Nat) (ad : Option Addr) (cap : Nat) (rs : List Rc) (da : Option Addr) (dc : Nat) (p l q : List Nat) (s : Nat) (hn : rs.length ≤ 1000000) (hA : Bytes (p ++ l ++ q)) (hb : (p ++ l ++ q).length ≤ 900000000) (hs : s ≤ l.length) (z : Int) (hz0 : -9223372036854775808 ≤ z) (hz1 : z ≤ 9223372036854775807) (w : World) (hS : St w (owns [vk k kd ad cap rs, rdk kd da dc p l q s]) [vk k kd ad cap rs, rdk kd da dc p l q s] w) : Calls Try.prog 51 #[pV k, .int .i64 z] w (Post w [vk k kd ad cap rs, rdk kd da dc p l q s] fun v G => ∃ ad' cap' rs' p' l' s', (if triR rs (p.length + l.length) z < 0 then p' = p ∧ v = .int .i64 1 ∧ l' = l ∧ s' = s ∧ rs' = rs else p'.length = drB p.length s z ∧ v = .int .i64 ((drE p.length s z : Nat) : Int) ∧ l' = drL l p.length s z ∧ s' = drS p.length s z ∧ rs' = if drE p.length s z = 0 then rs.drop (triR rs (p.length + l.length) z).toNat else rs) ∧ G = [vk k kd ad' cap' rs', rdk kd da dc p' l' q s'] ∧ Bytes (p' ++ l' ++ q) ∧ (p' ++ l' ++ q).length ≤ (p ++ l ++ q).length) := by
  have hAl : (p ++ l ++ q).length = p.length + l.length + q.length := by rw [List.length_append, List.length_append]
  refine c_enter Try.func51 rfl rfl rfl ?_
  refine wp_seq_k (fun K1 hK1 => ?_)
  have hS2 := vk_open hS; clear hS
  refine wp_region_lit ?_
  refine l_q rfl rfl (q_assignI rfl) ?_
  refine l_nil ?_
  refine hK1 _ _ ?_
  refine wp_seq_k (fun K3 hK3 => ?_)
  refine wp_region_lit ?_
  refine l_q rfl rfl (q_moveP rfl) ?_
  refine l_q rfl rfl (q_moveI rfl) ?_
  refine l_e rfl (fun K hK => ?_)
  have hS5 := vk_close hS2; clear hS2
  refine e_call (by kernel_rfl) (vfind_ok _ _ _ _ rs z (by first | omega | (simp only [List.length_append, List.length_map, List.length_cons, List.length_nil, List.length_take, List.length_drop, List.length_set] <;> omega)) _ (St.begin (Γ := [_]) hS5)) rfl (after_M (Γ1 := [_]) hS5 (fun v4 G4 w4 hv4 hS4 => ?_))
  clear hS5
  obtain ⟨rfl, rfl⟩ := hv4
  have hS6 : St _ _ [vk k kd ad cap rs, rdk kd da dc p l q s] _ := hS4; clear hS4
  refine hK _ _ ?_; clear hK K
  refine l_q rfl rfl (q_assignI rfl) ?_
  refine l_nil ?_
  refine hK3 _ _ ?_
  refine c_cut (τ := Int) [(5, 5), (10, 27)] (fun x => (fun (ti : Int) => [(5, .int .i64 ti)]) x) (fun x w' => (fun (ti : Int) => St w (owns [vk k kd ad cap rs, rdk kd da dc p l q s]) [vk k kd ad cap rs, rdk kd da dc p l q s] w' ∧ ti = triR rs (p.length + l.length) z) x) (fun K8 hK8 => ?_) (fun ti j8 w8 hJ8 => ?_)
  ·
    refine wp_seq_k (fun K9 hK9 => ?_)
    refine wp_region_lit ?_
    refine l_q rfl rfl (q_moveI rfl) ?_
    refine l_q rfl rfl (q_lss rfl rfl) ?_
    refine l_q rfl rfl (q_moveB rfl) ?_
    refine g_splitL (t := 12) rfl (fun hg10 => ?_) (fun hg10 => ?_)
    ·
      have hg10b := hg10
      try simp only [decide_eq_true_eq, decide_eq_false_iff_not, Bool.not_eq_true', Bool.not_eq_false', Bool.and_eq_true, Bool.or_eq_true, Int.not_lt, Int.not_le, ne_eq, Decidable.not_not] at hg10
      refine l_on rfl rfl hg10b ?_
      refine l_q rfl rfl (q_moveI rfl) ?_
      refine l_on rfl rfl hg10b ?_
      refine l_q rfl rfl (q_moveP rfl) ?_
      refine l_on rfl rfl hg10b ?_
      refine l_q rfl rfl (q_nilCheck rfl) ?_
      refine l_on rfl rfl hg10b ?_
      refine l_q rfl rfl (q_fieldAddr (ft := 83) (o := 0) rfl (by kernel_rfl)) ?_
      refine l_on rfl rfl hg10b ?_
      have hS11 := vk_open hS6; clear hS6
      refine l_q rfl rfl (q_load1 rfl (by kernel_rfl) (hS11.cell (i := 0) rfl rfl)) ?_
      refine l_on rfl rfl hg10b ?_
      refine l_q rfl rfl (q_nilCheck rfl) ?_
      refine l_on rfl rfl hg10b ?_
      refine l_q rfl rfl (q_fieldAddr (ft := 3) (o := 2) rfl (by kernel_rfl)) ?_
      refine l_on rfl rfl hg10b ?_
      have hS12 := hS11.fr2; clear hS11
      have hS13 := rd_open hS12; clear hS12
      refine l_q rfl rfl (q_load1 rfl (by kernel_rfl) (hS13.cell (i := 0) rfl rfl)) ?_
      refine l_on rfl rfl hg10b ?_
      refine l_q rfl rfl (q_eql rfl rfl) ?_
      refine l_q rfl rfl (q_pickT rfl hg10b rfl) ?_
      refine l_nil ?_
      refine hK9 _ _ ?_
      refine c_cond rfl (fun hc14 => ?_) (fun hc14 => ?_)
      ·
        have hc14b := hc14
        try simp only [decide_eq_true_eq, decide_eq_false_iff_not, Bool.not_eq_true', Bool.not_eq_false', Bool.and_eq_true, Bool.or_eq_true, Int.not_lt, Int.not_le, ne_eq, Decidable.not_not] at hc14
        refine wp_region_lit ?_
        refine l_q rfl rfl (q_moveP rfl) ?_
        refine l_q rfl rfl (q_nilCheck rfl) ?_
        refine l_q rfl rfl (q_fieldAddr (ft := 92) (o := 1) rfl (by kernel_rfl)) ?_
        refine l_q rfl rfl (q_load1 rfl (by kernel_rfl) (hS13.cell (i := 2) rfl rfl)) ?_
        refine l_q rfl rfl (q_lenSl (e := 96) rfl (by kernel_rfl)) ?_
        refine l_q rfl rfl (q_assignI rfl) ?_
        refine l_nil ?_
        have hS15 := hS13.fr3; clear hS13
        have hS16 := hS15.fr3; clear hS15
        have hS17 := vk_close hS16; clear hS16
        have hS18 := hS17.fr2; clear hS17
        have hS19 := hS18.fr2; clear hS18
        have hS20 := rd_close hS19; clear hS19
        have hS21 := hS20.fr1; clear hS20
        refine hK8 _ _ (came (((rs.length : Nat) : Int)) (by repeat' (first | exact Agree.refl _ _ | refine Agree.up ?_ rfl | refine Agree.hav2 ?_ rfl | refine Agree.ups2 ?_ rfl)) (by repeat' (first | exact trivial | refine ⟨by first | rfl | exact int_succ _ | assumption, ?_⟩)) ?_)
        exact ⟨hS21, by first | (unfold triR; rw [if_pos (by omega)]) | (unfold triR; rw [if_neg (by omega)])⟩
      ·
        have hc14b := hc14
        try simp only [decide_eq_true_eq, decide_eq_false_iff_not, Bool.not_eq_true', Bool.not_eq_false', Bool.and_eq_true, Bool.or_eq_true, Int.not_lt, Int.not_le, ne_eq, Decidable.not_not] at hc14
        refine wp_skip ?_
        have hS22 := hS13.fr3; clear hS13
        have hS23 := hS22.fr3; clear hS22
        have hS24 := vk_close hS23; clear hS23
        have hS25 := hS24.fr2; clear hS24
        have hS26 := hS25.fr2; clear hS25
        have hS27 := rd_close hS26; clear hS26
        have hS28 := hS27.fr1; clear hS27
        refine hK8 _ _ (came ((fIdx rs z)) (by repeat' (first | exact Agree.refl _ _ | refine Agree.up ?_ rfl | refine Agree.hav2 ?_ rfl | refine Agree.ups2 ?_ rfl)) (by repeat' (first | exact trivial | refine ⟨by first | rfl | exact int_succ _ | assumption, ?_⟩)) ?_)
        exact ⟨hS28, by first | (unfold triR; rw [if_pos (by omega)]) | (unfold triR; rw [if_neg (by omega)])⟩
    ·
      have hg10b := hg10
      try simp only [decide_eq_true_eq, decide_eq_false_iff_not, Bool.not_eq_true', Bool.not_eq_false', Bool.and_eq_true, Bool.or_eq_true, Int.not_lt, Int.not_le, ne_eq, Decidable.not_not] at hg10
      refine l_off rfl rfl rfl hg10b ?_
      refine l_off rfl rfl rfl hg10b ?_
      refine l_off rfl rfl rfl hg10b ?_
      refine l_off rfl rfl rfl hg10b ?_
      refine l_off rfl rfl rfl hg10b ?_
      refine l_off rfl rfl rfl hg10b ?_
      refine l_off rfl rfl rfl hg10b ?_
      refine l_off rfl rfl rfl hg10b ?_
      refine l_off rfl rfl rfl hg10b ?_
      refine l_q rfl rfl (q_pickF rfl hg10b rfl) ?_
      refine l_nil ?_
      refine hK9 _ _ ?_
      refine c_condF rfl rfl ?_
      refine wp_skip ?_
      refine hK8 _ _ (came ((fIdx rs z)) (by repeat' (first | exact Agree.refl _ _ | refine Agree.up ?_ rfl | refine Agree.hav2 ?_ rfl | refine Agree.ups2 ?_ rfl)) (by repeat' (first | exact trivial | refine ⟨by first | rfl | exact int_succ _ | assumption, ?_⟩)) ?_)
      exact ⟨hS6, by first | (unfold triR; rw [if_pos (by omega)]) | (unfold triR; rw [if_neg (by omega)])⟩
  ·
    obtain ⟨hS8, hti⟩ := hJ8
    try dsimp only at hS8 hti ⊢
    have htl := triR_lt rs (p.length + l.length) z
    refine wp_seq_k (fun K30 hK30 => ?_)
    refine wp_seq_k (fun K31 hK31 => ?_)
    refine wp_region_lit ?_
    refine l_q rfl rfl (q_moveI rfl) ?_
    refine l_q rfl rfl (q_lss rfl rfl) ?_
    refine l_nil ?_
    refine hK31 _ _ ?_
    refine c_cond rfl (fun hc32 => ?_) (fun hc32 => ?_)
    ·
      have hc32b := hc32
      try simp only [decide_eq_true_eq, decide_eq_false_iff_not, Bool.not_eq_true', Bool.not_eq_false', Bool.and_eq_true, Bool.or_eq_true, Int.not_lt, Int.not_le, ne_eq, Decidable.not_not] at hc32
      have hx : triR rs (p.length + l.length) z < 0 := by omega
      refine wp_seq_k (fun K33 hK33 => ?_)
      refine wp_region_lit ?_
      refine l_q rfl rfl (q_assignI rfl) ?_
      refine l_nil ?_
      refine hK33 _ _ ?_
      refine wp_ret ?_
      refine c_ret1 rfl rfl ?_
      exact ⟨_, _, rfl, ⟨ad, cap, rs, p, l, s, (by rw [if_pos hx]; exact ⟨rfl, rfl, rfl, rfl, rfl⟩), rfl, hA, Nat.le_refl _⟩, hS8⟩
    ·
      have hc32b := hc32
      try simp only [decide_eq_true_eq, decide_eq_false_iff_not, Bool.not_eq_true', Bool.not_eq_false', Bool.and_eq_true, Bool.or_eq_true, Int.not_lt, Int.not_le, ne_eq, Decidable.not_not] at hc32
      have hx : ¬ (triR rs (p.length + l.length) z < 0) := by omega
      refine wp_skip ?_
      refine hK30 _ _ ?_
      refine wp_seq_k (fun K34 hK34 => ?_)
      refine wp_region_lit ?_
      refine l_q rfl rfl (q_moveP rfl) ?_
      refine l_q rfl rfl (q_nilCheck rfl) ?_
      refine l_q rfl rfl (q_fieldAddr (ft := 83) (o := 0) rfl (by kernel_rfl)) ?_
      have hS35 := vk_open hS8; clear hS8
      refine l_q rfl rfl (q_load1 rfl (by kernel_rfl) (hS35.cell (i := 0) rfl rfl)) ?_
      refine l_q rfl rfl (q_moveI rfl) ?_
      refine l_e rfl (fun K hK => ?_)
      have hS37 := hS35.fr2; clear hS35
      have hRl36 : (p ++ l ++ q).length = p.length + l.length + q.length := by rw [List.length_append, List.length_append]
      refine e_call (by kernel_rfl) (rDrop_ok _ _ _ _ _ _ _ hA (by first | omega | (simp only [List.length_append, List.length_map, List.length_cons, List.length_nil, List.length_take, List.length_drop, List.length_set] <;> omega)) (by first | omega | (simp only [List.length_append, List.length_map, List.length_cons, List.length_nil, List.length_take, List.length_drop, List.length_set] <;> omega)) _ (by first | omega | (simp only [List.length_append, List.length_map, List.length_cons, List.length_nil, List.length_take, List.length_drop, List.length_set] <;> omega)) (by first | omega | (simp only [List.length_append, List.length_map, List.length_cons, List.length_nil, List.length_take, List.length_drop, List.length_set] <;> omega)) _ (St.begin (Γ := [_]) hS37)) rfl (after_M (Γ1 := [_]) hS37 (fun v36 G36 w36 hv36 hS36 => ?_))
      clear hS37
      obtain ⟨p36, hp36, rfl, rfl, hB36, hQ36⟩ := hv36
      have hS38 : St _ _ [rdk kd da dc p36 (drL l p.length s z) q (drS p.length s z), .blk k (.cells #[.pointer (some ⟨kd, 0, none⟩), .slice ad rs.length cap] 94), .ow 96 2 ad rs.length cap (List.flatMap rc rs)] _ := hS36; clear hS36
      refine hK _ _ ?_; clear hK K
      refine l_q rfl rfl (q_assignI rfl) ?_
      refine l_nil ?_
      refine hK34 _ _ ?_
      refine wp_seq_k (fun K39 hK39 => ?_)
      refine wp_seq_k (fun K40 hK40 => ?_)
      refine wp_region_lit ?_
      refine l_q rfl rfl (q_moveI rfl) ?_
      refine l_q rfl rfl (q_eql rfl rfl) ?_
      refine l_nil ?_
      refine hK40 _ _ ?_
      refine c_cond rfl (fun hc41 => ?_) (fun hc41 => ?_)
      ·
        have hc41b := hc41
        try simp only [decide_eq_true_eq, decide_eq_false_iff_not, Bool.not_eq_true', Bool.not_eq_false', Bool.and_eq_true, Bool.or_eq_true, Int.not_lt, Int.not_le, ne_eq, Decidable.not_not] at hc41
        have he : drE p.length s z = 0 := by omega
        refine wp_region_lit ?_
        refine l_q rfl rfl (q_moveP rfl) ?_
        refine l_q rfl rfl (q_moveP rfl) ?_
        refine l_q rfl rfl (q_nilCheck rfl) ?_
        refine l_q rfl rfl (q_fieldAddr (ft := 92) (o := 1) rfl (by kernel_rfl)) ?_
        refine l_q rfl rfl (q_load1 rfl (by kernel_rfl) (hS38.cell (i := 1) rfl rfl)) ?_
        refine l_q rfl rfl (q_moveI rfl) ?_
        have hcp42 := (hS38.owLen (i := 2) rfl).2.1
        refine l_q rfl rfl (q_sliceX (e := 96) (size := 2) (l := (ti).toNat) (h := rs.length) (m := cap) (ad' := (subS ad ((ti).toNat) 2 cap)) (len' := (rs.length - (ti).toNat)) (cap' := (cap - (ti).toNat)) rfl (by kernel_rfl) (by kernel_rfl) rfl rfl ⟨_, int_nat (by omega) rfl⟩ (by omega) (by first | omega | (simp only [List.length_append, List.length_map, List.length_cons, List.length_nil, List.length_take, List.length_drop, List.length_set] <;> omega)) (by first | omega | (simp only [List.length_append, List.length_map, List.length_cons, List.length_nil, List.length_take, List.length_drop, List.length_set] <;> omega)) rfl rfl rfl rfl) ?_
        refine l_q rfl rfl (q_nilCheck rfl) ?_
        refine l_q rfl rfl (q_fieldAddr (ft := 92) (o := 1) rfl (by kernel_rfl)) ?_
        refine l_e rfl (fun K hK => ?_)
        refine e_store1 hS38 rfl rfl (by kernel_rfl) (by first | rfl | assumption) (i := 1) rfl rfl (fun w43 (hS43 : St _ _ [rdk kd da dc p36 (drL l p.length s z) q (drS p.length s z), .blk k (.cells #[.pointer (some ⟨kd, 0, none⟩), .slice (subS ad ((ti).toNat) 2 cap) (rs.length - (ti).toNat) (cap - (ti).toNat)] 94), .ow 96 2 ad rs.length cap (List.flatMap rc rs)] _) => ?_)
        clear hS38
        refine hK _ _ ?_; clear hK K
        refine l_nil ?_
        refine hK39 _ _ ?_
        refine wp_seq_k (fun K44 hK44 => ?_)
        refine wp_region_lit ?_
        refine l_q rfl rfl (q_moveI rfl) ?_
        refine l_q rfl rfl (q_assignI rfl) ?_
        refine l_nil ?_
        refine hK44 _ _ ?_
        refine wp_ret ?_
        refine c_ret1 rfl rfl ?_
        have hS45 : St _ _ [rdk kd da dc p36 (drL l p.length s z) q (drS p.length s z), .blk k (.cells #[.pointer (some ⟨kd, 0, none⟩), .slice (subS ad ((ti).toNat) 2 cap) (rs.length - (ti).toNat) (cap - (ti).toNat)] 94), .ow 96 2 (subS ad ((ti).toNat) 2 cap) (rs.length - (ti).toNat) (cap - (ti).toNat) (List.flatMap rc (rs.drop ((ti).toNat)))] _ := hS43.owSubX (i := 2) (l := (ti).toNat) (hh := rs.length) (mx := cap) rfl (by omega) (by first | omega | (simp only [List.length_append, List.length_map, List.length_cons, List.length_nil, List.length_take, List.length_drop, List.length_set] <;> omega)) (by first | omega | (simp only [List.length_append, List.length_map, List.length_cons, List.length_nil, List.length_take, List.length_drop, List.length_set] <;> omega)) (by first | omega | (simp only [List.length_append, List.length_map, List.length_cons, List.length_nil, List.length_take, List.length_drop, List.length_set] <;> omega)) rfl rfl rfl (rows_subxD (c := rc) (m := 2) (fun _ => rfl) (by first | omega | (simp only [List.length_append, List.length_map, List.length_cons, List.length_nil, List.length_take, List.length_drop, List.length_set] <;> omega))); clear hS43
        have hS46 : St _ _ [rdk kd da dc p36 (drL l p.length s z) q (drS p.length s z), .blk k (.cells #[.pointer (some ⟨kd, 0, none⟩), .slice (subS ad ((ti).toNat) 2 cap) ((rs.drop ((ti).toNat)).length) (cap - (ti).toNat)] 94), .ow 96 2 (subS ad ((ti).toNat) 2 cap) ((rs.drop ((ti).toNat)).length) (cap - (ti).toNat) (List.flatMap rc (rs.drop ((ti).toNat)))] _ := hS45.cast (by rw [show (rs.drop ((ti).toNat)).length = (rs.length - (ti).toNat) from (by first | omega | (simp only [List.length_append, List.length_map, List.length_cons, List.length_nil, List.length_take, List.length_drop, List.length_set] <;> omega))]); clear hS45
        have hS47 := hS46.fr2; clear hS46
        have hS48 := hS47.fr2; clear hS47
        have hS49 := vk_close hS48; clear hS48
        exact ⟨_, _, rfl, ⟨_, _, _, _, _, _, (by rw [if_neg hx]; exact ⟨by assumption, rfl, rfl, rfl, by rw [if_pos he, ← hti]⟩), rfl, by assumption, by assumption⟩, hS49⟩
      ·
        have hc41b := hc41
        try simp only [decide_eq_true_eq, decide_eq_false_iff_not, Bool.not_eq_true', Bool.not_eq_false', Bool.and_eq_true, Bool.or_eq_true, Int.not_lt, Int.not_le, ne_eq, Decidable.not_not] at hc41
        have he : drE p.length s z ≠ 0 := by omega
        refine wp_skip ?_
        refine hK39 _ _ ?_
        refine wp_seq_k (fun K50 hK50 => ?_)
        refine wp_region_lit ?_
        refine l_q rfl rfl (q_moveI rfl) ?_
        refine l_q rfl rfl (q_assignI rfl) ?_
        refine l_nil ?_
        refine hK50 _ _ ?_
        refine wp_ret ?_
        refine c_ret1 rfl rfl ?_
        have hS51 := hS38.fr2; clear hS38
        have hS52 := hS51.fr2; clear hS51
        have hS53 := vk_close hS52; clear hS52
        exact ⟨_, _, rfl, ⟨ad, cap, rs, _, _, _, (by rw [if_neg hx]; exact ⟨by assumption, rfl, rfl, rfl, by rw [if_neg he]⟩), rfl, by assumption, by assumption⟩, hS53⟩

end Go.Proofs.Ytmbbkliekgiolaa
