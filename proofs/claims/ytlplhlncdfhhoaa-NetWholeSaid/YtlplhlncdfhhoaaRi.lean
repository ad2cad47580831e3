/- Letters: Encode, Decode. -/
import Derived.Test.YtlplhlncdfhhoaaRh
set_option linter.unusedVariables false
set_option linter.unusedSimpArgs false
namespace Go.Proofs.Ytlplhlncdfhhoaa
open Go.RowKit
theorem q_nv {P : Program} {n : Nat} {f : Nat → Value} {o : Oper} {w : World} {k : IntKind} {a b : Nat} (h : a = b) (hr : Run P n f o w (.int k ((a : Nat) : Int))) : Run P n f o w (.int k ((b : Nat) : Int)) := by rw [← h]; exact hr
theorem encLE_yes {l : Lr} (h : rightL l = true) : encLE l = (encL l, 0) := if_pos h
theorem encLE_no {l : Lr} (h : rightL l = false) : encLE l = ([], 111) := if_neg (by rw [h]; decide)
theorem rowE_L {l : Lr} (h : rightL l = true) : rowE (rowL l) = encLE l := by
  rw [encLE_yes h, rowE_yes (by show 5 ≤ 16; omega) (rowL_ok h).2]; rfl
theorem rowDecL {L : List Vl} (b : List Nat) (hb : Bytes b) (hd : decRw b = (L, 0)) (n : Nat) (hn : b.length = n) (hm : n ≤ 2000000) (ab : Option Addr) (cb : Nat) (hcb : n ≤ cb) (w : World) (hG : SlG (hw w) ab (bv b)) :
    Calls Try.prog 41 #[.slice ab n cb] w (PostN w fun v G => ∃ oa oc, v = .tuple #[.slice oa L.length oc, .int .i64 0] ∧ G = [.ow 78 3 oa L.length oc (List.flatMap vl L)]) :=
  (rowDec_ok b hb n hn hm ab cb hcb w hG).mono fun _ w' ⟨v, G, he, hP, hS⟩ => ⟨v, G, he, by rw [hd] at hP; exact hP, hS⟩
theorem encL_len {l : Lr} (h : rightL l = true) : (encL l).length ≤ 3377 := by
  have h1 := rowE_len (rowL_ok h).1
  have h2 : rowE (rowL l) = (encL l, 0) := rowE_yes (by show 5 ≤ 16; omega) (rowL_ok h).2
  rw [h2] at h1; exact h1
attribute [local irreducible] Oper.wp Sem.run Code.wp wpList wpAnyO callFunc execOp Calls
attribute [local irreducible] toU short rencs renc rowE encRow rightB zig unzig decRw rightL risB lastN bitsOf nodesTo encL encLE

set_option maxHeartbeats 2000000 in
set_option maxRecDepth 100000 in
theorem lenc_ok (l : Lr) (n : Nat) (hn : l.nd.length = n) (hm : n ≤ 2000000) (an : Option Addr) (cn : Nat) (w : World) (hG : SlG (hw w) an (iv l.nd)) : Calls Try.prog 27 #[.agg #[.int .i64 l.k, .int .i64 l.f, .int .i64 l.t, .int .i64 l.x, .slice an n cn]] w (PostN w fun v G => ∃ oa oc, v = .tuple #[.slice oa (encLE l).1.length oc, .int .i64 (encLE l).2] ∧ G = [.ow 5 1 oa (encLE l).1.length oc (bv (encLE l).1)]) := by
 have hS := St.start w
 subst hn
 refine c_enter Try.func27 rfl rfl rfl ?_
 refine wp_seq_k (fun K1 hK1 => ?_)
 refine wp_region_lit ?_
 refine l_e rfl (fun K hK => ?_)
 refine e_boxA hS rfl (fun b2 w2 (hS2 : St _ _ [.blk b2 (.cells #[.int .i64 l.k, .int .i64 l.f, .int .i64 l.t, .int .i64 l.x, .slice an l.nd.length cn] 25)] _) => ?_)
 clear hS
 refine hK _ _ ?_; clear hK K
 refine l_q rfl rfl (q_assignS rfl) ?_
 refine l_q rfl rfl (q_assignI rfl) ?_
 refine l_nil ?_
 refine hK1 _ _ ?_
 refine wp_seq_k (fun K3 hK3 => ?_)
 refine wp_seq_k (fun K4 hK4 => ?_)
 refine wp_region_lit ?_
 refine l_q rfl rfl (q_loadA (m := 5) rfl (by kernel_rfl) (by kernel_rfl) (hS2.blk (i := 0) rfl) rfl rfl) ?_
 refine l_e rfl (fun K hK => ?_)
 refine e_call (by kernel_rfl) (lright_ok l l.nd.length (by first | omega | (simp only [List.length_append, List.length_map, List.length_cons, List.length_nil, List.length_take, List.length_drop, List.length_set] <;> omega)) (by first | omega | (simp only [List.length_append, List.length_map, List.length_cons, List.length_nil, List.length_take, List.length_drop, List.length_set] <;> omega)) _ _ _ (hG.mono hS2.base)) rfl (after_R hS2 (fun v5 w5 hv5 hS5 => ?_))
 clear hS2
 obtain rfl := hv5
 refine hK _ _ ?_; clear hK K
 refine l_q rfl rfl (q_not rfl) ?_
 refine l_nil ?_
 refine hK4 _ _ ?_
 refine c_cond rfl (fun hc6 => ?_) (fun hc6 => ?_)
 ·
  have hc6b := hc6
  try simp only [decide_eq_true_eq, decide_eq_false_iff_not, Bool.not_eq_true', Bool.not_eq_false', Bool.and_eq_true, Bool.or_eq_true, Int.not_lt, Int.not_le, ne_eq, Decidable.not_not] at hc6
  refine wp_seq_k (fun K7 hK7 => ?_)
  refine wp_region_lit ?_
  refine l_q rfl rfl (q_assignS rfl) ?_
  refine l_q rfl rfl (q_assignI rfl) ?_
  refine l_nil ?_
  refine hK7 _ _ ?_
  refine wp_ret ?_
  refine c_ret2 rfl rfl rfl ?_
  have hne := encLE_no (l := l) (by assumption)
  exact ⟨_, _, rfl, ⟨none, 0, by rw [hne]; rfl, by rw [hne]; rfl⟩, hS5.drop.ow_nil _ _⟩
 ·
  have hc6b := hc6
  try simp only [decide_eq_true_eq, decide_eq_false_iff_not, Bool.not_eq_true', Bool.not_eq_false', Bool.and_eq_true, Bool.or_eq_true, Int.not_lt, Int.not_le, ne_eq, Decidable.not_not] at hc6
  have hR : rightL l = true := hc6
  have hris := rightL_ris hR
  have hl16 := ris_len16 hris
  have hra := (rightL_iff.1 hR).1
  refine wp_skip ?_
  refine hK3 _ _ ?_
  refine wp_seq_k (fun K8 hK8 => ?_)
  refine wp_region_lit ?_
  refine l_q rfl rfl (q_assignI rfl) ?_
  refine l_nil ?_
  refine hK8 _ _ ?_
  refine wp_seq_k (fun K9 hK9 => ?_)
  refine wp_seq_k (fun K10 hK10 => ?_)
  refine wp_region_lit ?_
  refine l_q rfl rfl (q_fieldAddr (ft := 23) (o := 4) rfl (by kernel_rfl)) ?_
  refine l_q rfl rfl (q_load1 rfl (by kernel_rfl) (hS5.cell (i := 0) rfl rfl)) ?_
  refine l_q rfl rfl (q_lenSl (e := 3) rfl (by kernel_rfl)) ?_
  refine l_q rfl rfl (q_moveI rfl) ?_
  refine l_nil ?_
  refine hK10 _ _ ?_
  refine wp_block ?_
  refine c_loop (τ := Nat) [(4, 4), (6, 6), (16, 24)] (fun x => (fun (i : Nat) => [(4, .int .i64 (((bitsOf (l.nd.take i)) : Nat) : Int)), (16, .int .i64 (i : Int))]) x) (fun x w' => (fun (i : Nat) => St w (fun _ => False) [.blk b2 (.cells #[.int .i64 l.k, .int .i64 l.f, .int .i64 l.t, .int .i64 l.x, .slice an l.nd.length cn] 25)] w' ∧ i ≤ l.nd.length) x) (fun x => (fun (i : Nat) => l.nd.length - i) x) (0) ?_ (by refine ⟨by show _ = Value.int .i64 ((bitsOf [] : Nat) : Int); unfold bitsOf; rfl, ⟨rfl, trivial⟩⟩) (fun i j11 w11 hJ11 K11 hK11 => ?_)
  ·
   exact ⟨hS5, Nat.zero_le _⟩
  ·
   obtain ⟨hS11, hi⟩ := hJ11
   try dsimp only at hS11 hi ⊢
   refine wp_seq_k (fun K12 hK12 => ?_)
   refine wp_region_lit ?_
   refine l_q rfl rfl (q_lss rfl rfl) ?_
   refine l_nil ?_
   refine hK12 _ _ ?_
   refine wp_seq_k (fun K13 hK13 => ?_)
   refine c_cond rfl (fun hc14 => ?_) (fun hc14 => ?_)
   ·
    have hc14b := hc14
    try simp only [decide_eq_true_eq, decide_eq_false_iff_not, Bool.not_eq_true', Bool.not_eq_false', Bool.and_eq_true, Bool.or_eq_true, Int.not_lt, Int.not_le, ne_eq, Decidable.not_not] at hc14
    refine wp_skip ?_
    refine hK13 _ _ ?_
    refine wp_seq_k (fun K15 hK15 => ?_)
    refine wp_block ?_
    refine wp_seq_k (fun K16 hK16 => ?_)
    refine wp_region_lit ?_
    refine l_q rfl rfl (q_ixG (e := 3) (m := 1) (j := i) rfl rfl (by kernel_rfl) (by kernel_rfl) (by first | rfl | omega) (by omega) hG (by rw [iv_len]; first | omega | (simp only [List.length_append, List.length_map, List.length_cons, List.length_nil, List.length_take, List.length_drop, List.length_set] <;> omega))) ?_
    obtain ⟨x17, hx17⟩ : ∃ x, (l.nd)[i]? = some x := ⟨_, List.getElem?_eq_getElem (by first | omega | (simp only [List.length_append, List.length_map, List.length_cons, List.length_nil, List.length_take, List.length_drop, List.length_set] <;> omega) | (simp <;> omega))⟩
    refine l_q rfl rfl (q_load1 rfl (by kernel_rfl) (SlG.cell (hG.mono hS11.base) (Gle.refl _) (at1 (iv_at hx17)))) ?_
    refine l_q rfl rfl (q_assignI rfl) ?_
    refine l_nil ?_
    refine hK16 _ _ ?_
    have hbd17 := ris_bd hris hx17
    obtain ⟨m17, rfl⟩ : ∃ m : Nat, x17 = (m : Int) := ⟨x17.toNat, by omega⟩
    have hst := bits_step hris hx17
    refine wp_region_lit ?_
    refine l_q rfl rfl (q_moveI rfl) ?_
    refine l_q rfl rfl (q_moveI rfl) ?_
    refine l_q rfl rfl (q_shlN (k := .i64) (a := 1) (b := m17) rfl rfl (by show _ ≤ 64; omega) (wrap_fit_i64 (by omega))) ?_
    refine l_q rfl rfl (q_nv hst.1 (q_orS 63 rfl rfl (by show _ < 9223372036854775808; omega) (by show _ < 9223372036854775808; omega) (.inr (by decide)))) ?_
    refine l_q rfl rfl (q_assignI rfl) ?_
    refine l_nil ?_
    refine hK15 _ _ ?_
    refine wp_region_lit ?_
    refine l_q rfl rfl (q_addx rfl rfl (by first | decide | omega) (by first | decide | omega)) ?_
    refine l_q rfl rfl (q_moveI rfl) ?_
    refine l_nil ?_
    refine hK11 _ _ (came ((i + 1)) (by repeat' (first | exact Agree.refl _ _ | refine Agree.up ?_ rfl | refine Agree.hav2 ?_ rfl | refine Agree.ups2 ?_ rfl)) (by repeat' (first | exact trivial | refine ⟨by first | rfl | exact int_succ _ | assumption, ?_⟩)) ?_)
    exact ⟨⟨hS11, (by show i + 1 ≤ l.nd.length; omega)⟩, by (show l.nd.length - (i + 1) < l.nd.length - i); omega⟩
   ·
    have hc14b := hc14
    try simp only [decide_eq_true_eq, decide_eq_false_iff_not, Bool.not_eq_true', Bool.not_eq_false', Bool.and_eq_true, Bool.or_eq_true, Int.not_lt, Int.not_le, ne_eq, Decidable.not_not] at hc14
    refine wp_exit ?_
    refine hK9 _ _ ?_
    refine wp_seq_k (fun K18 hK18 => ?_)
    have hti : l.nd.take i = l.nd := List.take_of_length_le (by omega)
    have hb16 : bitsOf (l.nd.take i) < 65536 := by rw [hti]; exact bits_16 hris
    have hns : ∀ x ∈ [l.k, l.f, l.t, l.x, ((bitsOf (l.nd.take i) : Nat) : Int)], -9223372036854775808 ≤ x ∧ x ≤ 9223372036854775807 := by
     intro x hx
     simp only [List.mem_cons, List.not_mem_nil, or_false] at hx
     rcases hx with rfl | rfl | rfl | rfl | rfl <;> omega
    refine wp_region_lit ?_
    refine l_q rfl rfl (q_assignS rfl) ?_
    refine l_nil ?_
    refine hK18 _ _ ?_
    refine wp_seq_k (fun K19 hK19 => ?_)
    refine wp_seq_k (fun K20 hK20 => ?_)
    refine wp_region_lit ?_
    refine l_q rfl rfl (q_fieldAddr (ft := 22) (o := 0) rfl (by kernel_rfl)) ?_
    refine l_q rfl rfl (q_load1 rfl (by kernel_rfl) (hS11.cell (i := 0) rfl rfl)) ?_
    refine l_q rfl rfl (q_fieldAddr (ft := 3) (o := 1) rfl (by kernel_rfl)) ?_
    refine l_q rfl rfl (q_load1 rfl (by kernel_rfl) (hS11.cell (i := 0) rfl rfl)) ?_
    refine l_q rfl rfl (q_fieldAddr (ft := 3) (o := 2) rfl (by kernel_rfl)) ?_
    refine l_q rfl rfl (q_load1 rfl (by kernel_rfl) (hS11.cell (i := 0) rfl rfl)) ?_
    refine l_q rfl rfl (q_fieldAddr (ft := 3) (o := 3) rfl (by kernel_rfl)) ?_
    refine l_q rfl rfl (q_load1 rfl (by kernel_rfl) (hS11.cell (i := 0) rfl rfl)) ?_
    refine l_q rfl rfl (q_moveI rfl) ?_
    refine l_e rfl (fun K hK => ?_)
    refine e_buildSlice1 (e := 3) (zv := .int .i64 0) (xs := [.tmp 26, .tmp 28, .tmp 30, .tmp 32, .tmp 33]) hS11 (by kernel_rfl) (by kernel_rfl) (by kernel_rfl) rfl rfl rfl rfl (allone (by repeat' (first | exact trivial | refine ⟨by first | rfl | assumption, ?_⟩))) rfl (fun b21 w21 (hS21 : St _ _ [.blk b21 (.cells #[.int .i64 l.k, .int .i64 l.f, .int .i64 l.t, .int .i64 l.x, .int .i64 (((bitsOf (l.nd.take i)) : Nat) : Int)] 3), _] _) => ?_)
    clear hS11
    have hS21o : St _ _ [.ow 3 1 (some ⟨b21, 0, none⟩) 5 5 (iv [l.k, l.f, l.t, l.x, ((bitsOf (l.nd.take i) : Nat) : Int)]), _] _ := hS21.blkOw' (i := 0) (m := 5) (size := 1) (xs := iv [l.k, l.f, l.t, l.x, ((bitsOf (l.nd.take i) : Nat) : Int)]) rfl rfl rfl (by decide); clear hS21
    refine hK _ _ ?_; clear hK K
    refine l_q rfl rfl (q_lenSl (e := 3) rfl (by kernel_rfl)) ?_
    refine l_q rfl rfl (q_moveI rfl) ?_
    refine l_nil ?_
    refine hK20 _ _ ?_
    refine wp_block ?_
    have hS22 := hS21o.ow_nil 78 3; clear hS21o
    refine c_loop (τ := Nat × (List Vl) × (Option Addr) × Nat) [(7, 7), (9, 9), (36, 45)] (fun x => (fun (j : Nat) (vs : List Vl) (ad : Option Addr) (cap : Nat) => [(7, .slice ad vs.length cap), (36, .int .i64 (j : Int))]) x.1 x.2.1 x.2.2.1 x.2.2.2) (fun x w' => (fun (j : Nat) (vs : List Vl) (ad : Option Addr) (cap : Nat) => St w (fun _ => False) [.ow 78 3 ad vs.length cap (List.flatMap vl vs), .ow 3 1 (some ⟨b21, 0, none⟩) 5 5 (iv [l.k, l.f, l.t, l.x, ((bitsOf (l.nd.take i) : Nat) : Int)]), .blk b2 (.cells #[.int .i64 l.k, .int .i64 l.f, .int .i64 l.t, .int .i64 l.x, .slice an l.nd.length cn] 25)] w' ∧ j ≤ 5 ∧ vs = ([l.k, l.f, l.t, l.x, ((bitsOf (l.nd.take i) : Nat) : Int)].take j).map vI ∧ VsOk vs ∧ vs.length = j) x.1 x.2.1 x.2.2.1 x.2.2.2) (fun x => (fun (j : Nat) (vs : List Vl) (ad : Option Addr) (cap : Nat) => 5 - j) x.1 x.2.1 x.2.2.1 x.2.2.2) (⟨0, [], none, 0⟩) ?_ (by repeat' (first | exact trivial | refine ⟨by first | rfl | exact int_succ _ | assumption, ?_⟩)) (fun x23 j23 w23 hJ23 K23 hK23 => ?_)
    ·
     exact ⟨hS22, Nat.zero_le _, rfl, VsOk.nil, rfl⟩
    ·
     obtain ⟨j, vs, ad, cap⟩ := x23
     obtain ⟨hS23, hj, hve, hvs, hvl⟩ := hJ23
     try dsimp only at hS23 hj hve hvs hvl ⊢
     refine wp_seq_k (fun K24 hK24 => ?_)
     refine wp_region_lit ?_
     refine l_q rfl rfl (q_lss rfl rfl) ?_
     refine l_nil ?_
     refine hK24 _ _ ?_
     refine wp_seq_k (fun K25 hK25 => ?_)
     refine c_cond rfl (fun hc26 => ?_) (fun hc26 => ?_)
     ·
      have hc26b := hc26
      try simp only [decide_eq_true_eq, decide_eq_false_iff_not, Bool.not_eq_true', Bool.not_eq_false', Bool.and_eq_true, Bool.or_eq_true, Int.not_lt, Int.not_le, ne_eq, Decidable.not_not] at hc26
      refine wp_skip ?_
      refine hK25 _ _ ?_
      refine wp_seq_k (fun K27 hK27 => ?_)
      refine wp_block ?_
      refine wp_seq_k (fun K28 hK28 => ?_)
      refine wp_region_lit ?_
      refine l_q rfl rfl (q_ixG (e := 3) (m := 1) (j := j) rfl rfl (by kernel_rfl) (by kernel_rfl) (by first | rfl | omega) (by omega) (hS23.owG (i := 1) rfl) (by rw [iv_len]; first | omega | (simp only [List.length_append, List.length_map, List.length_cons, List.length_nil, List.length_take, List.length_drop, List.length_set] <;> omega))) ?_
      obtain ⟨x29, hx29⟩ : ∃ x, ([l.k, l.f, l.t, l.x, ((bitsOf (l.nd.take i) : Nat) : Int)])[j]? = some x := ⟨_, List.getElem?_eq_getElem (by first | omega | (simp only [List.length_append, List.length_map, List.length_cons, List.length_nil, List.length_take, List.length_drop, List.length_set] <;> omega) | (simp <;> omega))⟩
      refine l_q rfl rfl (q_load1 rfl (by kernel_rfl) (SlG.cell (hS23.owG (i := 1) rfl) (Gle.refl _) (at1 (iv_at hx29)))) ?_
      refine l_q rfl rfl (q_assignI rfl) ?_
      refine l_nil ?_
      refine hK28 _ _ ?_
      refine wp_region_lit ?_
      refine l_q rfl rfl (q_moveS rfl) ?_
      refine l_q rfl rfl (q_moveI rfl) ?_
      refine l_q rfl rfl (q_build (ps := [(0, 1), (1, 1), (2, 1)]) (zv := .agg #[.int .i64 0, .int .i64 0, .string ⟨#[]⟩]) (by kernel_rfl) (by kernel_rfl) rfl (by repeat' (first | exact trivial | refine ⟨fun _ => by first | rfl | assumption | exact one_if (by assumption), ?_⟩ | refine ⟨fun ⟨_, h⟩ => by simp at h, ?_⟩)) rfl) ?_
      refine l_e rfl (fun K hK => ?_)
      refine e_buildSliceA (e := 78) (m := 3) (zv := .agg #[.int .i64 0, .int .i64 0, .string ⟨#[]⟩]) hS23 (by kernel_rfl) (by kernel_rfl) (by kernel_rfl) rfl rfl rfl rfl (fun b30 w30 (hS30 : St _ _ [.blk b30 (.cells #[.int .i64 (2 : Int), .int .i64 x29, .string (bs [])] 78), .ow 78 3 ad vs.length cap (List.flatMap vl vs), _, _] _) => ?_)
      clear hS23
      have hnx29 := hns x29 (List.mem_of_getElem? hx29)
      have hS30o : St _ _ [.ow 78 3 (some ⟨b30, 0, none⟩) 1 1 (List.flatMap vl [((2 : Int), x29, [])]), _, _, _] _ := hS30.blkOw' (i := 0) (m := 1) (size := 3) (xs := List.flatMap vl [((2 : Int), x29, [])]) rfl rfl rfl (by decide); clear hS30
      refine hK _ _ ?_; clear hK K
      refine l_e rfl (fun K hK => ?_)
      refine e_app (e := 78) (size := 3) (bytes := 32) (i := 1) (m' := (vs ++ [((2 : Int), x29, [])]).length) (by kernel_rfl) hS30o rfl rfl rfl (SlG.src (e := 78) (by kernel_rfl) (hS30o.owG (i := 0) rfl) ((rows_len (c := vl) (m := 3) (fun _ => rfl) _).trans (by first | rfl | (simp only [List.length_append, List.length_map, List.length_cons, List.length_nil, List.length_take, List.length_drop, List.length_set]; done) | (simp only [List.length_append, List.length_map, List.length_cons, List.length_nil, List.length_take, List.length_drop, List.length_set]; omega) | omega)) (by decide) (rows_one vl_ones)) (by first | omega | (simp only [List.length_append, List.length_map, List.length_cons, List.length_nil, List.length_take, List.length_drop, List.length_set] <;> omega) | (simp; done)) rows_app (by first | omega | (simp only [maxLen, List.length_append, List.length_map, List.length_cons, List.length_nil, List.length_take, List.length_drop, List.length_set] <;> omega) | (simp only [maxLen]; omega)) (by first | omega | (simp only [List.length_append, List.length_map, List.length_cons, List.length_nil, List.length_take, List.length_drop, List.length_set] <;> omega)) (fun ad31 cp31 w31 (hS31 : St _ _ [_, .ow 78 3 ad31 ((vs ++ [((2 : Int), x29, [])]).length) cp31 (List.flatMap vl (vs ++ [((2 : Int), x29, [])])), _, _] _) => ?_)
      clear hS30o
      refine hK _ _ ?_; clear hK K
      refine l_q rfl rfl (q_assignS rfl) ?_
      refine l_nil ?_
      refine hK27 _ _ ?_
      refine wp_region_lit ?_
      refine l_q rfl rfl (q_addx rfl rfl (by first | decide | omega) (by first | decide | omega)) ?_
      refine l_q rfl rfl (q_moveI rfl) ?_
      refine l_nil ?_
      have hS32 := hS31.fr3; clear hS31
      have hS33 := hS32.fr3; clear hS32
      have hS34 := hS33.fr3; clear hS33
      have hS35 : St _ _ [_, _, _] _ := hS34.only 3; clear hS34
      refine hK23 _ _ (came (⟨(j + 1), (vs ++ [((2 : Int), x29, [])]), ad31, cp31⟩) (by repeat' (first | exact Agree.refl _ _ | refine Agree.up ?_ rfl | refine Agree.hav2 ?_ rfl | refine Agree.ups2 ?_ rfl)) (by repeat' (first | exact trivial | refine ⟨by first | rfl | exact int_succ _ | assumption, ?_⟩)) ?_)
      exact ⟨⟨hS35, (by show j + 1 ≤ 5; omega), vIs_step hve hx29, hvs.app (VsOk.one (vI_ok hnx29.1 hnx29.2)), (by show (vs ++ [((2 : Int), x29, [])]).length = j + 1; rw [List.length_append, hvl]; rfl)⟩, by (show 5 - (j + 1) < 5 - j); omega⟩
     ·
      have hc26b := hc26
      try simp only [decide_eq_true_eq, decide_eq_false_iff_not, Bool.not_eq_true', Bool.not_eq_false', Bool.and_eq_true, Bool.or_eq_true, Int.not_lt, Int.not_le, ne_eq, Decidable.not_not] at hc26
      refine wp_exit ?_
      refine hK19 _ _ ?_
      refine wp_seq_k (fun K36 hK36 => ?_)
      refine wp_region_lit ?_
      refine l_q rfl rfl (q_moveS rfl) ?_
      refine l_e rfl (fun K hK => ?_)
      have hel37 := rowE_len (L := vs) hvs
      refine e_call (by kernel_rfl) (rowEnc_ok vs hvs vs.length (by first | omega | (simp only [List.length_append, List.length_map, List.length_cons, List.length_nil, List.length_take, List.length_drop, List.length_set] <;> omega)) (by first | omega | (simp only [List.length_append, List.length_map, List.length_cons, List.length_nil, List.length_take, List.length_drop, List.length_set] <;> omega)) _ _ _ (hS23.owG (i := 0) rfl)) rfl (after_N hS23 (fun v37 G37 w37 hv37 hS37 => ?_))
      clear hS23
      obtain ⟨oa37, oc37, rfl, rfl⟩ := hv37
      have hS38 : St _ _ [.ow 5 1 oa37 (((rowE vs).1).length) oc37 (bv ((rowE vs).1)), _, _, _] _ := hS37; clear hS37
      refine hK _ _ ?_; clear hK K
      refine l_q rfl rfl (q_extract rfl rfl) ?_
      refine l_q rfl rfl (q_extract rfl rfl) ?_
      refine l_q rfl rfl (q_assignS rfl) ?_
      refine l_q rfl rfl (q_assignI rfl) ?_
      refine l_nil ?_
      refine hK36 _ _ ?_
      refine wp_ret ?_
      refine c_ret2 rfl rfl rfl ?_
      have hS39 : St _ _ [_] _ := hS38.only 1; clear hS38
      have hj5 : j = 5 := by omega
      subst hj5
      have hvr : vs = rowL l := by rw [hve, hti]; rfl
      have hne := rowE_L hR
      rw [← hvr] at hne
      exact ⟨_, _, rfl, ⟨oa37, oc37, (by rw [← hne]; rfl), by rw [← hne]⟩, hS39⟩

set_option maxHeartbeats 2000000 in
set_option maxRecDepth 100000 in
theorem ldec_ok (l : Lr) (hR : rightL l = true) (n : Nat) (hn : (encL l).length = n) (ab : Option Addr) (cb : Nat) (hcb : n ≤ cb) (w : World) (hG : SlG (hw w) ab (bv (encL l))) : Calls Try.prog 31 #[.slice ab n cb] w (PostN w fun v G => ∃ an cn, v = .tuple #[.agg (LV l an cn).toArray, .int .i64 0] ∧ G = [.ow 3 1 an l.nd.length cn (iv l.nd)]) := by
 have hS := St.start w
 subst hn
 have hris := rightL_ris hR
 have hra := (rightL_iff.1 hR).1
 have hb16 := bits_16 hris
 have hel := encL_len hR
 have hl16 := ris_len16 hris
 refine c_enter Try.func31 rfl rfl rfl ?_
 refine wp_seq_k (fun K1 hK1 => ?_)
 refine wp_region_lit ?_
 refine l_e rfl (fun K hK => ?_)
 refine e_alloc (zv := .agg #[.int .i64 0, .int .i64 0, .int .i64 0, .int .i64 0, .slice none 0 0]) hS (by kernel_rfl) (fun b2 w2 (hS2 : St _ _ [.blk b2 (.cells #[.int .i64 (0 : Int), .int .i64 (0 : Int), .int .i64 (0 : Int), .int .i64 (0 : Int), .slice none 0 0] 25)] _) => ?_)
 clear hS
 refine hK _ _ ?_; clear hK K
 refine l_q rfl rfl (q_assignI rfl) ?_
 refine l_nil ?_
 refine hK1 _ _ ?_
 refine wp_seq_k (fun K3 hK3 => ?_)
 refine wp_region_lit ?_
 refine l_q rfl rfl (q_moveS rfl) ?_
 refine l_e rfl (fun K hK => ?_)
 have hd5 : (rowL l).length = 5 := rfl
 refine e_call (by kernel_rfl) (rowDecL (encL l) (encL_bytes hR) (encL_dec hR) (encL l).length rfl (by omega) _ _ hcb _ (hG.mono hS2.base)) rfl (after_N hS2 (fun v4 G4 w4 hv4 hS4 => ?_))
 clear hS2
 obtain ⟨oa4, oc4, rfl, rfl⟩ := hv4
 have hS5 : St _ _ [.ow 78 3 oa4 ((rowL l).length) oc4 (List.flatMap vl (rowL l)), _] _ := hS4; clear hS4
 refine hK _ _ ?_; clear hK K
 refine l_q rfl rfl (q_move rfl) ?_
 refine l_q rfl rfl (q_extract rfl rfl) ?_
 refine l_q rfl rfl (q_extract rfl rfl) ?_
 refine l_q rfl rfl (q_assignS rfl) ?_
 refine l_q rfl rfl (q_assignI rfl) ?_
 refine l_nil ?_
 refine hK3 _ _ ?_
 refine wp_seq_k (fun K6 hK6 => ?_)
 refine wp_seq_k (fun K7 hK7 => ?_)
 refine wp_region_lit ?_
 refine l_q rfl rfl (q_moveI rfl) ?_
 refine l_q rfl rfl (q_neq rfl rfl) ?_
 refine l_q rfl rfl (q_moveB rfl) ?_
 refine l_on rfl rfl (by decide) ?_
 refine l_q rfl rfl (q_moveS rfl) ?_
 refine l_on rfl rfl (by decide) ?_
 refine l_q rfl rfl (q_lenSl (e := 78) rfl (by kernel_rfl)) ?_
 refine l_on rfl rfl (by decide) ?_
 refine l_q rfl rfl (q_neq rfl rfl) ?_
 refine l_q rfl rfl (q_pickF rfl (by decide) rfl) ?_
 refine l_nil ?_
 refine hK7 _ _ ?_
 refine c_condF rfl rfl ?_
 refine wp_skip ?_
 refine hK6 _ _ ?_
 refine wp_seq_k (fun K9 hK9 => ?_)
 refine wp_seq_k (fun K10 hK10 => ?_)
 refine wp_region_lit ?_
 refine l_q rfl rfl (q_moveS rfl) ?_
 refine l_q rfl rfl (q_lenSl (e := 78) rfl (by kernel_rfl)) ?_
 refine l_q rfl rfl (q_moveI rfl) ?_
 refine l_nil ?_
 refine hK10 _ _ ?_
 refine wp_block ?_
 refine c_loop (τ := Nat) [(3, 3), (7, 7), (25, 33)] (fun x => (fun (i : Nat) => [(25, .int .i64 (i : Int))]) x) (fun x w' => (fun (i : Nat) => St w (fun _ => False) [.ow 78 3 oa4 ((rowL l).length) oc4 (List.flatMap vl (rowL l)), .blk b2 (.cells #[.int .i64 (0 : Int), .int .i64 (0 : Int), .int .i64 (0 : Int), .int .i64 (0 : Int), .slice none 0 0] 25)] w' ∧ i ≤ 5) x) (fun x => (fun (i : Nat) => 5 - i) x) (0) ?_ (by repeat' (first | exact trivial | refine ⟨by first | rfl | exact int_succ _ | assumption, ?_⟩)) (fun i j11 w11 hJ11 K11 hK11 => ?_)
 ·
  exact ⟨hS5, Nat.zero_le _⟩
 ·
  obtain ⟨hS11, hi⟩ := hJ11
  try dsimp only at hS11 hi ⊢
  refine wp_seq_k (fun K12 hK12 => ?_)
  refine wp_region_lit ?_
  refine l_q rfl rfl (q_lss rfl rfl) ?_
  refine l_nil ?_
  refine hK12 _ _ ?_
  refine wp_seq_k (fun K13 hK13 => ?_)
  refine c_cond rfl (fun hc14 => ?_) (fun hc14 => ?_)
  ·
   have hc14b := hc14
   try simp only [decide_eq_true_eq, decide_eq_false_iff_not, Bool.not_eq_true', Bool.not_eq_false', Bool.and_eq_true, Bool.or_eq_true, Int.not_lt, Int.not_le, ne_eq, Decidable.not_not] at hc14
   refine wp_skip ?_
   refine hK13 _ _ ?_
   refine wp_seq_k (fun K15 hK15 => ?_)
   refine wp_block ?_
   refine wp_seq_k (fun K16 hK16 => ?_)
   refine wp_region_lit ?_
   refine l_q rfl rfl (q_ixG (e := 78) (m := 3) (j := i) rfl rfl (by kernel_rfl) (by kernel_rfl) (by first | rfl | omega) (by omega) (hS11.owG (i := 0) rfl) (by rw [rows_len (c := vl) (m := 3) (fun _ => rfl)]; first | omega | (simp only [List.length_append, List.length_map, List.length_cons, List.length_nil, List.length_take, List.length_drop, List.length_set] <;> omega))) ?_
   obtain ⟨x17, hx17⟩ : ∃ x, ((rowL l))[i]? = some x := ⟨_, List.getElem?_eq_getElem (by first | omega | (simp only [List.length_append, List.length_map, List.length_cons, List.length_nil, List.length_take, List.length_drop, List.length_set] <;> omega) | (simp <;> omega))⟩
   have hvb_x17 := ((rowL_ok hR).1 x17 (List.mem_of_getElem? hx17)).2
   refine l_q rfl rfl (q_loadGA (m := 3) rfl (by kernel_rfl) (by kernel_rfl) (hS11.owG (i := 0) rfl) (row_take hx17 (c := vl) (m := 3) (fun _ => rfl)) rfl (by decide)) ?_
   refine l_e rfl (fun K hK => ?_)
   refine e_alloc (zv := .agg #[.int .i64 0, .int .i64 0, .string ⟨#[]⟩]) hS11 (by kernel_rfl) (fun b18 w18 (hS18 : St _ _ [.blk b18 (.cells #[.int .i64 (0 : Int), .int .i64 (0 : Int), .string (bs [])] 78), _, _] _) => ?_)
   clear hS11
   refine hK _ _ ?_; clear hK K
   refine l_e rfl (fun K hK => ?_)
   refine e_storeA hS18 rfl rfl (by kernel_rfl) (by repeat' (first | exact trivial | refine ⟨by first | rfl | assumption | exact one_if (by assumption), ?_⟩)) (i := 0) rfl rfl (fun w19 (hS19 : St _ _ [.blk b18 (.cells #[.int .i64 x17.1, .int .i64 x17.2.1, .string (bs x17.2.2)] 78), _, _] _) => ?_)
   clear hS18
   refine hK _ _ ?_; clear hK K
   refine l_nil ?_
   refine hK16 _ _ ?_
   refine wp_seq_k (fun K20 hK20 => ?_)
   refine wp_region_lit ?_
   refine l_q rfl rfl (q_fieldAddr (ft := 76) (o := 0) rfl (by kernel_rfl)) ?_
   refine l_q rfl rfl (q_load1 rfl (by kernel_rfl) (hS19.cell (i := 0) rfl rfl)) ?_
   refine l_q rfl rfl (q_neq rfl rfl) ?_
   refine l_nil ?_
   refine hK20 _ _ ?_
   refine c_condF rfl (by rw [rowL_kind hx17]; rfl) ?_
   refine wp_skip ?_
   refine hK15 _ _ ?_
   refine wp_region_lit ?_
   refine l_q rfl rfl (q_addx rfl rfl (by first | decide | omega) (by first | decide | omega)) ?_
   refine l_q rfl rfl (q_moveI rfl) ?_
   refine l_nil ?_
   have hS22 := hS19.fr2; clear hS19
   have hS23 := hS22.fr2; clear hS22
   have hS24 : St _ _ [_, _] _ := hS23.only 2; clear hS23
   refine hK11 _ _ (came ((i + 1)) (by repeat' (first | exact Agree.refl _ _ | refine Agree.up ?_ rfl | refine Agree.hav2 ?_ rfl | refine Agree.ups2 ?_ rfl)) (by repeat' (first | exact trivial | refine ⟨by first | rfl | exact int_succ _ | assumption, ?_⟩)) ?_)
   exact ⟨⟨hS24, (by show i + 1 ≤ 5; omega)⟩, by (show 5 - (i + 1) < 5 - i); omega⟩
  ·
   have hc14b := hc14
   try simp only [decide_eq_true_eq, decide_eq_false_iff_not, Bool.not_eq_true', Bool.not_eq_false', Bool.and_eq_true, Bool.or_eq_true, Int.not_lt, Int.not_le, ne_eq, Decidable.not_not] at hc14
   refine wp_exit ?_
   refine hK9 _ _ ?_
   refine wp_seq_k (fun K25 hK25 => ?_)
   refine r_any (by kernel_rfl) hS11 (fun w26 hS26 => ?_)
   clear hS11
   refine o_pure (i := 0) (fun _ _ => trivial) rfl rfl (by kernel_rfl) (goes0 rfl) (QOk.then QOk.body) (fun w => q_moveS rfl) ?_
   refine o_pure (i := 1) (fun _ _ => trivial) rfl rfl (by kernel_rfl) (goes0 rfl) (QOk.then QOk.body) (fun w => q_ixG (e := 78) (m := 3) (j := 0) rfl rfl (by kernel_rfl) (by kernel_rfl) (by first | rfl | omega) (by omega) (hS26.owG (i := 0) rfl) (by rw [rows_len (c := vl) (m := 3) (fun _ => rfl)]; first | omega | (simp only [List.length_append, List.length_map, List.length_cons, List.length_nil, List.length_take, List.length_drop, List.length_set] <;> omega))) ?_
   refine o_pure (i := 2) (fun _ _ => trivial) rfl rfl (by kernel_rfl) (goes0 rfl) (QOk.then QOk.body) (fun w => q_fieldG (ft := 2) (o := 1) rfl (by kernel_rfl)) ?_
   refine o_held (i := 3) [16, 18] (fun _ _ => trivial) rfl rfl (by kernel_rfl) (goes0 rfl) (QOk.then QOk.body) (q_load1 rfl (by kernel_rfl) (SlG.cell (hS26.owG (i := 0) rfl) (Gle.refl _) (row_at (rfl : (rowL l)[0]? = some (vI l.k)) (c := vl) (m := 3) (fun _ => rfl) (j := 1) rfl))) ?_
   refine o_pure (i := 4) (fun j w => ⟨(fun _ _ => trivial) j w, fun _ h => h⟩) rfl rfl (by kernel_rfl) (goes0 rfl) (QOk.then QOk.body) (fun w => q_moveS rfl) ?_
   refine o_pure (i := 5) (fun j w => ⟨(fun _ _ => trivial) j w, fun _ h => h⟩) rfl rfl (by kernel_rfl) (goes0 rfl) (QOk.then QOk.body) (fun w => q_ixG (e := 78) (m := 3) (j := 1) rfl rfl (by kernel_rfl) (by kernel_rfl) (by first | rfl | omega) (by omega) (hS26.owG (i := 0) rfl) (by rw [rows_len (c := vl) (m := 3) (fun _ => rfl)]; first | omega | (simp only [List.length_append, List.length_map, List.length_cons, List.length_nil, List.length_take, List.length_drop, List.length_set] <;> omega))) ?_
   refine o_pure (i := 6) (fun j w => ⟨(fun _ _ => trivial) j w, fun _ h => h⟩) rfl rfl (by kernel_rfl) (goes0 rfl) (QOk.then QOk.body) (fun w => q_fieldG (ft := 2) (o := 1) rfl (by kernel_rfl)) ?_
   refine o_held (i := 7) [16, 18] (fun j w => ⟨(fun _ _ => trivial) j w, fun _ h => h⟩) rfl rfl (by kernel_rfl) (goes0 rfl) (QOk.then QOk.body) (q_load1 rfl (by kernel_rfl) (SlG.cell (hS26.owG (i := 0) rfl) (Gle.refl _) (row_at (rfl : (rowL l)[1]? = some (vI l.f)) (c := vl) (m := 3) (fun _ => rfl) (j := 1) rfl))) ?_
   refine o_pure (i := 8) (fun j w => ⟨(fun j w => ⟨(fun _ _ => trivial) j w, fun _ h => h⟩) j w, fun _ h => h⟩) rfl rfl (by kernel_rfl) (goes0 rfl) (QOk.then QOk.body) (fun w => q_moveS rfl) ?_
   refine o_pure (i := 9) (fun j w => ⟨(fun j w => ⟨(fun _ _ => trivial) j w, fun _ h => h⟩) j w, fun _ h => h⟩) rfl rfl (by kernel_rfl) (goes0 rfl) (QOk.then QOk.body) (fun w => q_ixG (e := 78) (m := 3) (j := 2) rfl rfl (by kernel_rfl) (by kernel_rfl) (by first | rfl | omega) (by omega) (hS26.owG (i := 0) rfl) (by rw [rows_len (c := vl) (m := 3) (fun _ => rfl)]; first | omega | (simp only [List.length_append, List.length_map, List.length_cons, List.length_nil, List.length_take, List.length_drop, List.length_set] <;> omega))) ?_
   refine o_pure (i := 10) (fun j w => ⟨(fun j w => ⟨(fun _ _ => trivial) j w, fun _ h => h⟩) j w, fun _ h => h⟩) rfl rfl (by kernel_rfl) (goes0 rfl) (QOk.then QOk.body) (fun w => q_fieldG (ft := 2) (o := 1) rfl (by kernel_rfl)) ?_
   refine o_held (i := 11) [16, 18] (fun j w => ⟨(fun j w => ⟨(fun _ _ => trivial) j w, fun _ h => h⟩) j w, fun _ h => h⟩) rfl rfl (by kernel_rfl) (goes0 rfl) (QOk.then QOk.body) (q_load1 rfl (by kernel_rfl) (SlG.cell (hS26.owG (i := 0) rfl) (Gle.refl _) (row_at (rfl : (rowL l)[2]? = some (vI l.t)) (c := vl) (m := 3) (fun _ => rfl) (j := 1) rfl))) ?_
   refine o_pure (i := 12) (fun j w => ⟨(fun j w => ⟨(fun j w => ⟨(fun _ _ => trivial) j w, fun _ h => h⟩) j w, fun _ h => h⟩) j w, fun _ h => h⟩) rfl rfl (by kernel_rfl) (goes0 rfl) (QOk.then QOk.body) (fun w => q_moveS rfl) ?_
   refine o_pure (i := 13) (fun j w => ⟨(fun j w => ⟨(fun j w => ⟨(fun _ _ => trivial) j w, fun _ h => h⟩) j w, fun _ h => h⟩) j w, fun _ h => h⟩) rfl rfl (by kernel_rfl) (goes0 rfl) (QOk.then QOk.body) (fun w => q_ixG (e := 78) (m := 3) (j := 3) rfl rfl (by kernel_rfl) (by kernel_rfl) (by first | rfl | omega) (by omega) (hS26.owG (i := 0) rfl) (by rw [rows_len (c := vl) (m := 3) (fun _ => rfl)]; first | omega | (simp only [List.length_append, List.length_map, List.length_cons, List.length_nil, List.length_take, List.length_drop, List.length_set] <;> omega))) ?_
   refine o_pure (i := 14) (fun j w => ⟨(fun j w => ⟨(fun j w => ⟨(fun _ _ => trivial) j w, fun _ h => h⟩) j w, fun _ h => h⟩) j w, fun _ h => h⟩) rfl rfl (by kernel_rfl) (goes0 rfl) (QOk.then QOk.body) (fun w => q_fieldG (ft := 2) (o := 1) rfl (by kernel_rfl)) ?_
   refine o_held (i := 15) [16, 18] (fun j w => ⟨(fun j w => ⟨(fun j w => ⟨(fun _ _ => trivial) j w, fun _ h => h⟩) j w, fun _ h => h⟩) j w, fun _ h => h⟩) rfl rfl (by kernel_rfl) (goes0 rfl) (QOk.then QOk.body) (q_load1 rfl (by kernel_rfl) (SlG.cell (hS26.owG (i := 0) rfl) (Gle.refl _) (row_at (rfl : (rowL l)[3]? = some (vI l.x)) (c := vl) (m := 3) (fun _ => rfl) (j := 1) rfl))) ?_
   refine o_pure (i := 16) (fun j w => ⟨(fun j w => ⟨(fun j w => ⟨(fun j w => ⟨(fun _ _ => trivial) j w, fun _ h => h⟩) j w, fun _ h => h⟩) j w, fun _ h => h⟩) j w, fun _ h => h⟩) rfl rfl (by kernel_rfl) (goes0 rfl) (QOk.then QOk.body) (fun w => q_build (ps := [(0, 1), (1, 1), (2, 1), (3, 1), (4, 1)]) (zv := .agg #[.int .i64 0, .int .i64 0, .int .i64 0, .int .i64 0, .slice none 0 0]) (by kernel_rfl) (by kernel_rfl) rfl (by repeat' (first | exact trivial | refine ⟨fun _ => by first | rfl | assumption | exact one_if (by assumption), ?_⟩ | refine ⟨fun ⟨_, h⟩ => by simp at h, ?_⟩)) rfl) ?_
   refine o_eff (i := 17) (by kernel_rfl) rfl (goes0 rfl) (fun K hK => ?_)
   refine e_alloc (zv := .agg #[.int .i64 0, .int .i64 0, .int .i64 0, .int .i64 0, .slice none 0 0]) hS26 (by kernel_rfl) (fun b27 w27 (hS27 : St _ _ [.blk b27 (.cells #[.int .i64 (0 : Int), .int .i64 (0 : Int), .int .i64 (0 : Int), .int .i64 (0 : Int), .slice none 0 0] 25), _, _] _) => ?_)
   clear hS26
   refine hK _ _ ⟨⟨⟨⟨trivial, fun _ _ => by first | exact q_load1 rfl (by kernel_rfl) (SlG.cell (hS27.owG (i := 1) rfl) (Gle.refl _) (row_at (rfl : (rowL l)[0]? = some (vI l.k)) (c := vl) (m := 3) (fun _ => rfl) (j := 1) rfl))⟩, fun _ _ => by first | exact q_load1 rfl (by kernel_rfl) (SlG.cell (hS27.owG (i := 1) rfl) (Gle.refl _) (row_at (rfl : (rowL l)[1]? = some (vI l.f)) (c := vl) (m := 3) (fun _ => rfl) (j := 1) rfl))⟩, fun _ _ => by first | exact q_load1 rfl (by kernel_rfl) (SlG.cell (hS27.owG (i := 1) rfl) (Gle.refl _) (row_at (rfl : (rowL l)[2]? = some (vI l.t)) (c := vl) (m := 3) (fun _ => rfl) (j := 1) rfl))⟩, fun _ _ => by first | exact q_load1 rfl (by kernel_rfl) (SlG.cell (hS27.owG (i := 1) rfl) (Gle.refl _) (row_at (rfl : (rowL l)[3]? = some (vI l.x)) (c := vl) (m := 3) (fun _ => rfl) (j := 1) rfl))⟩ ?_; clear hK K
   refine o_eff (i := 18) (by kernel_rfl) rfl (goes0 rfl) (fun K hK => ?_)
   refine e_storeA hS27 rfl rfl (by kernel_rfl) (by repeat' (first | exact trivial | refine ⟨by first | rfl | assumption | exact one_if (by assumption), ?_⟩)) (i := 0) rfl rfl (fun w28 (hS28 : St _ _ [.blk b27 (.cells #[.int .i64 l.k, .int .i64 l.f, .int .i64 l.t, .int .i64 l.x, .slice none 0 0] 25), _, _] _) => ?_)
   clear hS27
   refine hK _ _ ⟨⟨⟨⟨trivial, fun h => absurd h (by decide)⟩, fun h => absurd h (by decide)⟩, fun h => absurd h (by decide)⟩, fun h => absurd h (by decide)⟩ ?_; clear hK K
   refine o_done (by kernel_rfl) ?_
   refine hK25 _ _ ?_
   refine wp_seq_k (fun K29 hK29 => ?_)
   refine wp_seq_k (fun K30 hK30 => ?_)
   refine wp_region_lit ?_
   refine l_q rfl rfl (q_moveI rfl) ?_
   refine l_nil ?_
   refine hK30 _ _ ?_
   refine wp_block ?_
   have hS31 := hS28.ow_nil 3 1; clear hS28
   refine c_loop (τ := Nat × (Option Addr) × Nat) [(9, 9), (51, 68)] (fun x => (fun (i : Nat) (ad : Option Addr) (cap : Nat) => [(51, .int .i64 (i : Int))]) x.1 x.2.1 x.2.2) (fun x w' => (fun (i : Nat) (ad : Option Addr) (cap : Nat) => St w (fun _ => False) [.ow 3 1 ad ((nodesTo (bitsOf l.nd) i).length) cap (iv (nodesTo (bitsOf l.nd) i)), .blk b27 (.cells #[.int .i64 l.k, .int .i64 l.f, .int .i64 l.t, .int .i64 l.x, .slice ad ((nodesTo (bitsOf l.nd) i).length) cap] 25), .ow 78 3 oa4 ((rowL l).length) oc4 (List.flatMap vl (rowL l)), .blk b2 (.cells #[.int .i64 (0 : Int), .int .i64 (0 : Int), .int .i64 (0 : Int), .int .i64 (0 : Int), .slice none 0 0] 25)] w' ∧ i ≤ 16) x.1 x.2.1 x.2.2) (fun x => (fun (i : Nat) (ad : Option Addr) (cap : Nat) => 16 - i) x.1 x.2.1 x.2.2) (⟨0, none, 0⟩) ?_ (by repeat' (first | exact trivial | refine ⟨by first | rfl | exact int_succ _ | assumption, ?_⟩)) (fun x32 j32 w32 hJ32 K32 hK32 => ?_)
   ·
    exact ⟨hS31.cast (by rw [nodesTo_zero]; rfl), Nat.zero_le _⟩
   ·
    obtain ⟨i, ad, cap⟩ := x32
    obtain ⟨hS32, hi⟩ := hJ32
    try dsimp only at hS32 hi ⊢
    have hnl := nodesTo_len (bitsOf l.nd) i
    have hdl : bitsOf l.nd / 2 ^ i ≤ bitsOf l.nd := Nat.div_le_self _ _
    refine wp_seq_k (fun K33 hK33 => ?_)
    refine wp_region_lit ?_
    refine l_q rfl rfl (q_lss rfl rfl) ?_
    refine l_nil ?_
    refine hK33 _ _ ?_
    refine wp_seq_k (fun K34 hK34 => ?_)
    refine c_cond rfl (fun hc35 => ?_) (fun hc35 => ?_)
    ·
     have hc35b := hc35
     try simp only [decide_eq_true_eq, decide_eq_false_iff_not, Bool.not_eq_true', Bool.not_eq_false', Bool.and_eq_true, Bool.or_eq_true, Int.not_lt, Int.not_le, ne_eq, Decidable.not_not] at hc35
     refine wp_skip ?_
     refine hK34 _ _ ?_
     refine wp_seq_k (fun K36 hK36 => ?_)
     refine wp_block ?_
     refine wp_seq_k (fun K37 hK37 => ?_)
     refine wp_region_lit ?_
     refine l_q rfl rfl (q_moveI rfl) ?_
     refine l_q rfl rfl (q_assignI rfl) ?_
     refine l_nil ?_
     refine hK37 _ _ ?_
     refine wp_seq_k (fun K38 hK38 => ?_)
     refine wp_region_lit ?_
     refine l_q rfl rfl (q_moveS rfl) ?_
     refine l_q rfl rfl (q_ixG (e := 78) (m := 3) (j := 4) rfl rfl (by kernel_rfl) (by kernel_rfl) (by first | rfl | omega) (by omega) (hS32.owG (i := 2) rfl) (by rw [rows_len (c := vl) (m := 3) (fun _ => rfl)]; first | omega | (simp only [List.length_append, List.length_map, List.length_cons, List.length_nil, List.length_take, List.length_drop, List.length_set] <;> omega))) ?_
     refine l_q rfl rfl (q_fieldG (ft := 2) (o := 1) rfl (by kernel_rfl)) ?_
     refine l_q rfl rfl (q_load1 rfl (by kernel_rfl) (SlG.cell (hS32.owG (i := 2) rfl) (Gle.refl _) (row_at (rfl : (rowL l)[4]? = some (vI ((bitsOf l.nd : Nat) : Int))) (c := vl) (m := 3) (fun _ => rfl) (j := 1) rfl))) ?_
     refine l_q rfl rfl (q_moveI rfl) ?_
     refine l_q rfl rfl (q_shrN (k := .i64) (a := (bitsOf l.nd)) (b := i) rfl rfl (by show _ ≤ 64; omega)) ?_
     refine l_q rfl rfl (q_andP (a := ((bitsOf l.nd) / 2 ^ i)) (j := 1) (M := 2) 63 rfl rfl (by decide) (by decide) (by decide) (by show _ < 9223372036854775808; omega) (.inr (by decide))) ?_
     refine l_q rfl rfl (q_eql rfl rfl) ?_
     refine l_nil ?_
     refine hK38 _ _ ?_
     refine c_cond rfl (fun hc39 => ?_) (fun hc39 => ?_)
     ·
      have hc39b := hc39
      try simp only [decide_eq_true_eq, decide_eq_false_iff_not, Bool.not_eq_true', Bool.not_eq_false', Bool.and_eq_true, Bool.or_eq_true, Int.not_lt, Int.not_le, ne_eq, Decidable.not_not] at hc39
      refine wp_region_lit ?_
      refine l_q rfl rfl (q_fieldAddr (ft := 23) (o := 4) rfl (by kernel_rfl)) ?_
      refine l_q rfl rfl (q_load1 rfl (by kernel_rfl) (hS32.cell (i := 1) rfl rfl)) ?_
      refine l_q rfl rfl (q_moveI rfl) ?_
      refine l_e rfl (fun K hK => ?_)
      refine e_buildSlice1 (e := 3) (zv := .int .i64 0) (xs := [.tmp 64]) hS32 (by kernel_rfl) (by kernel_rfl) (by kernel_rfl) rfl rfl rfl rfl (allone (by repeat' (first | exact trivial | refine ⟨by first | rfl | assumption, ?_⟩))) rfl (fun b40 w40 (hS40 : St _ _ [.blk b40 (.cells #[.int .i64 (i : Int)] 3), .ow 3 1 ad ((nodesTo (bitsOf l.nd) i).length) cap (iv (nodesTo (bitsOf l.nd) i)), .blk b27 (.cells #[.int .i64 l.k, .int .i64 l.f, .int .i64 l.t, .int .i64 l.x, .slice ad ((nodesTo (bitsOf l.nd) i).length) cap] 25), _, _] _) => ?_)
      clear hS32
      have hS40o : St _ _ [.ow 3 1 (some ⟨b40, 0, none⟩) 1 1 (iv [(i : Int)]), _, _, _, _] _ := hS40.blkOw' (i := 0) (m := 1) (size := 1) (xs := iv [(i : Int)]) rfl rfl rfl (by decide); clear hS40
      refine hK _ _ ?_; clear hK K
      refine l_e rfl (fun K hK => ?_)
      refine e_app (e := 3) (size := 1) (bytes := 8) (i := 1) (m' := ((nodesTo (bitsOf l.nd) i) ++ [(i : Int)]).length) (by kernel_rfl) hS40o rfl rfl rfl (SlG.src (e := 3) (by kernel_rfl) (hS40o.owG (i := 0) rfl) (by first | (simp only [List.length_append, List.length_map, List.length_cons, List.length_nil, List.length_take, List.length_drop, List.length_set, Nat.mul_one]; done) | (simp only [List.length_append, List.length_map, List.length_cons, List.length_nil, List.length_take, List.length_drop, List.length_set]; omega) | rfl | (simp; done)) (by decide) (iv_one _)) (by first | omega | (simp only [List.length_append, List.length_map, List.length_cons, List.length_nil, List.length_take, List.length_drop, List.length_set] <;> omega) | (simp; done)) iv_app (by first | omega | (simp only [maxLen, List.length_append, List.length_map, List.length_cons, List.length_nil, List.length_take, List.length_drop, List.length_set] <;> omega) | (simp only [maxLen]; omega)) (by first | omega | (simp only [List.length_append, List.length_map, List.length_cons, List.length_nil, List.length_take, List.length_drop, List.length_set] <;> omega)) (fun ad41 cp41 w41 (hS41 : St _ _ [_, .ow 3 1 ad41 (((nodesTo (bitsOf l.nd) i) ++ [(i : Int)]).length) cp41 (iv ((nodesTo (bitsOf l.nd) i) ++ [(i : Int)])), _, _, _] _) => ?_)
      clear hS40o
      refine hK _ _ ?_; clear hK K
      refine l_q rfl rfl (q_fieldAddr (ft := 23) (o := 4) rfl (by kernel_rfl)) ?_
      refine l_e rfl (fun K hK => ?_)
      refine e_store1 hS41 rfl rfl (by kernel_rfl) (by first | rfl | assumption) (i := 2) rfl rfl (fun w42 (hS42 : St _ _ [_, _, .blk b27 (.cells #[.int .i64 l.k, .int .i64 l.f, .int .i64 l.t, .int .i64 l.x, .slice ad41 (((nodesTo (bitsOf l.nd) i) ++ [(i : Int)]).length) cp41] 25), _, _] _) => ?_)
      clear hS41
      refine hK _ _ ?_; clear hK K
      refine l_nil ?_
      refine hK36 _ _ ?_
      refine wp_region_lit ?_
      refine l_q rfl rfl (q_addx rfl rfl (by first | decide | omega) (by first | decide | omega)) ?_
      refine l_q rfl rfl (q_moveI rfl) ?_
      refine l_nil ?_
      have hS43 := hS42.fr4; clear hS42
      have hS44 := hS43.fr4; clear hS43
      have hS45 := hS44.fr4; clear hS44
      have hS46 := hS45.fr4; clear hS45
      have hS47 : St _ _ [_, _, _, _] _ := hS46.only 4; clear hS46
      refine hK32 _ _ (came (⟨(i + 1), ad41, cp41⟩) (by repeat' (first | exact Agree.refl _ _ | refine Agree.up ?_ rfl | refine Agree.hav2 ?_ rfl | refine Agree.ups2 ?_ rfl)) (by repeat' (first | exact trivial | refine ⟨by first | rfl | exact int_succ _ | assumption, ?_⟩)) ?_)
      exact ⟨⟨hS47.cast (by rw [nodesTo_at (by omega)]), (by show i + 1 ≤ 16; omega)⟩, by (show 16 - (i + 1) < 16 - i); omega⟩
     ·
      have hc39b := hc39
      try simp only [decide_eq_true_eq, decide_eq_false_iff_not, Bool.not_eq_true', Bool.not_eq_false', Bool.and_eq_true, Bool.or_eq_true, Int.not_lt, Int.not_le, ne_eq, Decidable.not_not] at hc39
      refine wp_skip ?_
      refine hK36 _ _ ?_
      refine wp_region_lit ?_
      refine l_q rfl rfl (q_addx rfl rfl (by first | decide | omega) (by first | decide | omega)) ?_
      refine l_q rfl rfl (q_moveI rfl) ?_
      refine l_nil ?_
      refine hK32 _ _ (came (⟨(i + 1), ad, cap⟩) (by repeat' (first | exact Agree.refl _ _ | refine Agree.up ?_ rfl | refine Agree.hav2 ?_ rfl | refine Agree.ups2 ?_ rfl)) (by repeat' (first | exact trivial | refine ⟨by first | rfl | exact int_succ _ | assumption, ?_⟩)) ?_)
      exact ⟨⟨hS32.cast (by rw [nodesTo_off (by omega)]), (by show i + 1 ≤ 16; omega)⟩, by (show 16 - (i + 1) < 16 - i); omega⟩
    ·
     have hc35b := hc35
     try simp only [decide_eq_true_eq, decide_eq_false_iff_not, Bool.not_eq_true', Bool.not_eq_false', Bool.and_eq_true, Bool.or_eq_true, Int.not_lt, Int.not_le, ne_eq, Decidable.not_not] at hc35
     refine wp_exit ?_
     refine hK29 _ _ ?_
     refine wp_seq_k (fun K48 hK48 => ?_)
     refine wp_seq_k (fun K49 hK49 => ?_)
     have hi16 : i = 16 := by omega
     subst hi16
     have hn16' := nodes_16 hris
     have hrl : rightL (Lr.mk l.k l.f l.t l.x (nodesTo (bitsOf l.nd) 16)) = true := by rw [hn16']; exact hR
     have hnl := nodesTo_len (bitsOf l.nd) 16
     refine wp_region_lit ?_
     refine l_q rfl rfl (q_loadA (m := 5) rfl (by kernel_rfl) (by kernel_rfl) (hS32.blk (i := 1) rfl) rfl rfl) ?_
     refine l_e rfl (fun K hK => ?_)
     refine e_call (by kernel_rfl) (lright_ok (Lr.mk l.k l.f l.t l.x (nodesTo (bitsOf l.nd) 16)) _ rfl (by first | omega | (simp only [List.length_append, List.length_map, List.length_cons, List.length_nil, List.length_take, List.length_drop, List.length_set] <;> omega)) _ _ _ (hS32.owG (i := 0) rfl)) rfl (after_R hS32 (fun v50 w50 hv50 hS50 => ?_))
     clear hS32
     obtain rfl := hv50
     refine hK _ _ ?_; clear hK K
     refine l_q rfl rfl (q_not rfl) ?_
     refine l_q rfl rfl (q_moveB rfl) ?_
     refine l_on rfl rfl (by rw [hrl]; rfl) ?_
     refine l_q rfl rfl (q_moveS rfl) ?_
     refine l_on rfl rfl (by rw [hrl]; rfl) ?_
     refine l_q rfl rfl (q_ixG (e := 78) (m := 3) (j := 4) rfl rfl (by kernel_rfl) (by kernel_rfl) (by first | rfl | omega) (by omega) (hS50.owG (i := 2) rfl) (by rw [rows_len (c := vl) (m := 3) (fun _ => rfl)]; first | omega | (simp only [List.length_append, List.length_map, List.length_cons, List.length_nil, List.length_take, List.length_drop, List.length_set] <;> omega))) ?_
     refine l_on rfl rfl (by rw [hrl]; rfl) ?_
     refine l_q rfl rfl (q_fieldG (ft := 2) (o := 1) rfl (by kernel_rfl)) ?_
     refine l_on rfl rfl (by rw [hrl]; rfl) ?_
     refine l_q rfl rfl (q_load1 rfl (by kernel_rfl) (SlG.cell (hS50.owG (i := 2) rfl) (Gle.refl _) (row_at (rfl : (rowL l)[4]? = some (vI ((bitsOf l.nd : Nat) : Int))) (c := vl) (m := 3) (fun _ => rfl) (j := 1) rfl))) ?_
     refine l_on rfl rfl (by rw [hrl]; rfl) ?_
     refine l_q rfl rfl (q_lss rfl rfl) ?_
     refine l_q rfl rfl (q_pickF rfl (by rw [hrl]; rfl) rfl) ?_
     refine l_q rfl rfl (q_moveB rfl) ?_
     refine l_on rfl rfl (decide_eq_false (show ¬((bitsOf l.nd : Nat) : Int) < 0 from by omega)) ?_
     refine l_q rfl rfl (q_moveS rfl) ?_
     refine l_on rfl rfl (decide_eq_false (show ¬((bitsOf l.nd : Nat) : Int) < 0 from by omega)) ?_
     refine l_q rfl rfl (q_ixG (e := 78) (m := 3) (j := 4) rfl rfl (by kernel_rfl) (by kernel_rfl) (by first | rfl | omega) (by omega) (hS50.owG (i := 2) rfl) (by rw [rows_len (c := vl) (m := 3) (fun _ => rfl)]; first | omega | (simp only [List.length_append, List.length_map, List.length_cons, List.length_nil, List.length_take, List.length_drop, List.length_set] <;> omega))) ?_
     refine l_on rfl rfl (decide_eq_false (show ¬((bitsOf l.nd : Nat) : Int) < 0 from by omega)) ?_
     refine l_q rfl rfl (q_fieldG (ft := 2) (o := 1) rfl (by kernel_rfl)) ?_
     refine l_on rfl rfl (decide_eq_false (show ¬((bitsOf l.nd : Nat) : Int) < 0 from by omega)) ?_
     refine l_q rfl rfl (q_load1 rfl (by kernel_rfl) (SlG.cell (hS50.owG (i := 2) rfl) (Gle.refl _) (row_at (rfl : (rowL l)[4]? = some (vI ((bitsOf l.nd : Nat) : Int))) (c := vl) (m := 3) (fun _ => rfl) (j := 1) rfl))) ?_
     refine l_on rfl rfl (decide_eq_false (show ¬((bitsOf l.nd : Nat) : Int) < 0 from by omega)) ?_
     refine l_q rfl rfl (q_geq rfl rfl) ?_
     refine l_q rfl rfl (q_pickF rfl (decide_eq_false (show ¬((bitsOf l.nd : Nat) : Int) < 0 from by omega)) rfl) ?_
     refine l_nil ?_
     refine hK49 _ _ ?_
     refine c_condF rfl (decide_eq_false (show ¬((bitsOf l.nd : Nat) : Int) ≥ 65536 from by omega)) ?_
     refine wp_skip ?_
     refine hK48 _ _ ?_
     refine wp_seq_k (fun K54 hK54 => ?_)
     refine wp_region_lit ?_
     refine l_q rfl rfl (q_loadA (m := 5) rfl (by kernel_rfl) (by kernel_rfl) (hS50.blk (i := 1) rfl) rfl rfl) ?_
     refine l_e rfl (fun K hK => ?_)
     refine e_storeA hS50 rfl rfl (by kernel_rfl) (by repeat' (first | exact trivial | refine ⟨by first | rfl | assumption | exact one_if (by assumption), ?_⟩)) (i := 3) rfl rfl (fun w55 (hS55 : St _ _ [.ow 3 1 ad ((nodesTo (bitsOf l.nd) 16).length) cap (iv (nodesTo (bitsOf l.nd) 16)), .blk b27 (.cells #[.int .i64 l.k, .int .i64 l.f, .int .i64 l.t, .int .i64 l.x, .slice ad ((nodesTo (bitsOf l.nd) 16).length) cap] 25), _, .blk b2 (.cells #[.int .i64 l.k, .int .i64 l.f, .int .i64 l.t, .int .i64 l.x, .slice ad ((nodesTo (bitsOf l.nd) 16).length) cap] 25)] _) => ?_)
     clear hS50
     refine hK _ _ ?_; clear hK K
     refine l_q rfl rfl (q_assignI rfl) ?_
     refine l_nil ?_
     refine hK54 _ _ ?_
     refine wp_ret ?_
     refine c_retCT (m := 5) rfl (by kernel_rfl) (by kernel_rfl) rfl (hS55.blk (i := 3) rfl) rfl rfl ?_
     have hS56 : St _ _ [_] _ := hS55.only 1; clear hS55
     have hn16 := nodes_16 hris
     exact ⟨_, _, rfl, ⟨ad, cap, (by rw [hn16]; rfl), by rw [hn16]⟩, hS56⟩

end Go.Proofs.Ytlplhlncdfhhoaa
