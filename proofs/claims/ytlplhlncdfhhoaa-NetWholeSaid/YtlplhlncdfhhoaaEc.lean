/- The document's net. -/
import Derived.Test.YtlplhlncdfhhoaaEb
set_option linter.unusedVariables false
set_option linter.unusedSimpArgs false
namespace Go.Proofs.Ytlplhlncdfhhoaa
open Go.RowKit
/-- A letter under way, as the document has it. -/
structure Wy where
  n : Int
  ad : Option Addr
  cap : Nat
  l : Lr
def wc (q : Wy) : List Value := [.int .i64 q.n, .int .i64 q.l.k, .int .i64 q.l.f, .int .i64 q.l.t, .int .i64 q.l.x, .slice q.ad q.l.nd.length q.cap]
theorem wc_ones : ∀ q : Wy, AllOne (wc q) := fun q => ⟨rfl, rfl, rfl, rfl, rfl, rfl, trivial⟩
abbrev rtO (ad : Option Addr) (m cap s t o : Nat) : Obj := .cells #[.slice ad m cap, .int .i64 ((s : Nat) : Int), .int .i64 ((t : Nat) : Int), .int .i64 ((o : Nat) : Int)] 51
def WOk (g : Gh) (W : List Wy) : Prop := ∀ q ∈ W, SlG g q.ad (iv q.l.nd) ∧ q.l.nd.length ≤ 16 ∧ rightL q.l = true
theorem WOk.mono {g h : Gh} {W : List Wy} (hW : WOk g W) (hg : Gle g h) : WOk h W := fun q hq => ⟨(hW q hq).1.mono hg, (hW q hq).2⟩
theorem WOk.nil {g : Gh} : WOk g [] := fun q h => by cases h
theorem WOk.sub {g : Gh} {W W' : List Wy} (h : WOk g W) (hs : ∀ q ∈ W', q ∈ W) : WOk g W' := fun q hq => h q (hs q hq)
theorem WOk.add {g : Gh} {W : List Wy} (h : WOk g W) {q : Wy} (hq : SlG g q.ad (iv q.l.nd)) (hr : rightL q.l = true) : WOk g (W ++ [q]) := fun x hx => by
  rcases List.mem_append.1 hx with hx | hx
  · exact h x hx
  · rw [List.mem_singleton] at hx; subst hx; exact ⟨hq, ris_len16 (rightL_ris hr), hr⟩
def absW (W : List Wy) : List (Int × Lr) := W.map fun q => (q.n, q.l)
theorem absW_len (W : List Wy) : (absW W).length = W.length := List.length_map _
theorem absW_app (A B : List Wy) : absW (A ++ B) = absW A ++ absW B := List.map_append
/-- The numbers of those to a node; of all. -/
def numsW (A : List (Int × Lr)) (nd : Int) : List Int := (A.filter fun q => decide (nd < 0) || decide (q.2.t = nd)).map Prod.fst
theorem numsW_take {W : List Wy} {i : Nat} {q : Wy} {nd : Int} (h : W[i]? = some q) : numsW (absW (W.take (i + 1))) nd = numsW (absW (W.take i)) nd ++ (if (decide (nd < 0) || decide (q.l.t = nd)) = true then [q.n] else []) := by
  rw [List.take_add_one, h, absW_app]
  unfold numsW
  rw [List.filter_append, List.map_append]
  congr 1
  show List.map Prod.fst (List.filter _ [(q.n, q.l)]) = _
  rw [List.filter_cons]
  split <;> simp
/-- What Send hands back, and leaves. -/
def RSendP (r s t o : Nat) (W : List Wy) (g : Gh) (l : Lr) (v : Value) (G : List Ch) : Prop := ∃ W' s' g' ad' cap', v = .tuple #[.int .i64 (snd (absW W) s l).1.1, .int .i64 (snd (absW W) s l).1.2] ∧ G = [.blk r (rtO ad' W'.length cap' s' t o), .ow 54 6 ad' W'.length cap' (List.flatMap wc W'), .fz g'] ∧ Gle g g' ∧ WOk g' W' ∧ (snd (absW W) s l).2 = (absW W', s')
theorem RSendP.keep {r s t o : Nat} {W : List Wy} {g g' : Gh} {l : Lr} {a b : Int} {ad : Option Addr} {cap : Nat} (h : snd (absW W) s l = ((a, b), absW W, s)) (hg : Gle g g') (hW : WOk g W) :
    RSendP r s t o W g l (.tuple #[.int .i64 a, .int .i64 b]) [.blk r (rtO ad W.length cap s t o), .ow 54 6 ad W.length cap (List.flatMap wc W), .fz g'] :=
  ⟨W, s, g', ad, cap, by rw [h], rfl, hg, hW.mono hg, by rw [h]⟩
theorem RSendP.more {r s t o : Nat} {W : List Wy} {g g' : Gh} {l : Lr} {z : Int} {ad ad' : Option Addr} {cap cap' : Nat} (hz : z = ((s : Nat) : Int)) (hR : rightL l = true) (hf : W.length < 1024) (hg : Gle g g') (hW : WOk g W) (hG : SlG g' ad' (iv l.nd)) :
    RSendP r s t o W g l (.tuple #[.int .i64 z, .int .i64 0]) [.blk r (rtO ad (W ++ [Wy.mk ((s : Nat) : Int) ad' cap' l]).length cap (s + 1) t o), .ow 54 6 ad (W ++ [Wy.mk ((s : Nat) : Int) ad' cap' l]).length cap (List.flatMap wc (W ++ [Wy.mk ((s : Nat) : Int) ad' cap' l])), .fz g'] := by
  subst hz
  have h := snd_ok (A := absW W) (s := s) (l := l) hR (by rw [absW_len]; exact hf)
  exact ⟨_, _, g', ad, cap, by rw [h], rfl, hg, (hW.mono hg).add hG hR, by rw [h, absW_app]; rfl⟩
theorem mid_take {A B : List Wy} {q : Wy} : (A ++ q :: B).take A.length = A := List.take_left
theorem mid_drop {A B : List Wy} {q : Wy} : (A ++ q :: B).drop (A.length + 1) = B := by
  rw [List.drop_append]; simp
attribute [local irreducible] Oper.wp Sem.run Code.wp wpList wpAnyO callFunc execOp Calls
attribute [local irreducible] toU short rencs renc rowE encRow rightB zig unzig decRw rightL risB lastN bitsOf nodesTo encL encLE sameL snd numsW

set_option maxRecDepth 100000 in
theorem rfind_hit (r : Nat) (ad : Option Addr) (cap s t o : Nat) (W : List Wy) (hwl : W.length ≤ 2000000) (n : Int) (A : List Wy) (q : Wy) (B : List Wy) (hWe : W = A ++ q :: B) (hq : q.n = n) (hA : ∀ x ∈ A, x.n ≠ n) (w : World) (hk : w.heap[r]? = some (rtO ad W.length cap s t o)) (hG : SlG (hw w) ad (List.flatMap wc W)) : Calls Try.prog 21 #[pV r, .int .i64 n] w (PostR w fun v => v = .int .i64 ((A.length : Nat) : Int)) := by
 have hS := St.start w
 refine c_enter Try.func21 rfl rfl rfl ?_
 refine wp_seq_k (fun K1 hK1 => ?_)
 refine wp_region_lit ?_
 refine l_q rfl rfl (q_assignI rfl) ?_
 refine l_nil ?_
 refine hK1 _ _ ?_
 refine wp_seq_k (fun K2 hK2 => ?_)
 refine wp_seq_k (fun K3 hK3 => ?_)
 refine wp_region_lit ?_
 refine l_q rfl rfl (q_assignI rfl) ?_
 refine l_nil ?_
 refine hK3 _ _ ?_
 refine wp_block ?_
 refine c_loop (τ := Nat) [(4, 25)] (fun x => (fun (i : Nat) => [(5, .int .i64 (i : Int))]) x) (fun x w' => (fun (i : Nat) => St w (fun _ => False) [] w' ∧ i ≤ W.length ∧ (∀ j, j < i → ∀ x, W[j]? = some x → x.n ≠ n)) x) (fun x => (fun (i : Nat) => W.length - i) x) (0) ?_ (by repeat' (first | exact trivial | refine ⟨by first | rfl | exact int_succ _ | assumption, ?_⟩)) (fun i j4 w4 hJ4 K4 hK4 => ?_)
 ·
  exact ⟨hS, Nat.zero_le _, fun j h => (by omega)⟩
 ·
  obtain ⟨hS4, hi, hj⟩ := hJ4
  try dsimp only at hS4 hi hj ⊢
  have hlt : A.length < W.length := by rw [hWe, List.length_append, List.length_cons]; omega
  have hat : W[A.length]? = some q := by rw [hWe, List.getElem?_append_right (Nat.le_refl _), Nat.sub_self]; rfl
  refine wp_seq_k (fun K5 hK5 => ?_)
  refine wp_seq_k (fun K6 hK6 => ?_)
  refine wp_region_lit ?_
  refine l_q rfl rfl (q_moveI rfl) ?_
  refine l_q rfl rfl (q_moveP rfl) ?_
  refine l_q rfl rfl (q_nilCheck rfl) ?_
  refine l_q rfl rfl (q_fieldAddr (ft := 49) (o := 0) rfl (by kernel_rfl)) ?_
  refine l_q rfl rfl (q_load1 rfl (by kernel_rfl) (cell_blk (hS4.base _ _ hk) rfl)) ?_
  refine l_q rfl rfl (q_lenSl (e := 54) rfl (by kernel_rfl)) ?_
  refine l_q rfl rfl (q_lss rfl rfl) ?_
  refine l_nil ?_
  refine hK6 _ _ ?_
  refine c_cond rfl (fun hc7 => ?_) (fun hc7 => ?_)
  ·
   have hc7b := hc7
   try simp only [decide_eq_true_eq, decide_eq_false_iff_not, Bool.not_eq_true', Bool.not_eq_false', Bool.and_eq_true, Bool.or_eq_true, Int.not_lt, Int.not_le, ne_eq, Decidable.not_not] at hc7
   refine wp_skip ?_
   refine hK5 _ _ ?_
   refine wp_seq_k (fun K8 hK8 => ?_)
   refine wp_block ?_
   refine wp_seq_k (fun K9 hK9 => ?_)
   refine wp_region_lit ?_
   refine l_q rfl rfl (q_moveP rfl) ?_
   refine l_q rfl rfl (q_nilCheck rfl) ?_
   refine l_q rfl rfl (q_fieldAddr (ft := 49) (o := 0) rfl (by kernel_rfl)) ?_
   refine l_q rfl rfl (q_load1 rfl (by kernel_rfl) (cell_blk (hS4.base _ _ hk) rfl)) ?_
   refine l_q rfl rfl (q_moveI rfl) ?_
   refine l_q rfl rfl (q_ixG (e := 54) (m := 6) (j := i) rfl rfl (by kernel_rfl) (by kernel_rfl) (by first | rfl | omega) (by omega) hG (by rw [rows_len (c := wc) (m := 6) (fun _ => rfl)]; first | omega | (simp only [List.length_append, List.length_map, List.length_cons, List.length_nil, List.length_take, List.length_drop, List.length_set] <;> omega))) ?_
   refine l_q rfl rfl (q_fieldG (ft := 3) (o := 0) rfl (by kernel_rfl)) ?_
   obtain ⟨x10, hx10⟩ : ∃ x, (W)[i]? = some x := ⟨_, List.getElem?_eq_getElem (by first | omega | (simp only [List.length_append, List.length_map, List.length_cons, List.length_nil, List.length_take, List.length_drop, List.length_set] <;> omega) | (simp <;> omega))⟩
   refine l_q rfl rfl (q_load1 rfl (by kernel_rfl) (SlG.cell (hG.mono hS4.base) (Gle.refl _) (row_at hx10 (c := wc) (m := 6) (fun _ => rfl) (j := 0) rfl))) ?_
   refine l_q rfl rfl (q_moveI rfl) ?_
   refine l_q rfl rfl (q_eql rfl rfl) ?_
   refine l_nil ?_
   refine hK9 _ _ ?_
   refine c_cond rfl (fun hc11 => ?_) (fun hc11 => ?_)
   ·
    have hc11b := hc11
    try simp only [decide_eq_true_eq, decide_eq_false_iff_not, Bool.not_eq_true', Bool.not_eq_false', Bool.and_eq_true, Bool.or_eq_true, Int.not_lt, Int.not_le, ne_eq, Decidable.not_not] at hc11
    refine wp_seq_k (fun K12 hK12 => ?_)
    refine wp_region_lit ?_
    refine l_q rfl rfl (q_moveI rfl) ?_
    refine l_q rfl rfl (q_assignI rfl) ?_
    refine l_nil ?_
    refine hK12 _ _ ?_
    refine wp_ret ?_
    refine c_ret1 rfl rfl ?_
    have hia : i = A.length := by
     rcases Nat.lt_trichotomy i A.length with h | h | h
     · exfalso
       have hm : W[i]? = A[i]? := by rw [hWe, List.getElem?_append_left h]
       rw [hm] at hx10
       exact hA _ (List.mem_of_getElem? hx10) (by assumption)
     · exact h
     · exact absurd hq (hj _ h q hat)
    subst hia
    exact ⟨_, rfl, rfl, hS4.drop⟩
   ·
    have hc11b := hc11
    try simp only [decide_eq_true_eq, decide_eq_false_iff_not, Bool.not_eq_true', Bool.not_eq_false', Bool.and_eq_true, Bool.or_eq_true, Int.not_lt, Int.not_le, ne_eq, Decidable.not_not] at hc11
    refine wp_skip ?_
    refine hK8 _ _ ?_
    refine wp_region_lit ?_
    refine l_q rfl rfl (q_moveI rfl) ?_
    refine l_q rfl rfl (q_addx rfl rfl (by first | decide | omega) (by first | decide | omega)) ?_
    refine l_q rfl rfl (q_assignI rfl) ?_
    refine l_nil ?_
    refine hK4 _ _ (came ((i + 1)) (by repeat' (first | exact Agree.refl _ _ | refine Agree.up ?_ rfl | refine Agree.hav2 ?_ rfl | refine Agree.ups2 ?_ rfl)) (by repeat' (first | exact trivial | refine ⟨by first | rfl | exact int_succ _ | assumption, ?_⟩)) ?_)
    exact ⟨⟨hS4, (by show i + 1 ≤ W.length; omega), fun j hj' x hx => by
     have hj' : j < i + 1 := hj'
     by_cases e : j = i
     · subst e; rw [hx10] at hx; injection hx with hx; subst hx; assumption
     · exact hj j (by omega) x hx⟩, by (show W.length - (i + 1) < W.length - i); omega⟩
  ·
   have hc7b := hc7
   try simp only [decide_eq_true_eq, decide_eq_false_iff_not, Bool.not_eq_true', Bool.not_eq_false', Bool.and_eq_true, Bool.or_eq_true, Int.not_lt, Int.not_le, ne_eq, Decidable.not_not] at hc7
   refine wp_exit ?_
   refine hK2 _ _ ?_
   refine wp_seq_k (fun K13 hK13 => ?_)
   refine wp_region_lit ?_
   refine l_q rfl rfl (q_assignI rfl) ?_
   refine l_nil ?_
   refine hK13 _ _ ?_
   refine wp_ret ?_
   refine c_ret1 rfl rfl ?_
   exact absurd hq (hj _ (by omega) q hat)

set_option maxRecDepth 100000 in
theorem rfind_miss (r : Nat) (ad : Option Addr) (cap s t o : Nat) (W : List Wy) (hwl : W.length ≤ 2000000) (n : Int) (hn : ∀ x ∈ W, x.n ≠ n) (w : World) (hk : w.heap[r]? = some (rtO ad W.length cap s t o)) (hG : SlG (hw w) ad (List.flatMap wc W)) : Calls Try.prog 21 #[pV r, .int .i64 n] w (PostR w fun v => v = .int .i64 (-1)) := by
 have hS := St.start w
 refine c_enter Try.func21 rfl rfl rfl ?_
 refine wp_seq_k (fun K1 hK1 => ?_)
 refine wp_region_lit ?_
 refine l_q rfl rfl (q_assignI rfl) ?_
 refine l_nil ?_
 refine hK1 _ _ ?_
 refine wp_seq_k (fun K2 hK2 => ?_)
 refine wp_seq_k (fun K3 hK3 => ?_)
 refine wp_region_lit ?_
 refine l_q rfl rfl (q_assignI rfl) ?_
 refine l_nil ?_
 refine hK3 _ _ ?_
 refine wp_block ?_
 refine c_loop (τ := Nat) [(4, 25)] (fun x => (fun (i : Nat) => [(5, .int .i64 (i : Int))]) x) (fun x w' => (fun (i : Nat) => St w (fun _ => False) [] w' ∧ i ≤ W.length ∧ (∀ j, j < i → ∀ x, W[j]? = some x → x.n ≠ n)) x) (fun x => (fun (i : Nat) => W.length - i) x) (0) ?_ (by repeat' (first | exact trivial | refine ⟨by first | rfl | exact int_succ _ | assumption, ?_⟩)) (fun i j4 w4 hJ4 K4 hK4 => ?_)
 ·
  exact ⟨hS, Nat.zero_le _, fun j h => (by omega)⟩
 ·
  obtain ⟨hS4, hi, hj⟩ := hJ4
  try dsimp only at hS4 hi hj ⊢
  refine wp_seq_k (fun K5 hK5 => ?_)
  refine wp_seq_k (fun K6 hK6 => ?_)
  refine wp_region_lit ?_
  refine l_q rfl rfl (q_moveI rfl) ?_
  refine l_q rfl rfl (q_moveP rfl) ?_
  refine l_q rfl rfl (q_nilCheck rfl) ?_
  refine l_q rfl rfl (q_fieldAddr (ft := 49) (o := 0) rfl (by kernel_rfl)) ?_
  refine l_q rfl rfl (q_load1 rfl (by kernel_rfl) (cell_blk (hS4.base _ _ hk) rfl)) ?_
  refine l_q rfl rfl (q_lenSl (e := 54) rfl (by kernel_rfl)) ?_
  refine l_q rfl rfl (q_lss rfl rfl) ?_
  refine l_nil ?_
  refine hK6 _ _ ?_
  refine c_cond rfl (fun hc7 => ?_) (fun hc7 => ?_)
  ·
   have hc7b := hc7
   try simp only [decide_eq_true_eq, decide_eq_false_iff_not, Bool.not_eq_true', Bool.not_eq_false', Bool.and_eq_true, Bool.or_eq_true, Int.not_lt, Int.not_le, ne_eq, Decidable.not_not] at hc7
   refine wp_skip ?_
   refine hK5 _ _ ?_
   refine wp_seq_k (fun K8 hK8 => ?_)
   refine wp_block ?_
   refine wp_seq_k (fun K9 hK9 => ?_)
   refine wp_region_lit ?_
   refine l_q rfl rfl (q_moveP rfl) ?_
   refine l_q rfl rfl (q_nilCheck rfl) ?_
   refine l_q rfl rfl (q_fieldAddr (ft := 49) (o := 0) rfl (by kernel_rfl)) ?_
   refine l_q rfl rfl (q_load1 rfl (by kernel_rfl) (cell_blk (hS4.base _ _ hk) rfl)) ?_
   refine l_q rfl rfl (q_moveI rfl) ?_
   refine l_q rfl rfl (q_ixG (e := 54) (m := 6) (j := i) rfl rfl (by kernel_rfl) (by kernel_rfl) (by first | rfl | omega) (by omega) hG (by rw [rows_len (c := wc) (m := 6) (fun _ => rfl)]; first | omega | (simp only [List.length_append, List.length_map, List.length_cons, List.length_nil, List.length_take, List.length_drop, List.length_set] <;> omega))) ?_
   refine l_q rfl rfl (q_fieldG (ft := 3) (o := 0) rfl (by kernel_rfl)) ?_
   obtain ⟨x10, hx10⟩ : ∃ x, (W)[i]? = some x := ⟨_, List.getElem?_eq_getElem (by first | omega | (simp only [List.length_append, List.length_map, List.length_cons, List.length_nil, List.length_take, List.length_drop, List.length_set] <;> omega) | (simp <;> omega))⟩
   refine l_q rfl rfl (q_load1 rfl (by kernel_rfl) (SlG.cell (hG.mono hS4.base) (Gle.refl _) (row_at hx10 (c := wc) (m := 6) (fun _ => rfl) (j := 0) rfl))) ?_
   refine l_q rfl rfl (q_moveI rfl) ?_
   refine l_q rfl rfl (q_eql rfl rfl) ?_
   refine l_nil ?_
   refine hK9 _ _ ?_
   refine c_cond rfl (fun hc11 => ?_) (fun hc11 => ?_)
   ·
    have hc11b := hc11
    try simp only [decide_eq_true_eq, decide_eq_false_iff_not, Bool.not_eq_true', Bool.not_eq_false', Bool.and_eq_true, Bool.or_eq_true, Int.not_lt, Int.not_le, ne_eq, Decidable.not_not] at hc11
    exact absurd hc11 (hn _ (List.mem_of_getElem? hx10))
   ·
    have hc11b := hc11
    try simp only [decide_eq_true_eq, decide_eq_false_iff_not, Bool.not_eq_true', Bool.not_eq_false', Bool.and_eq_true, Bool.or_eq_true, Int.not_lt, Int.not_le, ne_eq, Decidable.not_not] at hc11
    refine wp_skip ?_
    refine hK8 _ _ ?_
    refine wp_region_lit ?_
    refine l_q rfl rfl (q_moveI rfl) ?_
    refine l_q rfl rfl (q_addx rfl rfl (by first | decide | omega) (by first | decide | omega)) ?_
    refine l_q rfl rfl (q_assignI rfl) ?_
    refine l_nil ?_
    refine hK4 _ _ (came ((i + 1)) (by repeat' (first | exact Agree.refl _ _ | refine Agree.up ?_ rfl | refine Agree.hav2 ?_ rfl | refine Agree.ups2 ?_ rfl)) (by repeat' (first | exact trivial | refine ⟨by first | rfl | exact int_succ _ | assumption, ?_⟩)) ?_)
    exact ⟨⟨hS4, (by show i + 1 ≤ W.length; omega), fun j hj' x hx => by
     have hj' : j < i + 1 := hj'
     by_cases e : j = i
     · subst e; rw [hx10] at hx; injection hx with hx; subst hx; assumption
     · exact hj j (by omega) x hx⟩, by (show W.length - (i + 1) < W.length - i); omega⟩
  ·
   have hc7b := hc7
   try simp only [decide_eq_true_eq, decide_eq_false_iff_not, Bool.not_eq_true', Bool.not_eq_false', Bool.and_eq_true, Bool.or_eq_true, Int.not_lt, Int.not_le, ne_eq, Decidable.not_not] at hc7
   refine wp_exit ?_
   refine hK2 _ _ ?_
   refine wp_seq_k (fun K12 hK12 => ?_)
   refine wp_region_lit ?_
   refine l_q rfl rfl (q_assignI rfl) ?_
   refine l_nil ?_
   refine hK12 _ _ ?_
   refine wp_ret ?_
   refine c_ret1 rfl rfl ?_
   exact ⟨_, rfl, rfl, hS4.drop⟩

set_option maxRecDepth 100000 in
theorem rgone_ok (r : Nat) (ad : Option Addr) (cap s t o : Nat) (W : List Wy) (hwl : W.length ≤ 2000000) (i : Nat) (hi : i < W.length)  (w : World) (hS : St w (owns [.blk r (.cells #[.slice ad W.length cap, .int .i64 (s : Int), .int .i64 (t : Int), .int .i64 (o : Int)] 51), .ow 54 6 ad W.length cap (List.flatMap wc W)]) [.blk r (.cells #[.slice ad W.length cap, .int .i64 (s : Int), .int .i64 (t : Int), .int .i64 (o : Int)] 51), .ow 54 6 ad W.length cap (List.flatMap wc W)] w) : Calls Try.prog 35 #[pV r, .int .i64 (i : Int)] w (Post w [.blk r (.cells #[.slice ad W.length cap, .int .i64 (s : Int), .int .i64 (t : Int), .int .i64 (o : Int)] 51), .ow 54 6 ad W.length cap (List.flatMap wc W)] fun v G => ∃ ad' cap', G = [.blk r (rtO ad' (W.take i ++ W.drop (i + 1)).length cap' s t o), .ow 54 6 ad' (W.take i ++ W.drop (i + 1)).length cap' (List.flatMap wc (W.take i ++ W.drop (i + 1)))]) := by
 refine c_enter Try.func35 rfl rfl rfl ?_
 refine r_any (by kernel_rfl) hS (fun w1 hS1 => ?_)
 clear hS
 refine o_pure (i := 0) (fun _ _ => trivial) rfl rfl (by kernel_rfl) (goes0 rfl) QOk.body (fun w => q_moveP rfl) ?_
 refine o_pure (i := 2) (fun _ _ => trivial) rfl rfl (by kernel_rfl) (goes0 rfl) QOk.body (fun w => q_moveP rfl) ?_
 refine o_pure (i := 3) (fun _ _ => trivial) rfl rfl (by kernel_rfl) (goes0 rfl) QOk.body (fun w => q_nilCheck rfl) ?_
 refine o_pure (i := 4) (fun _ _ => trivial) rfl rfl (by kernel_rfl) (goes0 rfl) QOk.body (fun w => q_fieldAddr (ft := 49) (o := 0) rfl (by kernel_rfl)) ?_
 refine o_held (i := 5) [7, 8, 16, 17, 18, 19] (fun _ _ => trivial) rfl rfl (by kernel_rfl) (goes0 rfl) QOk.body (q_load1 rfl (by kernel_rfl) (hS1.cell (i := 0) rfl rfl)) ?_
 refine o_pure (i := 6) (fun j w => ⟨(fun _ _ => trivial) j w, fun _ h => h⟩) rfl rfl (by kernel_rfl) (goes0 rfl) QOk.body (fun w => q_moveI rfl) ?_
 have hcp2 := (hS1.owLen (i := 1) rfl).2.1
 refine o_pure (i := 7) (fun j w => ⟨(fun _ _ => trivial) j w, fun _ h => h⟩) rfl rfl (by kernel_rfl) (goes0 rfl) QOk.body (fun w => q_sliceX (e := 54) (size := 6) (l := 0) (h := i) (m := cap) (ad' := ad) (len' := i) (cap' := cap) rfl (by kernel_rfl) (by kernel_rfl) rfl ⟨_, int_nat (by first | rfl | omega) rfl⟩ rfl (by omega) (by first | omega | (simp only [List.length_append, List.length_map, List.length_cons, List.length_nil, List.length_take, List.length_drop, List.length_set] <;> omega)) (by first | omega | (simp only [List.length_append, List.length_map, List.length_cons, List.length_nil, List.length_take, List.length_drop, List.length_set] <;> omega)) rfl subS_zero (Nat.sub_zero _) (Nat.sub_zero _)) ?_
 refine o_pure (i := 9) (fun j w => ⟨(fun _ _ => trivial) j w, fun _ h => h⟩) rfl rfl (by kernel_rfl) (goes0 rfl) QOk.body (fun w => q_moveP rfl) ?_
 refine o_pure (i := 10) (fun j w => ⟨(fun _ _ => trivial) j w, fun _ h => h⟩) rfl rfl (by kernel_rfl) (goes0 rfl) QOk.body (fun w => q_nilCheck rfl) ?_
 refine o_pure (i := 11) (fun j w => ⟨(fun _ _ => trivial) j w, fun _ h => h⟩) rfl rfl (by kernel_rfl) (goes0 rfl) QOk.body (fun w => q_fieldAddr (ft := 49) (o := 0) rfl (by kernel_rfl)) ?_
 refine o_held (i := 12) [15, 16, 17, 18, 19] (fun j w => ⟨(fun _ _ => trivial) j w, fun _ h => h⟩) rfl rfl (by kernel_rfl) (goes0 rfl) QOk.body (q_load1 rfl (by kernel_rfl) (hS1.cell (i := 0) rfl rfl)) ?_
 refine o_pure (i := 13) (fun j w => ⟨(fun j w => ⟨(fun _ _ => trivial) j w, fun _ h => h⟩) j w, fun _ h => h⟩) rfl rfl (by kernel_rfl) (goes0 rfl) QOk.body (fun w => q_moveI rfl) ?_
 refine o_pure (i := 14) (fun j w => ⟨(fun j w => ⟨(fun _ _ => trivial) j w, fun _ h => h⟩) j w, fun _ h => h⟩) rfl rfl (by kernel_rfl) (goes0 rfl) QOk.body (fun w => q_addx rfl rfl (by first | decide | omega) (by first | decide | omega)) ?_
 refine o_pure (i := 15) (fun j w => ⟨(fun j w => ⟨(fun _ _ => trivial) j w, fun _ h => h⟩) j w, fun _ h => h⟩) rfl rfl (by kernel_rfl) (goes0 rfl) QOk.body (fun w => q_sliceX (e := 54) (size := 6) (l := (i + 1)) (h := W.length) (m := cap) (ad' := (subS ad (i + 1) 6 cap)) (len' := (W.length - (i + 1))) (cap' := (cap - (i + 1))) rfl (by kernel_rfl) (by kernel_rfl) rfl rfl ⟨_, int_nat (by first | rfl | omega) rfl⟩ (by omega) (by first | omega | (simp only [List.length_append, List.length_map, List.length_cons, List.length_nil, List.length_take, List.length_drop, List.length_set] <;> omega)) (by first | omega | (simp only [List.length_append, List.length_map, List.length_cons, List.length_nil, List.length_take, List.length_drop, List.length_set] <;> omega)) rfl rfl rfl rfl) ?_
 refine o_eff (i := 1) (by kernel_rfl) rfl (goes0 rfl) (fun K hK => ?_)
 refine e_buildSlice0 (e := 54) (m := 6) hS1 (by kernel_rfl) (by kernel_rfl) (fun b3 w3 (hS3 : St _ _ [.blk b3 (.cells #[] 54), .blk r (.cells #[.slice ad W.length cap, .int .i64 (s : Int), .int .i64 (t : Int), .int .i64 (o : Int)] 51), .ow 54 6 ad W.length cap (List.flatMap wc W)] _) => ?_)
 clear hS1
 have hS3o : St _ _ [.ow 54 6 (some ⟨b3, 0, none⟩) 0 0 (List.flatMap wc []), _, _] _ := hS3.blkOw' (i := 0) (m := 0) (size := 6) (xs := List.flatMap wc []) rfl rfl rfl (by decide); clear hS3
 refine hK _ _ ⟨⟨trivial, fun _ _ => by first | exact q_load1 rfl (by kernel_rfl) (hS3o.cell (i := 1) rfl rfl)⟩, fun _ _ => by first | exact q_load1 rfl (by kernel_rfl) (hS3o.cell (i := 1) rfl rfl)⟩ ?_; clear hK K
 refine o_eff (i := 8) (by kernel_rfl) rfl (goes0 rfl) (fun K hK => ?_)
 refine e_app (e := 54) (size := 6) (bytes := 64) (i := 0) (m' := i) (by kernel_rfl) hS3o rfl rfl rfl (SlG.src (e := 54) (by kernel_rfl) ((fun q => (rows_takeG (c := wc) (m := 6) (fun _ => rfl) (n := i) q)) (hS3o.owG (i := 2) rfl)) ((rows_len (c := wc) (m := 6) (fun _ => rfl) _).trans (by first | rfl | (simp only [List.length_append, List.length_map, List.length_cons, List.length_nil, List.length_take, List.length_drop, List.length_set]; done) | (simp only [List.length_append, List.length_map, List.length_cons, List.length_nil, List.length_take, List.length_drop, List.length_set]; omega) | omega)) (by decide) (rows_one wc_ones)) (by first | omega | (simp only [List.length_append, List.length_map, List.length_cons, List.length_nil, List.length_take, List.length_drop, List.length_set] <;> omega) | (simp; done)) rfl (by first | omega | (simp only [maxLen, List.length_append, List.length_map, List.length_cons, List.length_nil, List.length_take, List.length_drop, List.length_set] <;> omega) | (simp only [maxLen]; omega)) (by first | omega | (simp only [List.length_append, List.length_map, List.length_cons, List.length_nil, List.length_take, List.length_drop, List.length_set] <;> omega)) (fun ad4 cp4 w4 (hS4 : St _ _ [.ow 54 6 ad4 i cp4 (List.flatMap wc (W.take i)), _, _] _) => ?_)
 clear hS3o
 refine hK _ _ ⟨⟨trivial, fun h => absurd h (by decide)⟩, fun _ _ => by first | exact q_load1 rfl (by kernel_rfl) (hS4.cell (i := 1) rfl rfl)⟩ ?_; clear hK K
 refine o_eff (i := 16) (by kernel_rfl) rfl (goes0 rfl) (fun K hK => ?_)
 refine e_app (e := 54) (size := 6) (bytes := 64) (i := 0) (m' := (i + (W.length - (i + 1)))) (by kernel_rfl) hS4 rfl rfl rfl (SlG.src (e := 54) (by kernel_rfl) ((fun q => (rows_subD (c := wc) (m := 6) (fun _ => rfl) (by first | omega | (simp only [List.length_append, List.length_map, List.length_cons, List.length_nil, List.length_take, List.length_drop, List.length_set] <;> omega)) (SlG.sub (l := (i + 1)) (size := 6) (m := cap) (n := W.length - (i + 1)) q (by first | omega | (simp only [List.length_append, List.length_map, List.length_cons, List.length_nil, List.length_take, List.length_drop, List.length_set] <;> omega)) (by decide)))) (hS4.owG (i := 2) rfl)) ((rows_len (c := wc) (m := 6) (fun _ => rfl) _).trans (by first | rfl | (simp only [List.length_append, List.length_map, List.length_cons, List.length_nil, List.length_take, List.length_drop, List.length_set]; done) | (simp only [List.length_append, List.length_map, List.length_cons, List.length_nil, List.length_take, List.length_drop, List.length_set]; omega) | omega)) (by decide) (rows_one wc_ones)) (by first | omega | (simp only [List.length_append, List.length_map, List.length_cons, List.length_nil, List.length_take, List.length_drop, List.length_set] <;> omega) | (simp; done)) rows_app (by first | omega | (simp only [maxLen, List.length_append, List.length_map, List.length_cons, List.length_nil, List.length_take, List.length_drop, List.length_set] <;> omega) | (simp only [maxLen]; omega)) (by first | omega | (simp only [List.length_append, List.length_map, List.length_cons, List.length_nil, List.length_take, List.length_drop, List.length_set] <;> omega)) (fun ad5 cp5 w5 (hS5 : St _ _ [.ow 54 6 ad5 (i + (W.length - (i + 1))) cp5 (List.flatMap wc ((W.take i) ++ (W.drop (i + 1)))), _, _] _) => ?_)
 clear hS4
 refine hK _ _ ⟨⟨trivial, fun h => absurd h (by decide)⟩, fun h => absurd h (by decide)⟩ ?_; clear hK K
 refine o_pure (i := 17) (fun j w => ⟨(fun j w => ⟨(fun _ _ => trivial) j w, fun _ h => h⟩) j w, fun _ h => h⟩) rfl rfl (by kernel_rfl) (goes0 rfl) QOk.body (fun w => q_nilCheck rfl) ?_
 refine o_pure (i := 18) (fun j w => ⟨(fun j w => ⟨(fun _ _ => trivial) j w, fun _ h => h⟩) j w, fun _ h => h⟩) rfl rfl (by kernel_rfl) (goes0 rfl) QOk.body (fun w => q_fieldAddr (ft := 49) (o := 0) rfl (by kernel_rfl)) ?_
 refine o_eff (i := 19) (by kernel_rfl) rfl (goes0 rfl) (fun K hK => ?_)
 refine e_store1 hS5 rfl rfl (by kernel_rfl) (by first | rfl | assumption) (i := 1) rfl rfl (fun w6 (hS6 : St _ _ [_, .blk r (.cells #[.slice ad5 (i + (W.length - (i + 1))) cp5, .int .i64 (s : Int), .int .i64 (t : Int), .int .i64 (o : Int)] 51), _] _) => ?_)
 clear hS5
 refine hK _ _ ⟨⟨trivial, fun h => absurd h (by decide)⟩, fun h => absurd h (by decide)⟩ ?_; clear hK K
 refine o_done (by kernel_rfl) ?_
 refine c_end0 (fn := Try.f35) rfl ?_
 have hS7 : St _ _ [.ow 54 6 ad5 (((W.take i) ++ (W.drop (i + 1))).length) cp5 (List.flatMap wc ((W.take i) ++ (W.drop (i + 1)))), .blk r (.cells #[.slice ad5 (((W.take i) ++ (W.drop (i + 1))).length) cp5, .int .i64 (s : Int), .int .i64 (t : Int), .int .i64 (o : Int)] 51), _] _ := hS6.cast (by rw [show ((W.take i) ++ (W.drop (i + 1))).length = (i + (W.length - (i + 1))) from (by first | omega | (simp only [List.length_append, List.length_map, List.length_cons, List.length_nil, List.length_take, List.length_drop, List.length_set] <;> omega))]); clear hS6
 have hS8 := hS7.fr1; clear hS7
 have hS9 : St _ _ [_, _] _ := hS8.only 2; clear hS8
 exact ⟨_, _, rfl, ⟨_, _, rfl⟩, hS9⟩

set_option maxHeartbeats 2000000 in
set_option maxRecDepth 100000 in
theorem rsend_ok (r : Nat) (ad : Option Addr) (cap s t o : Nat) (W : List Wy) (g : Gh) (hW : WOk g W) (hwl : W.length ≤ 2000000) (hs1 : s ≤ 1000000) (l : Lr) (n : Nat) (hnl : l.nd.length = n) (hm : n ≤ 2000000) (an : Option Addr) (cn : Nat) (w : World) (g2 : Gh) (hg2 : Rog [.blk r (rtO ad W.length cap s t o), .ow 54 6 ad W.length cap (List.flatMap wc W), .fz g] w g2) (hG : SlG g2 an (iv l.nd)) (hS : St w (owns [.blk r (.cells #[.slice ad W.length cap, .int .i64 (s : Int), .int .i64 (t : Int), .int .i64 (o : Int)] 51), .ow 54 6 ad W.length cap (List.flatMap wc W), .fz g]) [.blk r (.cells #[.slice ad W.length cap, .int .i64 (s : Int), .int .i64 (t : Int), .int .i64 (o : Int)] 51), .ow 54 6 ad W.length cap (List.flatMap wc W), .fz g] w) : Calls Try.prog 20 #[pV r, .agg #[.int .i64 l.k, .int .i64 l.f, .int .i64 l.t, .int .i64 l.x, .slice an n cn]] w (Post w [.blk r (.cells #[.slice ad W.length cap, .int .i64 (s : Int), .int .i64 (t : Int), .int .i64 (o : Int)] 51), .ow 54 6 ad W.length cap (List.flatMap wc W), .fz g] fun v G => RSendP r s t o W g l v G) := by
 subst hnl
 refine c_enter Try.func20 rfl rfl rfl ?_
 refine wp_seq_k (fun K1 hK1 => ?_)
 refine wp_region_lit ?_
 refine l_e rfl (fun K hK => ?_)
 refine e_boxA hS rfl (fun b2 w2 (hS2 : St _ _ [.blk b2 (.cells #[.int .i64 l.k, .int .i64 l.f, .int .i64 l.t, .int .i64 l.x, .slice an l.nd.length cn] 25), .blk r (.cells #[.slice ad W.length cap, .int .i64 (s : Int), .int .i64 (t : Int), .int .i64 (o : Int)] 51), .ow 54 6 ad W.length cap (List.flatMap wc W), .fz g] _) => ?_)
 clear hS
 refine hK _ _ ?_; clear hK K
 refine l_q rfl rfl (q_assignI rfl) ?_
 refine l_q rfl rfl (q_assignI rfl) ?_
 refine l_nil ?_
 refine hK1 _ _ ?_
 refine wp_seq_k (fun K3 hK3 => ?_)
 refine wp_region_lit ?_
 refine l_q rfl rfl (q_loadA (m := 5) rfl (by kernel_rfl) (by kernel_rfl) (hS2.blk (i := 0) rfl) rfl rfl) ?_
 refine l_e rfl (fun K hK => ?_)
 refine e_call (by kernel_rfl) (lrright_ok l l.nd.length (by first | omega | (simp only [List.length_append, List.length_map, List.length_cons, List.length_nil, List.length_take, List.length_drop, List.length_set] <;> omega)) (by first | omega | (simp only [List.length_append, List.length_map, List.length_cons, List.length_nil, List.length_take, List.length_drop, List.length_set] <;> omega)) _ _ _ (hG.mono (hg2.le hS2))) rfl (after_R hS2 (fun v4 w4 hv4 hS4 => ?_))
 clear hS2
 obtain rfl := hv4
 refine hK _ _ ?_; clear hK K
 refine l_q rfl rfl (q_assignB rfl) ?_
 refine l_nil ?_
 refine hK3 _ _ ?_
 refine wp_seq_k (fun K5 hK5 => ?_)
 refine wp_seq_k (fun K6 hK6 => ?_)
 refine wp_region_lit ?_
 refine l_q rfl rfl (q_moveB rfl) ?_
 refine l_q rfl rfl (q_not rfl) ?_
 refine l_nil ?_
 refine hK6 _ _ ?_
 refine c_cond rfl (fun hc7 => ?_) (fun hc7 => ?_)
 ·
  have hc7b := hc7
  try simp only [decide_eq_true_eq, decide_eq_false_iff_not, Bool.not_eq_true', Bool.not_eq_false', Bool.and_eq_true, Bool.or_eq_true, Int.not_lt, Int.not_le, ne_eq, Decidable.not_not] at hc7
  refine wp_seq_k (fun K8 hK8 => ?_)
  refine wp_region_lit ?_
  refine l_q rfl rfl (q_assignI rfl) ?_
  refine l_q rfl rfl (q_assignI rfl) ?_
  refine l_nil ?_
  refine hK8 _ _ ?_
  refine wp_ret ?_
  refine c_ret2 rfl rfl rfl ?_
  have hS9 := hS4.fr3; clear hS4
  have hS10 := hS9.fr3; clear hS9
  have hS11 := hS10.fr3; clear hS10
  have hS12 : St _ _ [_, _, .fz g] _ := hS11.only 3; clear hS11
  exact ⟨_, _, rfl, RSendP.keep (snd_no (by assumption)) (Gle.refl _) hW, hS12⟩
 ·
  have hc7b := hc7
  try simp only [decide_eq_true_eq, decide_eq_false_iff_not, Bool.not_eq_true', Bool.not_eq_false', Bool.and_eq_true, Bool.or_eq_true, Int.not_lt, Int.not_le, ne_eq, Decidable.not_not] at hc7
  have hR : rightL l = true := hc7
  have hl16 := ris_len16 (rightL_ris hR)
  refine wp_skip ?_
  refine hK5 _ _ ?_
  refine wp_seq_k (fun K13 hK13 => ?_)
  refine wp_seq_k (fun K14 hK14 => ?_)
  refine wp_region_lit ?_
  refine l_q rfl rfl (q_moveP rfl) ?_
  refine l_q rfl rfl (q_nilCheck rfl) ?_
  refine l_q rfl rfl (q_fieldAddr (ft := 49) (o := 0) rfl (by kernel_rfl)) ?_
  refine l_q rfl rfl (q_load1 rfl (by kernel_rfl) (hS4.cell (i := 1) rfl rfl)) ?_
  refine l_q rfl rfl (q_lenSl (e := 54) rfl (by kernel_rfl)) ?_
  refine l_q rfl rfl (q_geq rfl rfl) ?_
  refine l_nil ?_
  refine hK14 _ _ ?_
  refine c_cond rfl (fun hc15 => ?_) (fun hc15 => ?_)
  ·
   have hc15b := hc15
   try simp only [decide_eq_true_eq, decide_eq_false_iff_not, Bool.not_eq_true', Bool.not_eq_false', Bool.and_eq_true, Bool.or_eq_true, Int.not_lt, Int.not_le, ne_eq, Decidable.not_not] at hc15
   refine wp_seq_k (fun K16 hK16 => ?_)
   refine wp_region_lit ?_
   refine l_q rfl rfl (q_assignI rfl) ?_
   refine l_q rfl rfl (q_assignI rfl) ?_
   refine l_nil ?_
   refine hK16 _ _ ?_
   refine wp_ret ?_
   refine c_ret2 rfl rfl rfl ?_
   have hS17 := hS4.fr3; clear hS4
   have hS18 := hS17.fr3; clear hS17
   have hS19 := hS18.fr3; clear hS18
   have hS20 : St _ _ [_, _, .fz g] _ := hS19.only 3; clear hS19
   exact ⟨_, _, rfl, RSendP.keep (snd_full hR (by rw [absW_len]; omega)) (Gle.refl _) hW, hS20⟩
  ·
   have hc15b := hc15
   try simp only [decide_eq_true_eq, decide_eq_false_iff_not, Bool.not_eq_true', Bool.not_eq_false', Bool.and_eq_true, Bool.or_eq_true, Int.not_lt, Int.not_le, ne_eq, Decidable.not_not] at hc15
   have hf : W.length < 1024 := by omega
   refine wp_skip ?_
   refine hK13 _ _ ?_
   refine wp_seq_k (fun K21 hK21 => ?_)
   refine wp_region_lit ?_
   refine l_q rfl rfl (q_loadA (m := 5) rfl (by kernel_rfl) (by kernel_rfl) (hS4.blk (i := 0) rfl) rfl rfl) ?_
   refine l_e rfl (fun K hK => ?_)
   refine e_alloc (zv := .agg #[.int .i64 0, .int .i64 0, .int .i64 0, .int .i64 0, .slice none 0 0]) hS4 (by kernel_rfl) (fun b22 w22 (hS22 : St _ _ [.blk b22 (.cells #[.int .i64 (0 : Int), .int .i64 (0 : Int), .int .i64 (0 : Int), .int .i64 (0 : Int), .slice none 0 0] 25), _, _, _, .fz g] _) => ?_)
   clear hS4
   refine hK _ _ ?_; clear hK K
   refine l_e rfl (fun K hK => ?_)
   refine e_storeA hS22 rfl rfl (by kernel_rfl) (by repeat' (first | exact trivial | refine ⟨by first | rfl | assumption | exact one_if (by assumption), ?_⟩)) (i := 0) rfl rfl (fun w23 (hS23 : St _ _ [.blk b22 (.cells #[.int .i64 l.k, .int .i64 l.f, .int .i64 l.t, .int .i64 l.x, .slice an l.nd.length cn] 25), _, _, _, .fz g] _) => ?_)
   clear hS22
   refine hK _ _ ?_; clear hK K
   refine l_nil ?_
   refine hK21 _ _ ?_
   refine wp_seq_k (fun K24 hK24 => ?_)
   refine wp_region_lit ?_
   refine l_e rfl (fun K hK => ?_)
   refine e_buildSlice1 (e := 3) (zv := .int .i64 0) (xs := []) hS23 (by kernel_rfl) (by kernel_rfl) (by kernel_rfl) rfl rfl rfl rfl ((by intro u hu; cases hu)) rfl (fun b25 w25 (hS25 : St _ _ [.blk b25 (.cells #[] 3), _, _, _, _, .fz g] _) => ?_)
   clear hS23
   have hS25o : St _ _ [.ow 3 1 (some ⟨b25, 0, none⟩) 0 0 (iv []), _, _, _, _, .fz g] _ := hS25.blkOw' (i := 0) (m := 0) (size := 1) (xs := iv []) rfl rfl rfl (by decide); clear hS25
   refine hK _ _ ?_; clear hK K
   refine l_q rfl rfl (q_fieldAddr (ft := 23) (o := 4) rfl (by kernel_rfl)) ?_
   refine l_q rfl rfl (q_load1 rfl (by kernel_rfl) (hS25o.cell (i := 2) rfl rfl)) ?_
   refine l_e rfl (fun K hK => ?_)
   refine e_app (e := 3) (size := 1) (bytes := 8) (i := 0) (m' := l.nd.length) (by kernel_rfl) hS25o rfl rfl rfl (SlG.src (e := 3) (by kernel_rfl) (hG.mono (hg2.le hS25o)) (by first | (simp only [List.length_append, List.length_map, List.length_cons, List.length_nil, List.length_take, List.length_drop, List.length_set, Nat.mul_one]; done) | (simp only [List.length_append, List.length_map, List.length_cons, List.length_nil, List.length_take, List.length_drop, List.length_set]; omega) | rfl | (simp; done)) (by decide) (iv_one _)) (by first | omega | (simp only [List.length_append, List.length_map, List.length_cons, List.length_nil, List.length_take, List.length_drop, List.length_set] <;> omega) | (simp; done)) rfl (by first | omega | (simp only [maxLen, List.length_append, List.length_map, List.length_cons, List.length_nil, List.length_take, List.length_drop, List.length_set] <;> omega) | (simp only [maxLen]; omega)) (by first | omega | (simp only [List.length_append, List.length_map, List.length_cons, List.length_nil, List.length_take, List.length_drop, List.length_set] <;> omega)) (fun ad26 cp26 w26 (hS26 : St _ _ [.ow 3 1 ad26 l.nd.length cp26 (iv l.nd), _, _, _, _, .fz g] _) => ?_)
   clear hS25o
   refine hK _ _ ?_; clear hK K
   refine l_q rfl rfl (q_fieldAddr (ft := 23) (o := 4) rfl (by kernel_rfl)) ?_
   refine l_e rfl (fun K hK => ?_)
   refine e_store1 hS26 rfl rfl (by kernel_rfl) (by first | rfl | assumption) (i := 1) rfl rfl (fun w27 (hS27 : St _ _ [_, .blk b22 (.cells #[.int .i64 l.k, .int .i64 l.f, .int .i64 l.t, .int .i64 l.x, .slice ad26 l.nd.length cp26] 25), _, _, _, .fz g] _) => ?_)
   clear hS26
   refine hK _ _ ?_; clear hK K
   refine l_nil ?_
   have hS28 := hS27.fr5; clear hS27
   have hS29 := hS28.fr1; clear hS28
   obtain ⟨g30, hle30, hfz30, hS30⟩ := hS29.freezeOw; clear hS29
   refine hK24 _ _ ?_
   refine wp_seq_k (fun K31 hK31 => ?_)
   refine r_any (by kernel_rfl) hS30 (fun w32 hS32 => ?_)
   clear hS30
   refine o_pure (i := 0) (fun _ _ => trivial) rfl rfl (by kernel_rfl) (goes0 rfl) (QOk.then QOk.body) (fun w => q_moveP rfl) ?_
   refine o_pure (i := 2) (fun _ _ => trivial) rfl rfl (by kernel_rfl) (goes0 rfl) (QOk.then QOk.body) (fun w => q_moveP rfl) ?_
   refine o_pure (i := 3) (fun _ _ => trivial) rfl rfl (by kernel_rfl) (goes0 rfl) (QOk.then QOk.body) (fun w => q_nilCheck rfl) ?_
   refine o_pure (i := 4) (fun _ _ => trivial) rfl rfl (by kernel_rfl) (goes0 rfl) (QOk.then QOk.body) (fun w => q_fieldAddr (ft := 49) (o := 0) rfl (by kernel_rfl)) ?_
   refine o_held (i := 5) [6, 14, 15, 16, 17] (fun _ _ => trivial) rfl rfl (by kernel_rfl) (goes0 rfl) (QOk.then QOk.body) (q_load1 rfl (by kernel_rfl) (hS32.cell (i := 3) rfl rfl)) ?_
   refine o_pure (i := 7) (fun j w => ⟨(fun _ _ => trivial) j w, fun _ h => h⟩) rfl rfl (by kernel_rfl) (goes0 rfl) (QOk.then QOk.body) (fun w => q_moveP rfl) ?_
   refine o_pure (i := 8) (fun j w => ⟨(fun _ _ => trivial) j w, fun _ h => h⟩) rfl rfl (by kernel_rfl) (goes0 rfl) (QOk.then QOk.body) (fun w => q_nilCheck rfl) ?_
   refine o_pure (i := 9) (fun j w => ⟨(fun _ _ => trivial) j w, fun _ h => h⟩) rfl rfl (by kernel_rfl) (goes0 rfl) (QOk.then QOk.body) (fun w => q_fieldAddr (ft := 3) (o := 1) rfl (by kernel_rfl)) ?_
   refine o_held (i := 10) [12, 13, 14, 15, 16, 17] (fun j w => ⟨(fun _ _ => trivial) j w, fun _ h => h⟩) rfl rfl (by kernel_rfl) (goes0 rfl) (QOk.then QOk.body) (q_load1 rfl (by kernel_rfl) (hS32.cell (i := 3) rfl rfl)) ?_
   refine o_held (i := 11) [12, 13, 14, 15, 16, 17] (fun j w => ⟨(fun j w => ⟨(fun _ _ => trivial) j w, fun _ h => h⟩) j w, fun _ h => h⟩) rfl rfl (by kernel_rfl) (goes0 rfl) (QOk.then QOk.body) (q_loadA (m := 5) rfl (by kernel_rfl) (by kernel_rfl) (hS32.blk (i := 1) rfl) rfl rfl) ?_
   refine o_pure (i := 12) (fun j w => ⟨(fun j w => ⟨(fun j w => ⟨(fun _ _ => trivial) j w, fun _ h => h⟩) j w, fun _ h => h⟩) j w, fun _ h => h⟩) rfl rfl (by kernel_rfl) (goes0 rfl) (QOk.then QOk.body) (fun w => q_build (ps := [(0, 1), (1, 5)]) (zv := .agg #[.int .i64 0, .int .i64 0, .int .i64 0, .int .i64 0, .int .i64 0, .slice none 0 0]) (by kernel_rfl) (by kernel_rfl) rfl (by repeat' (first | exact trivial | refine ⟨fun _ => by first | rfl | assumption | exact one_if (by assumption), ?_⟩ | refine ⟨fun ⟨_, h⟩ => by simp at h, ?_⟩)) rfl) ?_
   refine o_eff2 (i := 1) (j := 13) (by kernel_rfl) rfl rfl (goes0 rfl) (goes0 rfl) (fun K hK => ?_) (fun K hK => ?_)
   ·
    refine e_buildSlice0 (e := 54) (m := 6) hS32 (by kernel_rfl) (by kernel_rfl) (fun b33 w33 (hS33 : St _ _ [.blk b33 (.cells #[] 54), .fz g30, _, _, _, _] _) => ?_)
    clear hS32
    have hS33o : St _ _ [.ow 54 6 (some ⟨b33, 0, none⟩) 0 0 (List.flatMap wc []), .fz g30, _, _, _, _] _ := hS33.blkOw' (i := 0) (m := 0) (size := 6) (xs := List.flatMap wc []) rfl rfl rfl (by decide); clear hS33
    refine hK _ _ ⟨⟨⟨trivial, fun _ _ => by first | exact q_load1 rfl (by kernel_rfl) (hS33o.cell (i := 4) rfl rfl)⟩, fun _ _ => by first | exact q_load1 rfl (by kernel_rfl) (hS33o.cell (i := 4) rfl rfl)⟩, fun _ _ => by first | exact q_loadA (m := 5) rfl (by kernel_rfl) (by kernel_rfl) (hS33o.blk (i := 2) rfl) rfl rfl⟩ ?_; clear hK K
    refine o_eff2 (i := 6) (j := 13) (by kernel_rfl) rfl rfl (goes0 rfl) (goes0 rfl) (fun K hK => ?_) (fun K hK => ?_)
    ·
     refine e_app (e := 54) (size := 6) (bytes := 64) (i := 0) (m' := W.length) (by kernel_rfl) hS33o rfl rfl rfl (SlG.src (e := 54) (by kernel_rfl) (hS33o.owG (i := 5) rfl) ((rows_len (c := wc) (m := 6) (fun _ => rfl) _).trans (by first | rfl | (simp only [List.length_append, List.length_map, List.length_cons, List.length_nil, List.length_take, List.length_drop, List.length_set]; done) | (simp only [List.length_append, List.length_map, List.length_cons, List.length_nil, List.length_take, List.length_drop, List.length_set]; omega) | omega)) (by decide) (rows_one wc_ones)) (by first | omega | (simp only [List.length_append, List.length_map, List.length_cons, List.length_nil, List.length_take, List.length_drop, List.length_set] <;> omega) | (simp; done)) rfl (by first | omega | (simp only [maxLen, List.length_append, List.length_map, List.length_cons, List.length_nil, List.length_take, List.length_drop, List.length_set] <;> omega) | (simp only [maxLen]; omega)) (by first | omega | (simp only [List.length_append, List.length_map, List.length_cons, List.length_nil, List.length_take, List.length_drop, List.length_set] <;> omega)) (fun ad34 cp34 w34 (hS34 : St _ _ [.ow 54 6 ad34 W.length cp34 (List.flatMap wc W), .fz g30, _, _, _, _] _) => ?_)
     clear hS33o
     refine hK _ _ ⟨⟨⟨trivial, fun h => absurd h (by decide)⟩, fun _ _ => by first | exact q_load1 rfl (by kernel_rfl) (hS34.cell (i := 4) rfl rfl)⟩, fun _ _ => by first | exact q_loadA (m := 5) rfl (by kernel_rfl) (by kernel_rfl) (hS34.blk (i := 2) rfl) rfl rfl⟩ ?_; clear hK K
     refine o_eff (i := 13) (by kernel_rfl) rfl (goes0 rfl) (fun K hK => ?_)
     refine e_buildSliceA (e := 54) (m := 6) (zv := .agg #[.int .i64 0, .int .i64 0, .int .i64 0, .int .i64 0, .int .i64 0, .slice none 0 0]) hS34 (by kernel_rfl) (by kernel_rfl) (by kernel_rfl) rfl rfl rfl rfl (fun b35 w35 (hS35 : St _ _ [.blk b35 (.cells #[.int .i64 (s : Int), .int .i64 l.k, .int .i64 l.f, .int .i64 l.t, .int .i64 l.x, .slice ad26 l.nd.length cp26] 54), _, .fz g30, _, _, _, _] _) => ?_)
     clear hS34
     have hS35o : St _ _ [.ow 54 6 (some ⟨b35, 0, none⟩) 1 1 (List.flatMap wc [Wy.mk (s : Int) ad26 cp26 l]), _, .fz g30, _, _, _, _] _ := hS35.blkOw' (i := 0) (m := 1) (size := 6) (xs := List.flatMap wc [Wy.mk (s : Int) ad26 cp26 l]) rfl rfl rfl (by decide); clear hS35
     refine hK _ _ ⟨⟨⟨trivial, fun _ _ => by first | exact q_load1 rfl (by kernel_rfl) (hS35o.cell (i := 5) rfl rfl)⟩, fun h => absurd h (by decide)⟩, fun h => absurd h (by decide)⟩ ?_; clear hK K
     refine o_eff (i := 14) (by kernel_rfl) rfl (goes0 rfl) (fun K hK => ?_)
     refine e_app (e := 54) (size := 6) (bytes := 64) (i := 1) (m' := (W ++ [Wy.mk (s : Int) ad26 cp26 l]).length) (by kernel_rfl) hS35o rfl rfl rfl (SlG.src (e := 54) (by kernel_rfl) (hS35o.owG (i := 0) rfl) ((rows_len (c := wc) (m := 6) (fun _ => rfl) _).trans (by first | rfl | (simp only [List.length_append, List.length_map, List.length_cons, List.length_nil, List.length_take, List.length_drop, List.length_set]; done) | (simp only [List.length_append, List.length_map, List.length_cons, List.length_nil, List.length_take, List.length_drop, List.length_set]; omega) | omega)) (by decide) (rows_one wc_ones)) (by first | omega | (simp only [List.length_append, List.length_map, List.length_cons, List.length_nil, List.length_take, List.length_drop, List.length_set] <;> omega) | (simp; done)) rows_app (by first | omega | (simp only [maxLen, List.length_append, List.length_map, List.length_cons, List.length_nil, List.length_take, List.length_drop, List.length_set] <;> omega) | (simp only [maxLen]; omega)) (by first | omega | (simp only [List.length_append, List.length_map, List.length_cons, List.length_nil, List.length_take, List.length_drop, List.length_set] <;> omega)) (fun ad36 cp36 w36 (hS36 : St _ _ [_, .ow 54 6 ad36 ((W ++ [Wy.mk (s : Int) ad26 cp26 l]).length) cp36 (List.flatMap wc (W ++ [Wy.mk (s : Int) ad26 cp26 l])), .fz g30, _, _, _, _] _) => ?_)
     clear hS35o
     refine hK _ _ ⟨⟨⟨trivial, fun h => absurd h (by decide)⟩, fun h => absurd h (by decide)⟩, fun h => absurd h (by decide)⟩ ?_; clear hK K
     refine o_pure (i := 15) (fun j w => ⟨(fun j w => ⟨(fun j w => ⟨(fun _ _ => trivial) j w, fun _ h => h⟩) j w, fun _ h => h⟩) j w, fun _ h => h⟩) rfl rfl (by kernel_rfl) (goes0 rfl) (QOk.then QOk.body) (fun w => q_nilCheck rfl) ?_
     refine o_pure (i := 16) (fun j w => ⟨(fun j w => ⟨(fun j w => ⟨(fun _ _ => trivial) j w, fun _ h => h⟩) j w, fun _ h => h⟩) j w, fun _ h => h⟩) rfl rfl (by kernel_rfl) (goes0 rfl) (QOk.then QOk.body) (fun w => q_fieldAddr (ft := 49) (o := 0) rfl (by kernel_rfl)) ?_
     refine o_eff (i := 17) (by kernel_rfl) rfl (goes0 rfl) (fun K hK => ?_)
     refine e_store1 hS36 rfl rfl (by kernel_rfl) (by first | rfl | assumption) (i := 5) rfl rfl (fun w37 (hS37 : St _ _ [_, _, .fz g30, _, _, .blk r (.cells #[.slice ad36 ((W ++ [Wy.mk (s : Int) ad26 cp26 l]).length) cp36, .int .i64 (s : Int), .int .i64 (t : Int), .int .i64 (o : Int)] 51), _] _) => ?_)
     clear hS36
     refine hK _ _ ⟨⟨⟨trivial, fun h => absurd h (by decide)⟩, fun h => absurd h (by decide)⟩, fun h => absurd h (by decide)⟩ ?_; clear hK K
     refine o_done (by kernel_rfl) ?_
     refine hK31 _ _ ?_
     refine wp_seq_k (fun K38 hK38 => ?_)
     refine wp_region_lit ?_
     refine l_q rfl rfl (q_moveP rfl) ?_
     refine l_q rfl rfl (q_nilCheck rfl) ?_
     refine l_q rfl rfl (q_fieldAddr (ft := 3) (o := 1) rfl (by kernel_rfl)) ?_
     refine l_q rfl rfl (q_load1 rfl (by kernel_rfl) (hS37.cell (i := 5) rfl rfl)) ?_
     refine l_q rfl rfl (q_addx rfl rfl (by first | decide | omega) (by first | decide | omega)) ?_
     refine l_q rfl rfl (q_nilCheck rfl) ?_
     refine l_q rfl rfl (q_fieldAddr (ft := 3) (o := 1) rfl (by kernel_rfl)) ?_
     refine l_e rfl (fun K hK => ?_)
     refine e_store1 hS37 rfl rfl (by kernel_rfl) (by first | rfl | assumption) (i := 5) rfl rfl (fun w39 (hS39 : St _ _ [_, _, .fz g30, _, _, .blk r (.cells #[.slice ad36 ((W ++ [Wy.mk (s : Int) ad26 cp26 l]).length) cp36, .int .i64 ((s : Int) + (1 : Int)), .int .i64 (t : Int), .int .i64 (o : Int)] 51), _] _) => ?_)
     clear hS37
     refine hK _ _ ?_; clear hK K
     refine l_nil ?_
     refine hK38 _ _ ?_
     refine wp_seq_k (fun K40 hK40 => ?_)
     refine wp_region_lit ?_
     refine l_q rfl rfl (q_moveP rfl) ?_
     refine l_q rfl rfl (q_nilCheck rfl) ?_
     refine l_q rfl rfl (q_fieldAddr (ft := 3) (o := 1) rfl (by kernel_rfl)) ?_
     refine l_q rfl rfl (q_load1 rfl (by kernel_rfl) (hS39.cell (i := 5) rfl rfl)) ?_
     refine l_q rfl rfl (q_subx rfl rfl (by first | decide | omega) (by first | decide | omega)) ?_
     refine l_q rfl rfl (q_assignI rfl) ?_
     refine l_q rfl rfl (q_assignI rfl) ?_
     refine l_nil ?_
     refine hK40 _ _ ?_
     refine wp_ret ?_
     refine c_ret2 rfl rfl rfl ?_
     have hS41 := hS39.fr2; clear hS39
     have hS42 := hS41.fr2; clear hS41
     have hS43 := hS42.fr5; clear hS42
     have hS44 : St _ _ [_, _, .fz g30] _ := hS43.only 3; clear hS43
     exact ⟨_, _, rfl, RSendP.more (by omega) hR hf hle30 hW hfz30, hS44⟩
    ·
     refine e_buildSliceA (e := 54) (m := 6) (zv := .agg #[.int .i64 0, .int .i64 0, .int .i64 0, .int .i64 0, .int .i64 0, .slice none 0 0]) hS33o (by kernel_rfl) (by kernel_rfl) (by kernel_rfl) rfl rfl rfl rfl (fun b45 w45 (hS45 : St _ _ [.blk b45 (.cells #[.int .i64 (s : Int), .int .i64 l.k, .int .i64 l.f, .int .i64 l.t, .int .i64 l.x, .slice ad26 l.nd.length cp26] 54), _, .fz g30, _, _, _, _] _) => ?_)
     clear hS33o
     have hS45o : St _ _ [.ow 54 6 (some ⟨b45, 0, none⟩) 1 1 (List.flatMap wc [Wy.mk (s : Int) ad26 cp26 l]), _, .fz g30, _, _, _, _] _ := hS45.blkOw' (i := 0) (m := 1) (size := 6) (xs := List.flatMap wc [Wy.mk (s : Int) ad26 cp26 l]) rfl rfl rfl (by decide); clear hS45
     refine hK _ _ ⟨⟨⟨trivial, fun _ _ => by first | exact q_load1 rfl (by kernel_rfl) (hS45o.cell (i := 5) rfl rfl)⟩, fun h => absurd h (by decide)⟩, fun h => absurd h (by decide)⟩ ?_; clear hK K
     refine o_eff (i := 6) (by kernel_rfl) rfl (goes0 rfl) (fun K hK => ?_)
     refine e_app (e := 54) (size := 6) (bytes := 64) (i := 1) (m' := W.length) (by kernel_rfl) hS45o rfl rfl rfl (SlG.src (e := 54) (by kernel_rfl) (hS45o.owG (i := 6) rfl) ((rows_len (c := wc) (m := 6) (fun _ => rfl) _).trans (by first | rfl | (simp only [List.length_append, List.length_map, List.length_cons, List.length_nil, List.length_take, List.length_drop, List.length_set]; done) | (simp only [List.length_append, List.length_map, List.length_cons, List.length_nil, List.length_take, List.length_drop, List.length_set]; omega) | omega)) (by decide) (rows_one wc_ones)) (by first | omega | (simp only [List.length_append, List.length_map, List.length_cons, List.length_nil, List.length_take, List.length_drop, List.length_set] <;> omega) | (simp; done)) rfl (by first | omega | (simp only [maxLen, List.length_append, List.length_map, List.length_cons, List.length_nil, List.length_take, List.length_drop, List.length_set] <;> omega) | (simp only [maxLen]; omega)) (by first | omega | (simp only [List.length_append, List.length_map, List.length_cons, List.length_nil, List.length_take, List.length_drop, List.length_set] <;> omega)) (fun ad46 cp46 w46 (hS46 : St _ _ [_, .ow 54 6 ad46 W.length cp46 (List.flatMap wc W), .fz g30, _, _, _, _] _) => ?_)
     clear hS45o
     refine hK _ _ ⟨⟨⟨trivial, fun h => absurd h (by decide)⟩, fun _ _ => by first | exact q_load1 rfl (by kernel_rfl) (hS46.cell (i := 5) rfl rfl)⟩, fun _ _ => by first | exact q_loadA (m := 5) rfl (by kernel_rfl) (by kernel_rfl) (hS46.blk (i := 3) rfl) rfl rfl⟩ ?_; clear hK K
     refine o_eff (i := 14) (by kernel_rfl) rfl (goes0 rfl) (fun K hK => ?_)
     refine e_app (e := 54) (size := 6) (bytes := 64) (i := 1) (m' := (W ++ [Wy.mk (s : Int) ad26 cp26 l]).length) (by kernel_rfl) hS46 rfl rfl rfl (SlG.src (e := 54) (by kernel_rfl) (hS46.owG (i := 0) rfl) ((rows_len (c := wc) (m := 6) (fun _ => rfl) _).trans (by first | rfl | (simp only [List.length_append, List.length_map, List.length_cons, List.length_nil, List.length_take, List.length_drop, List.length_set]; done) | (simp only [List.length_append, List.length_map, List.length_cons, List.length_nil, List.length_take, List.length_drop, List.length_set]; omega) | omega)) (by decide) (rows_one wc_ones)) (by first | omega | (simp only [List.length_append, List.length_map, List.length_cons, List.length_nil, List.length_take, List.length_drop, List.length_set] <;> omega) | (simp; done)) rows_app (by first | omega | (simp only [maxLen, List.length_append, List.length_map, List.length_cons, List.length_nil, List.length_take, List.length_drop, List.length_set] <;> omega) | (simp only [maxLen]; omega)) (by first | omega | (simp only [List.length_append, List.length_map, List.length_cons, List.length_nil, List.length_take, List.length_drop, List.length_set] <;> omega)) (fun ad47 cp47 w47 (hS47 : St _ _ [_, .ow 54 6 ad47 ((W ++ [Wy.mk (s : Int) ad26 cp26 l]).length) cp47 (List.flatMap wc (W ++ [Wy.mk (s : Int) ad26 cp26 l])), .fz g30, _, _, _, _] _) => ?_)
     clear hS46
     refine hK _ _ ⟨⟨⟨trivial, fun h => absurd h (by decide)⟩, fun h => absurd h (by decide)⟩, fun h => absurd h (by decide)⟩ ?_; clear hK K
     refine o_pure (i := 15) (fun j w => ⟨(fun j w => ⟨(fun j w => ⟨(fun _ _ => trivial) j w, fun _ h => h⟩) j w, fun _ h => h⟩) j w, fun _ h => h⟩) rfl rfl (by kernel_rfl) (goes0 rfl) (QOk.then QOk.body) (fun w => q_nilCheck rfl) ?_
     refine o_pure (i := 16) (fun j w => ⟨(fun j w => ⟨(fun j w => ⟨(fun _ _ => trivial) j w, fun _ h => h⟩) j w, fun _ h => h⟩) j w, fun _ h => h⟩) rfl rfl (by kernel_rfl) (goes0 rfl) (QOk.then QOk.body) (fun w => q_fieldAddr (ft := 49) (o := 0) rfl (by kernel_rfl)) ?_
     refine o_eff (i := 17) (by kernel_rfl) rfl (goes0 rfl) (fun K hK => ?_)
     refine e_store1 hS47 rfl rfl (by kernel_rfl) (by first | rfl | assumption) (i := 5) rfl rfl (fun w48 (hS48 : St _ _ [_, _, .fz g30, _, _, .blk r (.cells #[.slice ad47 ((W ++ [Wy.mk (s : Int) ad26 cp26 l]).length) cp47, .int .i64 (s : Int), .int .i64 (t : Int), .int .i64 (o : Int)] 51), _] _) => ?_)
     clear hS47
     refine hK _ _ ⟨⟨⟨trivial, fun h => absurd h (by decide)⟩, fun h => absurd h (by decide)⟩, fun h => absurd h (by decide)⟩ ?_; clear hK K
     refine o_done (by kernel_rfl) ?_
     refine hK31 _ _ ?_
     refine wp_seq_k (fun K49 hK49 => ?_)
     refine wp_region_lit ?_
     refine l_q rfl rfl (q_moveP rfl) ?_
     refine l_q rfl rfl (q_nilCheck rfl) ?_
     refine l_q rfl rfl (q_fieldAddr (ft := 3) (o := 1) rfl (by kernel_rfl)) ?_
     refine l_q rfl rfl (q_load1 rfl (by kernel_rfl) (hS48.cell (i := 5) rfl rfl)) ?_
     refine l_q rfl rfl (q_addx rfl rfl (by first | decide | omega) (by first | decide | omega)) ?_
     refine l_q rfl rfl (q_nilCheck rfl) ?_
     refine l_q rfl rfl (q_fieldAddr (ft := 3) (o := 1) rfl (by kernel_rfl)) ?_
     refine l_e rfl (fun K hK => ?_)
     refine e_store1 hS48 rfl rfl (by kernel_rfl) (by first | rfl | assumption) (i := 5) rfl rfl (fun w50 (hS50 : St _ _ [_, _, .fz g30, _, _, .blk r (.cells #[.slice ad47 ((W ++ [Wy.mk (s : Int) ad26 cp26 l]).length) cp47, .int .i64 ((s : Int) + (1 : Int)), .int .i64 (t : Int), .int .i64 (o : Int)] 51), _] _) => ?_)
     clear hS48
     refine hK _ _ ?_; clear hK K
     refine l_nil ?_
     refine hK49 _ _ ?_
     refine wp_seq_k (fun K51 hK51 => ?_)
     refine wp_region_lit ?_
     refine l_q rfl rfl (q_moveP rfl) ?_
     refine l_q rfl rfl (q_nilCheck rfl) ?_
     refine l_q rfl rfl (q_fieldAddr (ft := 3) (o := 1) rfl (by kernel_rfl)) ?_
     refine l_q rfl rfl (q_load1 rfl (by kernel_rfl) (hS50.cell (i := 5) rfl rfl)) ?_
     refine l_q rfl rfl (q_subx rfl rfl (by first | decide | omega) (by first | decide | omega)) ?_
     refine l_q rfl rfl (q_assignI rfl) ?_
     refine l_q rfl rfl (q_assignI rfl) ?_
     refine l_nil ?_
     refine hK51 _ _ ?_
     refine wp_ret ?_
     refine c_ret2 rfl rfl rfl ?_
     have hS52 := hS50.fr2; clear hS50
     have hS53 := hS52.fr2; clear hS52
     have hS54 := hS53.fr5; clear hS53
     have hS55 : St _ _ [_, _, .fz g30] _ := hS54.only 3; clear hS54
     exact ⟨_, _, rfl, RSendP.more (by omega) hR hf hle30 hW hfz30, hS55⟩
   ·
    refine e_buildSliceA (e := 54) (m := 6) (zv := .agg #[.int .i64 0, .int .i64 0, .int .i64 0, .int .i64 0, .int .i64 0, .slice none 0 0]) hS32 (by kernel_rfl) (by kernel_rfl) (by kernel_rfl) rfl rfl rfl rfl (fun b56 w56 (hS56 : St _ _ [.blk b56 (.cells #[.int .i64 (s : Int), .int .i64 l.k, .int .i64 l.f, .int .i64 l.t, .int .i64 l.x, .slice ad26 l.nd.length cp26] 54), .fz g30, _, _, _, _] _) => ?_)
    clear hS32
    have hS56o : St _ _ [.ow 54 6 (some ⟨b56, 0, none⟩) 1 1 (List.flatMap wc [Wy.mk (s : Int) ad26 cp26 l]), .fz g30, _, _, _, _] _ := hS56.blkOw' (i := 0) (m := 1) (size := 6) (xs := List.flatMap wc [Wy.mk (s : Int) ad26 cp26 l]) rfl rfl rfl (by decide); clear hS56
    refine hK _ _ ⟨⟨⟨trivial, fun _ _ => by first | exact q_load1 rfl (by kernel_rfl) (hS56o.cell (i := 4) rfl rfl)⟩, fun h => absurd h (by decide)⟩, fun h => absurd h (by decide)⟩ ?_; clear hK K
    refine o_eff (i := 1) (by kernel_rfl) rfl (goes0 rfl) (fun K hK => ?_)
    refine e_buildSlice0 (e := 54) (m := 6) hS56o (by kernel_rfl) (by kernel_rfl) (fun b57 w57 (hS57 : St _ _ [.blk b57 (.cells #[] 54), _, .fz g30, _, _, _, _] _) => ?_)
    clear hS56o
    have hS57o : St _ _ [.ow 54 6 (some ⟨b57, 0, none⟩) 0 0 (List.flatMap wc []), _, .fz g30, _, _, _, _] _ := hS57.blkOw' (i := 0) (m := 0) (size := 6) (xs := List.flatMap wc []) rfl rfl rfl (by decide); clear hS57
    refine hK _ _ ⟨⟨⟨trivial, fun _ _ => by first | exact q_load1 rfl (by kernel_rfl) (hS57o.cell (i := 5) rfl rfl)⟩, fun _ _ => by first | exact q_load1 rfl (by kernel_rfl) (hS57o.cell (i := 5) rfl rfl)⟩, fun _ _ => by first | exact q_loadA (m := 5) rfl (by kernel_rfl) (by kernel_rfl) (hS57o.blk (i := 3) rfl) rfl rfl⟩ ?_; clear hK K
    refine o_eff (i := 6) (by kernel_rfl) rfl (goes0 rfl) (fun K hK => ?_)
    refine e_app (e := 54) (size := 6) (bytes := 64) (i := 0) (m' := W.length) (by kernel_rfl) hS57o rfl rfl rfl (SlG.src (e := 54) (by kernel_rfl) (hS57o.owG (i := 6) rfl) ((rows_len (c := wc) (m := 6) (fun _ => rfl) _).trans (by first | rfl | (simp only [List.length_append, List.length_map, List.length_cons, List.length_nil, List.length_take, List.length_drop, List.length_set]; done) | (simp only [List.length_append, List.length_map, List.length_cons, List.length_nil, List.length_take, List.length_drop, List.length_set]; omega) | omega)) (by decide) (rows_one wc_ones)) (by first | omega | (simp only [List.length_append, List.length_map, List.length_cons, List.length_nil, List.length_take, List.length_drop, List.length_set] <;> omega) | (simp; done)) rfl (by first | omega | (simp only [maxLen, List.length_append, List.length_map, List.length_cons, List.length_nil, List.length_take, List.length_drop, List.length_set] <;> omega) | (simp only [maxLen]; omega)) (by first | omega | (simp only [List.length_append, List.length_map, List.length_cons, List.length_nil, List.length_take, List.length_drop, List.length_set] <;> omega)) (fun ad58 cp58 w58 (hS58 : St _ _ [.ow 54 6 ad58 W.length cp58 (List.flatMap wc W), _, .fz g30, _, _, _, _] _) => ?_)
    clear hS57o
    refine hK _ _ ⟨⟨⟨trivial, fun h => absurd h (by decide)⟩, fun _ _ => by first | exact q_load1 rfl (by kernel_rfl) (hS58.cell (i := 5) rfl rfl)⟩, fun _ _ => by first | exact q_loadA (m := 5) rfl (by kernel_rfl) (by kernel_rfl) (hS58.blk (i := 3) rfl) rfl rfl⟩ ?_; clear hK K
    refine o_eff (i := 14) (by kernel_rfl) rfl (goes0 rfl) (fun K hK => ?_)
    refine e_app (e := 54) (size := 6) (bytes := 64) (i := 0) (m' := (W ++ [Wy.mk (s : Int) ad26 cp26 l]).length) (by kernel_rfl) hS58 rfl rfl rfl (SlG.src (e := 54) (by kernel_rfl) (hS58.owG (i := 1) rfl) ((rows_len (c := wc) (m := 6) (fun _ => rfl) _).trans (by first | rfl | (simp only [List.length_append, List.length_map, List.length_cons, List.length_nil, List.length_take, List.length_drop, List.length_set]; done) | (simp only [List.length_append, List.length_map, List.length_cons, List.length_nil, List.length_take, List.length_drop, List.length_set]; omega) | omega)) (by decide) (rows_one wc_ones)) (by first | omega | (simp only [List.length_append, List.length_map, List.length_cons, List.length_nil, List.length_take, List.length_drop, List.length_set] <;> omega) | (simp; done)) rows_app (by first | omega | (simp only [maxLen, List.length_append, List.length_map, List.length_cons, List.length_nil, List.length_take, List.length_drop, List.length_set] <;> omega) | (simp only [maxLen]; omega)) (by first | omega | (simp only [List.length_append, List.length_map, List.length_cons, List.length_nil, List.length_take, List.length_drop, List.length_set] <;> omega)) (fun ad59 cp59 w59 (hS59 : St _ _ [.ow 54 6 ad59 ((W ++ [Wy.mk (s : Int) ad26 cp26 l]).length) cp59 (List.flatMap wc (W ++ [Wy.mk (s : Int) ad26 cp26 l])), _, .fz g30, _, _, _, _] _) => ?_)
    clear hS58
    refine hK _ _ ⟨⟨⟨trivial, fun h => absurd h (by decide)⟩, fun h => absurd h (by decide)⟩, fun h => absurd h (by decide)⟩ ?_; clear hK K
    refine o_pure (i := 15) (fun j w => ⟨(fun j w => ⟨(fun j w => ⟨(fun _ _ => trivial) j w, fun _ h => h⟩) j w, fun _ h => h⟩) j w, fun _ h => h⟩) rfl rfl (by kernel_rfl) (goes0 rfl) (QOk.then QOk.body) (fun w => q_nilCheck rfl) ?_
    refine o_pure (i := 16) (fun j w => ⟨(fun j w => ⟨(fun j w => ⟨(fun _ _ => trivial) j w, fun _ h => h⟩) j w, fun _ h => h⟩) j w, fun _ h => h⟩) rfl rfl (by kernel_rfl) (goes0 rfl) (QOk.then QOk.body) (fun w => q_fieldAddr (ft := 49) (o := 0) rfl (by kernel_rfl)) ?_
    refine o_eff (i := 17) (by kernel_rfl) rfl (goes0 rfl) (fun K hK => ?_)
    refine e_store1 hS59 rfl rfl (by kernel_rfl) (by first | rfl | assumption) (i := 5) rfl rfl (fun w60 (hS60 : St _ _ [_, _, .fz g30, _, _, .blk r (.cells #[.slice ad59 ((W ++ [Wy.mk (s : Int) ad26 cp26 l]).length) cp59, .int .i64 (s : Int), .int .i64 (t : Int), .int .i64 (o : Int)] 51), _] _) => ?_)
    clear hS59
    refine hK _ _ ⟨⟨⟨trivial, fun h => absurd h (by decide)⟩, fun h => absurd h (by decide)⟩, fun h => absurd h (by decide)⟩ ?_; clear hK K
    refine o_done (by kernel_rfl) ?_
    refine hK31 _ _ ?_
    refine wp_seq_k (fun K61 hK61 => ?_)
    refine wp_region_lit ?_
    refine l_q rfl rfl (q_moveP rfl) ?_
    refine l_q rfl rfl (q_nilCheck rfl) ?_
    refine l_q rfl rfl (q_fieldAddr (ft := 3) (o := 1) rfl (by kernel_rfl)) ?_
    refine l_q rfl rfl (q_load1 rfl (by kernel_rfl) (hS60.cell (i := 5) rfl rfl)) ?_
    refine l_q rfl rfl (q_addx rfl rfl (by first | decide | omega) (by first | decide | omega)) ?_
    refine l_q rfl rfl (q_nilCheck rfl) ?_
    refine l_q rfl rfl (q_fieldAddr (ft := 3) (o := 1) rfl (by kernel_rfl)) ?_
    refine l_e rfl (fun K hK => ?_)
    refine e_store1 hS60 rfl rfl (by kernel_rfl) (by first | rfl | assumption) (i := 5) rfl rfl (fun w62 (hS62 : St _ _ [_, _, .fz g30, _, _, .blk r (.cells #[.slice ad59 ((W ++ [Wy.mk (s : Int) ad26 cp26 l]).length) cp59, .int .i64 ((s : Int) + (1 : Int)), .int .i64 (t : Int), .int .i64 (o : Int)] 51), _] _) => ?_)
    clear hS60
    refine hK _ _ ?_; clear hK K
    refine l_nil ?_
    refine hK61 _ _ ?_
    refine wp_seq_k (fun K63 hK63 => ?_)
    refine wp_region_lit ?_
    refine l_q rfl rfl (q_moveP rfl) ?_
    refine l_q rfl rfl (q_nilCheck rfl) ?_
    refine l_q rfl rfl (q_fieldAddr (ft := 3) (o := 1) rfl (by kernel_rfl)) ?_
    refine l_q rfl rfl (q_load1 rfl (by kernel_rfl) (hS62.cell (i := 5) rfl rfl)) ?_
    refine l_q rfl rfl (q_subx rfl rfl (by first | decide | omega) (by first | decide | omega)) ?_
    refine l_q rfl rfl (q_assignI rfl) ?_
    refine l_q rfl rfl (q_assignI rfl) ?_
    refine l_nil ?_
    refine hK63 _ _ ?_
    refine wp_ret ?_
    refine c_ret2 rfl rfl rfl ?_
    have hS64 := hS62.fr2; clear hS62
    have hS65 := hS64.fr1; clear hS64
    have hS66 := hS65.fr5; clear hS65
    have hS67 : St _ _ [_, _, .fz g30] _ := hS66.only 3; clear hS66
    exact ⟨_, _, rfl, RSendP.more (by omega) hR hf hle30 hW hfz30, hS67⟩

end Go.Proofs.Ytlplhlncdfhhoaa
