/- Package key: Next; law04: few, right. -/
import Derived.Test.YtcllmnepkglabaaDoorK4
set_option linter.unusedVariables false
set_option linter.unusedSimpArgs false
namespace Go.Proofs.YtcllmnepkglabaaDoor
open Go.RowKit
/-- How many bytes are left when those of 255 at the end are gone. -/
def nxN (b : List Nat) : Nat := (b.reverse.dropWhile fun x => decide (x = 255)).length
/-- The bytes behind all that begin so. -/
def nxB (b : List Nat) : List Nat := if nxN b = 0 then [] else (b.take (nxN b)).set (nxN b - 1) (b.getD (nxN b - 1) 0 + 1)
theorem dropWhile_all {p : Nat → Bool} : ∀ {l m : List Nat}, (∀ x ∈ l, p x = true) → (l ++ m).dropWhile p = m.dropWhile p
  | [], m, _ => rfl
  | a :: l, m, h => by
    rw [List.cons_append, List.dropWhile_cons, h a (.head _)]
    exact dropWhile_all fun x hx => h x (.tail _ hx)
theorem nxN_of {b : List Nat} {n : Nat} (hn : n ≤ b.length) (hd : ∀ x ∈ b.drop n, x = 255) (hl : 0 < n → ∃ y, b[n - 1]? = some y ∧ y ≠ 255) : nxN b = n := by
  unfold nxN
  have h1 : b.reverse = (b.drop n).reverse ++ (b.take n).reverse := by rw [← List.reverse_append, List.take_append_drop]
  rw [h1, dropWhile_all fun x hx => by simpa using hd x (List.mem_reverse.1 hx)]
  rcases Nat.eq_zero_or_pos n with h0 | h0
  · subst h0; simp
  · obtain ⟨y, hy, hy2⟩ := hl h0
    have h2 : b.take n = b.take (n - 1) ++ [y] := by
      have := List.take_add_one (l := b) (i := n - 1)
      rw [show n - 1 + 1 = n from by omega, hy] at this
      exact this
    rw [h2, List.reverse_append]
    simp [hy2]
    omega
theorem nxB_nil {b : List Nat} (h : nxN b = 0) : nxB b = [] := by unfold nxB; rw [if_pos h]
theorem nxB_pos {b : List Nat} {n y : Nat} (h : nxN b = n) (hn : 0 < n) (hy : b[n - 1]? = some y) : nxB b = (b.take n).set (n - 1) (y + 1) := by
  unfold nxB
  rw [if_neg (by omega), h, List.getD_eq_getElem?_getD, hy]; rfl
theorem nx_split (b : List Nat) : (∃ X y Z, b = X ++ y :: Z ∧ y ≠ 255 ∧ (∀ z ∈ Z, z = 255) ∧ nxB b = X ++ [y + 1]) ∨ ((∀ z ∈ b, z = 255) ∧ nxB b = []) := by
  have key : ∀ b : List Nat, (∃ X y Z, b = X ++ y :: Z ∧ y ≠ 255 ∧ ∀ z ∈ Z, z = 255) ∨ ∀ z ∈ b, z = 255 := by
    intro b
    induction b with
    | nil => exact .inr fun z hz => by cases hz
    | cons a b ih =>
      rcases ih with ⟨X, y, Z, rfl, h1, h2⟩ | h
      · exact .inl ⟨a :: X, y, Z, rfl, h1, h2⟩
      · by_cases ha : a = 255
        · exact .inr fun z hz => by cases hz with | head => exact ha | tail _ hz => exact h z hz
        · exact .inl ⟨[], a, b, rfl, ha, h⟩
  rcases key b with ⟨X, y, Z, rfl, h1, h2⟩ | h
  · left
    have hN : nxN (X ++ y :: Z) = X.length + 1 := nxN_of (by simp) (fun x hx => by
      rw [show X ++ y :: Z = (X ++ [y]) ++ Z from by simp, List.drop_left' (by simp)] at hx; exact h2 x hx) (fun _ => ⟨y, by simp, h1⟩)
    refine ⟨X, y, Z, rfl, h1, h2, ?_⟩
    rw [nxB_pos hN (by omega) (show (X ++ y :: Z)[X.length + 1 - 1]? = some y by simp), show X ++ y :: Z = (X ++ [y]) ++ Z from by simp, List.take_left' (by simp)]
    simp
  · right
    refine ⟨h, nxB_nil (nxN_of (Nat.zero_le _) (fun x hx => h x (List.mem_of_mem_drop hx)) (fun h0 => by omega))⟩
theorem nxB_bytes {b : List Nat} (h : Bytes b) : Bytes (nxB b) := by
  rcases nx_split b with ⟨X, y, Z, rfl, h1, h2, h3⟩ | ⟨_, h3⟩
  · rw [h3]
    intro x hx
    rcases List.mem_append.1 hx with hx | hx
    · exact h x (List.mem_append_left _ hx)
    · have := h y (List.mem_append_right _ (.head _))
      simp at hx; omega
  · rw [h3]; exact Bytes.nil
theorem all255 : ∀ {Z c : List Nat}, (∀ z ∈ Z, z = 255) → Bytes c → bl c Z = false → ∃ r, c = Z ++ r
  | [], c, _, _, _ => ⟨c, rfl⟩
  | z :: Z, [], _, _, h => by simp [bl] at h
  | z :: Z, a :: c, hz, hc, h => by
    have h1 := hz z (.head _)
    have h2 := hc a (.head _)
    simp only [bl, Bool.or_eq_false_iff, decide_eq_false_iff_not, Bool.and_eq_false_iff] at h
    have h3 : a = z := by omega
    subst h3
    obtain ⟨r, rfl⟩ := all255 (Z := Z) (c := c) (fun x hx => hz x (.tail _ hx)) (fun x hx => hc x (.tail _ hx)) (by simpa using h.2)
    exact ⟨r, rfl⟩
theorem bl_pre (X : List Nat) : ∀ (l m : List Nat), bl (X ++ l) (X ++ m) = bl l m := by
  induction X with
  | nil => intro l m; rfl
  | cons x X ih => intro l m; simp [bl, ih]
theorem next_core {y : Nat} {Z : List Nat} (hZ : ∀ z ∈ Z, z = 255) : ∀ (X c : List Nat), Bytes c → bl c (X ++ y :: Z) = false → bl c (X ++ [y + 1]) = true → ∃ r, c = (X ++ y :: Z) ++ r
  | [], [], _, h, _ => by simp [bl] at h
  | [], a :: c, hc, h, h' => by
    simp [bl] at h h'
    have ha : a = y := by omega
    subst ha
    obtain ⟨r, rfl⟩ := all255 hZ (fun x hx => hc x (.tail _ hx)) (by simpa using h.2)
    exact ⟨r, rfl⟩
  | x :: X, [], _, h, _ => by simp [bl] at h
  | x :: X, a :: c, hc, h, h' => by
    simp only [List.cons_append, bl, Bool.or_eq_false_iff, decide_eq_false_iff_not, Bool.and_eq_false_iff, Bool.or_eq_true, decide_eq_true_eq, Bool.and_eq_true] at h h'
    have ha : a = x := by omega
    subst ha
    obtain ⟨r, rfl⟩ := next_core hZ X c (fun q hq => hc q (.tail _ hq)) (by simpa using h.2) (by
      rcases h' with h' | h'
      · omega
      · exact h'.2)
    exact ⟨r, rfl⟩
theorem bl_ext (b r : List Nat) : bl (b ++ r) b = false := by
  have := bl_pre b r []
  rw [List.append_nil] at this
  rw [this]; cases r <;> rfl
theorem next_in {b c : List Nat} (hc : Bytes c) : (bl c b = false ∧ (nxB b = [] ∨ bl c (nxB b) = true)) ↔ ∃ r, c = b ++ r := by
  rcases nx_split b with ⟨X, y, Z, rfl, h1, h2, h3⟩ | ⟨h2, h3⟩
  · rw [h3]
    constructor
    · rintro ⟨h4, h5 | h5⟩
      · simp at h5
      · exact next_core h2 X c hc h4 h5
    · rintro ⟨r, rfl⟩
      refine ⟨bl_ext _ _, .inr ?_⟩
      rw [List.append_assoc, bl_pre]; simp [bl]
  · rw [h3]
    constructor
    · rintro ⟨h4, _⟩
      exact all255 h2 hc h4
    · rintro ⟨r, rfl⟩
      exact ⟨bl_ext _ _, .inl rfl⟩
def fewB (L : List Vl) : Bool := decide (L.length ≤ 20) && L.all fun v => decide (v.2.2.length ≤ 500)
def rightL (L : List Vl) : Bool := decide (L.length ≤ 16) && L.all rightB
theorem fewB_le {L : List Vl} (h : fewB L = true) : L.length ≤ 20 ∧ ∀ v ∈ L, v.2.2.length ≤ 500 := by
  unfold fewB at h
  simpa using h
theorem rightL_le {L : List Vl} (h : rightL L = true) : L.length ≤ 16 ∧ ∀ v ∈ L, rightB v = true := by
  unfold rightL at h
  simpa using h
theorem few_no {L : List Vl} {i : Nat} {x : Vl} (hx : L[i]? = some x) (h : 20 ≤ i ∨ 500 < x.2.2.length) : fewB L = false := by
  unfold fewB
  rcases h with h | h
  · have := (List.getElem?_eq_some_iff.1 hx).1
    rw [decide_eq_false (by omega)]; rfl
  · have h2 : (L.all fun v => decide (v.2.2.length ≤ 500)) = false := by
      rw [List.all_eq_false]
      exact ⟨x, List.mem_of_getElem? hx, by simpa using h⟩
    rw [h2, Bool.and_false]
theorem few_yes {L : List Vl} (h1 : L.length ≤ 20) (h : ∀ j, j < L.length → ∀ v, L[j]? = some v → v.2.2.length ≤ 500) : fewB L = true := by
  unfold fewB
  rw [decide_eq_true h1, Bool.true_and, List.all_eq_true]
  intro v hv
  obtain ⟨j, hj, rfl⟩ := List.getElem_of_mem hv
  simpa using h j hj _ (List.getElem?_eq_getElem hj)
theorem right_no {L : List Vl} {i : Nat} {x : Vl} (hx : L[i]? = some x) (h : rightB x = false) : rightL L = false := by
  unfold rightL
  have h2 : L.all rightB = false := by
    rw [List.all_eq_false]
    exact ⟨x, List.mem_of_getElem? hx, by rw [h]; simp⟩
  rw [h2, Bool.and_false]
theorem right_all {L : List Vl} (h : ∀ j, j < L.length → ∀ v, L[j]? = some v → rightB v = true) : rightL L = decide (L.length ≤ 16) := by
  unfold rightL
  have h2 : L.all rightB = true := by
    rw [List.all_eq_true]
    intro v hv
    obtain ⟨j, hj, rfl⟩ := List.getElem_of_mem hv
    exact h j hj _ (List.getElem?_eq_getElem hj)
  rw [h2, Bool.and_true]
attribute [local irreducible] Oper.wp Sem.run Code.wp wpList wpAnyO callFunc execOp Calls
attribute [local irreducible] enc encR rightB toU encV nxB nxN fewB rightL

theorem drop_255 {b : List Nat} {n y : Nat} (hd : ∀ x ∈ b.drop n, x = 255) (hn : 0 < n) (hy : b[n - 1]? = some y) (h : y = 255) : ∀ x ∈ b.drop (n - 1), x = 255 := by
  obtain ⟨hi, rfl⟩ := List.getElem?_eq_some_iff.1 hy
  rw [List.drop_eq_getElem_cons hi, show n - 1 + 1 = n from by omega]
  intro x hx
  cases hx with
  | head => exact h
  | tail _ hx => exact hd x hx

set_option maxRecDepth 100000 in
theorem next_ok (b : List Nat) (hb : Bytes b) (nb : Nat) (hnb : b.length = nb) (hnl : nb ≤ 1000000) (ab : Option Addr) (cb : Nat) (hcb : nb ≤ cb) (w : World) (hG : SlG (hw w) ab (bv b)) : Calls Tryd.prog 13 #[.slice ab nb cb] w (PostN w fun v G => ∃ oa oc, v = .slice oa (nxB b).length oc ∧ G = [.ow 5 1 oa (nxB b).length oc (bv (nxB b))]) := by
  have hS := St.start w
  subst hnb
  refine c_enter Tryd.func13 rfl rfl rfl ?_
  refine wp_seq_k (fun K1 hK1 => ?_)
  refine wp_region_lit ?_
  refine l_q rfl rfl (q_assignS rfl) ?_
  refine l_nil ?_
  refine hK1 _ _ ?_
  refine wp_seq_k (fun K2 hK2 => ?_)
  refine wp_region_lit ?_
  refine l_q rfl rfl (q_moveS rfl) ?_
  refine l_q rfl rfl (q_lenSl (e := 5) rfl (by kernel_rfl)) ?_
  refine l_q rfl rfl (q_assignI rfl) ?_
  refine l_nil ?_
  refine hK2 _ _ ?_
  refine wp_seq_k (fun K3 hK3 => ?_)
  refine wp_block ?_
  refine c_loop (τ := Nat) [(3, 3), (7, 18)] (fun x => (fun (n : Nat) => [(3, .int .i64 ((n : Nat) : Int))]) x) (fun x w' => (fun (n : Nat) => St w (fun _ => False) [] w' ∧ n ≤ b.length ∧ (∀ x ∈ b.drop n, x = 255)) x) (fun x => (fun (n : Nat) => n) x) (b.length) ?_ (by repeat' (first | exact trivial | refine ⟨by first | rfl | exact int_succ _ | assumption, ?_⟩)) (fun n j4 w4 hJ4 K4 hK4 => ?_)
  ·
    exact ⟨hS, Nat.le_refl _, fun x hx => by rw [List.drop_eq_nil_of_le (Nat.le_refl _)] at hx; cases hx⟩
  ·
    obtain ⟨hS4, hn, hd⟩ := hJ4
    try dsimp only at hS4 hn hd ⊢
    refine wp_seq_k (fun K5 hK5 => ?_)
    refine wp_seq_k (fun K6 hK6 => ?_)
    refine wp_region_lit ?_
    refine l_q rfl rfl (q_moveI rfl) ?_
    refine l_q rfl rfl (q_gtr rfl rfl) ?_
    refine l_q rfl rfl (q_moveB rfl) ?_
    refine g_splitL (t := 9) rfl (fun hg7 => ?_) (fun hg7 => ?_)
    ·
      have hg7b := hg7
      try simp only [decide_eq_true_eq, decide_eq_false_iff_not, Bool.not_eq_true', Bool.not_eq_false', Bool.and_eq_true, Bool.or_eq_true, Int.not_lt, Int.not_le, ne_eq, Decidable.not_not] at hg7
      refine l_on rfl rfl hg7b ?_
      refine l_q rfl rfl (q_moveS rfl) ?_
      refine l_on rfl rfl hg7b ?_
      refine l_q rfl rfl (q_moveI rfl) ?_
      refine l_on rfl rfl hg7b ?_
      refine l_q rfl rfl (q_subx rfl rfl (by first | decide | omega) (by first | decide | omega)) ?_
      refine l_on rfl rfl hg7b ?_
      refine l_q rfl rfl (q_ixG (e := 5) (m := 1) (j := (n - 1)) rfl rfl (by kernel_rfl) (by kernel_rfl) (by first | rfl | omega) (by omega) hG (by rw [bv_len]; first | omega | (simp only [List.length_append, List.length_map, List.length_cons, List.length_nil, List.length_take, List.length_drop, List.length_set] <;> omega))) ?_
      refine l_on rfl rfl hg7b ?_
      obtain ⟨x8, hx8⟩ : ∃ x, (b)[(n - 1)]? = some x := ⟨_, List.getElem?_eq_getElem (by first | omega | (simp only [List.length_append, List.length_map, List.length_cons, List.length_nil, List.length_take, List.length_drop, List.length_set] <;> omega) | (simp <;> omega))⟩
      have hb8 : x8 < 256 := hb x8 (List.mem_of_getElem? hx8)
      refine l_q rfl rfl (q_load1 rfl (by kernel_rfl) (SlG.cell (hG.mono hS4.base) (Gle.refl _) (at1 (bv_at hx8)))) ?_
      refine l_on rfl rfl hg7b ?_
      refine l_q rfl rfl (q_eql rfl rfl) ?_
      refine l_q rfl rfl (q_pickT rfl hg7b rfl) ?_
      refine l_nil ?_
      refine hK6 _ _ ?_
      refine c_cond rfl (fun hc9 => ?_) (fun hc9 => ?_)
      ·
        have hc9b := hc9
        try simp only [decide_eq_true_eq, decide_eq_false_iff_not, Bool.not_eq_true', Bool.not_eq_false', Bool.and_eq_true, Bool.or_eq_true, Int.not_lt, Int.not_le, ne_eq, Decidable.not_not] at hc9
        refine wp_skip ?_
        refine hK5 _ _ ?_
        refine wp_block ?_
        refine wp_region_lit ?_
        refine l_q rfl rfl (q_moveI rfl) ?_
        refine l_q rfl rfl (q_subx rfl rfl (by first | decide | omega) (by first | decide | omega)) ?_
        refine l_q rfl rfl (q_assignI rfl) ?_
        refine l_nil ?_
        refine hK4 _ _ (came ((n - 1)) (by repeat' (first | exact Agree.refl _ _ | refine Agree.up ?_ rfl | refine Agree.hav2 ?_ rfl | refine Agree.ups2 ?_ rfl)) (by repeat' (first | exact trivial | refine ⟨by first | rfl | exact congrArg (Value.int .i64) (by first | omega | (dsimp only; omega)), ?_⟩)) ?_)
        exact ⟨⟨hS4, (by show n - 1 ≤ b.length; omega), drop_255 hd (by omega) hx8 (by omega)⟩, by (show n - 1 < n); omega⟩
      ·
        have hc9b := hc9
        try simp only [decide_eq_true_eq, decide_eq_false_iff_not, Bool.not_eq_true', Bool.not_eq_false', Bool.and_eq_true, Bool.or_eq_true, Int.not_lt, Int.not_le, ne_eq, Decidable.not_not] at hc9
        refine wp_exit ?_
        refine hK3 _ _ ?_
        refine wp_seq_k (fun K10 hK10 => ?_)
        refine wp_seq_k (fun K11 hK11 => ?_)
        refine wp_region_lit ?_
        refine l_q rfl rfl (q_moveI rfl) ?_
        refine l_q rfl rfl (q_eql rfl rfl) ?_
        refine l_nil ?_
        refine hK11 _ _ ?_
        refine c_cond rfl (fun hc12 => ?_) (fun hc12 => ?_)
        ·
          have hc12b := hc12
          try simp only [decide_eq_true_eq, decide_eq_false_iff_not, Bool.not_eq_true', Bool.not_eq_false', Bool.and_eq_true, Bool.or_eq_true, Int.not_lt, Int.not_le, ne_eq, Decidable.not_not] at hc12
          have hN : nxN b = 0 := nxN_of (Nat.zero_le _) (fun x hx => hd x (by rw [show n = 0 from by omega]; exact hx)) (fun h => by omega)
          refine wp_seq_k (fun K13 hK13 => ?_)
          refine wp_region_lit ?_
          refine l_q rfl rfl (q_assignS rfl) ?_
          refine l_nil ?_
          refine hK13 _ _ ?_
          refine wp_ret ?_
          refine c_ret1 rfl rfl ?_
          have he := nxB_nil hN
          exact ⟨_, _, rfl, ⟨none, 0, by rw [he]; rfl, by rw [he]; rfl⟩, hS4.drop.ow_nil _ _⟩
        ·
          have hc12b := hc12
          try simp only [decide_eq_true_eq, decide_eq_false_iff_not, Bool.not_eq_true', Bool.not_eq_false', Bool.and_eq_true, Bool.or_eq_true, Int.not_lt, Int.not_le, ne_eq, Decidable.not_not] at hc12
          refine wp_skip ?_
          refine hK10 _ _ ?_
          refine wp_seq_k (fun K14 hK14 => ?_)
          have hN : nxN b = n := nxN_of hn hd (fun _ => ⟨_, hx8, by omega⟩)
          refine wp_region_lit ?_
          refine l_q rfl rfl (q_moveS rfl) ?_
          refine l_q rfl rfl (q_moveI rfl) ?_
          refine l_q rfl rfl (q_sliceX (e := 5) (size := 1) (l := 0) (h := n) (m := cb) (ad' := ab) (len' := n) (cap' := cb) rfl (by kernel_rfl) (by kernel_rfl) rfl ⟨_, int_nat (by first | rfl | omega) rfl⟩ rfl (by omega) (by first | omega | (simp only [List.length_append, List.length_map, List.length_cons, List.length_nil, List.length_take, List.length_drop, List.length_set] <;> omega)) (by first | omega | (simp only [List.length_append, List.length_map, List.length_cons, List.length_nil, List.length_take, List.length_drop, List.length_set] <;> omega)) rfl subS_zero (Nat.sub_zero _) (Nat.sub_zero _)) ?_
          refine l_e rfl (fun K hK => ?_)
          refine e_call (by kernel_rfl) (Clone_ok (b.take n) _ _ n (by first | omega | (simp only [List.length_append, List.length_map, List.length_cons, List.length_nil, List.length_take, List.length_drop, List.length_set] <;> omega)) (by first | omega | (simp only [List.length_append, List.length_map, List.length_cons, List.length_nil, List.length_take, List.length_drop, List.length_set] <;> omega)) _ ((bv_takeG hG).mono hS4.base)) rfl (after_N hS4 (fun v15 G15 w15 hv15 hS15 => ?_))
          clear hS4
          obtain ⟨ad15, cp15, rfl, rfl⟩ := hv15
          have hS16 : St _ _ [.ow 5 1 ad15 n cp15 (bv (b.take n))] _ := hS15; clear hS15
          refine hK _ _ ?_; clear hK K
          refine l_q rfl rfl (q_assignS rfl) ?_
          refine l_nil ?_
          refine hK14 _ _ ?_
          refine wp_seq_k (fun K17 hK17 => ?_)
          have hxt : (b.take n)[n - 1]? = some x8 := by rw [List.getElem?_take, if_pos (by omega)]; exact hx8
          have hbx := hb x8 (List.mem_of_getElem? hx8)
          have htl : (b.take n).length = n := by rw [List.length_take]; omega
          refine wp_region_lit ?_
          refine l_q rfl rfl (q_moveS rfl) ?_
          refine l_q rfl rfl (q_moveI rfl) ?_
          refine l_q rfl rfl (q_subx rfl rfl (by first | decide | omega) (by first | decide | omega)) ?_
          refine l_q rfl rfl (q_ixG (e := 5) (m := 1) (j := (n - 1)) rfl rfl (by kernel_rfl) (by kernel_rfl) (by first | rfl | omega) (by omega) (hS16.owG (i := 0) rfl) (by rw [bv_len]; first | omega | (simp only [List.length_append, List.length_map, List.length_cons, List.length_nil, List.length_take, List.length_drop, List.length_set] <;> omega))) ?_
          refine l_q rfl rfl (q_load1 rfl (by kernel_rfl) (SlG.cell (hS16.owG (i := 0) rfl) (Gle.refl _) (at1 (bv_at hxt)))) ?_
          refine l_q rfl rfl (u_add (a := x8) (b := 1) (M := 256) rfl rfl rfl (by decide)) ?_
          refine l_q rfl rfl (q_ixG (e := 5) (m := 1) (j := (n - 1)) rfl rfl (by kernel_rfl) (by kernel_rfl) (by first | rfl | omega) (by omega) (hS16.owG (i := 0) rfl) (by rw [bv_len]; first | omega | (simp only [List.length_append, List.length_map, List.length_cons, List.length_nil, List.length_take, List.length_drop, List.length_set] <;> omega))) ?_
          refine l_e rfl (fun K hK => ?_)
          refine e_stOw hS16 rfl rfl (by kernel_rfl) (by first | rfl | assumption) (i := 0) rfl (by omega) bv_set1 (fun w18 (hS18 : St _ _ [.ow 5 1 ad15 n cp15 (bv ((b.take n).set (n - 1) ((x8 + 1) % 256)))] _) => ?_)
          clear hS16
          have hB18 : Bytes ((b.take n).set (n - 1) ((x8 + 1) % 256)) := Bytes.set (Bytes.take hb) (by first | omega | exact Nat.xor_lt_two_pow (n := 8) (by omega) (by omega))
          refine hK _ _ ?_; clear hK K
          refine l_nil ?_
          refine hK17 _ _ ?_
          refine wp_seq_k (fun K19 hK19 => ?_)
          refine wp_region_lit ?_
          refine l_q rfl rfl (q_moveS rfl) ?_
          refine l_q rfl rfl (q_assignS rfl) ?_
          refine l_nil ?_
          refine hK19 _ _ ?_
          refine wp_ret ?_
          refine c_ret1 rfl rfl ?_
          have he : nxB b = ((b.take n).set (n - 1) ((x8 + 1) % 256)) := by rw [nxB_pos hN (by omega) hx8]; congr 1; omega
          exact ⟨_, _, rfl, ⟨_, _, congrArg (fun n : Nat => Value.slice ad15 n cp15) (show n = (nxB b).length from by rw [he]; simp only [List.length_set, List.length_take]; omega), by rw [he]; simp only [List.length_set, htl]⟩, hS18⟩
    ·
      have hg7b := hg7
      try simp only [decide_eq_true_eq, decide_eq_false_iff_not, Bool.not_eq_true', Bool.not_eq_false', Bool.and_eq_true, Bool.or_eq_true, Int.not_lt, Int.not_le, ne_eq, Decidable.not_not] at hg7
      refine l_off rfl rfl rfl hg7b ?_
      refine l_off rfl rfl rfl hg7b ?_
      refine l_off rfl rfl rfl hg7b ?_
      refine l_off rfl rfl rfl hg7b ?_
      refine l_off rfl rfl rfl hg7b ?_
      refine l_off rfl rfl rfl hg7b ?_
      refine l_q rfl rfl (q_pickF rfl hg7b rfl) ?_
      refine l_nil ?_
      refine hK6 _ _ ?_
      refine c_condF rfl rfl ?_
      refine wp_exit ?_
      refine hK3 _ _ ?_
      refine wp_seq_k (fun K21 hK21 => ?_)
      refine wp_seq_k (fun K22 hK22 => ?_)
      refine wp_region_lit ?_
      refine l_q rfl rfl (q_moveI rfl) ?_
      refine l_q rfl rfl (q_eql rfl rfl) ?_
      refine l_nil ?_
      refine hK22 _ _ ?_
      refine c_cond rfl (fun hc23 => ?_) (fun hc23 => ?_)
      ·
        have hc23b := hc23
        try simp only [decide_eq_true_eq, decide_eq_false_iff_not, Bool.not_eq_true', Bool.not_eq_false', Bool.and_eq_true, Bool.or_eq_true, Int.not_lt, Int.not_le, ne_eq, Decidable.not_not] at hc23
        have hN : nxN b = 0 := nxN_of (Nat.zero_le _) (fun x hx => hd x (by rw [show n = 0 from by omega]; exact hx)) (fun h => by omega)
        refine wp_seq_k (fun K24 hK24 => ?_)
        refine wp_region_lit ?_
        refine l_q rfl rfl (q_assignS rfl) ?_
        refine l_nil ?_
        refine hK24 _ _ ?_
        refine wp_ret ?_
        refine c_ret1 rfl rfl ?_
        have he := nxB_nil hN
        exact ⟨_, _, rfl, ⟨none, 0, by rw [he]; rfl, by rw [he]; rfl⟩, hS4.drop.ow_nil _ _⟩
      ·
        have hc23b := hc23
        try simp only [decide_eq_true_eq, decide_eq_false_iff_not, Bool.not_eq_true', Bool.not_eq_false', Bool.and_eq_true, Bool.or_eq_true, Int.not_lt, Int.not_le, ne_eq, Decidable.not_not] at hc23
        omega

set_option maxRecDepth 100000 in
theorem rnext_ok (b : List Nat) (hb : Bytes b) (nb : Nat) (hnb : b.length = nb) (hnl : nb ≤ 1000000) (ab : Option Addr) (cb : Nat) (hcb : nb ≤ cb) (w : World) (hG : SlG (hw w) ab (bv b)) : Calls Tryd.prog 14 #[.slice ab nb cb] w (PostN w fun v G => ∃ oa oc, v = .slice oa (nxB b).length oc ∧ G = [.ow 5 1 oa (nxB b).length oc (bv (nxB b))]) := by
  have hS := St.start w
  subst hnb
  refine c_enter Tryd.func14 rfl rfl rfl ?_
  refine wp_seq_k (fun K1 hK1 => ?_)
  refine wp_region_lit ?_
  refine l_q rfl rfl (q_assignS rfl) ?_
  refine l_nil ?_
  refine hK1 _ _ ?_
  refine wp_seq_k (fun K2 hK2 => ?_)
  refine wp_region_lit ?_
  refine l_q rfl rfl (q_moveS rfl) ?_
  refine l_q rfl rfl (q_lenSl (e := 5) rfl (by kernel_rfl)) ?_
  refine l_q rfl rfl (q_assignI rfl) ?_
  refine l_nil ?_
  refine hK2 _ _ ?_
  refine wp_seq_k (fun K3 hK3 => ?_)
  refine wp_block ?_
  refine c_loop (τ := Nat) [(3, 3), (7, 18)] (fun x => (fun (n : Nat) => [(3, .int .i64 ((n : Nat) : Int))]) x) (fun x w' => (fun (n : Nat) => St w (fun _ => False) [] w' ∧ n ≤ b.length ∧ (∀ x ∈ b.drop n, x = 255)) x) (fun x => (fun (n : Nat) => n) x) (b.length) ?_ (by repeat' (first | exact trivial | refine ⟨by first | rfl | exact int_succ _ | assumption, ?_⟩)) (fun n j4 w4 hJ4 K4 hK4 => ?_)
  ·
    exact ⟨hS, Nat.le_refl _, fun x hx => by rw [List.drop_eq_nil_of_le (Nat.le_refl _)] at hx; cases hx⟩
  ·
    obtain ⟨hS4, hn, hd⟩ := hJ4
    try dsimp only at hS4 hn hd ⊢
    refine wp_seq_k (fun K5 hK5 => ?_)
    refine wp_seq_k (fun K6 hK6 => ?_)
    refine wp_region_lit ?_
    refine l_q rfl rfl (q_moveI rfl) ?_
    refine l_q rfl rfl (q_gtr rfl rfl) ?_
    refine l_q rfl rfl (q_moveB rfl) ?_
    refine g_splitL (t := 9) rfl (fun hg7 => ?_) (fun hg7 => ?_)
    ·
      have hg7b := hg7
      try simp only [decide_eq_true_eq, decide_eq_false_iff_not, Bool.not_eq_true', Bool.not_eq_false', Bool.and_eq_true, Bool.or_eq_true, Int.not_lt, Int.not_le, ne_eq, Decidable.not_not] at hg7
      refine l_on rfl rfl hg7b ?_
      refine l_q rfl rfl (q_moveS rfl) ?_
      refine l_on rfl rfl hg7b ?_
      refine l_q rfl rfl (q_moveI rfl) ?_
      refine l_on rfl rfl hg7b ?_
      refine l_q rfl rfl (q_subx rfl rfl (by first | decide | omega) (by first | decide | omega)) ?_
      refine l_on rfl rfl hg7b ?_
      refine l_q rfl rfl (q_ixG (e := 5) (m := 1) (j := (n - 1)) rfl rfl (by kernel_rfl) (by kernel_rfl) (by first | rfl | omega) (by omega) hG (by rw [bv_len]; first | omega | (simp only [List.length_append, List.length_map, List.length_cons, List.length_nil, List.length_take, List.length_drop, List.length_set] <;> omega))) ?_
      refine l_on rfl rfl hg7b ?_
      obtain ⟨x8, hx8⟩ : ∃ x, (b)[(n - 1)]? = some x := ⟨_, List.getElem?_eq_getElem (by first | omega | (simp only [List.length_append, List.length_map, List.length_cons, List.length_nil, List.length_take, List.length_drop, List.length_set] <;> omega) | (simp <;> omega))⟩
      have hb8 : x8 < 256 := hb x8 (List.mem_of_getElem? hx8)
      refine l_q rfl rfl (q_load1 rfl (by kernel_rfl) (SlG.cell (hG.mono hS4.base) (Gle.refl _) (at1 (bv_at hx8)))) ?_
      refine l_on rfl rfl hg7b ?_
      refine l_q rfl rfl (q_eql rfl rfl) ?_
      refine l_q rfl rfl (q_pickT rfl hg7b rfl) ?_
      refine l_nil ?_
      refine hK6 _ _ ?_
      refine c_cond rfl (fun hc9 => ?_) (fun hc9 => ?_)
      ·
        have hc9b := hc9
        try simp only [decide_eq_true_eq, decide_eq_false_iff_not, Bool.not_eq_true', Bool.not_eq_false', Bool.and_eq_true, Bool.or_eq_true, Int.not_lt, Int.not_le, ne_eq, Decidable.not_not] at hc9
        refine wp_skip ?_
        refine hK5 _ _ ?_
        refine wp_block ?_
        refine wp_region_lit ?_
        refine l_q rfl rfl (q_moveI rfl) ?_
        refine l_q rfl rfl (q_subx rfl rfl (by first | decide | omega) (by first | decide | omega)) ?_
        refine l_q rfl rfl (q_assignI rfl) ?_
        refine l_nil ?_
        refine hK4 _ _ (came ((n - 1)) (by repeat' (first | exact Agree.refl _ _ | refine Agree.up ?_ rfl | refine Agree.hav2 ?_ rfl | refine Agree.ups2 ?_ rfl)) (by repeat' (first | exact trivial | refine ⟨by first | rfl | exact congrArg (Value.int .i64) (by first | omega | (dsimp only; omega)), ?_⟩)) ?_)
        exact ⟨⟨hS4, (by show n - 1 ≤ b.length; omega), drop_255 hd (by omega) hx8 (by omega)⟩, by (show n - 1 < n); omega⟩
      ·
        have hc9b := hc9
        try simp only [decide_eq_true_eq, decide_eq_false_iff_not, Bool.not_eq_true', Bool.not_eq_false', Bool.and_eq_true, Bool.or_eq_true, Int.not_lt, Int.not_le, ne_eq, Decidable.not_not] at hc9
        refine wp_exit ?_
        refine hK3 _ _ ?_
        refine wp_seq_k (fun K10 hK10 => ?_)
        refine wp_seq_k (fun K11 hK11 => ?_)
        refine wp_region_lit ?_
        refine l_q rfl rfl (q_moveI rfl) ?_
        refine l_q rfl rfl (q_eql rfl rfl) ?_
        refine l_nil ?_
        refine hK11 _ _ ?_
        refine c_cond rfl (fun hc12 => ?_) (fun hc12 => ?_)
        ·
          have hc12b := hc12
          try simp only [decide_eq_true_eq, decide_eq_false_iff_not, Bool.not_eq_true', Bool.not_eq_false', Bool.and_eq_true, Bool.or_eq_true, Int.not_lt, Int.not_le, ne_eq, Decidable.not_not] at hc12
          have hN : nxN b = 0 := nxN_of (Nat.zero_le _) (fun x hx => hd x (by rw [show n = 0 from by omega]; exact hx)) (fun h => by omega)
          refine wp_seq_k (fun K13 hK13 => ?_)
          refine wp_region_lit ?_
          refine l_q rfl rfl (q_assignS rfl) ?_
          refine l_nil ?_
          refine hK13 _ _ ?_
          refine wp_ret ?_
          refine c_ret1 rfl rfl ?_
          have he := nxB_nil hN
          exact ⟨_, _, rfl, ⟨none, 0, by rw [he]; rfl, by rw [he]; rfl⟩, hS4.drop.ow_nil _ _⟩
        ·
          have hc12b := hc12
          try simp only [decide_eq_true_eq, decide_eq_false_iff_not, Bool.not_eq_true', Bool.not_eq_false', Bool.and_eq_true, Bool.or_eq_true, Int.not_lt, Int.not_le, ne_eq, Decidable.not_not] at hc12
          refine wp_skip ?_
          refine hK10 _ _ ?_
          refine wp_seq_k (fun K14 hK14 => ?_)
          have hN : nxN b = n := nxN_of hn hd (fun _ => ⟨_, hx8, by omega⟩)
          refine wp_region_lit ?_
          refine l_e rfl (fun K hK => ?_)
          refine e_buildSlice1 (e := 5) (zv := .int .u8 0) (xs := []) hS4 (by kernel_rfl) (by kernel_rfl) (by kernel_rfl) rfl rfl rfl rfl ((by intro u hu; cases hu)) rfl (fun b15 w15 (hS15 : St _ _ [.blk b15 (.cells #[] 5)] _) => ?_)
          clear hS4
          have hS15o : St _ _ [.ow 5 1 (some ⟨b15, 0, none⟩) 0 0 (bv [])] _ := hS15.blkOw' (i := 0) (m := 0) (size := 1) (xs := bv []) rfl rfl rfl (by decide); clear hS15
          refine hK _ _ ?_; clear hK K
          refine l_q rfl rfl (q_moveS rfl) ?_
          refine l_q rfl rfl (q_moveI rfl) ?_
          refine l_q rfl rfl (q_sliceX (e := 5) (size := 1) (l := 0) (h := n) (m := cb) (ad' := ab) (len' := n) (cap' := cb) rfl (by kernel_rfl) (by kernel_rfl) rfl ⟨_, int_nat (by first | rfl | omega) rfl⟩ rfl (by omega) (by first | omega | (simp only [List.length_append, List.length_map, List.length_cons, List.length_nil, List.length_take, List.length_drop, List.length_set] <;> omega)) (by first | omega | (simp only [List.length_append, List.length_map, List.length_cons, List.length_nil, List.length_take, List.length_drop, List.length_set] <;> omega)) rfl subS_zero (Nat.sub_zero _) (Nat.sub_zero _)) ?_
          refine l_e rfl (fun K hK => ?_)
          refine e_app (e := 5) (size := 1) (bytes := 1) (i := 0) (m' := n) (by kernel_rfl) hS15o rfl rfl rfl (SlG.src (e := 5) (by kernel_rfl) ((bv_takeG hG).mono hS15o.base) (by first | (simp only [List.length_append, List.length_map, List.length_cons, List.length_nil, List.length_take, List.length_drop, List.length_set, Nat.mul_one]; done) | (simp only [List.length_append, List.length_map, List.length_cons, List.length_nil, List.length_take, List.length_drop, List.length_set]; omega) | rfl | (simp; done)) (by decide) (bv_one _)) (by first | omega | (simp only [List.length_append, List.length_map, List.length_cons, List.length_nil, List.length_take, List.length_drop, List.length_set] <;> omega) | (simp; done)) rfl (by first | omega | (simp only [maxLen, List.length_append, List.length_map, List.length_cons, List.length_nil, List.length_take, List.length_drop, List.length_set] <;> omega) | (simp only [maxLen]; omega)) (by first | omega | (simp only [List.length_append, List.length_map, List.length_cons, List.length_nil, List.length_take, List.length_drop, List.length_set] <;> omega)) (fun ad16 cp16 w16 (hS16 : St _ _ [.ow 5 1 ad16 n cp16 (bv (b.take n))] _) => ?_)
          clear hS15o
          refine hK _ _ ?_; clear hK K
          refine l_q rfl rfl (q_assignS rfl) ?_
          refine l_nil ?_
          refine hK14 _ _ ?_
          refine wp_seq_k (fun K17 hK17 => ?_)
          have hxt : (b.take n)[n - 1]? = some x8 := by rw [List.getElem?_take, if_pos (by omega)]; exact hx8
          have hbx := hb x8 (List.mem_of_getElem? hx8)
          have htl : (b.take n).length = n := by rw [List.length_take]; omega
          refine wp_region_lit ?_
          refine l_q rfl rfl (q_moveS rfl) ?_
          refine l_q rfl rfl (q_moveI rfl) ?_
          refine l_q rfl rfl (q_subx rfl rfl (by first | decide | omega) (by first | decide | omega)) ?_
          refine l_q rfl rfl (q_moveS rfl) ?_
          refine l_q rfl rfl (q_moveI rfl) ?_
          refine l_q rfl rfl (q_subx rfl rfl (by first | decide | omega) (by first | decide | omega)) ?_
          refine l_q rfl rfl (q_ixG (e := 5) (m := 1) (j := (n - 1)) rfl rfl (by kernel_rfl) (by kernel_rfl) (by first | rfl | omega) (by omega) (hS16.owG (i := 0) rfl) (by rw [bv_len]; first | omega | (simp only [List.length_append, List.length_map, List.length_cons, List.length_nil, List.length_take, List.length_drop, List.length_set] <;> omega))) ?_
          refine l_q rfl rfl (q_load1 rfl (by kernel_rfl) (SlG.cell (hS16.owG (i := 0) rfl) (Gle.refl _) (at1 (bv_at hxt)))) ?_
          refine l_q rfl rfl (u_add (a := x8) (b := 1) (M := 256) rfl rfl rfl (by decide)) ?_
          refine l_q rfl rfl (q_ixG (e := 5) (m := 1) (j := (n - 1)) rfl rfl (by kernel_rfl) (by kernel_rfl) (by first | rfl | omega) (by omega) (hS16.owG (i := 0) rfl) (by rw [bv_len]; first | omega | (simp only [List.length_append, List.length_map, List.length_cons, List.length_nil, List.length_take, List.length_drop, List.length_set] <;> omega))) ?_
          refine l_e rfl (fun K hK => ?_)
          refine e_stOw hS16 rfl rfl (by kernel_rfl) (by first | rfl | assumption) (i := 0) rfl (by omega) bv_set1 (fun w18 (hS18 : St _ _ [.ow 5 1 ad16 n cp16 (bv ((b.take n).set (n - 1) ((x8 + 1) % 256)))] _) => ?_)
          clear hS16
          have hB18 : Bytes ((b.take n).set (n - 1) ((x8 + 1) % 256)) := Bytes.set (Bytes.take hb) (by first | omega | exact Nat.xor_lt_two_pow (n := 8) (by omega) (by omega))
          refine hK _ _ ?_; clear hK K
          refine l_nil ?_
          refine hK17 _ _ ?_
          refine wp_seq_k (fun K19 hK19 => ?_)
          refine wp_region_lit ?_
          refine l_q rfl rfl (q_moveS rfl) ?_
          refine l_q rfl rfl (q_assignS rfl) ?_
          refine l_nil ?_
          refine hK19 _ _ ?_
          refine wp_ret ?_
          refine c_ret1 rfl rfl ?_
          have he : nxB b = ((b.take n).set (n - 1) ((x8 + 1) % 256)) := by rw [nxB_pos hN (by omega) hx8]; congr 1; omega
          exact ⟨_, _, rfl, ⟨_, _, congrArg (fun n : Nat => Value.slice ad16 n cp16) (show n = (nxB b).length from by rw [he]; simp only [List.length_set, List.length_take]; omega), by rw [he]; simp only [List.length_set, htl]⟩, hS18⟩
    ·
      have hg7b := hg7
      try simp only [decide_eq_true_eq, decide_eq_false_iff_not, Bool.not_eq_true', Bool.not_eq_false', Bool.and_eq_true, Bool.or_eq_true, Int.not_lt, Int.not_le, ne_eq, Decidable.not_not] at hg7
      refine l_off rfl rfl rfl hg7b ?_
      refine l_off rfl rfl rfl hg7b ?_
      refine l_off rfl rfl rfl hg7b ?_
      refine l_off rfl rfl rfl hg7b ?_
      refine l_off rfl rfl rfl hg7b ?_
      refine l_off rfl rfl rfl hg7b ?_
      refine l_q rfl rfl (q_pickF rfl hg7b rfl) ?_
      refine l_nil ?_
      refine hK6 _ _ ?_
      refine c_condF rfl rfl ?_
      refine wp_exit ?_
      refine hK3 _ _ ?_
      refine wp_seq_k (fun K21 hK21 => ?_)
      refine wp_seq_k (fun K22 hK22 => ?_)
      refine wp_region_lit ?_
      refine l_q rfl rfl (q_moveI rfl) ?_
      refine l_q rfl rfl (q_eql rfl rfl) ?_
      refine l_nil ?_
      refine hK22 _ _ ?_
      refine c_cond rfl (fun hc23 => ?_) (fun hc23 => ?_)
      ·
        have hc23b := hc23
        try simp only [decide_eq_true_eq, decide_eq_false_iff_not, Bool.not_eq_true', Bool.not_eq_false', Bool.and_eq_true, Bool.or_eq_true, Int.not_lt, Int.not_le, ne_eq, Decidable.not_not] at hc23
        have hN : nxN b = 0 := nxN_of (Nat.zero_le _) (fun x hx => hd x (by rw [show n = 0 from by omega]; exact hx)) (fun h => by omega)
        refine wp_seq_k (fun K24 hK24 => ?_)
        refine wp_region_lit ?_
        refine l_q rfl rfl (q_assignS rfl) ?_
        refine l_nil ?_
        refine hK24 _ _ ?_
        refine wp_ret ?_
        refine c_ret1 rfl rfl ?_
        have he := nxB_nil hN
        exact ⟨_, _, rfl, ⟨none, 0, by rw [he]; rfl, by rw [he]; rfl⟩, hS4.drop.ow_nil _ _⟩
      ·
        have hc23b := hc23
        try simp only [decide_eq_true_eq, decide_eq_false_iff_not, Bool.not_eq_true', Bool.not_eq_false', Bool.and_eq_true, Bool.or_eq_true, Int.not_lt, Int.not_le, ne_eq, Decidable.not_not] at hc23
        omega

theorem all_next {L : List Vl} {Q : Vl → Prop} {i : Nat} {x : Vl} (hj : ∀ j, j < i → ∀ v, L[j]? = some v → Q v) (hx : L[i]? = some x) (h : Q x) : ∀ j, j < i + 1 → ∀ v, L[j]? = some v → Q v := by
  intro j hj' v hv
  by_cases hji : j = i
  · subst hji; rw [hx] at hv; injection hv with hv; subst hv; exact h
  · exact hj j (by omega) v hv

set_option maxRecDepth 100000 in
theorem few_ok (L : List Vl) (hL : VsOk L) (n : Nat) (hn : L.length = n) (al : Option Addr) (cl : Nat) (w : World) (hG : SlG (hw w) al (List.flatMap vl L)) : Calls Tryd.prog 9 #[.slice al n cl] w (PostR w fun v => v = .bool (fewB L)) := by
  have hS := St.start w
  subst hn
  refine c_enter Tryd.func9 rfl rfl rfl ?_
  refine wp_seq_k (fun K1 hK1 => ?_)
  refine wp_region_lit ?_
  refine l_q rfl rfl (q_assignB rfl) ?_
  refine l_nil ?_
  refine hK1 _ _ ?_
  refine wp_seq_k (fun K2 hK2 => ?_)
  refine wp_seq_k (fun K3 hK3 => ?_)
  refine wp_region_lit ?_
  refine l_q rfl rfl (q_assignI rfl) ?_
  refine l_nil ?_
  refine hK3 _ _ ?_
  refine wp_block ?_
  refine c_loop (τ := Nat) [(2, 20)] (fun x => (fun (i : Nat) => [(3, .int .i64 ((i : Nat) : Int))]) x) (fun x w' => (fun (i : Nat) => St w (fun _ => False) [] w' ∧ i ≤ L.length ∧ i ≤ 20 ∧ (∀ j, j < i → ∀ v, L[j]? = some v → v.2.2.length ≤ 500)) x) (fun x => (fun (i : Nat) => L.length - i) x) (0) ?_ (by repeat' (first | exact trivial | refine ⟨by first | rfl | exact int_succ _ | assumption, ?_⟩)) (fun i j4 w4 hJ4 K4 hK4 => ?_)
  ·
    exact ⟨hS, Nat.zero_le _, Nat.zero_le _, fun j hj => by omega⟩
  ·
    obtain ⟨hS4, hi, hi2, hj⟩ := hJ4
    try dsimp only at hS4 hi hi2 hj ⊢
    refine wp_seq_k (fun K5 hK5 => ?_)
    refine wp_seq_k (fun K6 hK6 => ?_)
    refine wp_region_lit ?_
    refine l_q rfl rfl (q_moveI rfl) ?_
    refine l_q rfl rfl (q_moveS rfl) ?_
    refine l_q rfl rfl (q_lenSl (e := 31) rfl (by kernel_rfl)) ?_
    refine l_q rfl rfl (q_lss rfl rfl) ?_
    refine l_nil ?_
    refine hK6 _ _ ?_
    refine c_cond rfl (fun hc7 => ?_) (fun hc7 => ?_)
    ·
      have hc7b := hc7
      try simp only [decide_eq_true_eq, decide_eq_false_iff_not, Bool.not_eq_true', Bool.not_eq_false', Bool.and_eq_true, Bool.or_eq_true, Int.not_lt, Int.not_le, ne_eq, Decidable.not_not] at hc7
      refine wp_skip ?_
      refine hK5 _ _ ?_
      refine wp_seq_k (fun K8 hK8 => ?_)
      refine wp_block ?_
      refine wp_seq_k (fun K9 hK9 => ?_)
      refine wp_region_lit ?_
      refine l_q rfl rfl (q_moveI rfl) ?_
      refine l_q rfl rfl (q_eql rfl rfl) ?_
      refine l_q rfl rfl (q_moveB rfl) ?_
      refine g_splitL (t := 12) rfl (fun hg10 => ?_) (fun hg10 => ?_)
      ·
        have hg10b := hg10
        try simp only [decide_eq_true_eq, decide_eq_false_iff_not, Bool.not_eq_true', Bool.not_eq_false', Bool.and_eq_true, Bool.or_eq_true, Int.not_lt, Int.not_le, ne_eq, Decidable.not_not] at hg10
        obtain ⟨x_, hx_⟩ : ∃ x, L[i]? = some x := ⟨_, List.getElem?_eq_getElem (by omega)⟩
        refine l_off rfl rfl rfl hg10b ?_
        refine l_off rfl rfl rfl hg10b ?_
        refine l_off rfl rfl rfl hg10b ?_
        refine l_off rfl rfl rfl hg10b ?_
        refine l_off rfl rfl rfl hg10b ?_
        refine l_off rfl rfl rfl hg10b ?_
        refine l_off rfl rfl rfl hg10b ?_
        refine l_q rfl rfl (q_pickT rfl hg10b rfl) ?_
        refine l_nil ?_
        refine hK9 _ _ ?_
        refine c_condT rfl rfl ?_
        refine wp_seq_k (fun K12 hK12 => ?_)
        refine wp_region_lit ?_
        refine l_q rfl rfl (q_assignB rfl) ?_
        refine l_nil ?_
        refine hK12 _ _ ?_
        refine wp_ret ?_
        refine c_ret1 rfl rfl ?_
        exact ⟨_, rfl, congrArg Value.bool (few_no hx_ (by omega)).symm, hS4.drop⟩
      ·
        have hg10b := hg10
        try simp only [decide_eq_true_eq, decide_eq_false_iff_not, Bool.not_eq_true', Bool.not_eq_false', Bool.and_eq_true, Bool.or_eq_true, Int.not_lt, Int.not_le, ne_eq, Decidable.not_not] at hg10
        refine l_on rfl rfl hg10b ?_
        refine l_q rfl rfl (q_moveS rfl) ?_
        refine l_on rfl rfl hg10b ?_
        refine l_q rfl rfl (q_moveI rfl) ?_
        refine l_on rfl rfl hg10b ?_
        refine l_q rfl rfl (q_ixG (e := 31) (m := 3) (j := i) rfl rfl (by kernel_rfl) (by kernel_rfl) (by first | rfl | omega) (by omega) hG (by rw [rows_len (c := vl) (m := 3) (fun _ => rfl)]; first | omega | (simp only [List.length_append, List.length_map, List.length_cons, List.length_nil, List.length_take, List.length_drop, List.length_set] <;> omega))) ?_
        refine l_on rfl rfl hg10b ?_
        refine l_q rfl rfl (q_fieldG (ft := 9) (o := 2) rfl (by kernel_rfl)) ?_
        refine l_on rfl rfl hg10b ?_
        obtain ⟨x13, hx13⟩ : ∃ x, (L)[i]? = some x := ⟨_, List.getElem?_eq_getElem (by first | omega | (simp only [List.length_append, List.length_map, List.length_cons, List.length_nil, List.length_take, List.length_drop, List.length_set] <;> omega) | (simp <;> omega))⟩
        have hvb_x13 := (hL x13 (List.mem_of_getElem? hx13)).2
        refine l_q rfl rfl (q_load1 rfl (by kernel_rfl) (SlG.cell (hG.mono hS4.base) (Gle.refl _) (row_at hx13 (c := vl) (m := 3) (fun _ => rfl) (j := 2) rfl))) ?_
        refine l_on rfl rfl hg10b ?_
        refine l_q rfl rfl (q_lenStrB (l := x13.2.2) rfl (by kernel_rfl)) ?_
        refine l_on rfl rfl hg10b ?_
        refine l_q rfl rfl (q_gtr rfl rfl) ?_
        refine l_q rfl rfl (q_pickF rfl hg10b rfl) ?_
        refine l_nil ?_
        refine hK9 _ _ ?_
        refine c_cond rfl (fun hc14 => ?_) (fun hc14 => ?_)
        ·
          have hc14b := hc14
          try simp only [decide_eq_true_eq, decide_eq_false_iff_not, Bool.not_eq_true', Bool.not_eq_false', Bool.and_eq_true, Bool.or_eq_true, Int.not_lt, Int.not_le, ne_eq, Decidable.not_not] at hc14
          refine wp_seq_k (fun K15 hK15 => ?_)
          refine wp_region_lit ?_
          refine l_q rfl rfl (q_assignB rfl) ?_
          refine l_nil ?_
          refine hK15 _ _ ?_
          refine wp_ret ?_
          refine c_ret1 rfl rfl ?_
          exact ⟨_, rfl, congrArg Value.bool (few_no hx13 (by omega)).symm, hS4.drop⟩
        ·
          have hc14b := hc14
          try simp only [decide_eq_true_eq, decide_eq_false_iff_not, Bool.not_eq_true', Bool.not_eq_false', Bool.and_eq_true, Bool.or_eq_true, Int.not_lt, Int.not_le, ne_eq, Decidable.not_not] at hc14
          refine wp_skip ?_
          refine hK8 _ _ ?_
          refine wp_region_lit ?_
          refine l_q rfl rfl (q_moveI rfl) ?_
          refine l_q rfl rfl (q_addx rfl rfl (by first | decide | omega) (by first | decide | omega)) ?_
          refine l_q rfl rfl (q_assignI rfl) ?_
          refine l_nil ?_
          refine hK4 _ _ (came ((i + 1)) (by repeat' (first | exact Agree.refl _ _ | refine Agree.up ?_ rfl | refine Agree.hav2 ?_ rfl | refine Agree.ups2 ?_ rfl)) (by repeat' (first | exact trivial | refine ⟨by first | rfl | exact int_succ _ | assumption, ?_⟩)) ?_)
          exact ⟨⟨hS4, (by show i + 1 ≤ L.length; omega), (by show i + 1 ≤ 20; omega), all_next hj hx13 (by omega)⟩, by (show L.length - (i + 1) < L.length - i); omega⟩
    ·
      have hc7b := hc7
      try simp only [decide_eq_true_eq, decide_eq_false_iff_not, Bool.not_eq_true', Bool.not_eq_false', Bool.and_eq_true, Bool.or_eq_true, Int.not_lt, Int.not_le, ne_eq, Decidable.not_not] at hc7
      refine wp_exit ?_
      refine hK2 _ _ ?_
      refine wp_seq_k (fun K16 hK16 => ?_)
      refine wp_region_lit ?_
      refine l_q rfl rfl (q_assignB rfl) ?_
      refine l_nil ?_
      refine hK16 _ _ ?_
      refine wp_ret ?_
      refine c_ret1 rfl rfl ?_
      exact ⟨_, rfl, congrArg Value.bool (few_yes (by omega) (fun j hj' v hv => hj j (by omega) v hv)).symm, hS4.drop⟩

set_option maxRecDepth 100000 in
theorem rightl_ok (L : List Vl) (hL : VsOk L) (n : Nat) (hn : L.length = n) (al : Option Addr) (cl : Nat) (hLm : n ≤ 9223372036854775807) (w : World) (hG : SlG (hw w) al (List.flatMap vl L)) : Calls Tryd.prog 10 #[.slice al n cl] w (PostR w fun v => v = .bool (rightL L)) := by
  have hS := St.start w
  subst hn
  refine c_enter Tryd.func10 rfl rfl rfl ?_
  refine wp_seq_k (fun K1 hK1 => ?_)
  refine wp_region_lit ?_
  refine l_q rfl rfl (q_assignB rfl) ?_
  refine l_nil ?_
  refine hK1 _ _ ?_
  refine wp_seq_k (fun K2 hK2 => ?_)
  refine wp_seq_k (fun K3 hK3 => ?_)
  refine wp_region_lit ?_
  refine l_q rfl rfl (q_assignI rfl) ?_
  refine l_nil ?_
  refine hK3 _ _ ?_
  refine wp_block ?_
  refine c_loop (τ := Nat) [(2, 15)] (fun x => (fun (i : Nat) => [(3, .int .i64 ((i : Nat) : Int))]) x) (fun x w' => (fun (i : Nat) => St w (fun _ => False) [] w' ∧ i ≤ L.length ∧ (∀ j, j < i → ∀ v, L[j]? = some v → rightB v = true)) x) (fun x => (fun (i : Nat) => L.length - i) x) (0) ?_ (by repeat' (first | exact trivial | refine ⟨by first | rfl | exact int_succ _ | assumption, ?_⟩)) (fun i j4 w4 hJ4 K4 hK4 => ?_)
  ·
    exact ⟨hS, Nat.zero_le _, fun j hj => by omega⟩
  ·
    obtain ⟨hS4, hi, hj⟩ := hJ4
    try dsimp only at hS4 hi hj ⊢
    refine wp_seq_k (fun K5 hK5 => ?_)
    refine wp_seq_k (fun K6 hK6 => ?_)
    refine wp_region_lit ?_
    refine l_q rfl rfl (q_moveI rfl) ?_
    refine l_q rfl rfl (q_moveS rfl) ?_
    refine l_q rfl rfl (q_lenSl (e := 31) rfl (by kernel_rfl)) ?_
    refine l_q rfl rfl (q_lss rfl rfl) ?_
    refine l_nil ?_
    refine hK6 _ _ ?_
    refine c_cond rfl (fun hc7 => ?_) (fun hc7 => ?_)
    ·
      have hc7b := hc7
      try simp only [decide_eq_true_eq, decide_eq_false_iff_not, Bool.not_eq_true', Bool.not_eq_false', Bool.and_eq_true, Bool.or_eq_true, Int.not_lt, Int.not_le, ne_eq, Decidable.not_not] at hc7
      refine wp_skip ?_
      refine hK5 _ _ ?_
      refine wp_seq_k (fun K8 hK8 => ?_)
      refine wp_block ?_
      refine wp_seq_k (fun K9 hK9 => ?_)
      refine wp_region_lit ?_
      refine l_q rfl rfl (q_moveS rfl) ?_
      refine l_q rfl rfl (q_moveI rfl) ?_
      refine l_q rfl rfl (q_ixG (e := 31) (m := 3) (j := i) rfl rfl (by kernel_rfl) (by kernel_rfl) (by first | rfl | omega) (by omega) hG (by rw [rows_len (c := vl) (m := 3) (fun _ => rfl)]; first | omega | (simp only [List.length_append, List.length_map, List.length_cons, List.length_nil, List.length_take, List.length_drop, List.length_set] <;> omega))) ?_
      obtain ⟨x10, hx10⟩ : ∃ x, (L)[i]? = some x := ⟨_, List.getElem?_eq_getElem (by first | omega | (simp only [List.length_append, List.length_map, List.length_cons, List.length_nil, List.length_take, List.length_drop, List.length_set] <;> omega) | (simp <;> omega))⟩
      have hvb_x10 := (hL x10 (List.mem_of_getElem? hx10)).2
      refine l_q rfl rfl (q_loadGA (m := 3) rfl (by kernel_rfl) (by kernel_rfl) (hG.mono hS4.base) (row_take hx10 (c := vl) (m := 3) (fun _ => rfl)) rfl (by decide)) ?_
      refine l_e rfl (fun K hK => ?_)
      refine e_call (by kernel_rfl) (right_ok x10 (hL x10 (List.mem_of_getElem? hx10)).1 _) rfl (after_R hS4 (fun v11 w11 hv11 hS11 => ?_))
      clear hS4
      obtain rfl := hv11
      refine hK _ _ ?_; clear hK K
      refine l_q rfl rfl (q_not rfl) ?_
      refine l_nil ?_
      refine hK9 _ _ ?_
      refine c_cond rfl (fun hc12 => ?_) (fun hc12 => ?_)
      ·
        have hc12b := hc12
        try simp only [decide_eq_true_eq, decide_eq_false_iff_not, Bool.not_eq_true', Bool.not_eq_false', Bool.and_eq_true, Bool.or_eq_true, Int.not_lt, Int.not_le, ne_eq, Decidable.not_not] at hc12
        refine wp_seq_k (fun K13 hK13 => ?_)
        refine wp_region_lit ?_
        refine l_q rfl rfl (q_assignB rfl) ?_
        refine l_nil ?_
        refine hK13 _ _ ?_
        refine wp_ret ?_
        refine c_ret1 rfl rfl ?_
        exact ⟨_, rfl, congrArg Value.bool (right_no hx10 (by first | exact hc12 | simpa using hc12)).symm, hS11.drop⟩
      ·
        have hc12b := hc12
        try simp only [decide_eq_true_eq, decide_eq_false_iff_not, Bool.not_eq_true', Bool.not_eq_false', Bool.and_eq_true, Bool.or_eq_true, Int.not_lt, Int.not_le, ne_eq, Decidable.not_not] at hc12
        refine wp_skip ?_
        refine hK8 _ _ ?_
        refine wp_region_lit ?_
        refine l_q rfl rfl (q_moveI rfl) ?_
        refine l_q rfl rfl (q_addx rfl rfl (by first | decide | omega) (by first | decide | omega)) ?_
        refine l_q rfl rfl (q_assignI rfl) ?_
        refine l_nil ?_
        refine hK4 _ _ (came ((i + 1)) (by repeat' (first | exact Agree.refl _ _ | refine Agree.up ?_ rfl | refine Agree.hav2 ?_ rfl | refine Agree.ups2 ?_ rfl)) (by repeat' (first | exact trivial | refine ⟨by first | rfl | exact int_succ _ | assumption, ?_⟩)) ?_)
        exact ⟨⟨hS11, (by show i + 1 ≤ L.length; omega), all_next hj hx10 (by first | exact hc12 | simpa using hc12)⟩, by (show L.length - (i + 1) < L.length - i); omega⟩
    ·
      have hc7b := hc7
      try simp only [decide_eq_true_eq, decide_eq_false_iff_not, Bool.not_eq_true', Bool.not_eq_false', Bool.and_eq_true, Bool.or_eq_true, Int.not_lt, Int.not_le, ne_eq, Decidable.not_not] at hc7
      refine wp_exit ?_
      refine hK2 _ _ ?_
      refine wp_seq_k (fun K14 hK14 => ?_)
      refine wp_region_lit ?_
      refine l_q rfl rfl (q_moveS rfl) ?_
      refine l_q rfl rfl (q_lenSl (e := 31) rfl (by kernel_rfl)) ?_
      refine l_q rfl rfl (q_leq rfl rfl) ?_
      refine l_q rfl rfl (q_assignB rfl) ?_
      refine l_nil ?_
      refine hK14 _ _ ?_
      refine wp_ret ?_
      refine c_ret1 rfl rfl ?_
      exact ⟨_, rfl, congrArg Value.bool (by rw [right_all (fun j hj' v hv => hj j (by omega) v hv)]; exact decide_eq_decide.2 (by omega)), hS4.drop⟩

end Go.Proofs.YtcllmnepkglabaaDoor
