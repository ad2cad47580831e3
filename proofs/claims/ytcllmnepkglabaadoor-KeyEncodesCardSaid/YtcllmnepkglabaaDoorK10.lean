/- Package key: text; ref02: Same. -/
import Derived.Test.YtcllmnepkglabaaDoorK9
set_option linter.unusedVariables false
set_option linter.unusedSimpArgs false
namespace Go.Proofs.YtcllmnepkglabaaDoor
open Go.RowKit
theorem esc_inj {s t r r' : List Nat} (h : esc s ++ 0 :: 1 :: r = esc t ++ 0 :: 1 :: r') : s = t ∧ r = r' := by
  have h1 := esc_lt r r' s t
  have h2 := esc_lt r' r t s
  rw [h, bl_irr] at h1
  rw [← h, bl_irr] at h2
  have e : s = t := by
    by_cases e : s = t
    · exact e
    · rw [if_neg e] at h1
      rw [if_neg (fun h => e h.symm)] at h2
      exact bl_tot h1.symm h2.symm
  subst e
  have := List.append_cancel_left h
  simp at this
  exact ⟨rfl, this⟩
theorem esc_drop : ∀ {s0 s b r : List Nat}, esc s0 ++ b = esc s ++ 0 :: 1 :: r → ∃ s', s = s0 ++ s' ∧ b = esc s' ++ 0 :: 1 :: r
  | [], s, b, r, h => ⟨s, rfl, h⟩
  | a :: s0, [], b, r, h => by
    rw [esc_cons] at h
    by_cases ha : a = 0
    · subst ha; simp [esc] at h
    · rw [if_neg ha] at h; simp [esc] at h; exact absurd h.1 ha
  | a :: s0, c :: s, b, r, h => by
    rw [esc_cons, esc_cons, List.append_assoc, List.append_assoc] at h
    by_cases ha : a = 0
    · subst ha
      rw [if_pos rfl] at h
      by_cases hc : c = 0
      · subst hc
        rw [if_pos rfl] at h
        obtain ⟨s', rfl, h2⟩ := esc_drop (List.append_cancel_left h)
        exact ⟨s', rfl, h2⟩
      · rw [if_neg hc] at h
        simp at h
        exact absurd h.1.symm hc
    · rw [if_neg ha] at h
      by_cases hc : c = 0
      · subst hc
        rw [if_pos rfl] at h
        simp at h
        exact absurd h.1 ha
      · rw [if_neg hc] at h
        have h1 : a = c ∧ esc s0 ++ b = esc s ++ 0 :: 1 :: r := by simpa using h
        obtain ⟨rfl, h1⟩ := h1
        obtain ⟨s', rfl, h2⟩ := esc_drop h1
        exact ⟨s', rfl, h2⟩
theorem esc_at : ∀ {A : List Nat}, (∀ x ∈ A, x ≠ 0) → ∀ {s r B : List Nat}, A ++ 0 :: B = esc s ++ 0 :: 1 :: r → (s = A ∧ B = 1 :: r) ∨ ∃ s', s = A ++ 0 :: s' ∧ B = 255 :: (esc s' ++ 0 :: 1 :: r)
  | [], _, [], r, B, h => by simp [esc] at h; exact .inl ⟨rfl, h⟩
  | [], _, a :: s, r, B, h => by
    rw [esc_cons] at h
    by_cases ha : a = 0
    · subst ha; simp at h; exact .inr ⟨s, rfl, h⟩
    · rw [if_neg ha] at h; simp at h; exact absurd h.1.symm ha
  | c :: A, hA, [], r, B, h => by simp [esc] at h; exact absurd h.1 (hA c (.head _))
  | c :: A, hA, a :: s, r, B, h => by
    have hc := hA c (.head _)
    rw [esc_cons] at h
    by_cases ha : a = 0
    · subst ha; simp at h; exact absurd h.1 hc
    · rw [if_neg ha] at h
      have h1 : c = a ∧ A ++ 0 :: B = esc s ++ 0 :: 1 :: r := by simpa using h
      obtain ⟨rfl, h1⟩ := h1
      rcases esc_at (fun x hx => hA x (.tail _ hx)) h1 with ⟨rfl, h2⟩ | ⟨s', rfl, h2⟩
      · exact .inl ⟨rfl, h2⟩
      · exact .inr ⟨s', rfl, h2⟩
theorem txt_fail {b s rest : List Nat} (he : b = esc s ++ rest) (h : ∀ s r, rest ≠ esc s ++ 0 :: 1 :: r) : ∀ s r, b ≠ esc s ++ 0 :: 1 :: r := by
  intro s' r' h'
  obtain ⟨s2, _, h2⟩ := esc_drop (he ▸ h')
  exact h s2 r' h2
theorem txt_no0 {rest : List Nat} (h : idxB rest 0 < 0) : ∀ s r, rest ≠ esc s ++ 0 :: 1 :: r := by
  rintro s r rfl
  exact idxB_no h 0 (List.mem_append_right _ (.head _)) rfl
theorem txt_end {A B rest : List Nat} {i : Nat} (hr : rest = A ++ 0 :: B) (hl : A.length = i) (hA : ∀ x ∈ A, x ≠ 0) (h : i + 1 = rest.length) : ∀ s r, rest ≠ esc s ++ 0 :: 1 :: r := by
  intro s r h'
  have hB : B = [] := by
    subst hr; rw [List.length_append, List.length_cons] at h
    exact List.eq_nil_of_length_eq_zero (by omega)
  subst hB
  rcases esc_at hA (hr.symm.trans h') with ⟨_, h2⟩ | ⟨_, _, h2⟩ <;> cases h2
theorem txt_bad {A B rest : List Nat} {i x : Nat} (hr : rest = A ++ 0 :: B) (hl : A.length = i) (hA : ∀ x ∈ A, x ≠ 0) (hx : rest[i + 1]? = some x) (h1 : x ≠ 255) (h2 : x ≠ 1) : ∀ s r, rest ≠ esc s ++ 0 :: 1 :: r := by
  intro s r h'
  subst hl
  have hx2 : B[0]? = some x := by
    rw [hr, List.getElem?_append_right (by omega), show A.length + 1 - A.length = 0 + 1 from by omega, List.getElem?_cons_succ] at hx; exact hx
  rcases esc_at hA (hr.symm.trans h') with ⟨_, h3⟩ | ⟨_, _, h3⟩
  · subst h3; simp at hx2; omega
  · subst h3; simp at hx2; omega
theorem txt_parts {A B rest : List Nat} {i x : Nat} (hr : rest = A ++ 0 :: B) (hl : A.length = i) (hx : rest[i + 1]? = some x) : rest.take i = A ∧ rest = A ++ 0 :: x :: rest.drop (i + 2) := by
  subst hl
  have hx2 : B[0]? = some x := by
    rw [hr, List.getElem?_append_right (by omega), show A.length + 1 - A.length = 0 + 1 from by omega, List.getElem?_cons_succ] at hx; exact hx
  match B, hx2 with
  | y :: B, hx2 =>
    simp at hx2; subst hx2
    refine ⟨by rw [hr]; exact List.take_left' rfl, ?_⟩
    have : rest.drop (A.length + 2) = B := by rw [hr, show A ++ 0 :: y :: B = (A ++ [0, y]) ++ B from by simp]; exact List.drop_left' (by simp)
    rw [this]; exact hr
theorem txt_next {A B b s rest : List Nat} {i x : Nat} (he : b = esc s ++ rest) (hr : rest = A ++ 0 :: B) (hl : A.length = i) (hA : ∀ x ∈ A, x ≠ 0) (hx : rest[i + 1]? = some x) (h : x = 255) : b = esc ((s ++ rest.take i) ++ [0]) ++ rest.drop (i + 2) := by
  obtain ⟨h1, h2⟩ := txt_parts hr hl hx
  subst h
  rw [h1, esc_app, esc_app, esc_no hA, he]
  rw [show esc [0] = [0, 255] from rfl]
  simp only [List.append_assoc]
  exact congrArg (esc s ++ ·) h2
theorem txt_yes {A B b s rest : List Nat} {i x : Nat} (he : b = esc s ++ rest) (hr : rest = A ++ 0 :: B) (hl : A.length = i) (hA : ∀ x ∈ A, x ≠ 0) (hx : rest[i + 1]? = some x) (h : x = 1) : b = esc (s ++ rest.take i) ++ 0 :: 1 :: rest.drop (i + 2) := by
  obtain ⟨h1, h2⟩ := txt_parts hr hl hx
  subst h
  rw [h1, esc_app, esc_no hA, he, List.append_assoc]
  exact congrArg (esc s ++ ·) h2
def TextP (g : Gh) (b : List Nat) (v : Value) : Prop := ∃ ok s r oa oc, v = .tuple #[.string (bs s), .slice oa (List.length r) oc, .bool ok] ∧ Bytes s ∧ Bytes r ∧ r.length ≤ oc ∧ SlG g oa (bv r) ∧ (ok = true → b = esc s ++ 0 :: 1 :: r) ∧ (ok = false → ∀ s r, b ≠ esc s ++ 0 :: 1 :: r)
theorem TextP.no {g : Gh} {b : List Nat} (h : ∀ s r, b ≠ esc s ++ 0 :: 1 :: r) : TextP g b (.tuple #[.string (bs []), .slice none 0 0, .bool false]) :=
  ⟨false, [], [], none, 0, rfl, Bytes.nil, Bytes.nil, Nat.le_refl _, SlG.nil, (fun h => by cases h), fun _ => h⟩
theorem TextP.yes {g : Gh} {b s r : List Nat} {oa : Option Addr} {m oc : Nat} (hm : r.length = m) (hs : Bytes s) (hr : Bytes r) (hc : m ≤ oc) (hG : SlG g oa (bv r)) (h : b = esc s ++ 0 :: 1 :: r) : TextP g b (.tuple #[.string (bs s), .slice oa m oc, .bool true]) := by
  subst hm
  exact ⟨true, s, r, oa, oc, rfl, hs, hr, hc, hG, fun _ => h, fun h => by cases h⟩
theorem same_no {L M : List Vl} {i : Nat} {x y : Vl} (hx : L[i]? = some x) (hy : M[i]? = some y) (h : x ≠ y) : decide (L = M) = false := by
  refine decide_eq_false fun e => ?_
  subst e; rw [hx] at hy; exact h (Option.some.inj hy)
theorem same_yes {L M : List Vl} {i : Nat} (h : L.take i = M.take i) (h1 : i = L.length) (h2 : L.length = M.length) : decide (L = M) = true := by
  rw [List.take_of_length_le (by omega), List.take_of_length_le (by omega)] at h
  exact decide_eq_true h
theorem same_next {L M : List Vl} {i : Nat} {x y : Vl} (h : L.take i = M.take i) (hx : L[i]? = some x) (hy : M[i]? = some y) (he : x = y) : L.take (i + 1) = M.take (i + 1) := by
  rw [List.take_add_one, List.take_add_one, h, hx, hy, he]
attribute [local irreducible] Oper.wp Sem.run Code.wp wpList wpAnyO callFunc execOp Calls
attribute [local irreducible] enc encR rightB toU encV nxB nxN fewB rightL vls vlt
attribute [local irreducible] cmpZ cmB orL vcmp rcmp esc

set_option maxRecDepth 100000 in
theorem same_ok (L M : List Vl) (hL : VsOk L) (hM : VsOk M) (nl nm : Nat) (al am : Option Addr) (hnl : L.length = nl) (hnm : M.length = nm) (cl cm : Nat) (hLm : nl ≤ 9223372036854775807) (w : World) (hG : SlG (hw w) al (List.flatMap vl L)) (hGm : SlG (hw w) am (List.flatMap vl M)) : Calls Tryd.prog 20 #[.slice al nl cl, .slice am nm cm] w (PostR w fun v => v = .bool (decide (L = M))) := by
  have hS := St.start w
  subst hnl hnm
  refine c_enter Tryd.func20 rfl rfl rfl ?_
  refine wp_seq_k (fun K1 hK1 => ?_)
  refine wp_region_lit ?_
  refine l_q rfl rfl (q_assignB rfl) ?_
  refine l_nil ?_
  refine hK1 _ _ ?_
  refine wp_seq_k (fun K2 hK2 => ?_)
  refine wp_seq_k (fun K3 hK3 => ?_)
  refine wp_region_lit ?_
  refine l_q rfl rfl (q_moveS rfl) ?_
  refine l_q rfl rfl (q_lenSl (e := 31) rfl (by kernel_rfl)) ?_
  refine l_q rfl rfl (q_moveS rfl) ?_
  refine l_q rfl rfl (q_lenSl (e := 31) rfl (by kernel_rfl)) ?_
  refine l_q rfl rfl (q_neq rfl rfl) ?_
  refine l_nil ?_
  refine hK3 _ _ ?_
  refine c_cond rfl (fun hc4 => ?_) (fun hc4 => ?_)
  ·
    have hc4b := hc4
    try simp only [decide_eq_true_eq, decide_eq_false_iff_not, Bool.not_eq_true', Bool.not_eq_false', Bool.and_eq_true, Bool.or_eq_true, Int.not_lt, Int.not_le, ne_eq, Decidable.not_not] at hc4
    refine wp_seq_k (fun K5 hK5 => ?_)
    refine wp_region_lit ?_
    refine l_q rfl rfl (q_assignB rfl) ?_
    refine l_nil ?_
    refine hK5 _ _ ?_
    refine wp_ret ?_
    refine c_ret1 rfl rfl ?_
    exact ⟨_, rfl, congrArg Value.bool (decide_eq_false fun h => by have := congrArg List.length h; omega).symm, hS.drop⟩
  ·
    have hc4b := hc4
    try simp only [decide_eq_true_eq, decide_eq_false_iff_not, Bool.not_eq_true', Bool.not_eq_false', Bool.and_eq_true, Bool.or_eq_true, Int.not_lt, Int.not_le, ne_eq, Decidable.not_not] at hc4
    refine wp_skip ?_
    refine hK2 _ _ ?_
    refine wp_seq_k (fun K6 hK6 => ?_)
    refine wp_seq_k (fun K7 hK7 => ?_)
    refine wp_region_lit ?_
    refine l_q rfl rfl (q_assignI rfl) ?_
    refine l_nil ?_
    refine hK7 _ _ ?_
    refine wp_block ?_
    refine c_loop (τ := Nat) [(4, 5), (11, 25)] (fun x => (fun (i : Nat) => [(5, .int .i64 ((i : Nat) : Int))]) x) (fun x w' => (fun (i : Nat) => St w (fun _ => False) [] w' ∧ i ≤ L.length ∧ L.take i = M.take i) x) (fun x => (fun (i : Nat) => L.length - i) x) (0) ?_ (by repeat' (first | exact trivial | refine ⟨by first | rfl | exact int_succ _ | assumption, ?_⟩)) (fun i j8 w8 hJ8 K8 hK8 => ?_)
    ·
      exact ⟨hS, Nat.zero_le _, rfl⟩
    ·
      obtain ⟨hS8, hi, ht⟩ := hJ8
      try dsimp only at hS8 hi ht ⊢
      refine wp_seq_k (fun K9 hK9 => ?_)
      refine wp_seq_k (fun K10 hK10 => ?_)
      refine wp_region_lit ?_
      refine l_q rfl rfl (q_moveI rfl) ?_
      refine l_q rfl rfl (q_moveS rfl) ?_
      refine l_q rfl rfl (q_lenSl (e := 31) rfl (by kernel_rfl)) ?_
      refine l_q rfl rfl (q_lss rfl rfl) ?_
      refine l_nil ?_
      refine hK10 _ _ ?_
      refine c_cond rfl (fun hc11 => ?_) (fun hc11 => ?_)
      ·
        have hc11b := hc11
        try simp only [decide_eq_true_eq, decide_eq_false_iff_not, Bool.not_eq_true', Bool.not_eq_false', Bool.and_eq_true, Bool.or_eq_true, Int.not_lt, Int.not_le, ne_eq, Decidable.not_not] at hc11
        refine wp_skip ?_
        refine hK9 _ _ ?_
        refine wp_seq_k (fun K12 hK12 => ?_)
        refine wp_block ?_
        refine wp_seq_k (fun K13 hK13 => ?_)
        refine r_any (by kernel_rfl) hS8 (fun w14 hS14 => ?_)
        clear hS8
        refine o_pure (i := 0) (fun _ _ => trivial) rfl rfl (by kernel_rfl) (goes0 rfl) (QOk.then (QOk.inBlock (QOk.then (QOk.then (QOk.inBlock (QOk.then QOk.body)))))) (fun w => q_moveS rfl) ?_
        refine o_pure (i := 1) (fun _ _ => trivial) rfl rfl (by kernel_rfl) (goes0 rfl) (QOk.then (QOk.inBlock (QOk.then (QOk.then (QOk.inBlock (QOk.then QOk.body)))))) (fun w => q_moveI rfl) ?_
        refine o_pure (i := 2) (fun _ _ => trivial) rfl rfl (by kernel_rfl) (goes0 rfl) (QOk.then (QOk.inBlock (QOk.then (QOk.then (QOk.inBlock (QOk.then QOk.body)))))) (fun w => q_ixG (e := 31) (m := 3) (j := i) rfl rfl (by kernel_rfl) (by kernel_rfl) (by first | rfl | omega) (by omega) hG (by rw [rows_len (c := vl) (m := 3) (fun _ => rfl)]; first | omega | (simp only [List.length_append, List.length_map, List.length_cons, List.length_nil, List.length_take, List.length_drop, List.length_set] <;> omega))) ?_
        obtain ⟨x15, hx15⟩ : ∃ x, (L)[i]? = some x := ⟨_, List.getElem?_eq_getElem (by first | omega | (simp only [List.length_append, List.length_map, List.length_cons, List.length_nil, List.length_take, List.length_drop, List.length_set] <;> omega) | (simp <;> omega))⟩
        have hvb_x15 := (hL x15 (List.mem_of_getElem? hx15)).2
        refine o_held (i := 3) [8] (fun _ _ => trivial) rfl rfl (by kernel_rfl) (goes0 rfl) (QOk.then (QOk.inBlock (QOk.then (QOk.then (QOk.inBlock (QOk.then QOk.body)))))) (q_loadGA (m := 3) rfl (by kernel_rfl) (by kernel_rfl) (hG.mono hS14.base) (row_take hx15 (c := vl) (m := 3) (fun _ => rfl)) rfl (by decide)) ?_
        refine o_pure (i := 4) (fun j w => ⟨(fun _ _ => trivial) j w, fun _ h => h⟩) rfl rfl (by kernel_rfl) (goes0 rfl) (QOk.then (QOk.inBlock (QOk.then (QOk.then (QOk.inBlock (QOk.then QOk.body)))))) (fun w => q_moveS rfl) ?_
        refine o_pure (i := 5) (fun j w => ⟨(fun _ _ => trivial) j w, fun _ h => h⟩) rfl rfl (by kernel_rfl) (goes0 rfl) (QOk.then (QOk.inBlock (QOk.then (QOk.then (QOk.inBlock (QOk.then QOk.body)))))) (fun w => q_moveI rfl) ?_
        refine o_pure (i := 6) (fun j w => ⟨(fun _ _ => trivial) j w, fun _ h => h⟩) rfl rfl (by kernel_rfl) (goes0 rfl) (QOk.then (QOk.inBlock (QOk.then (QOk.then (QOk.inBlock (QOk.then QOk.body)))))) (fun w => q_ixG (e := 31) (m := 3) (j := i) rfl rfl (by kernel_rfl) (by kernel_rfl) (by first | rfl | omega) (by omega) hGm (by rw [rows_len (c := vl) (m := 3) (fun _ => rfl)]; first | omega | (simp only [List.length_append, List.length_map, List.length_cons, List.length_nil, List.length_take, List.length_drop, List.length_set] <;> omega))) ?_
        obtain ⟨x16, hx16⟩ : ∃ x, (M)[i]? = some x := ⟨_, List.getElem?_eq_getElem (by first | omega | (simp only [List.length_append, List.length_map, List.length_cons, List.length_nil, List.length_take, List.length_drop, List.length_set] <;> omega) | (simp <;> omega))⟩
        have hvb_x16 := (hM x16 (List.mem_of_getElem? hx16)).2
        refine o_held (i := 7) [8] (fun j w => ⟨(fun _ _ => trivial) j w, fun _ h => h⟩) rfl rfl (by kernel_rfl) (goes0 rfl) (QOk.then (QOk.inBlock (QOk.then (QOk.then (QOk.inBlock (QOk.then QOk.body)))))) (q_loadGA (m := 3) rfl (by kernel_rfl) (by kernel_rfl) (hGm.mono hS14.base) (row_take hx16 (c := vl) (m := 3) (fun _ => rfl)) rfl (by decide)) ?_
        refine o_pure (i := 8) (fun j w => ⟨(fun j w => ⟨(fun _ _ => trivial) j w, fun _ h => h⟩) j w, fun _ h => h⟩) rfl rfl (by kernel_rfl) (goes0 rfl) (QOk.then (QOk.inBlock (QOk.then (QOk.then (QOk.inBlock (QOk.then QOk.body)))))) (fun w => q_iis_neq (a := x15.1) (b := x15.2.1) (l := x15.2.2) (a' := x16.1) (b' := x16.2.1) (l' := x16.2.2) rfl rfl (by kernel_rfl) (hL x15 (List.mem_of_getElem? hx15)).1 (hM x16 (List.mem_of_getElem? hx16)).1) ?_
        refine o_done (by kernel_rfl) ?_
        refine hK13 _ _ ?_
        refine c_cond rfl (fun hc17 => ?_) (fun hc17 => ?_)
        ·
          have hc17b := hc17
          try simp only [decide_eq_true_eq, decide_eq_false_iff_not, Bool.not_eq_true', Bool.not_eq_false', Bool.and_eq_true, Bool.or_eq_true, Int.not_lt, Int.not_le, ne_eq, Decidable.not_not] at hc17
          refine wp_seq_k (fun K18 hK18 => ?_)
          refine wp_region_lit ?_
          refine l_q rfl rfl (q_assignB rfl) ?_
          refine l_nil ?_
          refine hK18 _ _ ?_
          refine wp_ret ?_
          refine c_ret1 rfl rfl ?_
          exact ⟨_, rfl, congrArg Value.bool (same_no hx15 hx16 (by first | exact hc17 | simpa using hc17)).symm, hS14.drop⟩
        ·
          have hc17b := hc17
          try simp only [decide_eq_true_eq, decide_eq_false_iff_not, Bool.not_eq_true', Bool.not_eq_false', Bool.and_eq_true, Bool.or_eq_true, Int.not_lt, Int.not_le, ne_eq, Decidable.not_not] at hc17
          refine wp_skip ?_
          refine hK12 _ _ ?_
          refine wp_region_lit ?_
          refine l_q rfl rfl (q_moveI rfl) ?_
          refine l_q rfl rfl (q_addx rfl rfl (by first | decide | omega) (by first | decide | omega)) ?_
          refine l_q rfl rfl (q_assignI rfl) ?_
          refine l_nil ?_
          refine hK8 _ _ (came ((i + 1)) (by repeat' (first | exact Agree.refl _ _ | refine Agree.up ?_ rfl | refine Agree.hav2 ?_ rfl | refine Agree.ups2 ?_ rfl)) (by repeat' (first | exact trivial | refine ⟨by first | rfl | exact int_succ _ | assumption, ?_⟩)) ?_)
          exact ⟨⟨hS14, (by show i + 1 ≤ L.length; omega), same_next ht hx15 hx16 (by first | exact hc17 | simpa using hc17)⟩, by (show L.length - (i + 1) < L.length - i); omega⟩
      ·
        have hc11b := hc11
        try simp only [decide_eq_true_eq, decide_eq_false_iff_not, Bool.not_eq_true', Bool.not_eq_false', Bool.and_eq_true, Bool.or_eq_true, Int.not_lt, Int.not_le, ne_eq, Decidable.not_not] at hc11
        refine wp_exit ?_
        refine hK6 _ _ ?_
        refine wp_seq_k (fun K19 hK19 => ?_)
        refine wp_region_lit ?_
        refine l_q rfl rfl (q_assignB rfl) ?_
        refine l_nil ?_
        refine hK19 _ _ ?_
        refine wp_ret ?_
        refine c_ret1 rfl rfl ?_
        exact ⟨_, rfl, congrArg Value.bool (same_yes ht (by omega) (by omega)).symm, hS8.drop⟩

set_option maxRecDepth 100000 in
theorem text_ok (b : List Nat) (hb : Bytes b) (n : Nat) (hn : b.length = n) (ab : Option Addr) (cb : Nat) (hcb : n ≤ cb) (hm : n ≤ 1000000) (w : World) (g : Gh) (hg : Gle g (hw w)) (hG : SlG g ab (bv b)) : Calls Tryd.prog 37 #[.slice ab n cb] w (PostR w fun v => TextP g b v) := by
  have hS := St.start w
  subst hn
  refine c_enter Tryd.func37 rfl rfl rfl ?_
  refine wp_seq_k (fun K1 hK1 => ?_)
  refine wp_region_lit ?_
  refine l_q rfl rfl (q_assign rfl) ?_
  refine l_q rfl rfl (q_assignS rfl) ?_
  refine l_q rfl rfl (q_assignB rfl) ?_
  refine l_nil ?_
  refine hK1 _ _ ?_
  refine wp_seq_k (fun K2 hK2 => ?_)
  refine wp_region_lit ?_
  refine l_q rfl rfl (q_assignS rfl) ?_
  refine l_nil ?_
  refine hK2 _ _ ?_
  refine wp_block ?_
  have hS3 := hS.ow_nil 5 1; clear hS
  refine c_loop (τ := (List Nat) × (List Nat) × (Option Addr) × Nat × (Option Addr) × Nat) [(0, 0), (2, 43)] (fun x => (fun (s : List Nat) (rest : List Nat) (ra : Option Addr) (rc : Nat) (oa : Option Addr) (oc : Nat) => [(0, .slice ra rest.length rc), (5, .slice oa s.length oc)]) x.1 x.2.1 x.2.2.1 x.2.2.2.1 x.2.2.2.2.1 x.2.2.2.2.2) (fun x w' => (fun (s : List Nat) (rest : List Nat) (ra : Option Addr) (rc : Nat) (oa : Option Addr) (oc : Nat) => St w (fun _ => False) [.ow 5 1 oa s.length oc (bv s)] w' ∧ b = esc s ++ rest ∧ Bytes s ∧ Bytes rest ∧ SlG g ra (bv rest) ∧ rest.length ≤ rc ∧ s.length + rest.length ≤ b.length) x.1 x.2.1 x.2.2.1 x.2.2.2.1 x.2.2.2.2.1 x.2.2.2.2.2) (fun x => (fun (s : List Nat) (rest : List Nat) (ra : Option Addr) (rc : Nat) (oa : Option Addr) (oc : Nat) => rest.length) x.1 x.2.1 x.2.2.1 x.2.2.2.1 x.2.2.2.2.1 x.2.2.2.2.2) (⟨[], b, ab, cb, none, 0⟩) ?_ (by refine ⟨rfl, ⟨rfl, trivial⟩⟩) (fun x4 j4 w4 hJ4 K4 hK4 => ?_)
  ·
    exact ⟨hS3, by rw [esc_nil]; rfl, Bytes.nil, hb, hG, hcb, by simp⟩
  ·
    obtain ⟨s, rest, ra, rc, oa, oc⟩ := x4
    obtain ⟨hS4, he, hbs, hbr, hGr, hrc, hlen⟩ := hJ4
    try dsimp only at hS4 he hbs hbr hGr hrc hlen ⊢
    refine wp_block ?_
    refine wp_seq_k (fun K5 hK5 => ?_)
    refine wp_region_lit ?_
    refine l_q rfl rfl (q_moveS rfl) ?_
    refine l_e rfl (fun K hK => ?_)
    refine e_call (by kernel_rfl) (idx_ok rest hbr 0 (by first | decide | omega) rest.length (by first | omega | (simp only [List.length_append, List.length_map, List.length_cons, List.length_nil, List.length_take, List.length_drop, List.length_set] <;> omega)) _ _ _ (hGr.mono (hg.trans hS4.base))) rfl (after_R hS4 (fun v6 w6 hv6 hS6 => ?_))
    clear hS4
    obtain rfl := hv6
    refine hK _ _ ?_; clear hK K
    refine l_q rfl rfl (q_assignI rfl) ?_
    refine l_nil ?_
    refine hK5 _ _ ?_
    refine wp_seq_k (fun K7 hK7 => ?_)
    refine wp_seq_k (fun K8 hK8 => ?_)
    have hib := idxB_bd rest 0
    refine wp_region_lit ?_
    refine l_q rfl rfl (q_moveI rfl) ?_
    refine l_q rfl rfl (q_lss rfl rfl) ?_
    refine l_q rfl rfl (q_moveB rfl) ?_
    refine g_splitL (t := 12) rfl (fun hg9 => ?_) (fun hg9 => ?_)
    ·
      have hg9b := hg9
      try simp only [decide_eq_true_eq, decide_eq_false_iff_not, Bool.not_eq_true', Bool.not_eq_false', Bool.and_eq_true, Bool.or_eq_true, Int.not_lt, Int.not_le, ne_eq, Decidable.not_not] at hg9
      refine l_off rfl rfl rfl hg9b ?_
      refine l_off rfl rfl rfl hg9b ?_
      refine l_off rfl rfl rfl hg9b ?_
      refine l_off rfl rfl rfl hg9b ?_
      refine l_off rfl rfl rfl hg9b ?_
      refine l_q rfl rfl (q_pickT rfl hg9b rfl) ?_
      refine l_nil ?_
      refine hK8 _ _ ?_
      refine c_condT rfl rfl ?_
      refine wp_seq_k (fun K11 hK11 => ?_)
      refine wp_region_lit ?_
      refine l_q rfl rfl (q_assign rfl) ?_
      refine l_q rfl rfl (q_assignS rfl) ?_
      refine l_q rfl rfl (q_assignB rfl) ?_
      refine l_nil ?_
      refine hK11 _ _ ?_
      refine wp_ret ?_
      refine c_ret3 rfl rfl rfl rfl ?_
      exact ⟨_, rfl, TextP.no (txt_fail he (by first | exact txt_no0 (by omega) | (obtain ⟨i, A, B, hi, hr, hAl, hA⟩ := idxB_at (l := rest) (c := 0) (by omega); exact txt_end hr hAl hA (by omega)))), hS6.drop⟩
    ·
      have hg9b := hg9
      try simp only [decide_eq_true_eq, decide_eq_false_iff_not, Bool.not_eq_true', Bool.not_eq_false', Bool.and_eq_true, Bool.or_eq_true, Int.not_lt, Int.not_le, ne_eq, Decidable.not_not] at hg9
      refine l_on rfl rfl hg9b ?_
      refine l_q rfl rfl (q_moveI rfl) ?_
      refine l_on rfl rfl hg9b ?_
      refine l_q rfl rfl (q_addx rfl rfl (by first | decide | omega) (by first | decide | omega)) ?_
      refine l_on rfl rfl hg9b ?_
      refine l_q rfl rfl (q_moveS rfl) ?_
      refine l_on rfl rfl hg9b ?_
      refine l_q rfl rfl (q_lenSl (e := 5) rfl (by kernel_rfl)) ?_
      refine l_on rfl rfl hg9b ?_
      refine l_q rfl rfl (q_eql rfl rfl) ?_
      refine l_q rfl rfl (q_pickF rfl hg9b rfl) ?_
      refine l_nil ?_
      refine hK8 _ _ ?_
      refine c_cond rfl (fun hc12 => ?_) (fun hc12 => ?_)
      ·
        have hc12b := hc12
        try simp only [decide_eq_true_eq, decide_eq_false_iff_not, Bool.not_eq_true', Bool.not_eq_false', Bool.and_eq_true, Bool.or_eq_true, Int.not_lt, Int.not_le, ne_eq, Decidable.not_not] at hc12
        refine wp_seq_k (fun K13 hK13 => ?_)
        refine wp_region_lit ?_
        refine l_q rfl rfl (q_assign rfl) ?_
        refine l_q rfl rfl (q_assignS rfl) ?_
        refine l_q rfl rfl (q_assignB rfl) ?_
        refine l_nil ?_
        refine hK13 _ _ ?_
        refine wp_ret ?_
        refine c_ret3 rfl rfl rfl rfl ?_
        exact ⟨_, rfl, TextP.no (txt_fail he (by first | exact txt_no0 (by omega) | (obtain ⟨i, A, B, hi, hr, hAl, hA⟩ := idxB_at (l := rest) (c := 0) (by omega); exact txt_end hr hAl hA (by omega)))), hS6.drop⟩
      ·
        have hc12b := hc12
        try simp only [decide_eq_true_eq, decide_eq_false_iff_not, Bool.not_eq_true', Bool.not_eq_false', Bool.and_eq_true, Bool.or_eq_true, Int.not_lt, Int.not_le, ne_eq, Decidable.not_not] at hc12
        obtain ⟨i, A, B, hi, hr, hAl, hA⟩ := idxB_at (l := rest) (c := 0) (by omega)
        refine wp_skip ?_
        refine hK7 _ _ ?_
        refine wp_seq_k (fun K14 hK14 => ?_)
        refine wp_region_lit ?_
        refine l_q rfl rfl (q_moveS rfl) ?_
        refine l_q rfl rfl (q_moveS rfl) ?_
        refine l_q rfl rfl (q_moveI rfl) ?_
        refine l_q rfl rfl (q_sliceX (e := 5) (size := 1) (l := 0) (h := i) (m := rc) (ad' := ra) (len' := i) (cap' := rc) rfl (by kernel_rfl) (by kernel_rfl) rfl ⟨_, int_nat (by first | rfl | omega) rfl⟩ rfl (by omega) (by first | omega | (simp only [List.length_append, List.length_map, List.length_cons, List.length_nil, List.length_take, List.length_drop, List.length_set] <;> omega)) (by first | omega | (simp only [List.length_append, List.length_map, List.length_cons, List.length_nil, List.length_take, List.length_drop, List.length_set] <;> omega)) rfl subS_zero (Nat.sub_zero _) (Nat.sub_zero _)) ?_
        refine l_e rfl (fun K hK => ?_)
        have hB15 : Bytes (s ++ (rest.take i)) := Bytes.app hbs (Bytes.take hbr)
        refine e_app (e := 5) (size := 1) (bytes := 1) (i := 0) (m' := (s ++ (rest.take i)).length) (by kernel_rfl) hS6 rfl rfl rfl (SlG.src (e := 5) (by kernel_rfl) ((bv_takeG hGr).mono (hg.trans hS6.base)) (by first | (simp only [List.length_append, List.length_map, List.length_cons, List.length_nil, List.length_take, List.length_drop, List.length_set, Nat.mul_one]; done) | (simp only [List.length_append, List.length_map, List.length_cons, List.length_nil, List.length_take, List.length_drop, List.length_set]; omega) | rfl | (simp; done)) (by decide) (bv_one _)) (by first | omega | (simp only [List.length_append, List.length_map, List.length_cons, List.length_nil, List.length_take, List.length_drop, List.length_set] <;> omega) | (simp; done)) bv_app (by first | omega | (simp only [maxLen, List.length_append, List.length_map, List.length_cons, List.length_nil, List.length_take, List.length_drop, List.length_set] <;> omega) | (simp only [maxLen]; omega)) (by first | omega | (simp only [List.length_append, List.length_map, List.length_cons, List.length_nil, List.length_take, List.length_drop, List.length_set] <;> omega)) (fun ad15 cp15 w15 (hS15 : St _ _ [.ow 5 1 ad15 ((s ++ (rest.take i)).length) cp15 (bv (s ++ (rest.take i)))] _) => ?_)
        clear hS6
        refine hK _ _ ?_; clear hK K
        refine l_q rfl rfl (q_assignS rfl) ?_
        refine l_nil ?_
        refine hK14 _ _ ?_
        refine wp_seq_k (fun K16 hK16 => ?_)
        refine wp_region_lit ?_
        refine l_q rfl rfl (q_moveS rfl) ?_
        refine l_q rfl rfl (q_moveI rfl) ?_
        refine l_q rfl rfl (q_addx rfl rfl (by first | decide | omega) (by first | decide | omega)) ?_
        refine l_q rfl rfl (q_ixG (e := 5) (m := 1) (j := (i + 1)) rfl rfl (by kernel_rfl) (by kernel_rfl) (by first | rfl | omega) (by omega) hGr (by rw [bv_len]; first | omega | (simp only [List.length_append, List.length_map, List.length_cons, List.length_nil, List.length_take, List.length_drop, List.length_set] <;> omega))) ?_
        obtain ⟨x17, hx17⟩ : ∃ x, (rest)[(i + 1)]? = some x := ⟨_, List.getElem?_eq_getElem (by first | omega | (simp only [List.length_append, List.length_map, List.length_cons, List.length_nil, List.length_take, List.length_drop, List.length_set] <;> omega) | (simp <;> omega))⟩
        have hb17 : x17 < 256 := hbr x17 (List.mem_of_getElem? hx17)
        refine l_q rfl rfl (q_load1 rfl (by kernel_rfl) (SlG.cell (hGr.mono (hg.trans hS15.base)) (Gle.refl _) (at1 (bv_at hx17)))) ?_
        refine l_q rfl rfl (q_assignI rfl) ?_
        refine l_nil ?_
        refine hK16 _ _ ?_
        refine wp_seq_k (fun K18 hK18 => ?_)
        refine wp_region_lit ?_
        refine l_q rfl rfl (q_moveS rfl) ?_
        refine l_q rfl rfl (q_moveI rfl) ?_
        refine l_q rfl rfl (q_addx rfl rfl (by first | decide | omega) (by first | decide | omega)) ?_
        refine l_q rfl rfl (q_sliceX (e := 5) (size := 1) (l := (i + 2)) (h := rest.length) (m := rc) (ad' := (subS ra (i + 2) 1 rc)) (len' := (rest.length - (i + 2))) (cap' := (rc - (i + 2))) rfl (by kernel_rfl) (by kernel_rfl) rfl rfl ⟨_, int_nat (by first | rfl | omega) rfl⟩ (by omega) (by first | omega | (simp only [List.length_append, List.length_map, List.length_cons, List.length_nil, List.length_take, List.length_drop, List.length_set] <;> omega)) (by first | omega | (simp only [List.length_append, List.length_map, List.length_cons, List.length_nil, List.length_take, List.length_drop, List.length_set] <;> omega)) rfl rfl rfl rfl) ?_
        refine l_q rfl rfl (q_assignS rfl) ?_
        refine l_nil ?_
        refine hK18 _ _ ?_
        refine wp_seq_k (fun K19 hK19 => ?_)
        refine wp_region_lit ?_
        refine l_q rfl rfl (q_moveI rfl) ?_
        refine l_nil ?_
        refine hK19 _ _ ?_
        refine wp_block ?_
        refine wp_seq_k (fun K20 hK20 => ?_)
        refine wp_region_lit ?_
        refine l_q rfl rfl (q_eql rfl rfl) ?_
        refine l_q rfl rfl (q_assignB rfl) ?_
        refine l_nil ?_
        refine hK20 _ _ ?_
        refine c_cond rfl (fun hc21 => ?_) (fun hc21 => ?_)
        ·
          have hc21b := hc21
          try simp only [decide_eq_true_eq, decide_eq_false_iff_not, Bool.not_eq_true', Bool.not_eq_false', Bool.and_eq_true, Bool.or_eq_true, Int.not_lt, Int.not_le, ne_eq, Decidable.not_not] at hc21
          refine wp_region_lit ?_
          refine l_q rfl rfl (q_moveS rfl) ?_
          refine l_e rfl (fun K hK => ?_)
          refine e_buildSlice1 (e := 5) (zv := .int .u8 0) (xs := [_]) hS15 (by kernel_rfl) (by kernel_rfl) (by kernel_rfl) rfl rfl rfl rfl (allone (by repeat' (first | exact trivial | refine ⟨by first | rfl | assumption, ?_⟩))) rfl (fun b22 w22 (hS22 : St _ _ [.blk b22 (.cells #[.int .u8 (0 : Int)] 5), .ow 5 1 ad15 ((s ++ (rest.take i)).length) cp15 (bv (s ++ (rest.take i)))] _) => ?_)
          clear hS15
          have hB22 : Bytes [0] := by intro q hq; simp only [List.mem_cons, List.not_mem_nil, or_false] at hq; omega
          have hS22o : St _ _ [.ow 5 1 (some ⟨b22, 0, none⟩) 1 1 (bv [0]), .ow 5 1 ad15 ((s ++ (rest.take i)).length) cp15 (bv (s ++ (rest.take i)))] _ := hS22.blkOw' (i := 0) (m := 1) (size := 1) (xs := bv [0]) rfl rfl rfl (by decide); clear hS22
          refine hK _ _ ?_; clear hK K
          refine l_e rfl (fun K hK => ?_)
          have hB23 : Bytes ((s ++ (rest.take i)) ++ [0]) := Bytes.app hB15 hB22
          refine e_app (e := 5) (size := 1) (bytes := 1) (i := 1) (m' := ((s ++ (rest.take i)) ++ [0]).length) (by kernel_rfl) hS22o rfl rfl rfl (SlG.src (e := 5) (by kernel_rfl) (hS22o.owG (i := 0) rfl) (by first | (simp only [List.length_append, List.length_map, List.length_cons, List.length_nil, List.length_take, List.length_drop, List.length_set, Nat.mul_one]; done) | (simp only [List.length_append, List.length_map, List.length_cons, List.length_nil, List.length_take, List.length_drop, List.length_set]; omega) | rfl | (simp; done)) (by decide) (bv_one _)) (by first | omega | (simp only [List.length_append, List.length_map, List.length_cons, List.length_nil, List.length_take, List.length_drop, List.length_set] <;> omega) | (simp; done)) bv_app (by first | omega | (simp only [maxLen, List.length_append, List.length_map, List.length_cons, List.length_nil, List.length_take, List.length_drop, List.length_set] <;> omega) | (simp only [maxLen]; omega)) (by first | omega | (simp only [List.length_append, List.length_map, List.length_cons, List.length_nil, List.length_take, List.length_drop, List.length_set] <;> omega)) (fun ad23 cp23 w23 (hS23 : St _ _ [.ow 5 1 (some ⟨b22, 0, none⟩) 1 1 (bv [0]), .ow 5 1 ad23 (((s ++ (rest.take i)) ++ [0]).length) cp23 (bv ((s ++ (rest.take i)) ++ [0]))] _) => ?_)
          clear hS22o
          refine hK _ _ ?_; clear hK K
          refine l_q rfl rfl (q_assignS rfl) ?_
          refine l_nil ?_
          have hS24 := hS23.fr1; clear hS23
          have hS25 : St _ _ [.ow 5 1 ad23 (((s ++ (rest.take i)) ++ [0]).length) cp23 (bv ((s ++ (rest.take i)) ++ [0]))] _ := hS24.only 1; clear hS24
          refine hK4 _ _ (came (⟨((s ++ (rest.take i)) ++ [0]), (rest.drop (i + 2)), (subS ra (i + 2) 1 rc), (rc - (i + 2)), ad23, cp23⟩) (by repeat' (first | exact Agree.refl _ _ | refine Agree.up ?_ rfl | refine Agree.hav2 ?_ rfl | refine Agree.ups2 ?_ rfl)) (by repeat' (first | exact trivial | refine ⟨by first | rfl | exact congrArg (fun n : Nat => Value.slice _ n _) (List.length_drop).symm, ?_⟩)) ?_)
          exact ⟨⟨hS25, txt_next he hr hAl hA hx17 (by omega), hB23, (Bytes.drop hbr), (bv_subD (by first | omega | (simp only [List.length_append, List.length_map, List.length_cons, List.length_nil, List.length_take, List.length_drop, List.length_set] <;> omega)) (SlG.sub (l := (i + 2)) (size := 1) (m := rc) (n := rest.length - (i + 2)) hGr (by first | omega | (simp only [List.length_append, List.length_map, List.length_cons, List.length_nil, List.length_take, List.length_drop, List.length_set] <;> omega)) (by decide))), (by show (rest.drop (i + 2)).length ≤ rc - (i + 2); rw [List.length_drop]; omega), (by show (s ++ rest.take i ++ [0]).length + (rest.drop (i + 2)).length ≤ b.length; simp only [List.length_append, List.length_take, List.length_drop, List.length_cons, List.length_nil]; omega)⟩, by (show (rest.drop (i + 2)).length < rest.length); rw [List.length_drop]; omega⟩
        ·
          have hc21b := hc21
          try simp only [decide_eq_true_eq, decide_eq_false_iff_not, Bool.not_eq_true', Bool.not_eq_false', Bool.and_eq_true, Bool.or_eq_true, Int.not_lt, Int.not_le, ne_eq, Decidable.not_not] at hc21
          refine wp_seq_k (fun K26 hK26 => ?_)
          refine wp_region_lit ?_
          refine l_q rfl rfl (q_eql rfl rfl) ?_
          refine l_q rfl rfl (q_assignB rfl) ?_
          refine l_nil ?_
          refine hK26 _ _ ?_
          refine c_cond rfl (fun hc27 => ?_) (fun hc27 => ?_)
          ·
            have hc27b := hc27
            try simp only [decide_eq_true_eq, decide_eq_false_iff_not, Bool.not_eq_true', Bool.not_eq_false', Bool.and_eq_true, Bool.or_eq_true, Int.not_lt, Int.not_le, ne_eq, Decidable.not_not] at hc27
            refine wp_seq_k (fun K28 hK28 => ?_)
            refine wp_region_lit ?_
            refine l_q rfl rfl (q_moveS rfl) ?_
            refine l_q rfl rfl (q_convBS (l := (s ++ (rest.take i))) rfl (hS15.owG (i := 0) rfl) (by first | omega | (simp only [List.length_append, List.length_map, List.length_cons, List.length_nil, List.length_take, List.length_drop, List.length_set] <;> omega)) (by kernel_rfl) (by kernel_rfl)) ?_
            refine l_q rfl rfl (q_moveS rfl) ?_
            refine l_q rfl rfl (q_assign rfl) ?_
            refine l_q rfl rfl (q_assignS rfl) ?_
            refine l_q rfl rfl (q_assignB rfl) ?_
            refine l_nil ?_
            refine hK28 _ _ ?_
            refine wp_ret ?_
            refine c_ret3 rfl rfl rfl rfl ?_
            exact ⟨_, rfl, TextP.yes (by rw [List.length_drop]) hB15 (Bytes.drop hbr) (by omega) (bv_subD (by first | omega | (simp only [List.length_append, List.length_map, List.length_cons, List.length_nil, List.length_take, List.length_drop, List.length_set] <;> omega)) (SlG.sub (l := (i + 2)) (size := 1) (m := rc) (n := rest.length - (i + 2)) hGr (by first | omega | (simp only [List.length_append, List.length_map, List.length_cons, List.length_nil, List.length_take, List.length_drop, List.length_set] <;> omega)) (by decide))) (txt_yes he hr hAl hA hx17 (by omega)), hS15.drop⟩
          ·
            have hc27b := hc27
            try simp only [decide_eq_true_eq, decide_eq_false_iff_not, Bool.not_eq_true', Bool.not_eq_false', Bool.and_eq_true, Bool.or_eq_true, Int.not_lt, Int.not_le, ne_eq, Decidable.not_not] at hc27
            refine wp_seq_k (fun K29 hK29 => ?_)
            refine wp_region_lit ?_
            refine l_q rfl rfl (q_assign rfl) ?_
            refine l_q rfl rfl (q_assignS rfl) ?_
            refine l_q rfl rfl (q_assignB rfl) ?_
            refine l_nil ?_
            refine hK29 _ _ ?_
            refine wp_ret ?_
            refine c_ret3 rfl rfl rfl rfl ?_
            exact ⟨_, rfl, TextP.no (txt_fail he (txt_bad hr hAl hA hx17 (by omega) (by omega))), hS15.drop⟩

end Go.Proofs.YtcllmnepkglabaaDoor
