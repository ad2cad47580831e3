/- law08: the document's lists. -/
import Derived.Test.YtmbbkliekgiolaaTf
import Derived.Test.YtmbbkliekgiolaaSb
set_option linter.unusedVariables false
set_option linter.unusedSimpArgs false
namespace Go.Proofs.Ytmbbkliekgiolaa
open Go.RowKit
/-- An entry of the document's. -/
def re (c : KV) : List Value := [.string (bs c.1), .string (bs c.2)]
theorem re_ones : ∀ c : KV, AllOne (re c) := fun _ => ⟨rfl, rfl, trivial⟩
def KB (L : List KV) : Prop := ∀ c ∈ L, Bytes c.1 ∧ Bytes c.2
theorem KB.nil : KB [] := fun c h => by cases h
theorem KB.app {L M : List KV} (h : KB L) (h' : KB M) : KB (L ++ M) := fun c hm => (List.mem_append.1 hm).elim (h c) (h' c)
theorem KB.filter {L : List KV} {p : KV → Bool} (h : KB L) : KB (L.filter p) := fun c hm => h c (List.mem_filter.1 hm).1
theorem KB.take {L : List KV} {n : Nat} (h : KB L) : KB (L.take n) := fun c hm => h c (List.mem_of_mem_take hm)
theorem KB.drop {L : List KV} {n : Nat} (h : KB L) : KB (L.drop n) := fun c hm => h c (List.mem_of_mem_drop hm)
theorem KB.drp {L : List KV} {k : List Nat} (h : KB L) : KB (dropA L k) := h.filter
theorem KB.put {L : List KV} {k r : List Nat} (h : KB L) (hk : Bytes k) (hr : Bytes r) : KB (putA L k r) := by
  unfold putA
  refine h.filter.app fun c hc => ?_
  cases hc with
  | head => exact ⟨hk, hr⟩
  | tail _ hc => exact h.filter c hc
theorem KB.rng {L : List KV} {fr to : List Nat} {n : Nat} (h : KB L) : KB (rangeB L fr to n) := h.filter.take
theorem KB.ofAb {g : Gh} {ps : List Pg} (h : TOk g ps) : KB (ab ps) := fun c hc => by
  obtain ⟨p, hp, a, ha, rfl⟩ := mem_ab hc
  have := h.ent a (List.mem_flatMap.2 ⟨p, hp, ha⟩)
  exact ⟨this.1.2.1, this.1.2.2.2⟩
/-- Where a key stands. -/
def FindR (L : List KV) (key : List Nat) (z : Int) : Prop := (z = -1 ∧ getA L key = none) ∨ ∃ (i : Nat) (c : KV), z = (i : Int) ∧ L[i]? = some c ∧ c.1 = key ∧ getA L key = some c.2
theorem find_at {L : List KV} {key : List Nat} {i : Nat} {c : KV} (hc : L[i]? = some c) (hk : c.1 = key) (hb : ∀ j, j < i → ∀ q, L[j]? = some q → q.1 ≠ key) : getA L key = some c.2 := by
  obtain ⟨A, B, rfl, hA⟩ := split_at hc
  unfold getA
  rw [List.find?_append, List.find?_eq_none.2 (fun a ha => ?_)]
  · simp [hk]
  · obtain ⟨j, hj, rfl⟩ := List.getElem_of_mem ha
    have := hb j (by omega) A[j] (by rw [List.getElem?_append_left hj, List.getElem?_eq_getElem hj])
    simpa using this
theorem find_none {L : List KV} {key : List Nat} (hb : ∀ j, j < L.length → ∀ q, L[j]? = some q → q.1 ≠ key) : getA L key = none := by
  unfold getA
  rw [List.find?_eq_none.2 (fun a ha => ?_)]
  · rfl
  · obtain ⟨j, hj, rfl⟩ := List.getElem_of_mem ha
    simpa using hb j hj _ (List.getElem?_eq_getElem hj)
theorem dropA_take {L : List KV} {key : List Nat} {i : Nat} {c : KV} (hc : L[i]? = some c) : dropA (L.take (i + 1)) key = if c.1 ≠ key then dropA (L.take i) key ++ [c] else dropA (L.take i) key := by
  unfold dropA
  rw [List.take_add_one, hc, List.filter_append]
  by_cases h : c.1 = key
  · simp [h]
  · simp [h]
def pF (fr to : List Nat) (c : KV) : Bool := !bl c.1 fr && (decide (to = []) || bl c.1 to)
theorem rangeB_pF {L : List KV} {fr to : List Nat} {n : Nat} : rangeB L fr to n = (L.filter (pF fr to)).take n := rfl
theorem filt_take {L : List KV} {p : KV → Bool} {i : Nat} {c : KV} (hc : L[i]? = some c) : (L.take (i + 1)).filter p = if p c = true then (L.take i).filter p ++ [c] else (L.take i).filter p := by
  rw [List.take_add_one, hc, List.filter_append]
  by_cases h : p c = true
  · simp [h]
  · simp [h]
theorem filt_done {L : List KV} {p : KV → Bool} {i n : Nat} (hn : ((L.take i).filter p).length ≤ n) (h : L.length ≤ i ∨ n ≤ ((L.take i).filter p).length) : (L.take i).filter p = (L.filter p).take n := by
  rcases h with h | h
  · rw [List.take_of_length_le h] at hn ⊢
    rw [List.take_of_length_le hn]
  · have e : L.filter p = (L.take i).filter p ++ (L.drop i).filter p := by rw [← List.filter_append, List.take_append_drop]
    rw [e, List.take_append_of_le_length h, List.take_of_length_le hn]
/-- A place in a list that rises but for one entry. -/
def Bub (L : List KV) (key row : List Nat) (k : Nat) (M : List KV) : Prop := ∃ X Y, M = X ++ (key, row) :: Y ∧ X.length = k ∧ X ++ Y = dropA L key ∧ ∀ c ∈ Y, bl key c.1 = true
theorem Bub.start {L : List KV} {key row : List Nat} : Bub L key row (dropA L key).length (dropA L key ++ [(key, row)]) := ⟨_, [], rfl, rfl, List.append_nil _, fun c h => by cases h⟩
theorem Bub.len {L : List KV} {key row : List Nat} {k : Nat} {M : List KV} (h : Bub L key row k M) : k < M.length ∧ M.length = (dropA L key).length + 1 ∧ M[k]? = some (key, row) := by
  obtain ⟨X, Y, rfl, hX, he, _⟩ := h
  refine ⟨by simp; omega, by rw [← he]; simp; omega, at_mid hX⟩
theorem Bub.step {L : List KV} {key row : List Nat} {k : Nat} {M : List KV} {c : KV} (h : Bub L key row k M) (hk : 0 < k) (hc : M[k - 1]? = some c) (hb : bl key c.1 = true) : Bub L key row (k - 1) ((M.set k c).set (k - 1) (key, row)) := by
  obtain ⟨X, Y, rfl, hX, he, hY⟩ := h
  obtain ⟨X', x, rfl⟩ : ∃ X' x, X = X' ++ [x] := by
    have hne : X ≠ [] := by rintro rfl; simp at hX; omega
    exact ⟨X.dropLast, X.getLast hne, (List.dropLast_concat_getLast hne).symm⟩
  have hl : X'.length = k - 1 := by simp at hX; omega
  have hcx : x = c := by
    rw [List.append_assoc, List.cons_append, List.nil_append, at_mid hl] at hc
    injection hc
  subst hcx
  refine ⟨X', x :: Y, ?_, hl, by rw [← he]; simp, fun c hc => ?_⟩
  · rw [set_mid hX, List.append_assoc, List.cons_append, List.nil_append, set_mid hl]
  · cases hc with
    | head => exact hb
    | tail _ hc => exact hY c hc
theorem Bub.done {L : List KV} {key row : List Nat} {k : Nat} {M : List KV} (h : Bub L key row k M) (hs : Srt L) (hd : ∀ c, 0 < k → M[k - 1]? = some c → bl key c.1 = false) : M = putA L key row := by
  obtain ⟨X, Y, rfl, hX, he, hY⟩ := h
  have hXlo : ∀ c ∈ X, bl c.1 key = true := by
    intro c hc
    obtain ⟨j, hj, rfl⟩ := List.getElem_of_mem hc
    have hk : 0 < k := by omega
    have hlast := hd X[k - 1] hk (by rw [List.getElem?_append_left (by omega), List.getElem?_eq_getElem (by omega)])
    have hmem : ∀ c ∈ X, c.1 ≠ key := fun c hc => by
      have : c ∈ dropA L key := by rw [← he]; exact List.mem_append_left _ hc
      simpa using (List.mem_filter.1 this).2
    have h1 : bl X[k - 1].1 key = true := bl_of hlast (fun h => hmem _ (List.getElem_mem _) h.symm)
    rcases Nat.lt_or_ge j (k - 1) with hjk | hjk
    · have hs2 : Srt (X ++ Y) := by rw [he]; exact hs.drop key
      have := srt_mid hs2 hjk (a := X[j]) (b := X[k - 1]) (by rw [List.getElem?_append_left (by omega), List.getElem?_eq_getElem (by omega)]) (by rw [List.getElem?_append_left (by omega), List.getElem?_eq_getElem (by omega)])
      exact bl_trans this h1
    · have : j = k - 1 := by omega
      subst this; exact h1
  have f1 : ∀ p : KV → Bool, (∀ c : KV, c.1 = key → p c = false) → L.filter p = (X ++ Y).filter p := fun p hp => by
    rw [he]; unfold dropA; rw [List.filter_filter]
    refine List.filter_congr fun c _ => ?_
    by_cases hc : c.1 = key
    · simp [hc, hp c hc]
    · simp [hc]
  unfold putA
  rw [f1 _ (fun c hc => by rw [hc, bl_irr]), f1 _ (fun c hc => by rw [hc, bl_irr]), List.filter_append, List.filter_append, List.filter_eq_self.2 hXlo, List.filter_eq_nil_iff.2 (fun a ha => by rw [bl_asym (hY a ha)]; simp), List.filter_eq_nil_iff.2 (fun a ha => by rw [bl_asym (hXlo a ha)]; simp), List.filter_eq_self.2 hY]
  simp
theorem same_at {L M : List KV} {i : Nat} (hl : L.length = M.length) (h : ∀ j, j < i → L[j]? = M[j]?) (hi : L.length ≤ i) : L = M := by
  apply List.ext_getElem? ; intro j
  rcases Nat.lt_or_ge j i with hj | hj
  · exact h j hj
  · rw [List.getElem?_eq_none (by omega), List.getElem?_eq_none (by omega)]
theorem kv_take {es : List En} {i : Nat} {a : En} (ha : es[i]? = some a) : (es.take (i + 1)).map En.kv = (es.take i).map En.kv ++ [(a.kb, a.rb)] := by
  rw [List.take_add_one, ha, List.map_append]; rfl
/-- An act of law08's scripts. -/
structure Ac8 where
  k : Int
  ka : Option Addr
  kc : Nat
  kb : List Nat
  ra : Option Addr
  rc : Nat
  rb : List Nat
def ac8 (a : Ac8) : List Value := [.int .i64 a.k, .slice a.ka a.kb.length a.kc, .slice a.ra a.rb.length a.rc]
theorem ac8_ones : ∀ a : Ac8, AllOne (ac8 a) := fun _ => ⟨rfl, rfl, rfl, trivial⟩
def Ac8Ok (g : Gh) (a : Ac8) : Prop := (-9223372036854775808 ≤ a.k ∧ a.k ≤ 9223372036854775807) ∧ (SlG g a.ka (bv a.kb) ∧ Bytes a.kb) ∧ (SlG g a.ra (bv a.rb) ∧ Bytes a.rb)
def fits (a : Ac8) : Bool := decide (a.kb.length ≤ 40) && decide (a.rb.length ≤ 40)
attribute [local irreducible] Oper.wp Sem.run Code.wp wpList wpAnyO callFunc execOp Calls
attribute [local irreducible] cmpL putA getA lastB ent inB

set_option maxRecDepth 100000 in
theorem rfind_ok (L : List KV) (hL : KB L) (hn : L.length ≤ 100000) (al : Option Addr) (cl : Nat) (key : List Nat) (hk : Bytes key) (w : World) (hG : SlG (hw w) al (List.flatMap re L)) : Calls Try.prog 39 #[.slice al L.length cl, .string (bs key)] w (PostR w fun v => ∃ z, v = .int .i64 z ∧ FindR L key z) := by
  have hS := St.start w
  refine c_enter Try.func39 rfl rfl rfl ?_
  refine wp_seq_k (fun K1 hK1 => ?_)
  refine wp_region_lit ?_
  refine l_q rfl rfl (q_assignI rfl) ?_
  refine l_nil ?_
  refine hK1 _ _ ?_
  refine wp_seq_k (fun K2 hK2 => ?_)
  refine wp_seq_k (fun K3 hK3 => ?_)
  refine wp_region_lit ?_
  refine l_q rfl rfl (q_assignI rfl) ?_
  refine l_nil ?_
  refine hK3 _ _ ?_
  refine wp_block ?_
  refine c_loop (τ := Nat) [(4, 19)] (fun x => (fun (i : Nat) => [(5, .int .i64 ((i : Nat) : Int))]) x) (fun x w' => (fun (i : Nat) => St w (fun _ => False) [] w' ∧ i ≤ L.length ∧ (∀ j, j < i → ∀ q, L[j]? = some q → q.1 ≠ key)) x) (fun x => (fun (i : Nat) => L.length - i) x) (0) ?_ (by repeat' (first | exact trivial | refine ⟨by first | rfl | exact int_succ _ | assumption, ?_⟩)) (fun i j4 w4 hJ4 K4 hK4 => ?_)
  ·
    exact ⟨hS, Nat.zero_le _, fun j hj => by omega⟩
  ·
    obtain ⟨hS4, hi, hj⟩ := hJ4
    try dsimp only at hS4 hi hj ⊢
    refine wp_seq_k (fun K5 hK5 => ?_)
    refine wp_seq_k (fun K6 hK6 => ?_)
    refine wp_region_lit ?_
    refine l_q rfl rfl (q_moveI rfl) ?_
    refine l_q rfl rfl (q_moveS rfl) ?_
    refine l_q rfl rfl (q_lenSl (e := 36) rfl (by kernel_rfl)) ?_
    refine l_q rfl rfl (q_lss rfl rfl) ?_
    refine l_nil ?_
    refine hK6 _ _ ?_
    refine c_cond rfl (fun hc7 => ?_) (fun hc7 => ?_)
    ·
      have hc7b := hc7
      try simp only [decide_eq_true_eq, decide_eq_false_iff_not, Bool.not_eq_true', Bool.not_eq_false', Bool.and_eq_true, Bool.or_eq_true, Int.not_lt, Int.not_le, ne_eq, Decidable.not_not] at hc7
      refine wp_skip ?_
      refine hK5 _ _ ?_
      refine wp_seq_k (fun K8 hK8 => ?_)
      refine wp_block ?_
      refine wp_seq_k (fun K9 hK9 => ?_)
      refine wp_region_lit ?_
      refine l_q rfl rfl (q_moveS rfl) ?_
      refine l_q rfl rfl (q_moveI rfl) ?_
      refine l_q rfl rfl (q_ixG (e := 36) (m := 2) (j := i) rfl rfl (by kernel_rfl) (by kernel_rfl) (by first | rfl | omega) (by omega) hG (by rw [rows_len (c := re) (m := 2) (fun _ => rfl)]; first | omega | (simp only [List.length_append, List.length_map, List.length_cons, List.length_nil, List.length_take, List.length_drop, List.length_set] <;> omega))) ?_
      refine l_q rfl rfl (q_fieldG (ft := 9) (o := 0) rfl (by kernel_rfl)) ?_
      obtain ⟨x10, hx10⟩ : ∃ x, (L)[i]? = some x := ⟨_, List.getElem?_eq_getElem (by first | omega | (simp only [List.length_append, List.length_map, List.length_cons, List.length_nil, List.length_take, List.length_drop, List.length_set] <;> omega) | (simp <;> omega))⟩
      refine l_q rfl rfl (q_load1 rfl (by kernel_rfl) (SlG.cell (hG.mono hS4.base) (Gle.refl _) (row_at hx10 (c := re) (m := 2) (fun _ => rfl) (j := 0) rfl))) ?_
      refine l_q rfl rfl (q_move rfl) ?_
      refine l_q rfl rfl (q_str_eql (l := x10.1) (m := key) rfl rfl (hL x10 (List.mem_of_getElem? hx10)).1 hk) ?_
      refine l_nil ?_
      refine hK9 _ _ ?_
      refine c_cond rfl (fun hc11 => ?_) (fun hc11 => ?_)
      ·
        have hc11b := hc11
        try simp only [decide_eq_true_eq, decide_eq_false_iff_not, Bool.not_eq_true', Bool.not_eq_false', Bool.and_eq_true, Bool.or_eq_true, Int.not_lt, Int.not_le, ne_eq, Decidable.not_not] at hc11
        refine wp_seq_k (fun K12 hK12 => ?_)
        refine wp_region_lit ?_
        refine l_q rfl rfl (q_moveI rfl) ?_
        refine l_q rfl rfl (q_assignI rfl) ?_
        refine l_nil ?_
        refine hK12 _ _ ?_
        refine wp_ret ?_
        refine c_ret1 rfl rfl ?_
        exact ⟨_, rfl, ⟨_, rfl, .inr ⟨i, _, rfl, hx10, hc11, find_at hx10 hc11 hj⟩⟩, hS4.drop⟩
      ·
        have hc11b := hc11
        try simp only [decide_eq_true_eq, decide_eq_false_iff_not, Bool.not_eq_true', Bool.not_eq_false', Bool.and_eq_true, Bool.or_eq_true, Int.not_lt, Int.not_le, ne_eq, Decidable.not_not] at hc11
        refine wp_skip ?_
        refine hK8 _ _ ?_
        refine wp_region_lit ?_
        refine l_q rfl rfl (q_moveI rfl) ?_
        refine l_q rfl rfl (q_addx rfl rfl (by first | decide | omega) (by first | decide | omega)) ?_
        refine l_q rfl rfl (q_assignI rfl) ?_
        refine l_nil ?_
        refine hK4 _ _ (came ((i + 1)) (by repeat' (first | exact Agree.refl _ _ | refine Agree.up ?_ rfl | refine Agree.hav2 ?_ rfl | refine Agree.ups2 ?_ rfl)) (by repeat' (first | exact trivial | refine ⟨by first | rfl | exact int_succ _ | assumption, ?_⟩)) ?_)
        exact ⟨⟨hS4, by (show i + 1 ≤ L.length); omega, fun j hj' q hq => by
              have hj' : j < i + 1 := hj'
              by_cases hji : j = i
              · subst hji; rw [hx10] at hq; injection hq with hq; subst hq; assumption
              · exact hj j (by omega) q hq⟩, by (show L.length - (i + 1) < L.length - i); omega⟩
    ·
      have hc7b := hc7
      try simp only [decide_eq_true_eq, decide_eq_false_iff_not, Bool.not_eq_true', Bool.not_eq_false', Bool.and_eq_true, Bool.or_eq_true, Int.not_lt, Int.not_le, ne_eq, Decidable.not_not] at hc7
      refine wp_exit ?_
      refine hK2 _ _ ?_
      refine wp_seq_k (fun K13 hK13 => ?_)
      refine wp_region_lit ?_
      refine l_q rfl rfl (q_assignI rfl) ?_
      refine l_nil ?_
      refine hK13 _ _ ?_
      refine wp_ret ?_
      refine c_ret1 rfl rfl ?_
      exact ⟨_, rfl, ⟨_, rfl, .inl ⟨rfl, find_none (fun j hj' q hq => hj j (by omega) q hq)⟩⟩, hS4.drop⟩

set_option maxRecDepth 100000 in
theorem rin_ok (key fr to : List Nat) (hk : Bytes key) (hf : Bytes fr) (ht : Bytes to) (w : World) : Calls Try.prog 75 #[.string (bs key), .string (bs fr), .string (bs to)] w (PostR w fun v => v = .bool (!bl key fr && (decide (to = []) || bl key to))) := by
  have hS := St.start w
  refine c_enter Try.func75 rfl rfl rfl ?_
  refine wp_seq_k (fun K1 hK1 => ?_)
  refine wp_region_lit ?_
  refine l_q rfl rfl (q_assignB rfl) ?_
  refine l_nil ?_
  refine hK1 _ _ ?_
  refine wp_seq_k (fun K2 hK2 => ?_)
  refine wp_region_lit ?_
  refine l_q rfl rfl (q_move rfl) ?_
  refine l_q rfl rfl (q_move rfl) ?_
  refine l_q rfl rfl (q_str_geq (l := key) (m := fr) rfl rfl hk hf) ?_
  refine l_q rfl rfl (q_moveB rfl) ?_
  refine g_splitL (t := 10) rfl (fun hg3 => ?_) (fun hg3 => ?_)
  ·
    have hg3b := hg3
    try simp only [decide_eq_true_eq, decide_eq_false_iff_not, Bool.not_eq_true', Bool.not_eq_false', Bool.and_eq_true, Bool.or_eq_true, Int.not_lt, Int.not_le, ne_eq, Decidable.not_not] at hg3
    have h1 := hg3
    refine l_on rfl rfl hg3b ?_
    refine l_q rfl rfl (q_move rfl) ?_
    refine l_on rfl rfl hg3b ?_
    refine l_q rfl rfl (q_str_eql (l := to) (m := []) rfl rfl ht Bytes.nil) ?_
    refine l_on rfl rfl hg3b ?_
    refine l_q rfl rfl (q_moveB rfl) ?_
    refine g_splitL (t := 13) rfl (fun hg4 => ?_) (fun hg4 => ?_)
    ·
      have hg4b := hg4
      try simp only [decide_eq_true_eq, decide_eq_false_iff_not, Bool.not_eq_true', Bool.not_eq_false', Bool.and_eq_true, Bool.or_eq_true, Int.not_lt, Int.not_le, ne_eq, Decidable.not_not] at hg4
      refine l_off rfl rfl rfl hg4b ?_
      refine l_off rfl rfl rfl hg4b ?_
      refine l_off rfl rfl rfl hg4b ?_
      refine l_on rfl rfl hg3b ?_
      refine l_q rfl rfl (q_pickT rfl hg4b rfl) ?_
      refine l_q rfl rfl (q_pickT rfl hg3b rfl) ?_
      refine l_q rfl rfl (q_assignB rfl) ?_
      refine l_nil ?_
      refine hK2 _ _ ?_
      refine wp_ret ?_
      refine c_ret1 rfl rfl ?_
      exact ⟨_, rfl, congrArg Value.bool (by simp_all), hS.drop⟩
    ·
      have hg4b := hg4
      try simp only [decide_eq_true_eq, decide_eq_false_iff_not, Bool.not_eq_true', Bool.not_eq_false', Bool.and_eq_true, Bool.or_eq_true, Int.not_lt, Int.not_le, ne_eq, Decidable.not_not] at hg4
      refine l_on rfl rfl hg4b ?_
      refine l_q rfl rfl (q_move rfl) ?_
      refine l_on rfl rfl hg4b ?_
      refine l_q rfl rfl (q_move rfl) ?_
      refine l_on rfl rfl hg4b ?_
      refine l_q rfl rfl (q_str_lss (l := key) (m := to) rfl rfl hk ht) ?_
      refine l_on rfl rfl hg3b ?_
      refine l_q rfl rfl (q_pickF rfl hg4b rfl) ?_
      refine l_q rfl rfl (q_pickT rfl hg3b rfl) ?_
      refine l_q rfl rfl (q_assignB rfl) ?_
      refine l_nil ?_
      refine hK2 _ _ ?_
      refine wp_ret ?_
      refine c_ret1 rfl rfl ?_
      exact ⟨_, rfl, congrArg Value.bool (by simp_all), hS.drop⟩
  ·
    have hg3b := hg3
    try simp only [decide_eq_true_eq, decide_eq_false_iff_not, Bool.not_eq_true', Bool.not_eq_false', Bool.and_eq_true, Bool.or_eq_true, Int.not_lt, Int.not_le, ne_eq, Decidable.not_not] at hg3
    refine l_off rfl rfl rfl hg3b ?_
    refine l_off rfl rfl rfl hg3b ?_
    refine l_off rfl rfl rfl hg3b ?_
    refine l_offN rfl rfl rfl ?_
    refine l_offN rfl rfl rfl ?_
    refine l_offN rfl rfl rfl ?_
    refine l_off rfl rfl rfl hg3b ?_
    refine l_q rfl rfl (q_pickF rfl hg3b rfl) ?_
    refine l_q rfl rfl (q_assignB rfl) ?_
    refine l_nil ?_
    refine hK2 _ _ ?_
    refine wp_ret ?_
    refine c_ret1 rfl rfl ?_
    exact ⟨_, rfl, congrArg Value.bool (by simp_all), hS.drop⟩

theorem KB.one {c : KV} (h : Bytes c.1 ∧ Bytes c.2) : KB [c] := fun x hx => by rw [List.mem_singleton] at hx; subst hx; exact h

set_option maxRecDepth 100000 in
theorem rdrop_ok (L : List KV) (hL : KB L) (hn : L.length ≤ 100000) (al : Option Addr) (cl : Nat) (key : List Nat) (hk : Bytes key) (w : World) (hG : SlG (hw w) al (List.flatMap re L)) : Calls Try.prog 41 #[.slice al L.length cl, .string (bs key)] w (PostN w fun v G => ∃ oa oc, v = .slice oa (dropA L key).length oc ∧ G = [.ow 36 2 oa (dropA L key).length oc (List.flatMap re (dropA L key))]) := by
  have hS := St.start w
  refine c_enter Try.func41 rfl rfl rfl ?_
  refine wp_seq_k (fun K1 hK1 => ?_)
  refine wp_region_lit ?_
  refine l_q rfl rfl (q_assignS rfl) ?_
  refine l_nil ?_
  refine hK1 _ _ ?_
  refine wp_seq_k (fun K2 hK2 => ?_)
  refine wp_region_lit ?_
  refine l_q rfl rfl (q_assignS rfl) ?_
  refine l_nil ?_
  refine hK2 _ _ ?_
  refine wp_seq_k (fun K3 hK3 => ?_)
  refine wp_seq_k (fun K4 hK4 => ?_)
  refine wp_region_lit ?_
  refine l_q rfl rfl (q_assignI rfl) ?_
  refine l_nil ?_
  refine hK4 _ _ ?_
  refine wp_block ?_
  have hS5 := hS.ow_nil 36 2; clear hS
  refine c_loop (τ := Nat × (Option Addr) × Nat) [(5, 26)] (fun x => (fun (i : Nat) (oa : Option Addr) (oc : Nat) => [(6, .int .i64 ((i : Nat) : Int)), (5, .slice oa ((dropA (L.take i) key).length) oc)]) x.1 x.2.1 x.2.2) (fun x w' => (fun (i : Nat) (oa : Option Addr) (oc : Nat) => St w (fun _ => False) [.ow 36 2 oa ((dropA (L.take i) key).length) oc (List.flatMap re (dropA (L.take i) key))] w' ∧ i ≤ L.length) x.1 x.2.1 x.2.2) (fun x => (fun (i : Nat) (oa : Option Addr) (oc : Nat) => L.length - i) x.1 x.2.1 x.2.2) (⟨0, none, 0⟩) ?_ (by repeat' (first | exact trivial | refine ⟨by first | rfl | exact int_succ _ | assumption, ?_⟩)) (fun x6 j6 w6 hJ6 K6 hK6 => ?_)
  ·
    exact ⟨hS5, Nat.zero_le _⟩
  ·
    obtain ⟨i, oa, oc⟩ := x6
    obtain ⟨hS6, hi⟩ := hJ6
    try dsimp only at hS6 hi ⊢
    have hdl : (dropA (L.take i) key).length ≤ L.length := Nat.le_trans (List.length_filter_le _ _) (by rw [List.length_take]; omega)
    refine wp_seq_k (fun K7 hK7 => ?_)
    refine wp_seq_k (fun K8 hK8 => ?_)
    refine wp_region_lit ?_
    refine l_q rfl rfl (q_moveI rfl) ?_
    refine l_q rfl rfl (q_moveS rfl) ?_
    refine l_q rfl rfl (q_lenSl (e := 36) rfl (by kernel_rfl)) ?_
    refine l_q rfl rfl (q_lss rfl rfl) ?_
    refine l_nil ?_
    refine hK8 _ _ ?_
    refine c_cond rfl (fun hc9 => ?_) (fun hc9 => ?_)
    ·
      have hc9b := hc9
      try simp only [decide_eq_true_eq, decide_eq_false_iff_not, Bool.not_eq_true', Bool.not_eq_false', Bool.and_eq_true, Bool.or_eq_true, Int.not_lt, Int.not_le, ne_eq, Decidable.not_not] at hc9
      refine wp_skip ?_
      refine hK7 _ _ ?_
      refine wp_seq_k (fun K10 hK10 => ?_)
      refine wp_block ?_
      refine wp_seq_k (fun K11 hK11 => ?_)
      refine wp_region_lit ?_
      refine l_q rfl rfl (q_moveS rfl) ?_
      refine l_q rfl rfl (q_moveI rfl) ?_
      refine l_q rfl rfl (q_ixG (e := 36) (m := 2) (j := i) rfl rfl (by kernel_rfl) (by kernel_rfl) (by first | rfl | omega) (by omega) hG (by rw [rows_len (c := re) (m := 2) (fun _ => rfl)]; first | omega | (simp only [List.length_append, List.length_map, List.length_cons, List.length_nil, List.length_take, List.length_drop, List.length_set] <;> omega))) ?_
      refine l_q rfl rfl (q_fieldG (ft := 9) (o := 0) rfl (by kernel_rfl)) ?_
      obtain ⟨x12, hx12⟩ : ∃ x, (L)[i]? = some x := ⟨_, List.getElem?_eq_getElem (by first | omega | (simp only [List.length_append, List.length_map, List.length_cons, List.length_nil, List.length_take, List.length_drop, List.length_set] <;> omega) | (simp <;> omega))⟩
      refine l_q rfl rfl (q_load1 rfl (by kernel_rfl) (SlG.cell (hG.mono hS6.base) (Gle.refl _) (row_at hx12 (c := re) (m := 2) (fun _ => rfl) (j := 0) rfl))) ?_
      refine l_q rfl rfl (q_move rfl) ?_
      refine l_q rfl rfl (q_str_neq (l := x12.1) (m := key) rfl rfl (hL x12 (List.mem_of_getElem? hx12)).1 hk) ?_
      refine l_nil ?_
      refine hK11 _ _ ?_
      refine c_cond rfl (fun hc13 => ?_) (fun hc13 => ?_)
      ·
        have hc13b := hc13
        try simp only [decide_eq_true_eq, decide_eq_false_iff_not, Bool.not_eq_true', Bool.not_eq_false', Bool.and_eq_true, Bool.or_eq_true, Int.not_lt, Int.not_le, ne_eq, Decidable.not_not] at hc13
        have hneX := hc13
        have hxX := hx12
        refine wp_region_lit ?_
        refine l_q rfl rfl (q_moveS rfl) ?_
        refine l_q rfl rfl (q_moveS rfl) ?_
        refine l_q rfl rfl (q_moveI rfl) ?_
        refine l_q rfl rfl (q_ixG (e := 36) (m := 2) (j := i) rfl rfl (by kernel_rfl) (by kernel_rfl) (by first | rfl | omega) (by omega) hG (by rw [rows_len (c := re) (m := 2) (fun _ => rfl)]; first | omega | (simp only [List.length_append, List.length_map, List.length_cons, List.length_nil, List.length_take, List.length_drop, List.length_set] <;> omega))) ?_
        refine l_q rfl rfl (q_loadGA (m := 2) rfl (by kernel_rfl) (by kernel_rfl) (hG.mono hS6.base) (row_take hx12 (c := re) (m := 2) (fun _ => rfl)) rfl (by decide)) ?_
        refine l_e rfl (fun K hK => ?_)
        refine e_buildSliceA (e := 36) (m := 2) (zv := .agg #[.string ⟨#[]⟩, .string ⟨#[]⟩]) hS6 (by kernel_rfl) (by kernel_rfl) (by kernel_rfl) rfl rfl rfl rfl (fun b14 w14 (hS14 : St _ _ [.blk b14 (.cells #[.string (bs x12.1), .string (bs x12.2)] 36), .ow 36 2 oa ((dropA (L.take i) key).length) oc (List.flatMap re (dropA (L.take i) key))] _) => ?_)
        clear hS6
        have hS14o : St _ _ [.ow 36 2 (some ⟨b14, 0, none⟩) 1 1 (List.flatMap re [x12]), .ow 36 2 oa ((dropA (L.take i) key).length) oc (List.flatMap re (dropA (L.take i) key))] _ := hS14.blkOw' (i := 0) (m := 1) (size := 2) (xs := List.flatMap re [x12]) rfl rfl rfl (by decide); clear hS14
        refine hK _ _ ?_; clear hK K
        refine l_e rfl (fun K hK => ?_)
        refine e_app (e := 36) (size := 2) (bytes := 32) (i := 1) (m' := ((dropA (L.take i) key) ++ [x12]).length) (by kernel_rfl) hS14o rfl rfl rfl (SlG.src (e := 36) (by kernel_rfl) (hS14o.owG (i := 0) rfl) ((rows_len (c := re) (m := 2) (fun _ => rfl) _).trans (by first | rfl | (simp only [List.length_append, List.length_map, List.length_cons, List.length_nil, List.length_take, List.length_drop, List.length_set]; done) | (simp only [List.length_append, List.length_map, List.length_cons, List.length_nil, List.length_take, List.length_drop, List.length_set]; omega) | omega)) (by decide) (rows_one re_ones)) (by first | omega | (simp only [List.length_append, List.length_map, List.length_cons, List.length_nil, List.length_take, List.length_drop, List.length_set] <;> omega) | (simp; done)) rows_app (by first | omega | (simp only [maxLen, List.length_append, List.length_map, List.length_cons, List.length_nil, List.length_take, List.length_drop, List.length_set] <;> omega) | (simp only [maxLen]; omega)) (by first | omega | (simp only [List.length_append, List.length_map, List.length_cons, List.length_nil, List.length_take, List.length_drop, List.length_set] <;> omega)) (fun ad15 cp15 w15 (hS15 : St _ _ [.ow 36 2 (some ⟨b14, 0, none⟩) 1 1 (List.flatMap re [x12]), .ow 36 2 ad15 (((dropA (L.take i) key) ++ [x12]).length) cp15 (List.flatMap re ((dropA (L.take i) key) ++ [x12]))] _) => ?_)
        clear hS14o
        refine hK _ _ ?_; clear hK K
        refine l_q rfl rfl (q_assignS rfl) ?_
        refine l_nil ?_
        refine hK10 _ _ ?_
        refine wp_region_lit ?_
        refine l_q rfl rfl (q_moveI rfl) ?_
        refine l_q rfl rfl (q_addx rfl rfl (by first | decide | omega) (by first | decide | omega)) ?_
        refine l_q rfl rfl (q_assignI rfl) ?_
        refine l_nil ?_
        have hS16 : St _ _ [.ow 36 2 (some ⟨b14, 0, none⟩) 1 1 (List.flatMap re [x12]), .ow 36 2 ad15 ((dropA (L.take (i + 1)) key).length) cp15 (List.flatMap re (dropA (L.take (i + 1)) key))] _ := hS15.cast (by rw [dropA_take hx12, if_pos hc13]); clear hS15
        have hS17 := hS16.fr1; clear hS16
        have hS18 : St _ _ [.ow 36 2 ad15 ((dropA (L.take (i + 1)) key).length) cp15 (List.flatMap re (dropA (L.take (i + 1)) key))] _ := hS17.only 1; clear hS17
        refine hK6 _ _ (came (⟨(i + 1), ad15, cp15⟩) (by repeat' (first | exact Agree.refl _ _ | refine Agree.up ?_ rfl | refine Agree.hav2 ?_ rfl | refine Agree.ups2 ?_ rfl)) (by repeat' (first | exact trivial | refine ⟨by first | rfl | exact int_succ _ | assumption | (rw [dropA_take hxX, if_pos hneX]; rfl) | (rw [dropA_take hxX, if_neg (fun h => h hneX)]; rfl), ?_⟩)) ?_)
        exact ⟨⟨hS18, (by show i + 1 ≤ L.length; omega)⟩, by (show L.length - (i + 1) < L.length - i); omega⟩
      ·
        have hc13b := hc13
        try simp only [decide_eq_true_eq, decide_eq_false_iff_not, Bool.not_eq_true', Bool.not_eq_false', Bool.and_eq_true, Bool.or_eq_true, Int.not_lt, Int.not_le, ne_eq, Decidable.not_not] at hc13
        have hneX := hc13
        have hxX := hx12
        refine wp_skip ?_
        refine hK10 _ _ ?_
        refine wp_region_lit ?_
        refine l_q rfl rfl (q_moveI rfl) ?_
        refine l_q rfl rfl (q_addx rfl rfl (by first | decide | omega) (by first | decide | omega)) ?_
        refine l_q rfl rfl (q_assignI rfl) ?_
        refine l_nil ?_
        have hS19 : St _ _ [.ow 36 2 oa ((dropA (L.take (i + 1)) key).length) oc (List.flatMap re (dropA (L.take (i + 1)) key))] _ := hS6.cast (by rw [dropA_take hx12, if_neg (fun h => h hc13)]); clear hS6
        refine hK6 _ _ (came (⟨(i + 1), oa, oc⟩) (by repeat' (first | exact Agree.refl _ _ | refine Agree.up ?_ rfl | refine Agree.hav2 ?_ rfl | refine Agree.ups2 ?_ rfl)) (by repeat' (first | exact trivial | refine ⟨by first | rfl | exact int_succ _ | assumption | (rw [dropA_take hxX, if_pos hneX]; rfl) | (rw [dropA_take hxX, if_neg (fun h => h hneX)]; rfl), ?_⟩)) ?_)
        exact ⟨⟨hS19, (by show i + 1 ≤ L.length; omega)⟩, by (show L.length - (i + 1) < L.length - i); omega⟩
    ·
      have hc9b := hc9
      try simp only [decide_eq_true_eq, decide_eq_false_iff_not, Bool.not_eq_true', Bool.not_eq_false', Bool.and_eq_true, Bool.or_eq_true, Int.not_lt, Int.not_le, ne_eq, Decidable.not_not] at hc9
      refine wp_exit ?_
      refine hK3 _ _ ?_
      refine wp_seq_k (fun K20 hK20 => ?_)
      refine wp_region_lit ?_
      refine l_q rfl rfl (q_moveS rfl) ?_
      refine l_q rfl rfl (q_assignS rfl) ?_
      refine l_nil ?_
      refine hK20 _ _ ?_
      refine wp_ret ?_
      refine c_ret1 rfl rfl ?_
      have hd : dropA (L.take i) key = dropA L key := by rw [List.take_of_length_le (by omega)]
      rw [hd] at hS6
      exact ⟨_, _, rfl, ⟨oa, oc, by rw [hd]; rfl, rfl⟩, hS6⟩

theorem KB.set {L : List KV} {i : Nat} {c : KV} (h : KB L) (hc : Bytes c.1 ∧ Bytes c.2) : KB (L.set i c) := fun x hx => by
  rcases List.mem_or_eq_of_mem_set hx with hx | rfl
  · exact h x hx
  · exact hc

set_option maxRecDepth 100000 in
theorem rput_ok (L : List KV) (hL : KB L) (hn : L.length ≤ 100000) (al : Option Addr) (cl : Nat) (key row : List Nat) (hk : Bytes key) (hr : Bytes row) (hs : Srt L) (w : World) (hG : SlG (hw w) al (List.flatMap re L)) : Calls Try.prog 40 #[.slice al L.length cl, .string (bs key), .string (bs row)] w (PostN w fun v G => ∃ oa oc, v = .slice oa (putA L key row).length oc ∧ G = [.ow 36 2 oa (putA L key row).length oc (List.flatMap re (putA L key row))]) := by
  have hS := St.start w
  have hdl : (dropA L key).length ≤ L.length := List.length_filter_le _ _
  have hal : (dropA L key ++ [(key, row)]).length = (dropA L key).length + 1 := by simp
  have hKB : KB (dropA L key ++ [(key, row)]) := hL.drp.app (KB.one ⟨hk, hr⟩)
  refine c_enter Try.func40 rfl rfl rfl ?_
  refine wp_seq_k (fun K1 hK1 => ?_)
  refine wp_region_lit ?_
  refine l_q rfl rfl (q_assignS rfl) ?_
  refine l_nil ?_
  refine hK1 _ _ ?_
  refine wp_seq_k (fun K2 hK2 => ?_)
  refine wp_region_lit ?_
  refine l_q rfl rfl (q_moveS rfl) ?_
  refine l_q rfl rfl (q_move rfl) ?_
  refine l_e rfl (fun K hK => ?_)
  refine e_call (by kernel_rfl) (rdrop_ok L hL (by first | omega | (simp only [List.length_append, List.length_map, List.length_cons, List.length_nil, List.length_take, List.length_drop, List.length_set] <;> omega)) _ _ key hk _ (hG.mono hS.base)) rfl (after_N hS (fun v3 G3 w3 hv3 hS3 => ?_))
  clear hS
  obtain ⟨oa3, oc3, rfl, rfl⟩ := hv3
  have hS4 : St _ _ [.ow 36 2 oa3 ((dropA L key).length) oc3 (List.flatMap re (dropA L key))] _ := hS3; clear hS3
  refine hK _ _ ?_; clear hK K
  refine l_q rfl rfl (q_move rfl) ?_
  refine l_q rfl rfl (q_move rfl) ?_
  refine l_q rfl rfl (q_build (ps := [(0, 1), (1, 1)]) (zv := .agg #[.string ⟨#[]⟩, .string ⟨#[]⟩]) (by kernel_rfl) (by kernel_rfl) rfl (by repeat' (first | exact trivial | refine ⟨fun _ => by first | rfl | assumption | exact one_if (by assumption), ?_⟩ | refine ⟨fun ⟨_, h⟩ => by simp at h, ?_⟩)) rfl) ?_
  refine l_e rfl (fun K hK => ?_)
  refine e_buildSliceA (e := 36) (m := 2) (zv := .agg #[.string ⟨#[]⟩, .string ⟨#[]⟩]) hS4 (by kernel_rfl) (by kernel_rfl) (by kernel_rfl) rfl rfl rfl rfl (fun b5 w5 (hS5 : St _ _ [.blk b5 (.cells #[.string (bs key), .string (bs row)] 36), .ow 36 2 oa3 ((dropA L key).length) oc3 (List.flatMap re (dropA L key))] _) => ?_)
  clear hS4
  have hS5o : St _ _ [.ow 36 2 (some ⟨b5, 0, none⟩) 1 1 (List.flatMap re [(key, row)]), .ow 36 2 oa3 ((dropA L key).length) oc3 (List.flatMap re (dropA L key))] _ := hS5.blkOw' (i := 0) (m := 1) (size := 2) (xs := List.flatMap re [(key, row)]) rfl rfl rfl (by decide); clear hS5
  refine hK _ _ ?_; clear hK K
  refine l_e rfl (fun K hK => ?_)
  refine e_app (e := 36) (size := 2) (bytes := 32) (i := 1) (m' := ((dropA L key) ++ [(key, row)]).length) (by kernel_rfl) hS5o rfl rfl rfl (SlG.src (e := 36) (by kernel_rfl) (hS5o.owG (i := 0) rfl) ((rows_len (c := re) (m := 2) (fun _ => rfl) _).trans (by first | rfl | (simp only [List.length_append, List.length_map, List.length_cons, List.length_nil, List.length_take, List.length_drop, List.length_set]; done) | (simp only [List.length_append, List.length_map, List.length_cons, List.length_nil, List.length_take, List.length_drop, List.length_set]; omega) | omega)) (by decide) (rows_one re_ones)) (by first | omega | (simp only [List.length_append, List.length_map, List.length_cons, List.length_nil, List.length_take, List.length_drop, List.length_set] <;> omega) | (simp; done)) rows_app (by first | omega | (simp only [maxLen, List.length_append, List.length_map, List.length_cons, List.length_nil, List.length_take, List.length_drop, List.length_set] <;> omega) | (simp only [maxLen]; omega)) (by first | omega | (simp only [List.length_append, List.length_map, List.length_cons, List.length_nil, List.length_take, List.length_drop, List.length_set] <;> omega)) (fun ad6 cp6 w6 (hS6 : St _ _ [.ow 36 2 (some ⟨b5, 0, none⟩) 1 1 (List.flatMap re [(key, row)]), .ow 36 2 ad6 (((dropA L key) ++ [(key, row)]).length) cp6 (List.flatMap re ((dropA L key) ++ [(key, row)]))] _) => ?_)
  clear hS5o
  refine hK _ _ ?_; clear hK K
  refine l_q rfl rfl (q_assignS rfl) ?_
  refine l_nil ?_
  refine hK2 _ _ ?_
  refine wp_seq_k (fun K7 hK7 => ?_)
  refine wp_seq_k (fun K8 hK8 => ?_)
  refine wp_region_lit ?_
  refine l_q rfl rfl (q_moveS rfl) ?_
  refine l_q rfl rfl (q_lenSl (e := 36) rfl (by kernel_rfl)) ?_
  refine l_q rfl rfl (q_subx rfl rfl (by first | decide | omega) (by first | decide | omega)) ?_
  refine l_q rfl rfl (q_assignI rfl) ?_
  refine l_nil ?_
  refine hK8 _ _ ?_
  refine wp_block ?_
  have hS9 := hS6.fr1; clear hS6
  have hS10 : St _ _ [.ow 36 2 ad6 (((dropA L key) ++ [(key, row)]).length) cp6 (List.flatMap re ((dropA L key) ++ [(key, row)]))] _ := hS9.only 1; clear hS9
  refine c_loop (τ := Nat × (List KV)) [(8, 9), (21, 55)] (fun x => (fun (k : Nat) (M : List KV) => [(8, .int .i64 ((k : Nat) : Int))]) x.1 x.2) (fun x w' => (fun (k : Nat) (M : List KV) => St w (fun _ => False) [.ow 36 2 ad6 ((dropA L key ++ [(key, row)]).length) cp6 (List.flatMap re M)] w' ∧ Bub L key row k M ∧ KB M) x.1 x.2) (fun x => (fun (k : Nat) (M : List KV) => k) x.1 x.2) (⟨(dropA L key).length, (dropA L key ++ [(key, row)])⟩) ?_ (by repeat' (first | exact trivial | refine ⟨by first | rfl | exact congrArg (Value.int .i64) (by omega), ?_⟩)) (fun x11 j11 w11 hJ11 K11 hK11 => ?_)
  ·
    exact ⟨hS10, Bub.start, hKB⟩
  ·
    obtain ⟨k, M⟩ := x11
    obtain ⟨hS11, hb, hMB⟩ := hJ11
    try dsimp only at hS11 hb hMB ⊢
    obtain ⟨hkM, hMl, hMk⟩ := hb.len
    have hml2 : (dropA L key ++ [(key, row)]).length = M.length := by rw [hMl]; simp
    have hBe : Bytes (key, row).1 ∧ Bytes (key, row).2 := ⟨hk, hr⟩
    refine wp_seq_k (fun K12 hK12 => ?_)
    refine wp_seq_k (fun K13 hK13 => ?_)
    refine r_any (by kernel_rfl) hS11 (fun w14 hS14 => ?_)
    clear hS11
    refine o_pure (i := 0) (fun _ _ => trivial) rfl rfl (by kernel_rfl) (goes0 rfl) (QOk.then (QOk.then (QOk.then (QOk.inBlock (QOk.then QOk.body))))) (fun w => q_moveI rfl) ?_
    refine o_pure (i := 1) (fun _ _ => trivial) rfl rfl (by kernel_rfl) (goes0 rfl) (QOk.then (QOk.then (QOk.then (QOk.inBlock (QOk.then QOk.body))))) (fun w => q_gtr rfl rfl) ?_
    refine o_pure (i := 2) (fun _ _ => trivial) rfl rfl (by kernel_rfl) (goes0 rfl) (QOk.then (QOk.then (QOk.then (QOk.inBlock (QOk.then QOk.body))))) (fun w => q_moveB rfl) ?_
    refine g_splitO (t := 23) rfl (fun hg15 => ?_) (fun hg15 => ?_)
    ·
      have hg15b := hg15
      try simp only [decide_eq_true_eq, decide_eq_false_iff_not, Bool.not_eq_true', Bool.not_eq_false', Bool.and_eq_true, Bool.or_eq_true, Int.not_lt, Int.not_le, ne_eq, Decidable.not_not] at hg15
      have hk0 : 0 < k := by omega
      obtain ⟨c, hMc⟩ : ∃ c, M[k - 1]? = some c := ⟨_, List.getElem?_eq_getElem (by omega)⟩
      have hBc := hMB c (List.mem_of_getElem? hMc)
      refine o_pure (i := 3) (fun _ _ => trivial) rfl rfl (by kernel_rfl) (goes1 rfl rfl hg15b) (QOk.then (QOk.then (QOk.then (QOk.inBlock (QOk.then QOk.body))))) (fun w => q_moveS rfl) ?_
      refine o_pure (i := 4) (fun _ _ => trivial) rfl rfl (by kernel_rfl) (goes1 rfl rfl hg15b) (QOk.then (QOk.then (QOk.then (QOk.inBlock (QOk.then QOk.body))))) (fun w => q_moveI rfl) ?_
      refine o_pure (i := 5) (fun _ _ => trivial) rfl rfl (by kernel_rfl) (goes1 rfl rfl hg15b) (QOk.then (QOk.then (QOk.then (QOk.inBlock (QOk.then QOk.body))))) (fun w => q_ixG (e := 36) (m := 2) (j := k) rfl rfl (by kernel_rfl) (by kernel_rfl) (by first | rfl | omega) (by omega) (hS14.owG (i := 0) rfl) (by rw [rows_len (c := re) (m := 2) (fun _ => rfl)]; first | omega | (simp only [List.length_append, List.length_map, List.length_cons, List.length_nil, List.length_take, List.length_drop, List.length_set] <;> omega))) ?_
      refine o_pure (i := 6) (fun _ _ => trivial) rfl rfl (by kernel_rfl) (goes1 rfl rfl hg15b) (QOk.then (QOk.then (QOk.then (QOk.inBlock (QOk.then QOk.body))))) (fun w => q_fieldG (ft := 9) (o := 0) rfl (by kernel_rfl)) ?_
      refine o_held (i := 7) [14, 15] (fun _ _ => trivial) rfl rfl (by kernel_rfl) (goes1 rfl rfl hg15b) (QOk.then (QOk.then (QOk.then (QOk.inBlock (QOk.then QOk.body))))) (q_load1 rfl (by kernel_rfl) (SlG.cell (hS14.owG (i := 0) rfl) (Gle.refl _) (row_at hMk (c := re) (m := 2) (fun _ => rfl) (j := 0) rfl))) ?_
      refine o_pure (i := 8) (fun j w => ⟨(fun _ _ => trivial) j w, fun _ h => h⟩) rfl rfl (by kernel_rfl) (goes1 rfl rfl hg15b) (QOk.then (QOk.then (QOk.then (QOk.inBlock (QOk.then QOk.body))))) (fun w => q_moveS rfl) ?_
      refine o_pure (i := 9) (fun j w => ⟨(fun _ _ => trivial) j w, fun _ h => h⟩) rfl rfl (by kernel_rfl) (goes1 rfl rfl hg15b) (QOk.then (QOk.then (QOk.then (QOk.inBlock (QOk.then QOk.body))))) (fun w => q_moveI rfl) ?_
      refine o_pure (i := 10) (fun j w => ⟨(fun _ _ => trivial) j w, fun _ h => h⟩) rfl rfl (by kernel_rfl) (goes1 rfl rfl hg15b) (QOk.then (QOk.then (QOk.then (QOk.inBlock (QOk.then QOk.body))))) (fun w => q_subx rfl rfl (by first | decide | omega) (by first | decide | omega)) ?_
      refine o_pure (i := 11) (fun j w => ⟨(fun _ _ => trivial) j w, fun _ h => h⟩) rfl rfl (by kernel_rfl) (goes1 rfl rfl hg15b) (QOk.then (QOk.then (QOk.then (QOk.inBlock (QOk.then QOk.body))))) (fun w => q_ixG (e := 36) (m := 2) (j := (k - 1)) rfl rfl (by kernel_rfl) (by kernel_rfl) (by first | rfl | omega) (by omega) (hS14.owG (i := 0) rfl) (by rw [rows_len (c := re) (m := 2) (fun _ => rfl)]; first | omega | (simp only [List.length_append, List.length_map, List.length_cons, List.length_nil, List.length_take, List.length_drop, List.length_set] <;> omega))) ?_
      refine o_pure (i := 12) (fun j w => ⟨(fun _ _ => trivial) j w, fun _ h => h⟩) rfl rfl (by kernel_rfl) (goes1 rfl rfl hg15b) (QOk.then (QOk.then (QOk.then (QOk.inBlock (QOk.then QOk.body))))) (fun w => q_fieldG (ft := 9) (o := 0) rfl (by kernel_rfl)) ?_
      refine o_held (i := 13) [14, 15] (fun j w => ⟨(fun _ _ => trivial) j w, fun _ h => h⟩) rfl rfl (by kernel_rfl) (goes1 rfl rfl hg15b) (QOk.then (QOk.then (QOk.then (QOk.inBlock (QOk.then QOk.body))))) (q_load1 rfl (by kernel_rfl) (SlG.cell (hS14.owG (i := 0) rfl) (Gle.refl _) (row_at hMc (c := re) (m := 2) (fun _ => rfl) (j := 0) rfl))) ?_
      refine o_pure (i := 14) (fun j w => ⟨(fun j w => ⟨(fun _ _ => trivial) j w, fun _ h => h⟩) j w, fun _ h => h⟩) rfl rfl (by kernel_rfl) (goes1 rfl rfl hg15b) (QOk.then (QOk.then (QOk.then (QOk.inBlock (QOk.then QOk.body))))) (fun w => q_str_lss (l := key) (m := c.1) rfl rfl hk hBc.1) ?_
      refine o_pure (i := 15) (fun j w => ⟨(fun j w => ⟨(fun _ _ => trivial) j w, fun _ h => h⟩) j w, fun _ h => h⟩) rfl rfl (by kernel_rfl) (goes0 rfl) (QOk.then (QOk.then (QOk.then (QOk.inBlock (QOk.then QOk.body))))) (fun w => q_pickT rfl hg15b rfl) ?_
      refine o_done (by kernel_rfl) ?_
      refine hK13 _ _ ?_
      refine c_cond rfl (fun hc16 => ?_) (fun hc16 => ?_)
      ·
        have hc16b := hc16
        try simp only [decide_eq_true_eq, decide_eq_false_iff_not, Bool.not_eq_true', Bool.not_eq_false', Bool.and_eq_true, Bool.or_eq_true, Int.not_lt, Int.not_le, ne_eq, Decidable.not_not] at hc16
        refine wp_skip ?_
        refine hK12 _ _ ?_
        refine wp_seq_k (fun K17 hK17 => ?_)
        refine wp_block ?_
        refine wp_seq_k (fun K18 hK18 => ?_)
        refine wp_region_lit ?_
        refine l_q rfl rfl (q_moveS rfl) ?_
        refine l_q rfl rfl (q_moveI rfl) ?_
        refine l_q rfl rfl (q_ixG (e := 36) (m := 2) (j := k) rfl rfl (by kernel_rfl) (by kernel_rfl) (by first | rfl | omega) (by omega) (hS14.owG (i := 0) rfl) (by rw [rows_len (c := re) (m := 2) (fun _ => rfl)]; first | omega | (simp only [List.length_append, List.length_map, List.length_cons, List.length_nil, List.length_take, List.length_drop, List.length_set] <;> omega))) ?_
        refine l_q rfl rfl (q_loadGA (m := 2) rfl (by kernel_rfl) (by kernel_rfl) (hS14.owG (i := 0) rfl) (row_take hMk (c := re) (m := 2) (fun _ => rfl)) rfl (by decide)) ?_
        refine l_e rfl (fun K hK => ?_)
        refine e_alloc (zv := .agg #[.string ⟨#[]⟩, .string ⟨#[]⟩]) hS14 (by kernel_rfl) (fun b19 w19 (hS19 : St _ _ [.blk b19 (.cells #[.string (bs []), .string (bs [])] 36), .ow 36 2 ad6 ((dropA L key ++ [(key, row)]).length) cp6 (List.flatMap re M)] _) => ?_)
        clear hS14
        refine hK _ _ ?_; clear hK K
        refine l_e rfl (fun K hK => ?_)
        refine e_storeA hS19 rfl rfl (by kernel_rfl) (by repeat' (first | exact trivial | refine ⟨by first | rfl | assumption | exact one_if (by assumption), ?_⟩)) (i := 0) rfl rfl (fun w20 (hS20 : St _ _ [.blk b19 (.cells #[.string (bs key), .string (bs row)] 36), .ow 36 2 ad6 ((dropA L key ++ [(key, row)]).length) cp6 (List.flatMap re M)] _) => ?_)
        clear hS19
        refine hK _ _ ?_; clear hK K
        refine l_nil ?_
        refine hK18 _ _ ?_
        refine wp_seq_k (fun K21 hK21 => ?_)
        refine wp_region_lit ?_
        refine l_q rfl rfl (q_moveS rfl) ?_
        refine l_q rfl rfl (q_moveI rfl) ?_
        refine l_q rfl rfl (q_moveS rfl) ?_
        refine l_q rfl rfl (q_moveI rfl) ?_
        refine l_q rfl rfl (q_subx rfl rfl (by first | decide | omega) (by first | decide | omega)) ?_
        refine l_q rfl rfl (q_ixG (e := 36) (m := 2) (j := (k - 1)) rfl rfl (by kernel_rfl) (by kernel_rfl) (by first | rfl | omega) (by omega) (hS20.owG (i := 1) rfl) (by rw [rows_len (c := re) (m := 2) (fun _ => rfl)]; first | omega | (simp only [List.length_append, List.length_map, List.length_cons, List.length_nil, List.length_take, List.length_drop, List.length_set] <;> omega))) ?_
        refine l_q rfl rfl (q_loadGA (m := 2) rfl (by kernel_rfl) (by kernel_rfl) (hS20.owG (i := 1) rfl) (row_take hMc (c := re) (m := 2) (fun _ => rfl)) rfl (by decide)) ?_
        refine l_q rfl rfl (q_ixG (e := 36) (m := 2) (j := k) rfl rfl (by kernel_rfl) (by kernel_rfl) (by first | rfl | omega) (by omega) (hS20.owG (i := 1) rfl) (by rw [rows_len (c := re) (m := 2) (fun _ => rfl)]; first | omega | (simp only [List.length_append, List.length_map, List.length_cons, List.length_nil, List.length_take, List.length_drop, List.length_set] <;> omega))) ?_
        refine l_e rfl (fun K hK => ?_)
        refine e_stOwA (cs := [.string (bs c.1), .string (bs c.2)]) hS20 rfl rfl (by kernel_rfl) (by repeat' (first | exact trivial | refine ⟨by first | rfl | assumption | exact one_if (by assumption), ?_⟩)) (i := 1) rfl (by simp only [List.length_cons, List.length_nil]; omega) (by first | decide | exact Nat.succ_pos _) (rows_set (r := c) (c := re) (m := 2) (fun _ => rfl) rfl (by first | omega | (simp; omega))) (fun w22 (hS22 : St _ _ [.blk b19 (.cells #[.string (bs key), .string (bs row)] 36), .ow 36 2 ad6 ((dropA L key ++ [(key, row)]).length) cp6 (List.flatMap re (M.set k c))] _) => ?_)
        clear hS20
        refine hK _ _ ?_; clear hK K
        refine l_nil ?_
        refine hK21 _ _ ?_
        refine wp_region_lit ?_
        refine l_q rfl rfl (q_moveS rfl) ?_
        refine l_q rfl rfl (q_moveI rfl) ?_
        refine l_q rfl rfl (q_subx rfl rfl (by first | decide | omega) (by first | decide | omega)) ?_
        refine l_q rfl rfl (q_loadA (m := 2) rfl (by kernel_rfl) (by kernel_rfl) (hS22.blk (i := 0) rfl) rfl rfl) ?_
        refine l_q rfl rfl (q_ixG (e := 36) (m := 2) (j := (k - 1)) rfl rfl (by kernel_rfl) (by kernel_rfl) (by first | rfl | omega) (by omega) (hS22.owG (i := 1) rfl) (by rw [rows_len (c := re) (m := 2) (fun _ => rfl)]; first | omega | (simp only [List.length_append, List.length_map, List.length_cons, List.length_nil, List.length_take, List.length_drop, List.length_set] <;> omega))) ?_
        refine l_e rfl (fun K hK => ?_)
        refine e_stOwA (cs := [.string (bs key), .string (bs row)]) hS22 rfl rfl (by kernel_rfl) (by repeat' (first | exact trivial | refine ⟨by first | rfl | assumption | exact one_if (by assumption), ?_⟩)) (i := 1) rfl (by simp only [List.length_cons, List.length_nil]; omega) (by first | decide | exact Nat.succ_pos _) (rows_set (r := (key, row)) (c := re) (m := 2) (fun _ => rfl) rfl (by first | omega | (simp; omega))) (fun w23 (hS23 : St _ _ [.blk b19 (.cells #[.string (bs key), .string (bs row)] 36), .ow 36 2 ad6 ((dropA L key ++ [(key, row)]).length) cp6 (List.flatMap re ((M.set k c).set (k - 1) (key, row)))] _) => ?_)
        clear hS22
        refine hK _ _ ?_; clear hK K
        refine l_nil ?_
        refine hK17 _ _ ?_
        refine wp_region_lit ?_
        refine l_q rfl rfl (q_moveI rfl) ?_
        refine l_q rfl rfl (q_subx rfl rfl (by first | decide | omega) (by first | decide | omega)) ?_
        refine l_q rfl rfl (q_assignI rfl) ?_
        refine l_nil ?_
        have hS24 := hS23.fr1; clear hS23
        have hS25 : St _ _ [.ow 36 2 ad6 ((dropA L key ++ [(key, row)]).length) cp6 (List.flatMap re ((M.set k c).set (k - 1) (key, row)))] _ := hS24.only 1; clear hS24
        refine hK11 _ _ (came (⟨(k - 1), ((M.set k c).set (k - 1) (key, row))⟩) (by repeat' (first | exact Agree.refl _ _ | refine Agree.up ?_ rfl | refine Agree.hav2 ?_ rfl | refine Agree.ups2 ?_ rfl)) (by repeat' (first | exact trivial | refine ⟨by first | rfl | exact congrArg (Value.int .i64) (by omega), ?_⟩)) ?_)
        exact ⟨⟨hS25, hb.step (by omega) hMc (by assumption), KB.set (KB.set hMB (hMB c (List.mem_of_getElem? hMc))) ⟨hk, hr⟩⟩, by (show k - 1 < k); omega⟩
      ·
        have hc16b := hc16
        try simp only [decide_eq_true_eq, decide_eq_false_iff_not, Bool.not_eq_true', Bool.not_eq_false', Bool.and_eq_true, Bool.or_eq_true, Int.not_lt, Int.not_le, ne_eq, Decidable.not_not] at hc16
        refine wp_exit ?_
        refine hK7 _ _ ?_
        refine wp_seq_k (fun K26 hK26 => ?_)
        refine wp_region_lit ?_
        refine l_q rfl rfl (q_moveS rfl) ?_
        refine l_q rfl rfl (q_assignS rfl) ?_
        refine l_nil ?_
        refine hK26 _ _ ?_
        refine wp_ret ?_
        refine c_ret1 rfl rfl ?_
        have hM : M = putA L key row := hb.done hs (fun q hq hq2 => by rw [hMc] at hq2; injection hq2 with hq2; subst hq2; assumption)
        subst hM
        have hpl : (dropA L key ++ [(key, row)]).length = (putA L key row).length := by omega
        rw [hpl] at hS14
        exact ⟨_, _, rfl, ⟨_, _, congrArg (fun n => Value.slice _ n _) hpl, rfl⟩, hS14⟩
    ·
      have hg15b := hg15
      try simp only [decide_eq_true_eq, decide_eq_false_iff_not, Bool.not_eq_true', Bool.not_eq_false', Bool.and_eq_true, Bool.or_eq_true, Int.not_lt, Int.not_le, ne_eq, Decidable.not_not] at hg15
      refine o_off (i := 3) (fun _ _ => trivial) rfl rfl (by kernel_rfl) rfl rfl hg15b (QOk.then (QOk.then (QOk.then (QOk.inBlock (QOk.then QOk.body))))) ?_
      refine o_off (i := 4) (fun _ _ => trivial) rfl rfl (by kernel_rfl) rfl rfl hg15b (QOk.then (QOk.then (QOk.then (QOk.inBlock (QOk.then QOk.body))))) ?_
      refine o_off (i := 5) (fun _ _ => trivial) rfl rfl (by kernel_rfl) rfl rfl hg15b (QOk.then (QOk.then (QOk.then (QOk.inBlock (QOk.then QOk.body))))) ?_
      refine o_off (i := 6) (fun _ _ => trivial) rfl rfl (by kernel_rfl) rfl rfl hg15b (QOk.then (QOk.then (QOk.then (QOk.inBlock (QOk.then QOk.body))))) ?_
      refine o_off (i := 7) (fun _ _ => trivial) rfl rfl (by kernel_rfl) rfl rfl hg15b (QOk.then (QOk.then (QOk.then (QOk.inBlock (QOk.then QOk.body))))) ?_
      refine o_off (i := 8) (fun _ _ => trivial) rfl rfl (by kernel_rfl) rfl rfl hg15b (QOk.then (QOk.then (QOk.then (QOk.inBlock (QOk.then QOk.body))))) ?_
      refine o_off (i := 9) (fun _ _ => trivial) rfl rfl (by kernel_rfl) rfl rfl hg15b (QOk.then (QOk.then (QOk.then (QOk.inBlock (QOk.then QOk.body))))) ?_
      refine o_off (i := 10) (fun _ _ => trivial) rfl rfl (by kernel_rfl) rfl rfl hg15b (QOk.then (QOk.then (QOk.then (QOk.inBlock (QOk.then QOk.body))))) ?_
      refine o_off (i := 11) (fun _ _ => trivial) rfl rfl (by kernel_rfl) rfl rfl hg15b (QOk.then (QOk.then (QOk.then (QOk.inBlock (QOk.then QOk.body))))) ?_
      refine o_off (i := 12) (fun _ _ => trivial) rfl rfl (by kernel_rfl) rfl rfl hg15b (QOk.then (QOk.then (QOk.then (QOk.inBlock (QOk.then QOk.body))))) ?_
      refine o_off (i := 13) (fun _ _ => trivial) rfl rfl (by kernel_rfl) rfl rfl hg15b (QOk.then (QOk.then (QOk.then (QOk.inBlock (QOk.then QOk.body))))) ?_
      refine o_off (i := 14) (fun _ _ => trivial) rfl rfl (by kernel_rfl) rfl rfl hg15b (QOk.then (QOk.then (QOk.then (QOk.inBlock (QOk.then QOk.body))))) ?_
      refine o_pure (i := 15) (fun _ _ => trivial) rfl rfl (by kernel_rfl) (goes0 rfl) (QOk.then (QOk.then (QOk.then (QOk.inBlock (QOk.then QOk.body))))) (fun w => q_pickF rfl hg15b rfl) ?_
      refine o_done (by kernel_rfl) ?_
      refine hK13 _ _ ?_
      refine c_condF rfl rfl ?_
      refine wp_exit ?_
      refine hK7 _ _ ?_
      refine wp_seq_k (fun K28 hK28 => ?_)
      refine wp_region_lit ?_
      refine l_q rfl rfl (q_moveS rfl) ?_
      refine l_q rfl rfl (q_assignS rfl) ?_
      refine l_nil ?_
      refine hK28 _ _ ?_
      refine wp_ret ?_
      refine c_ret1 rfl rfl ?_
      have hM : M = putA L key row := hb.done hs (fun q hq hq2 => by omega)
      subst hM
      have hpl : (dropA L key ++ [(key, row)]).length = (putA L key row).length := by omega
      rw [hpl] at hS14
      exact ⟨_, _, rfl, ⟨_, _, congrArg (fun n => Value.slice _ n _) hpl, rfl⟩, hS14⟩

end Go.Proofs.Ytmbbkliekgiolaa
