/- Package table: searches. -/
import Derived.Test.YtmbbkliekgiolaaT1
set_option linter.unusedVariables false
set_option linter.unusedSimpArgs false
namespace Go.Proofs.Ytmbbkliekgiolaa
open Go.RowKit
/-- An entry of a table. -/
structure En where
  ka : Option Addr
  kc : Nat
  kb : List Nat
  ra : Option Addr
  rc : Nat
  rb : List Nat
def en (a : En) : List Value := [.slice a.ka a.kb.length a.kc, .slice a.ra a.rb.length a.rc]
theorem en_ones : ∀ a : En, AllOne (en a) := fun _ => ⟨rfl, rfl, trivial⟩
def EnG (g : Gh) (a : En) : Prop := SlG g a.ka (bv a.kb) ∧ Bytes a.kb ∧ SlG g a.ra (bv a.rb) ∧ Bytes a.rb
/-- Where a key stands, or would stand. -/
theorem EnG.mono {g g' : Gh} {a : En} (h : EnG g a) (hg : Gle g g') : EnG g' a := ⟨h.1.mono hg, h.2.1, h.2.2.1.mono hg, h.2.2.2⟩
theorem cmpL_neg {l m : List Nat} : cmpL l m < 0 ↔ bl l m = true := by
  unfold cmpL
  split
  · rename_i h; simp [h]
  · rename_i h; split <;> simp [h]
theorem bl_irr : ∀ l : List Nat, bl l l = false
  | [] => rfl
  | a :: l => by simp [bl, bl_irr l]
theorem cmpL_zero {l m : List Nat} : cmpL l m = 0 ↔ l = m := by
  unfold cmpL
  constructor
  · intro h
    split at h
    · cases h
    · split at h
      · assumption
      · cases h
  · rintro rfl; rw [bl_irr]; simp
/-- Where a key stands or would stand, and whether it does. -/
def Seek (es : List En) (key : List Nat) (k : Nat) (fd : Bool) : Prop := k ≤ es.length ∧ (∀ x, x < k → ∀ a, es[x]? = some a → bl a.kb key = true) ∧ (∀ x, k ≤ x → ∀ a, es[x]? = some a → bl a.kb key = false) ∧ (fd = true ↔ ∃ a, es[k]? = some a ∧ a.kb = key)
def Up (es : List En) (key : List Nat) : Prop := ∀ (x y : Nat) (a b : En), x ≤ y → es[x]? = some a → es[y]? = some b → bl b.kb key = true → bl a.kb key = true
def seek (es : List En) (key : List Nat) : Nat := es.countP fun a => bl a.kb key
attribute [local irreducible] Oper.wp Sem.run Code.wp wpList wpAnyO callFunc execOp Calls
attribute [local irreducible] cmpL

set_option maxRecDepth 100000 in
theorem bsE_ok (es : List En) (key : List Nat) (hk : Bytes key) (hn : es.length ≤ 1000000) (hkn : key.length ≤ 1000000) (ad ak : Option Addr) (cap ck : Nat) (w : World) (hok : ∀ a ∈ es, EnG (hw w) a) (hu : Up es key) (hG : SlG (hw w) ad (List.flatMap en es)) (hG2 : SlG (hw w) ak (bv key)) : Calls Try.prog 88 #[.slice ad es.length cap, .slice ak key.length ck, .func (.func 60) #[] #[]] w (PostR w fun v => ∃ k fd, v = .tuple #[.int .i64 ((k : Nat) : Int), .bool fd] ∧ Seek es key k fd) := by
  have hS := St.start w
  refine c_enter Try.func88 rfl rfl rfl ?_
  refine wp_seq_k (fun K1 hK1 => ?_)
  refine wp_region_lit ?_
  refine l_q rfl rfl (q_assignI rfl) ?_
  refine l_q rfl rfl (q_assignB rfl) ?_
  refine l_nil ?_
  refine hK1 _ _ ?_
  refine wp_seq_k (fun K2 hK2 => ?_)
  refine wp_region_lit ?_
  refine l_q rfl rfl (q_moveS rfl) ?_
  refine l_q rfl rfl (q_lenSl (e := 41) rfl (by kernel_rfl)) ?_
  refine l_q rfl rfl (q_assignI rfl) ?_
  refine l_nil ?_
  refine hK2 _ _ ?_
  refine wp_seq_k (fun K3 hK3 => ?_)
  refine wp_region_lit ?_
  refine l_q rfl rfl (q_moveI rfl) ?_
  refine l_q rfl rfl (q_assignI rfl) ?_
  refine l_q rfl rfl (q_assignI rfl) ?_
  refine l_nil ?_
  refine hK3 _ _ ?_
  refine wp_seq_k (fun K4 hK4 => ?_)
  refine wp_block ?_
  refine c_loop (τ := Nat × Nat) [(9, 11), (15, 34)] (fun x => (fun (i : Nat) (j : Nat) => [(9, .int .i64 ((i : Nat) : Int)), (10, .int .i64 ((j : Nat) : Int))]) x.1 x.2) (fun x w' => (fun (i : Nat) (j : Nat) => St w (fun _ => False) [] w' ∧ i ≤ j ∧ j ≤ es.length ∧ (∀ x, x < i → ∀ a, es[x]? = some a → bl a.kb key = true) ∧ (∀ x, j ≤ x → ∀ a, es[x]? = some a → bl a.kb key = false)) x.1 x.2) (fun x => (fun (i : Nat) (j : Nat) => j - i) x.1 x.2) (⟨0, es.length⟩) ?_ (by repeat' (first | exact trivial | refine ⟨by first | rfl | exact int_succ _ | assumption, ?_⟩)) (fun x5 j5 w5 hJ5 K5 hK5 => ?_)
  ·
    exact ⟨hS, Nat.zero_le _, Nat.le_refl _, (fun x hx => by omega), (fun x hx a ha => by rw [List.getElem?_eq_none hx] at ha; cases ha)⟩
  ·
    obtain ⟨i, j⟩ := x5
    obtain ⟨hS5, hij, hj, hlo, hhi⟩ := hJ5
    try dsimp only at hS5 hij hj hlo hhi ⊢
    refine wp_seq_k (fun K6 hK6 => ?_)
    refine wp_seq_k (fun K7 hK7 => ?_)
    refine wp_region_lit ?_
    refine l_q rfl rfl (q_moveI rfl) ?_
    refine l_q rfl rfl (q_moveI rfl) ?_
    refine l_q rfl rfl (q_lss rfl rfl) ?_
    refine l_nil ?_
    refine hK7 _ _ ?_
    refine c_cond rfl (fun hc8 => ?_) (fun hc8 => ?_)
    ·
      have hc8b := hc8
      try simp only [decide_eq_true_eq, decide_eq_false_iff_not, Bool.not_eq_true', Bool.not_eq_false', Bool.and_eq_true, Bool.or_eq_true, Int.not_lt, Int.not_le, ne_eq, Decidable.not_not] at hc8
      refine wp_skip ?_
      refine hK6 _ _ ?_
      refine wp_block ?_
      refine wp_seq_k (fun K9 hK9 => ?_)
      refine wp_region_lit ?_
      refine l_q rfl rfl (q_moveI rfl) ?_
      refine l_q rfl rfl (q_moveI rfl) ?_
      refine l_q rfl rfl (q_addx rfl rfl (by first | decide | omega) (by first | decide | omega)) ?_
      refine l_q rfl rfl (q_convN (a := (i + j)) (int_nat (by omega) rfl) (by kernel_rfl) (by kernel_rfl) (wrap_fit_u64 (by omega))) ?_
      refine l_q rfl rfl (q_shrN (k := .u64) (a := (i + j)) (b := 1) rfl rfl (by decide)) ?_
      refine l_q rfl rfl (q_convN (a := ((i + j) / 2 ^ 1)) rfl (by kernel_rfl) (by kernel_rfl) (wrap_fit_i64 (by omega))) ?_
      refine l_q rfl rfl (q_assignI rfl) ?_
      refine l_nil ?_
      refine hK9 _ _ ?_
      refine wp_seq_k (fun K10 hK10 => ?_)
      refine wp_region_lit ?_
      refine l_q rfl rfl (q_move rfl) ?_
      refine l_q rfl rfl (q_moveS rfl) ?_
      refine l_q rfl rfl (q_moveI rfl) ?_
      refine l_q rfl rfl (q_ixG (e := 41) (m := 2) (j := ((i + j) / 2 ^ 1)) rfl rfl (by kernel_rfl) (by kernel_rfl) (by first | rfl | omega) (by omega) hG (by rw [rows_len (c := en) (m := 2) (fun _ => rfl)]; first | omega | (simp only [List.length_append, List.length_map, List.length_cons, List.length_nil, List.length_take, List.length_drop, List.length_set] <;> omega))) ?_
      obtain ⟨x11, hx11⟩ : ∃ x, (es)[((i + j) / 2 ^ 1)]? = some x := ⟨_, List.getElem?_eq_getElem (by first | omega | (simp only [List.length_append, List.length_map, List.length_cons, List.length_nil, List.length_take, List.length_drop, List.length_set] <;> omega) | (simp <;> omega))⟩
      refine l_q rfl rfl (q_loadGA (m := 2) rfl (by kernel_rfl) (by kernel_rfl) (hG.mono hS5.base) (row_take hx11 (c := en) (m := 2) (fun _ => rfl)) rfl (by decide)) ?_
      refine l_q rfl rfl (q_moveS rfl) ?_
      refine l_e rfl (fun K hK => ?_)
      refine e_callV (by kernel_rfl) rfl (ecmp_ok x11.kb key (hok x11 (List.mem_of_getElem? hx11)).2.1 hk x11.kb.length key.length (by first | omega | (simp only [List.length_append, List.length_map, List.length_cons, List.length_nil, List.length_take, List.length_drop, List.length_set] <;> omega)) (by first | omega | (simp only [List.length_append, List.length_map, List.length_cons, List.length_nil, List.length_take, List.length_drop, List.length_set] <;> omega)) _ _ _ _ _ _ _ _ ((hok x11 (List.mem_of_getElem? hx11)).1.mono hS5.base) (hG2.mono hS5.base)) rfl (after_R hS5 (fun v12 w12 hv12 hS12 => ?_))
      clear hS5
      obtain rfl := hv12
      refine hK _ _ ?_; clear hK K
      refine l_q rfl rfl (q_lss rfl rfl) ?_
      refine l_nil ?_
      refine hK10 _ _ ?_
      refine c_cond rfl (fun hc13 => ?_) (fun hc13 => ?_)
      ·
        have hc13b := hc13
        try simp only [decide_eq_true_eq, decide_eq_false_iff_not, Bool.not_eq_true', Bool.not_eq_false', Bool.and_eq_true, Bool.or_eq_true, Int.not_lt, Int.not_le, ne_eq, Decidable.not_not] at hc13
        refine wp_region_lit ?_
        refine l_q rfl rfl (q_moveI rfl) ?_
        refine l_q rfl rfl (q_addx rfl rfl (by first | decide | omega) (by first | decide | omega)) ?_
        refine l_q rfl rfl (q_assignI rfl) ?_
        refine l_nil ?_
        refine hK5 _ _ (came (⟨(((i + j) / 2 ^ 1) + 1), j⟩) (by repeat' (first | exact Agree.refl _ _ | refine Agree.up ?_ rfl | refine Agree.hav2 ?_ rfl | refine Agree.ups2 ?_ rfl)) (by repeat' (first | exact trivial | refine ⟨by first | rfl | exact int_succ _ | assumption, ?_⟩)) ?_)
        exact ⟨⟨hS12, (by show ((i + j) / 2 ^ 1) + 1 ≤ j; omega), hj, (fun q hq a ha => hu q ((i + j) / 2 ^ 1) a x11 (by omega) ha hx11 (cmpL_neg.1 (by omega))), hhi⟩, by (show j - (((i + j) / 2 ^ 1) + 1) < j - i); omega⟩
      ·
        have hc13b := hc13
        try simp only [decide_eq_true_eq, decide_eq_false_iff_not, Bool.not_eq_true', Bool.not_eq_false', Bool.and_eq_true, Bool.or_eq_true, Int.not_lt, Int.not_le, ne_eq, Decidable.not_not] at hc13
        refine wp_region_lit ?_
        refine l_q rfl rfl (q_moveI rfl) ?_
        refine l_q rfl rfl (q_assignI rfl) ?_
        refine l_nil ?_
        refine hK5 _ _ (came (⟨i, ((i + j) / 2 ^ 1)⟩) (by repeat' (first | exact Agree.refl _ _ | refine Agree.up ?_ rfl | refine Agree.hav2 ?_ rfl | refine Agree.ups2 ?_ rfl)) (by repeat' (first | exact trivial | refine ⟨by first | rfl | exact int_succ _ | assumption, ?_⟩)) ?_)
        exact ⟨⟨hS12, (by show i ≤ ((i + j) / 2 ^ 1); omega), (by show ((i + j) / 2 ^ 1) ≤ es.length; omega), hlo, (fun q hq a ha => by cases hb : bl a.kb key with | false => rfl | true => exfalso; have := cmpL_neg.2 (hu ((i + j) / 2 ^ 1) q x11 a hq hx11 ha hb); omega)⟩, by (show ((i + j) / 2 ^ 1) - i < j - i); omega⟩
    ·
      have hc8b := hc8
      try simp only [decide_eq_true_eq, decide_eq_false_iff_not, Bool.not_eq_true', Bool.not_eq_false', Bool.and_eq_true, Bool.or_eq_true, Int.not_lt, Int.not_le, ne_eq, Decidable.not_not] at hc8
      have hee : i = j := by omega
      refine wp_exit ?_
      refine hK4 _ _ ?_
      refine wp_seq_k (fun K14 hK14 => ?_)
      refine wp_region_lit ?_
      refine l_q rfl rfl (q_moveI rfl) ?_
      refine l_q rfl rfl (q_moveI rfl) ?_
      refine l_q rfl rfl (q_moveI rfl) ?_
      refine l_q rfl rfl (q_lss rfl rfl) ?_
      refine l_q rfl rfl (q_moveB rfl) ?_
      refine g_splitL (t := 39) rfl (fun hg15 => ?_) (fun hg15 => ?_)
      ·
        have hg15b := hg15
        try simp only [decide_eq_true_eq, decide_eq_false_iff_not, Bool.not_eq_true', Bool.not_eq_false', Bool.and_eq_true, Bool.or_eq_true, Int.not_lt, Int.not_le, ne_eq, Decidable.not_not] at hg15
        refine l_on rfl rfl hg15b ?_
        refine l_q rfl rfl (q_move rfl) ?_
        refine l_on rfl rfl hg15b ?_
        refine l_q rfl rfl (q_moveS rfl) ?_
        refine l_on rfl rfl hg15b ?_
        refine l_q rfl rfl (q_moveI rfl) ?_
        refine l_on rfl rfl hg15b ?_
        refine l_q rfl rfl (q_ixG (e := 41) (m := 2) (j := i) rfl rfl (by kernel_rfl) (by kernel_rfl) (by first | rfl | omega) (by omega) hG (by rw [rows_len (c := en) (m := 2) (fun _ => rfl)]; first | omega | (simp only [List.length_append, List.length_map, List.length_cons, List.length_nil, List.length_take, List.length_drop, List.length_set] <;> omega))) ?_
        refine l_on rfl rfl hg15b ?_
        obtain ⟨x16, hx16⟩ : ∃ x, (es)[i]? = some x := ⟨_, List.getElem?_eq_getElem (by first | omega | (simp only [List.length_append, List.length_map, List.length_cons, List.length_nil, List.length_take, List.length_drop, List.length_set] <;> omega) | (simp <;> omega))⟩
        refine l_q rfl rfl (q_loadGA (m := 2) rfl (by kernel_rfl) (by kernel_rfl) (hG.mono hS5.base) (row_take hx16 (c := en) (m := 2) (fun _ => rfl)) rfl (by decide)) ?_
        refine l_on rfl rfl hg15b ?_
        refine l_q rfl rfl (q_moveS rfl) ?_
        refine l_on rfl rfl hg15b ?_
        refine l_e rfl (fun K hK => ?_)
        refine e_callV (by kernel_rfl) rfl (ecmp_ok x16.kb key (hok x16 (List.mem_of_getElem? hx16)).2.1 hk x16.kb.length key.length (by first | omega | (simp only [List.length_append, List.length_map, List.length_cons, List.length_nil, List.length_take, List.length_drop, List.length_set] <;> omega)) (by first | omega | (simp only [List.length_append, List.length_map, List.length_cons, List.length_nil, List.length_take, List.length_drop, List.length_set] <;> omega)) _ _ _ _ _ _ _ _ ((hok x16 (List.mem_of_getElem? hx16)).1.mono hS5.base) (hG2.mono hS5.base)) rfl (after_R hS5 (fun v17 w17 hv17 hS17 => ?_))
        clear hS5
        obtain rfl := hv17
        refine hK _ _ ?_; clear hK K
        refine l_on rfl rfl hg15b ?_
        refine l_q rfl rfl (q_eql rfl rfl) ?_
        refine l_q rfl rfl (q_pickT rfl hg15b rfl) ?_
        refine l_q rfl rfl (q_assignI rfl) ?_
        refine l_q rfl rfl (q_assignB rfl) ?_
        refine l_nil ?_
        refine hK14 _ _ ?_
        refine wp_ret ?_
        refine c_ret2 rfl rfl rfl ?_
        exact ⟨_, rfl, ⟨i, _, rfl, (by omega), hlo, (fun q hq a ha => hhi q (by omega) a ha), by rw [decide_eq_true_eq, cmpL_zero]; exact ⟨fun h => ⟨_, hx16, h⟩, fun ⟨a, ha, h⟩ => by rw [hx16] at ha; injection ha with ha; rw [ha]; exact h⟩⟩, hS17.drop⟩
      ·
        have hg15b := hg15
        try simp only [decide_eq_true_eq, decide_eq_false_iff_not, Bool.not_eq_true', Bool.not_eq_false', Bool.and_eq_true, Bool.or_eq_true, Int.not_lt, Int.not_le, ne_eq, Decidable.not_not] at hg15
        refine l_off rfl rfl rfl hg15b ?_
        refine l_off rfl rfl rfl hg15b ?_
        refine l_off rfl rfl rfl hg15b ?_
        refine l_off rfl rfl rfl hg15b ?_
        refine l_off rfl rfl rfl hg15b ?_
        refine l_off rfl rfl rfl hg15b ?_
        refine l_off rfl rfl rfl hg15b ?_
        refine l_off rfl rfl rfl hg15b ?_
        refine l_q rfl rfl (q_pickF rfl hg15b rfl) ?_
        refine l_q rfl rfl (q_assignI rfl) ?_
        refine l_q rfl rfl (q_assignB rfl) ?_
        refine l_nil ?_
        refine hK14 _ _ ?_
        refine wp_ret ?_
        refine c_ret2 rfl rfl rfl ?_
        exact ⟨_, rfl, ⟨i, _, rfl, (by omega), hlo, (fun q hq a ha => hhi q (by omega) a ha), by simp only [Bool.false_eq_true, false_iff]; rintro ⟨a, ha, _⟩; have := (List.getElem?_eq_some_iff.1 ha).1; omega⟩, hS5.drop⟩

end Go.Proofs.Ytmbbkliekgiolaa
