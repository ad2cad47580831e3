/- FaultPlays: its walk; ref01's Same and Has. -/
import Derived.Test.YtdlmcgflgdmjgaaDoorG3
set_option linter.unusedVariables false
set_option linter.unusedSimpArgs false
namespace Go.Proofs.YtdlmcgflgdmjgaaDoor
open Go.RowKit
theorem iv_codes {e : Er} {k : Nat} {q : Int × Int} (h : e.list[k]? = some q) : (iv e.codes)[k]? = some (.int .i64 q.1) := by rw [iv, Er.codes, List.getElem?_map, List.getElem?_map, h]; rfl
theorem iv_places {e : Er} {k : Nat} {q : Int × Int} (h : e.list[k]? = some q) : (iv e.places)[k]? = some (.int .i64 q.2) := by rw [iv, Er.places, List.getElem?_map, List.getElem?_map, h]; rfl
theorem iv_codes_eq (e : Er) : (e.list.map fun q => Value.int .i64 q.1) = iv e.codes := by rw [iv, Er.codes, List.map_map]; rfl
theorem iv_places_eq (e : Er) : (e.list.map fun q => Value.int .i64 q.2) = iv e.places := by rw [iv, Er.places, List.map_map]; rfl
theorem cell_i {w : World} {b off k : Nat} {v : Value} (h : w.cell? ⟨b, off + k, none⟩ = some v) : w.cell? ⟨b, off + (k : Int).toNat * 1, none⟩ = some v := by rw [Nat.mul_one]; exact h
theorem own_SlR {w : World} {e : TypeId} {size m len cap : Nat} {ad : Option Addr} {xs : List Value} (ho : w.ownsRow 0 e size (.slice ad len cap) m xs) : SlR (Ro w fun _ => False) w ad xs := by
  rcases ho.2 with ⟨he, h0⟩ | ⟨gb, cap', cur, he, _, hg, hle, _, hcs, htk⟩
  · have := ho.1; rw [h0] at this; exact .inl (List.eq_nil_of_length_eq_zero (by simpa using this))
  · injection he with he1 he2 he3
    subst he1
    refine .inr ⟨gb, 0, cur, _, _, rfl, ⟨(Array.getElem?_eq_some_iff.1 hg).1, id⟩, hg, fun j u hu => ?_⟩
    rw [← htk, List.getElem?_take] at hu
    split at hu
    · simpa using hu
    · cases hu
theorem pool_slr {w0 w : World} {D : Nat → Prop} {Γ : List Ch} {i : Nat} {bs : List Nat} {es : List (Value × Er)} {ss : List (Option Addr × List Value)} (h : St w0 D Γ w) (hi : Γ[i]? = some (.pool bs es ss)) {ad : Option Addr} {cs : List Value} (hm : (ad, cs) ∈ ss) : SlR (Ro w fun _ => False) w ad cs :=
  ((h.sat.get hi).1.2 _ hm).mono fun k hk => ⟨⟨((h.sat.get hi).2 k hk).2, id⟩, rfl⟩
theorem nil_len {e : Er} (hg : e.Good) {v : Value} (h : isNilB v = e.isNil) : isNilB v = decide (((e.list.length : Nat) : Int) = 0) := by
  rw [h]
  cases hn : e.isNil with
  | true => rw [(Er.list_nil hg).2 hn]; rfl
  | false =>
    symm; rw [decide_eq_false_iff_not]
    intro h0
    have h1 : e.list = [] := List.eq_nil_of_length_eq_zero (by omega)
    rw [(Er.list_nil hg).1 h1] at hn; cases hn
abbrev mO (e : Er) (ca pa : Option Addr) (cc pc : Nat) : Value := .agg #[.slice ca e.list.length cc, .slice pa e.list.length pc, .int .i64 (e.deep : Int)]
attribute [local irreducible] Oper.wp Sem.run Code.wp wpList wpAnyO callFunc execOp Calls

set_option maxRecDepth 100000 in
theorem rHas_ok (e : Er) (ca pa : Option Addr) (cc pc : Nat) (hn : e.list.length ≤ 1000000) (c : Int) (w : World) (hc : SlR (Ro w (fun _ => False)) w ca (iv e.codes)) : Calls Tryd.prog 27 #[mO e ca pa cc pc, .int .i64 c] w (PostR w fun v => v = .bool (e.has c)) := by
  have hS := St.start w
  refine c_enter Tryd.func27 rfl rfl rfl ?_
  refine wp_seq_k (fun K1 hK1 => ?_)
  refine wp_region_lit ?_
  refine l_e rfl (fun K hK => ?_)
  first | refine e_boxA hS rfl (fun b2 w2 hS2 => ?_) | refine e_box hS rfl (fun b2 w2 hS2 => ?_)
  clear hS
  refine hK _ _ ?_; clear hK K
  first | refine l_q rfl rfl (q_assignB rfl) ?_ | refine l_q rfl rfl (q_assign rfl) ?_
  refine l_nil ?_
  refine hK1 _ _ ?_
  refine wp_seq_k (fun K3 hK3 => ?_)
  refine wp_seq_k (fun K4 hK4 => ?_)
  refine wp_region_lit ?_
  first | refine l_q rfl rfl (q_assignI rfl) ?_ | refine l_q rfl rfl (q_assign rfl) ?_
  refine l_nil ?_
  refine hK4 _ _ ?_
  refine wp_block ?_
  refine c_loop (τ := Nat × Unit) [(4, 19)] (fun x => [(5, .int .i64 ((x.1 : Nat) : Int))]) (fun x w' => St w (fun _ => False) [.blk b2 (.cells #[.slice ca e.list.length cc, .slice pa e.list.length pc, .int .i64 (e.deep : Int)] 46)] w' ∧ x.1 ≤ e.list.length ∧ hasTo e c x.1 = false) (fun x => e.list.length - x.1) ((0, ())) ?_ (by repeat' (first | exact trivial | refine ⟨by first | rfl | exact int_succ _, ?_⟩)) (fun x5 j5 w5 hJ5 K5 hK5 => ?_)
  ·
    exact ⟨hS2, Nat.zero_le _, rfl⟩
  ·
    obtain ⟨k, u⟩ := x5; obtain ⟨hS5, hk, hhb⟩ := hJ5; dsimp only at hk hhb hS5 ⊢
    refine wp_seq_k (fun K6 hK6 => ?_)
    refine wp_seq_k (fun K7 hK7 => ?_)
    refine wp_region_lit ?_
    first | refine l_q rfl rfl (q_moveI rfl) ?_ | refine l_q rfl rfl (q_move rfl) ?_
    refine l_q rfl rfl (q_fieldAddr (ft := 30) (o := 0) rfl (by kernel_rfl)) ?_
    refine l_q rfl rfl (q_load1 rfl (by kernel_rfl) (by first | exact hS5.cell (i := 0) rfl rfl | exact hS5.cell (i := 1) rfl rfl | exact hS5.cell (i := 2) rfl rfl | exact hS5.cell (i := 3) rfl rfl | exact hS5.cell (i := 4) rfl rfl | exact hS5.cell (i := 5) rfl rfl | exact hS5.cell (i := 6) rfl rfl | exact hS5.cell (i := 7) rfl rfl | assumption)) ?_
    refine l_q rfl rfl (q_lenSl (e := 23) rfl (by kernel_rfl)) ?_
    refine l_q rfl rfl (q_lss rfl rfl) ?_
    refine l_nil ?_
    refine hK7 _ _ ?_
    refine c_cond rfl (fun hc8 => ?_) (fun hc8 => ?_)
    ·
      have hc8b := hc8
      try simp only [decide_eq_true_eq, decide_eq_false_iff_not, Bool.not_eq_true', Bool.not_eq_false', Bool.and_eq_true, Bool.or_eq_true, Int.not_lt, Int.not_le, ne_eq, Decidable.not_not] at hc8
      have hlk := hc8
      obtain ⟨q, hq⟩ : ∃ q, e.list[k]? = some q := ⟨_, List.getElem?_eq_getElem (by omega)⟩
      have hsu := hasTo_succ (c := c) hq
      obtain ⟨xb, xo, xe, xx⟩ := (hc.ro hS5).at (i := k) (u := _) (iv_codes hq)
      subst xe
      refine wp_skip ?_
      refine hK6 _ _ ?_
      refine wp_seq_k (fun K9 hK9 => ?_)
      refine wp_block ?_
      refine wp_seq_k (fun K10 hK10 => ?_)
      refine wp_region_lit ?_
      refine l_q rfl rfl (q_fieldAddr (ft := 30) (o := 0) rfl (by kernel_rfl)) ?_
      refine l_q rfl rfl (q_load1 rfl (by kernel_rfl) (by first | exact hS5.cell (i := 0) rfl rfl | exact hS5.cell (i := 1) rfl rfl | exact hS5.cell (i := 2) rfl rfl | exact hS5.cell (i := 3) rfl rfl | exact hS5.cell (i := 4) rfl rfl | exact hS5.cell (i := 5) rfl rfl | exact hS5.cell (i := 6) rfl rfl | exact hS5.cell (i := 7) rfl rfl | assumption)) ?_
      first | refine l_q rfl rfl (q_moveI rfl) ?_ | refine l_q rfl rfl (q_move rfl) ?_
      refine l_q rfl rfl (q_indexAddr (e := 23) (m := 1) rfl rfl (by kernel_rfl) (by kernel_rfl) (by first | decide | omega) (by first | decide | omega)) ?_
      refine l_q rfl rfl (q_load1 rfl (by kernel_rfl) (cell_i xx)) ?_
      first | refine l_q rfl rfl (q_moveI rfl) ?_ | refine l_q rfl rfl (q_move rfl) ?_
      refine l_q rfl rfl (q_eql rfl rfl) ?_
      refine l_nil ?_
      refine hK10 _ _ ?_
      refine c_cond rfl (fun hc11 => ?_) (fun hc11 => ?_)
      ·
        have hc11b := hc11
        try simp only [decide_eq_true_eq, decide_eq_false_iff_not, Bool.not_eq_true', Bool.not_eq_false', Bool.and_eq_true, Bool.or_eq_true, Int.not_lt, Int.not_le, ne_eq, Decidable.not_not] at hc11
        have hqc := hc11
        refine wp_seq_k (fun K12 hK12 => ?_)
        refine wp_region_lit ?_
        first | refine l_q rfl rfl (q_assignB rfl) ?_ | refine l_q rfl rfl (q_assign rfl) ?_
        refine l_nil ?_
        refine hK12 _ _ ?_
        refine wp_ret ?_
        refine c_ret1 rfl rfl ?_
        exact ⟨_, rfl, (show Value.bool true = Value.bool (e.has c) from by rw [← hqc, has_mem hq]), hS5.drop⟩
      ·
        have hc11b := hc11
        try simp only [decide_eq_true_eq, decide_eq_false_iff_not, Bool.not_eq_true', Bool.not_eq_false', Bool.and_eq_true, Bool.or_eq_true, Int.not_lt, Int.not_le, ne_eq, Decidable.not_not] at hc11
        have hnq := hc11
        refine wp_skip ?_
        refine hK9 _ _ ?_
        refine wp_region_lit ?_
        first | refine l_q rfl rfl (q_moveI rfl) ?_ | refine l_q rfl rfl (q_move rfl) ?_
        first | refine l_q rfl rfl (q_addx rfl rfl (by first | decide | omega) (by first | decide | omega)) ?_ | refine l_q rfl rfl (q_add rfl rfl) ?_
        first | refine l_q rfl rfl (q_assignI rfl) ?_ | refine l_q rfl rfl (q_assign rfl) ?_
        refine l_nil ?_
        refine hK5 _ _ (came ((k + 1, ())) (by repeat' (first | exact Agree.refl _ _ | refine Agree.up ?_ rfl | refine Agree.hav2 ?_ rfl | refine Agree.ups2 ?_ rfl)) (by repeat' (first | exact trivial | refine ⟨by first | rfl | exact int_succ _, ?_⟩)) ?_)
        exact ⟨⟨hS5, by (show k + 1 ≤ e.list.length); omega, by (show hasTo e c (k + 1) = false); rw [hsu, hhb, decide_eq_false hnq]; rfl⟩, by (show e.list.length - (k + 1) < e.list.length - k); omega⟩
    ·
      have hc8b := hc8
      try simp only [decide_eq_true_eq, decide_eq_false_iff_not, Bool.not_eq_true', Bool.not_eq_false', Bool.and_eq_true, Bool.or_eq_true, Int.not_lt, Int.not_le, ne_eq, Decidable.not_not] at hc8
      have hlk := hc8
      rw [hasTo_all e c (by omega)] at hhb
      refine wp_exit ?_
      refine hK3 _ _ ?_
      refine wp_seq_k (fun K13 hK13 => ?_)
      refine wp_region_lit ?_
      first | refine l_q rfl rfl (q_assignB rfl) ?_ | refine l_q rfl rfl (q_assign rfl) ?_
      refine l_nil ?_
      refine hK13 _ _ ?_
      refine wp_ret ?_
      refine c_ret1 rfl rfl ?_
      exact ⟨_, rfl, (show Value.bool false = Value.bool (e.has c) from by rw [hhb]), hS5.drop⟩

set_option maxRecDepth 100000 in
theorem rSame_ok (e : Er) (c1 p1 ca pa : Option Addr) (d1 d2 cc pc : Nat) (hn : e.list.length ≤ 1000000) (w : World) (hc1 : SlR (Ro w (fun _ => False)) w c1 (iv e.codes)) (hp1 : SlR (Ro w (fun _ => False)) w p1 (iv e.places)) (hc : SlR (Ro w (fun _ => False)) w ca (iv e.codes)) (hp : SlR (Ro w (fun _ => False)) w pa (iv e.places)) : Calls Tryd.prog 26 #[.slice c1 e.list.length d1, .slice p1 e.list.length d2, mO e ca pa cc pc] w (PostR w fun v => v = .bool true) := by
  have hS := St.start w
  refine c_enter Tryd.func26 rfl rfl rfl ?_
  refine wp_seq_k (fun K1 hK1 => ?_)
  refine wp_region_lit ?_
  refine l_e rfl (fun K hK => ?_)
  first | refine e_boxA hS rfl (fun b2 w2 hS2 => ?_) | refine e_box hS rfl (fun b2 w2 hS2 => ?_)
  clear hS
  refine hK _ _ ?_; clear hK K
  first | refine l_q rfl rfl (q_assignB rfl) ?_ | refine l_q rfl rfl (q_assign rfl) ?_
  refine l_nil ?_
  refine hK1 _ _ ?_
  refine wp_seq_k (fun K3 hK3 => ?_)
  refine wp_seq_k (fun K4 hK4 => ?_)
  refine wp_region_lit ?_
  first | refine l_q rfl rfl (q_moveS rfl) ?_ | refine l_q rfl rfl (q_move rfl) ?_
  refine l_q rfl rfl (q_lenSl (e := 23) rfl (by kernel_rfl)) ?_
  refine l_q rfl rfl (q_fieldAddr (ft := 30) (o := 0) rfl (by kernel_rfl)) ?_
  refine l_q rfl rfl (q_load1 rfl (by kernel_rfl) (by first | exact hS2.cell (i := 0) rfl rfl | exact hS2.cell (i := 1) rfl rfl | exact hS2.cell (i := 2) rfl rfl | exact hS2.cell (i := 3) rfl rfl | exact hS2.cell (i := 4) rfl rfl | exact hS2.cell (i := 5) rfl rfl | exact hS2.cell (i := 6) rfl rfl | exact hS2.cell (i := 7) rfl rfl | assumption)) ?_
  refine l_q rfl rfl (q_lenSl (e := 23) rfl (by kernel_rfl)) ?_
  refine l_q rfl rfl (q_neq rfl rfl) ?_
  first | refine l_q rfl rfl (q_moveB rfl) ?_ | refine l_q rfl rfl (q_move rfl) ?_
  refine l_on rfl rfl (decide_eq_false (fun hh => hh rfl)) ?_
  first | refine l_q rfl rfl (q_moveS rfl) ?_ | refine l_q rfl rfl (q_move rfl) ?_
  refine l_on rfl rfl (decide_eq_false (fun hh => hh rfl)) ?_
  refine l_q rfl rfl (q_lenSl (e := 3) rfl (by kernel_rfl)) ?_
  refine l_on rfl rfl (decide_eq_false (fun hh => hh rfl)) ?_
  refine l_q rfl rfl (q_fieldAddr (ft := 37) (o := 1) rfl (by kernel_rfl)) ?_
  refine l_on rfl rfl (decide_eq_false (fun hh => hh rfl)) ?_
  refine l_q rfl rfl (q_load1 rfl (by kernel_rfl) (by first | exact hS2.cell (i := 0) rfl rfl | exact hS2.cell (i := 1) rfl rfl | exact hS2.cell (i := 2) rfl rfl | exact hS2.cell (i := 3) rfl rfl | exact hS2.cell (i := 4) rfl rfl | exact hS2.cell (i := 5) rfl rfl | exact hS2.cell (i := 6) rfl rfl | exact hS2.cell (i := 7) rfl rfl | assumption)) ?_
  refine l_on rfl rfl (decide_eq_false (fun hh => hh rfl)) ?_
  refine l_q rfl rfl (q_lenSl (e := 3) rfl (by kernel_rfl)) ?_
  refine l_on rfl rfl (decide_eq_false (fun hh => hh rfl)) ?_
  refine l_q rfl rfl (q_neq rfl rfl) ?_
  refine l_q rfl rfl (q_pickF rfl (decide_eq_false (fun hh => hh rfl)) rfl) ?_
  refine l_nil ?_
  refine hK4 _ _ ?_
  refine c_condF rfl (decide_eq_false (fun hh => hh rfl)) ?_
  refine wp_skip ?_
  refine hK3 _ _ ?_
  refine wp_seq_k (fun K6 hK6 => ?_)
  refine wp_seq_k (fun K7 hK7 => ?_)
  refine wp_region_lit ?_
  first | refine l_q rfl rfl (q_assignI rfl) ?_ | refine l_q rfl rfl (q_assign rfl) ?_
  refine l_nil ?_
  refine hK7 _ _ ?_
  refine wp_block ?_
  refine c_loop (τ := Nat × Unit) [(6, 7), (22, 49)] (fun x => [(7, .int .i64 ((x.1 : Nat) : Int))]) (fun x w' => St w (fun _ => False) [.blk b2 (.cells #[.slice ca e.list.length cc, .slice pa e.list.length pc, .int .i64 (e.deep : Int)] 46)] w' ∧ x.1 ≤ e.list.length) (fun x => e.list.length - x.1) ((0, ())) ?_ (by repeat' (first | exact trivial | refine ⟨by first | rfl | exact int_succ _, ?_⟩)) (fun x8 j8 w8 hJ8 K8 hK8 => ?_)
  ·
    exact ⟨hS2, Nat.zero_le _⟩
  ·
    obtain ⟨k, u⟩ := x8; obtain ⟨hS8, hk⟩ := hJ8; dsimp only at hk hS8 ⊢
    refine wp_seq_k (fun K9 hK9 => ?_)
    refine wp_seq_k (fun K10 hK10 => ?_)
    refine wp_region_lit ?_
    first | refine l_q rfl rfl (q_moveI rfl) ?_ | refine l_q rfl rfl (q_move rfl) ?_
    first | refine l_q rfl rfl (q_moveS rfl) ?_ | refine l_q rfl rfl (q_move rfl) ?_
    refine l_q rfl rfl (q_lenSl (e := 23) rfl (by kernel_rfl)) ?_
    refine l_q rfl rfl (q_lss rfl rfl) ?_
    refine l_nil ?_
    refine hK10 _ _ ?_
    refine c_cond rfl (fun hc11 => ?_) (fun hc11 => ?_)
    ·
      have hc11b := hc11
      try simp only [decide_eq_true_eq, decide_eq_false_iff_not, Bool.not_eq_true', Bool.not_eq_false', Bool.and_eq_true, Bool.or_eq_true, Int.not_lt, Int.not_le, ne_eq, Decidable.not_not] at hc11
      have hlk := hc11
      obtain ⟨q, hq⟩ : ∃ q, e.list[k]? = some q := ⟨_, List.getElem?_eq_getElem (by omega)⟩
      refine wp_skip ?_
      refine hK9 _ _ ?_
      refine wp_seq_k (fun K12 hK12 => ?_)
      refine wp_block ?_
      refine wp_seq_k (fun K13 hK13 => ?_)
      refine r_any (by kernel_rfl) hS8 (fun w14 hS14 => ?_)
      clear hS8
      obtain ⟨xb, xo, xe, xx⟩ := (hc.ro hS14).at (i := k) (u := _) (iv_codes hq)
      obtain ⟨yb, yo, ye, yx⟩ := (hp.ro hS14).at (i := k) (u := _) (iv_places hq)
      obtain ⟨zb, zo, ze, zx⟩ := (hc1.ro hS14).at (i := k) (u := _) (iv_codes hq)
      obtain ⟨tb, to, te, tx⟩ := (hp1.ro hS14).at (i := k) (u := _) (iv_places hq)
      subst xe ye ze te
      first | refine o_pure (i := 0) (fun _ _ => trivial) rfl rfl (by kernel_rfl) (goes0 rfl) (QOk.then (QOk.inBlock (QOk.then (QOk.then (QOk.inBlock (QOk.then QOk.body)))))) (fun w => q_moveS rfl) ?_ | refine o_pure (i := 0) (fun _ _ => trivial) rfl rfl (by kernel_rfl) (goes0 rfl) (QOk.then (QOk.inBlock (QOk.then (QOk.then (QOk.inBlock (QOk.then QOk.body)))))) (fun w => q_move rfl) ?_
      first | refine o_pure (i := 1) (fun _ _ => trivial) rfl rfl (by kernel_rfl) (goes0 rfl) (QOk.then (QOk.inBlock (QOk.then (QOk.then (QOk.inBlock (QOk.then QOk.body)))))) (fun w => q_moveI rfl) ?_ | refine o_pure (i := 1) (fun _ _ => trivial) rfl rfl (by kernel_rfl) (goes0 rfl) (QOk.then (QOk.inBlock (QOk.then (QOk.then (QOk.inBlock (QOk.then QOk.body)))))) (fun w => q_move rfl) ?_
      refine o_pure (i := 2) (fun _ _ => trivial) rfl rfl (by kernel_rfl) (goes0 rfl) (QOk.then (QOk.inBlock (QOk.then (QOk.then (QOk.inBlock (QOk.then QOk.body)))))) (fun w => q_indexAddr (e := 23) (m := 1) rfl rfl (by kernel_rfl) (by kernel_rfl) (by first | decide | omega) (by first | decide | omega)) ?_
      refine o_held (i := 3) [9, 10, 11, 12, 13, 14, 15, 16, 17, 18, 19, 20, 21] (fun _ _ => trivial) rfl rfl (by kernel_rfl) (goes0 rfl) (QOk.then (QOk.inBlock (QOk.then (QOk.then (QOk.inBlock (QOk.then QOk.body)))))) (q_load1 rfl (by kernel_rfl) (cell_i zx)) ?_
      refine o_pure (i := 4) (fun j w => ⟨(fun _ _ => trivial) j w, fun _ h => h⟩) rfl rfl (by kernel_rfl) (goes0 rfl) (QOk.then (QOk.inBlock (QOk.then (QOk.then (QOk.inBlock (QOk.then QOk.body)))))) (fun w => q_fieldAddr (ft := 30) (o := 0) rfl (by kernel_rfl)) ?_
      refine o_held (i := 5) [7, 8, 9, 10, 11, 12, 13, 14, 15, 16, 17, 18, 19, 20, 21] (fun j w => ⟨(fun _ _ => trivial) j w, fun _ h => h⟩) rfl rfl (by kernel_rfl) (goes0 rfl) (QOk.then (QOk.inBlock (QOk.then (QOk.then (QOk.inBlock (QOk.then QOk.body)))))) (q_load1 rfl (by kernel_rfl) (by first | exact hS14.cell (i := 0) rfl rfl | exact hS14.cell (i := 1) rfl rfl | exact hS14.cell (i := 2) rfl rfl | exact hS14.cell (i := 3) rfl rfl | exact hS14.cell (i := 4) rfl rfl | exact hS14.cell (i := 5) rfl rfl | exact hS14.cell (i := 6) rfl rfl | exact hS14.cell (i := 7) rfl rfl | assumption)) ?_
      first | refine o_pure (i := 6) (fun j w => ⟨(fun j w => ⟨(fun _ _ => trivial) j w, fun _ h => h⟩) j w, fun _ h => h⟩) rfl rfl (by kernel_rfl) (goes0 rfl) (QOk.then (QOk.inBlock (QOk.then (QOk.then (QOk.inBlock (QOk.then QOk.body)))))) (fun w => q_moveI rfl) ?_ | refine o_pure (i := 6) (fun j w => ⟨(fun j w => ⟨(fun _ _ => trivial) j w, fun _ h => h⟩) j w, fun _ h => h⟩) rfl rfl (by kernel_rfl) (goes0 rfl) (QOk.then (QOk.inBlock (QOk.then (QOk.then (QOk.inBlock (QOk.then QOk.body)))))) (fun w => q_move rfl) ?_
      refine o_pure (i := 7) (fun j w => ⟨(fun j w => ⟨(fun _ _ => trivial) j w, fun _ h => h⟩) j w, fun _ h => h⟩) rfl rfl (by kernel_rfl) (goes0 rfl) (QOk.then (QOk.inBlock (QOk.then (QOk.then (QOk.inBlock (QOk.then QOk.body)))))) (fun w => q_indexAddr (e := 23) (m := 1) rfl rfl (by kernel_rfl) (by kernel_rfl) (by first | decide | omega) (by first | decide | omega)) ?_
      refine o_held (i := 8) [9, 10, 11, 12, 13, 14, 15, 16, 17, 18, 19, 20, 21] (fun j w => ⟨(fun j w => ⟨(fun _ _ => trivial) j w, fun _ h => h⟩) j w, fun _ h => h⟩) rfl rfl (by kernel_rfl) (goes0 rfl) (QOk.then (QOk.inBlock (QOk.then (QOk.then (QOk.inBlock (QOk.then QOk.body)))))) (q_load1 rfl (by kernel_rfl) (cell_i xx)) ?_
      refine o_pure (i := 9) (fun j w => ⟨(fun j w => ⟨(fun j w => ⟨(fun _ _ => trivial) j w, fun _ h => h⟩) j w, fun _ h => h⟩) j w, fun _ h => h⟩) rfl rfl (by kernel_rfl) (goes0 rfl) (QOk.then (QOk.inBlock (QOk.then (QOk.then (QOk.inBlock (QOk.then QOk.body)))))) (fun w => q_neq rfl rfl) ?_
      first | refine o_pure (i := 10) (fun j w => ⟨(fun j w => ⟨(fun j w => ⟨(fun _ _ => trivial) j w, fun _ h => h⟩) j w, fun _ h => h⟩) j w, fun _ h => h⟩) rfl rfl (by kernel_rfl) (goes0 rfl) (QOk.then (QOk.inBlock (QOk.then (QOk.then (QOk.inBlock (QOk.then QOk.body)))))) (fun w => q_moveB rfl) ?_ | refine o_pure (i := 10) (fun j w => ⟨(fun j w => ⟨(fun j w => ⟨(fun _ _ => trivial) j w, fun _ h => h⟩) j w, fun _ h => h⟩) j w, fun _ h => h⟩) rfl rfl (by kernel_rfl) (goes0 rfl) (QOk.then (QOk.inBlock (QOk.then (QOk.then (QOk.inBlock (QOk.then QOk.body)))))) (fun w => q_move rfl) ?_
      first | refine o_pure (i := 11) (fun j w => ⟨(fun j w => ⟨(fun j w => ⟨(fun _ _ => trivial) j w, fun _ h => h⟩) j w, fun _ h => h⟩) j w, fun _ h => h⟩) rfl rfl (by kernel_rfl) (goes1 rfl rfl (decide_eq_false (fun hh => hh rfl))) (QOk.then (QOk.inBlock (QOk.then (QOk.then (QOk.inBlock (QOk.then QOk.body)))))) (fun w => q_moveS rfl) ?_ | refine o_pure (i := 11) (fun j w => ⟨(fun j w => ⟨(fun j w => ⟨(fun _ _ => trivial) j w, fun _ h => h⟩) j w, fun _ h => h⟩) j w, fun _ h => h⟩) rfl rfl (by kernel_rfl) (goes1 rfl rfl (decide_eq_false (fun hh => hh rfl))) (QOk.then (QOk.inBlock (QOk.then (QOk.then (QOk.inBlock (QOk.then QOk.body)))))) (fun w => q_move rfl) ?_
      first | refine o_pure (i := 12) (fun j w => ⟨(fun j w => ⟨(fun j w => ⟨(fun _ _ => trivial) j w, fun _ h => h⟩) j w, fun _ h => h⟩) j w, fun _ h => h⟩) rfl rfl (by kernel_rfl) (goes1 rfl rfl (decide_eq_false (fun hh => hh rfl))) (QOk.then (QOk.inBlock (QOk.then (QOk.then (QOk.inBlock (QOk.then QOk.body)))))) (fun w => q_moveI rfl) ?_ | refine o_pure (i := 12) (fun j w => ⟨(fun j w => ⟨(fun j w => ⟨(fun _ _ => trivial) j w, fun _ h => h⟩) j w, fun _ h => h⟩) j w, fun _ h => h⟩) rfl rfl (by kernel_rfl) (goes1 rfl rfl (decide_eq_false (fun hh => hh rfl))) (QOk.then (QOk.inBlock (QOk.then (QOk.then (QOk.inBlock (QOk.then QOk.body)))))) (fun w => q_move rfl) ?_
      refine o_pure (i := 13) (fun j w => ⟨(fun j w => ⟨(fun j w => ⟨(fun _ _ => trivial) j w, fun _ h => h⟩) j w, fun _ h => h⟩) j w, fun _ h => h⟩) rfl rfl (by kernel_rfl) (goes1 rfl rfl (decide_eq_false (fun hh => hh rfl))) (QOk.then (QOk.inBlock (QOk.then (QOk.then (QOk.inBlock (QOk.then QOk.body)))))) (fun w => q_indexAddr (e := 3) (m := 1) rfl rfl (by kernel_rfl) (by kernel_rfl) (by first | decide | omega) (by first | decide | omega)) ?_
      refine o_held (i := 14) [20, 21] (fun j w => ⟨(fun j w => ⟨(fun j w => ⟨(fun _ _ => trivial) j w, fun _ h => h⟩) j w, fun _ h => h⟩) j w, fun _ h => h⟩) rfl rfl (by kernel_rfl) (goes1 rfl rfl (decide_eq_false (fun hh => hh rfl))) (QOk.then (QOk.inBlock (QOk.then (QOk.then (QOk.inBlock (QOk.then QOk.body)))))) (q_load1 rfl (by kernel_rfl) (cell_i tx)) ?_
      refine o_pure (i := 15) (fun j w => ⟨(fun j w => ⟨(fun j w => ⟨(fun j w => ⟨(fun _ _ => trivial) j w, fun _ h => h⟩) j w, fun _ h => h⟩) j w, fun _ h => h⟩) j w, fun _ h => h⟩) rfl rfl (by kernel_rfl) (goes1 rfl rfl (decide_eq_false (fun hh => hh rfl))) (QOk.then (QOk.inBlock (QOk.then (QOk.then (QOk.inBlock (QOk.then QOk.body)))))) (fun w => q_fieldAddr (ft := 37) (o := 1) rfl (by kernel_rfl)) ?_
      refine o_held (i := 16) [18, 19, 20, 21] (fun j w => ⟨(fun j w => ⟨(fun j w => ⟨(fun j w => ⟨(fun _ _ => trivial) j w, fun _ h => h⟩) j w, fun _ h => h⟩) j w, fun _ h => h⟩) j w, fun _ h => h⟩) rfl rfl (by kernel_rfl) (goes1 rfl rfl (decide_eq_false (fun hh => hh rfl))) (QOk.then (QOk.inBlock (QOk.then (QOk.then (QOk.inBlock (QOk.then QOk.body)))))) (q_load1 rfl (by kernel_rfl) (by first | exact hS14.cell (i := 0) rfl rfl | exact hS14.cell (i := 1) rfl rfl | exact hS14.cell (i := 2) rfl rfl | exact hS14.cell (i := 3) rfl rfl | exact hS14.cell (i := 4) rfl rfl | exact hS14.cell (i := 5) rfl rfl | exact hS14.cell (i := 6) rfl rfl | exact hS14.cell (i := 7) rfl rfl | assumption)) ?_
      first | refine o_pure (i := 17) (fun j w => ⟨(fun j w => ⟨(fun j w => ⟨(fun j w => ⟨(fun j w => ⟨(fun _ _ => trivial) j w, fun _ h => h⟩) j w, fun _ h => h⟩) j w, fun _ h => h⟩) j w, fun _ h => h⟩) j w, fun _ h => h⟩) rfl rfl (by kernel_rfl) (goes1 rfl rfl (decide_eq_false (fun hh => hh rfl))) (QOk.then (QOk.inBlock (QOk.then (QOk.then (QOk.inBlock (QOk.then QOk.body)))))) (fun w => q_moveI rfl) ?_ | refine o_pure (i := 17) (fun j w => ⟨(fun j w => ⟨(fun j w => ⟨(fun j w => ⟨(fun j w => ⟨(fun _ _ => trivial) j w, fun _ h => h⟩) j w, fun _ h => h⟩) j w, fun _ h => h⟩) j w, fun _ h => h⟩) j w, fun _ h => h⟩) rfl rfl (by kernel_rfl) (goes1 rfl rfl (decide_eq_false (fun hh => hh rfl))) (QOk.then (QOk.inBlock (QOk.then (QOk.then (QOk.inBlock (QOk.then QOk.body)))))) (fun w => q_move rfl) ?_
      refine o_pure (i := 18) (fun j w => ⟨(fun j w => ⟨(fun j w => ⟨(fun j w => ⟨(fun j w => ⟨(fun _ _ => trivial) j w, fun _ h => h⟩) j w, fun _ h => h⟩) j w, fun _ h => h⟩) j w, fun _ h => h⟩) j w, fun _ h => h⟩) rfl rfl (by kernel_rfl) (goes1 rfl rfl (decide_eq_false (fun hh => hh rfl))) (QOk.then (QOk.inBlock (QOk.then (QOk.then (QOk.inBlock (QOk.then QOk.body)))))) (fun w => q_indexAddr (e := 3) (m := 1) rfl rfl (by kernel_rfl) (by kernel_rfl) (by first | decide | omega) (by first | decide | omega)) ?_
      refine o_held (i := 19) [20, 21] (fun j w => ⟨(fun j w => ⟨(fun j w => ⟨(fun j w => ⟨(fun j w => ⟨(fun _ _ => trivial) j w, fun _ h => h⟩) j w, fun _ h => h⟩) j w, fun _ h => h⟩) j w, fun _ h => h⟩) j w, fun _ h => h⟩) rfl rfl (by kernel_rfl) (goes1 rfl rfl (decide_eq_false (fun hh => hh rfl))) (QOk.then (QOk.inBlock (QOk.then (QOk.then (QOk.inBlock (QOk.then QOk.body)))))) (q_load1 rfl (by kernel_rfl) (cell_i yx)) ?_
      refine o_pure (i := 20) (fun j w => ⟨(fun j w => ⟨(fun j w => ⟨(fun j w => ⟨(fun j w => ⟨(fun j w => ⟨(fun _ _ => trivial) j w, fun _ h => h⟩) j w, fun _ h => h⟩) j w, fun _ h => h⟩) j w, fun _ h => h⟩) j w, fun _ h => h⟩) j w, fun _ h => h⟩) rfl rfl (by kernel_rfl) (goes1 rfl rfl (decide_eq_false (fun hh => hh rfl))) (QOk.then (QOk.inBlock (QOk.then (QOk.then (QOk.inBlock (QOk.then QOk.body)))))) (fun w => q_neq rfl rfl) ?_
      refine o_pure (i := 21) (fun j w => ⟨(fun j w => ⟨(fun j w => ⟨(fun j w => ⟨(fun j w => ⟨(fun j w => ⟨(fun _ _ => trivial) j w, fun _ h => h⟩) j w, fun _ h => h⟩) j w, fun _ h => h⟩) j w, fun _ h => h⟩) j w, fun _ h => h⟩) j w, fun _ h => h⟩) rfl rfl (by kernel_rfl) (goes0 rfl) (QOk.then (QOk.inBlock (QOk.then (QOk.then (QOk.inBlock (QOk.then QOk.body)))))) (fun w => q_pickF rfl (decide_eq_false (fun hh => hh rfl)) rfl) ?_
      refine o_done (by kernel_rfl) ?_
      refine hK13 _ _ ?_
      refine c_condF rfl (decide_eq_false (fun hh => hh rfl)) ?_
      refine wp_skip ?_
      refine hK12 _ _ ?_
      refine wp_region_lit ?_
      first | refine l_q rfl rfl (q_moveI rfl) ?_ | refine l_q rfl rfl (q_move rfl) ?_
      first | refine l_q rfl rfl (q_addx rfl rfl (by first | decide | omega) (by first | decide | omega)) ?_ | refine l_q rfl rfl (q_add rfl rfl) ?_
      first | refine l_q rfl rfl (q_assignI rfl) ?_ | refine l_q rfl rfl (q_assign rfl) ?_
      refine l_nil ?_
      refine hK8 _ _ (came ((k + 1, ())) (by repeat' (first | exact Agree.refl _ _ | refine Agree.up ?_ rfl | refine Agree.hav2 ?_ rfl | refine Agree.ups2 ?_ rfl)) (by repeat' (first | exact trivial | refine ⟨by first | rfl | exact int_succ _, ?_⟩)) ?_)
      exact ⟨⟨hS14, by (show k + 1 ≤ e.list.length); omega⟩, by (show e.list.length - (k + 1) < e.list.length - k); omega⟩
    ·
      have hc11b := hc11
      try simp only [decide_eq_true_eq, decide_eq_false_iff_not, Bool.not_eq_true', Bool.not_eq_false', Bool.and_eq_true, Bool.or_eq_true, Int.not_lt, Int.not_le, ne_eq, Decidable.not_not] at hc11
      refine wp_exit ?_
      refine hK6 _ _ ?_
      refine wp_seq_k (fun K16 hK16 => ?_)
      refine wp_region_lit ?_
      first | refine l_q rfl rfl (q_assignB rfl) ?_ | refine l_q rfl rfl (q_assign rfl) ?_
      refine l_nil ?_
      refine hK16 _ _ ?_
      refine wp_ret ?_
      refine c_ret1 rfl rfl ?_
      exact ⟨_, rfl, rfl, hS8.drop⟩

set_option maxHeartbeats 8000000 in
set_option maxRecDepth 100000 in
theorem playsLaw_ok (sa : Option Addr) (sl sc : Nat) (c : Int) (w : World) (hl : LaidV w) (hA : ActsR w sa sl) : Calls Tryd.prog 7 #[.slice sa sl sc, .int .i64 c] w (PostR w fun v => v = .bool true) := by
  have hS := St.start w
  refine c_enter Tryd.func7 rfl rfl rfl ?_
  refine wp_seq_k (fun K1 hK1 => ?_)
  refine wp_region_lit ?_
  first | refine l_q rfl rfl (q_assignB rfl) ?_ | refine l_q rfl rfl (q_assign rfl) ?_
  refine l_nil ?_
  refine hK1 _ _ ?_
  refine wp_seq_k (fun K2 hK2 => ?_)
  refine wp_region_lit ?_
  first | refine l_q rfl rfl (q_moveS rfl) ?_ | refine l_q rfl rfl (q_move rfl) ?_
  refine l_e rfl (fun K hK => ?_)
  refine e_call (by kernel_rfl) (built_ok sa sl sc _ hA) rfl (after_N hS (fun v3 G3 w3 hv3 hS3 => ?_))
  clear hS; obtain ⟨⟨k, m, ga, ac, gt, tc, bs, es, ss, vs, ts, rows⟩, hB, hk14, rfl, rfl⟩ := hv3
  have hm1 := hB.pos; have hm2 := hB.le; dsimp only [bG] at hS3 hm1 hm2 hk14; dsimp only
  have hS : St w (fun _ => False) [.pool bs es ss, .sl 29 1 (.slice (some ⟨ga, 0, none⟩) m ac) m vs, .sl 46 3 (.slice (some ⟨gt, 0, none⟩) m tc) m ts] w3 := hS3; clear hS3
  refine hK _ _ ?_; clear hK K
  refine l_q rfl rfl (q_move rfl) ?_
  refine l_q rfl rfl (q_extract rfl rfl) ?_
  refine l_q rfl rfl (q_extract rfl rfl) ?_
  first | refine l_q rfl rfl (q_assignS rfl) ?_ | refine l_q rfl rfl (q_assign rfl) ?_
  first | refine l_q rfl rfl (q_assignS rfl) ?_ | refine l_q rfl rfl (q_assign rfl) ?_
  refine l_nil ?_
  refine hK2 _ _ ?_
  refine wp_seq_k (fun K4 hK4 => ?_)
  refine wp_seq_k (fun K5 hK5 => ?_)
  refine wp_region_lit ?_
  first | refine l_q rfl rfl (q_assignI rfl) ?_ | refine l_q rfl rfl (q_assign rfl) ?_
  refine l_nil ?_
  refine hK5 _ _ ?_
  refine wp_block ?_
  refine c_loop (τ := Nat × Unit) [(4, 4), (7, 12), (18, 88)] (fun x => [(7, .int .i64 ((x.1 : Nat) : Int))]) (fun x w' => St w (fun _ => False) [.pool bs es ss, .sl 29 1 (.slice (some ⟨ga, 0, none⟩) m ac) m vs, .sl 46 3 (.slice (some ⟨gt, 0, none⟩) m tc) m ts] w' ∧ x.1 ≤ m) (fun x => m - x.1) ((0, ())) ?_ (by repeat' (first | exact trivial | refine ⟨by first | rfl | exact int_succ _, ?_⟩)) (fun x6 j6 w6 hJ6 K6 hK6 => ?_)
  ·
    exact ⟨hS, Nat.zero_le _⟩
  ·
    obtain ⟨i, u⟩ := x6; obtain ⟨hS6, hi⟩ := hJ6; dsimp only at hi hS6 ⊢
    refine wp_seq_k (fun K7 hK7 => ?_)
    refine wp_seq_k (fun K8 hK8 => ?_)
    refine wp_region_lit ?_
    first | refine l_q rfl rfl (q_moveI rfl) ?_ | refine l_q rfl rfl (q_move rfl) ?_
    first | refine l_q rfl rfl (q_moveS rfl) ?_ | refine l_q rfl rfl (q_move rfl) ?_
    refine l_q rfl rfl (q_lenSl (e := 29) rfl (by kernel_rfl)) ?_
    refine l_q rfl rfl (q_lss rfl rfl) ?_
    refine l_nil ?_
    refine hK8 _ _ ?_
    refine c_cond rfl (fun hc9 => ?_) (fun hc9 => ?_)
    ·
      have hc9b := hc9
      try simp only [decide_eq_true_eq, decide_eq_false_iff_not, Bool.not_eq_true', Bool.not_eq_false', Bool.and_eq_true, Bool.or_eq_true, Int.not_lt, Int.not_le, ne_eq, Decidable.not_not] at hc9
      have hlt := hc9
      obtain ⟨r, hr, hR, hrv, hrt⟩ := hB.atI (i := (i : Int)) (by omega) hlt
      obtain ⟨hr1, hr2, hr3, hr4, hr5, hr6⟩ := id hR
      obtain ⟨hr7, hr8⟩ := hR.small hk14
      dsimp only at hr1 hr2 hr3 hr7 hr8
      rcases r with ⟨rv, re, ca, pa, cc, pc⟩
      dsimp only at hr1 hr2 hr3 hr4 hr7 hr8 hrv
      have hri := (pool_er hS6 (i := 0) rfl hr1).isIf
      have hrn := (pool_er hS6 (i := 0) rfl hr1).isNil
      refine wp_skip ?_
      refine hK7 _ _ ?_
      refine wp_seq_k (fun K10 hK10 => ?_)
      refine wp_block ?_
      refine wp_seq_k (fun K11 hK11 => ?_)
      refine wp_region_lit ?_
      first | refine l_q rfl rfl (q_moveS rfl) ?_ | refine l_q rfl rfl (q_move rfl) ?_
      first | refine l_q rfl rfl (q_moveI rfl) ?_ | refine l_q rfl rfl (q_move rfl) ?_
      refine l_q rfl rfl (q_indexAddr (e := 29) (m := 1) rfl rfl (by kernel_rfl) (by kernel_rfl) (by first | decide | omega) (by first | decide | omega)) ?_
      refine l_q rfl rfl (q_load1 rfl (by kernel_rfl) (own_cellI (hS6.sl (i := 1) rfl) hrv)) ?_
      refine l_q rfl rfl (q_assign rfl) ?_
      refine l_nil ?_
      refine hK11 _ _ ?_
      refine wp_seq_k (fun K12 hK12 => ?_)
      refine wp_region_lit ?_
      first | refine l_q rfl rfl (q_moveS rfl) ?_ | refine l_q rfl rfl (q_move rfl) ?_
      first | refine l_q rfl rfl (q_moveI rfl) ?_ | refine l_q rfl rfl (q_move rfl) ?_
      refine l_q rfl rfl (q_indexAddr (e := 46) (m := 3) rfl rfl (by kernel_rfl) (by kernel_rfl) (by first | decide | omega) (by first | decide | omega)) ?_
      refine l_q rfl rfl (q_loadCs (cs := [.slice ca re.list.length cc, .slice pa re.list.length pc, .int .i64 (re.deep : Int)]) rfl (by kernel_rfl) (by kernel_rfl) (fun j u hu => own_cell (hS6.sl (i := 2) rfl) (hrt j u hu))) ?_
      refine l_e rfl (fun K hK => ?_)
      refine e_alloc (zv := .agg #[.slice none 0 0, .slice none 0 0, .int .i64 0]) hS6 (by kernel_rfl) (fun b13 w13 hS13 => ?_)
      clear hS6
      refine hK _ _ ?_; clear hK K
      refine l_e rfl (fun K hK => ?_)
      first | refine e_storeA hS13 rfl rfl (by kernel_rfl) (by repeat' (first | exact trivial | refine ⟨by first | rfl | assumption | exact one_if (by assumption), ?_⟩)) (i := 0) rfl rfl (fun w14 hS14 => ?_) | refine e_storeA hS13 rfl rfl (by kernel_rfl) (by repeat' (first | exact trivial | refine ⟨by first | rfl | assumption | exact one_if (by assumption), ?_⟩)) (i := 1) rfl rfl (fun w14 hS14 => ?_) | refine e_storeA hS13 rfl rfl (by kernel_rfl) (by repeat' (first | exact trivial | refine ⟨by first | rfl | assumption | exact one_if (by assumption), ?_⟩)) (i := 2) rfl rfl (fun w14 hS14 => ?_) | refine e_storeA hS13 rfl rfl (by kernel_rfl) (by repeat' (first | exact trivial | refine ⟨by first | rfl | assumption | exact one_if (by assumption), ?_⟩)) (i := 3) rfl rfl (fun w14 hS14 => ?_) | refine e_storeA hS13 rfl rfl (by kernel_rfl) (by repeat' (first | exact trivial | refine ⟨by first | rfl | assumption | exact one_if (by assumption), ?_⟩)) (i := 4) rfl rfl (fun w14 hS14 => ?_) | refine e_storeA hS13 rfl rfl (by kernel_rfl) (by repeat' (first | exact trivial | refine ⟨by first | rfl | assumption | exact one_if (by assumption), ?_⟩)) (i := 5) rfl rfl (fun w14 hS14 => ?_) | refine e_storeA hS13 rfl rfl (by kernel_rfl) (by repeat' (first | exact trivial | refine ⟨by first | rfl | assumption | exact one_if (by assumption), ?_⟩)) (i := 6) rfl rfl (fun w14 hS14 => ?_) | refine e_storeA hS13 rfl rfl (by kernel_rfl) (by repeat' (first | exact trivial | refine ⟨by first | rfl | assumption | exact one_if (by assumption), ?_⟩)) (i := 7) rfl rfl (fun w14 hS14 => ?_)
      clear hS13
      refine hK _ _ ?_; clear hK K
      refine l_nil ?_
      refine hK12 _ _ ?_
      refine wp_seq_k (fun K15 hK15 => ?_)
      refine wp_region_lit ?_
      first | refine l_q rfl rfl (q_assignI rfl) ?_ | refine l_q rfl rfl (q_assign rfl) ?_
      refine l_nil ?_
      refine hK15 _ _ ?_
      refine wp_seq_k (fun K16 hK16 => ?_)
      refine wp_region_lit ?_
      first | refine l_q rfl rfl (q_assignI rfl) ?_ | refine l_q rfl rfl (q_assign rfl) ?_
      refine l_nil ?_
      refine hK16 _ _ ?_
      refine wp_seq_k (fun K17 hK17 => ?_)
      refine wp_seq_k (fun K18 hK18 => ?_)
      refine wp_region_lit ?_
      refine l_q rfl rfl (q_fieldAddr (ft := 30) (o := 0) rfl (by kernel_rfl)) ?_
      refine l_q rfl rfl (q_load1 rfl (by kernel_rfl) (by first | exact hS14.cell (i := 0) rfl rfl | exact hS14.cell (i := 1) rfl rfl | exact hS14.cell (i := 2) rfl rfl | exact hS14.cell (i := 3) rfl rfl | exact hS14.cell (i := 4) rfl rfl | exact hS14.cell (i := 5) rfl rfl | exact hS14.cell (i := 6) rfl rfl | exact hS14.cell (i := 7) rfl rfl | assumption)) ?_
      refine l_q rfl rfl (q_lenSl (e := 23) rfl (by kernel_rfl)) ?_
      refine l_q rfl rfl (q_gtr rfl rfl) ?_
      refine l_nil ?_
      refine hK18 _ _ ?_
      refine c_cond rfl (fun hc19 => ?_) (fun hc19 => ?_)
      ·
        have hc19b := hc19
        try simp only [decide_eq_true_eq, decide_eq_false_iff_not, Bool.not_eq_true', Bool.not_eq_false', Bool.and_eq_true, Bool.or_eq_true, Int.not_lt, Int.not_le, ne_eq, Decidable.not_not] at hc19
        have h0 := hc19
        obtain ⟨q, hq⟩ : ∃ q, re.list[0]? = some q := ⟨_, List.getElem?_eq_getElem (by omega)⟩
        have hf := first_at hq
        have hcz : cod re = cod re := rfl
        have hpz : plc re = plc re := rfl
        obtain ⟨xb, xo, xe, xx⟩ := (pool_slr hS14 (i := 1) rfl hr2).at (i := 0) (u := .int .i64 (cod re)) (by rw [hf.1]; exact iv_codes hq)
        obtain ⟨yb, yo, ye, yx⟩ := (pool_slr hS14 (i := 1) rfl hr3).at (i := 0) (u := .int .i64 (plc re)) (by rw [hf.2]; exact iv_places hq)
        subst xe ye
        refine wp_seq_k (fun K20 hK20 => ?_)
        refine wp_region_lit ?_
        refine l_q rfl rfl (q_fieldAddr (ft := 30) (o := 0) rfl (by kernel_rfl)) ?_
        refine l_q rfl rfl (q_load1 rfl (by kernel_rfl) (by first | exact hS14.cell (i := 0) rfl rfl | exact hS14.cell (i := 1) rfl rfl | exact hS14.cell (i := 2) rfl rfl | exact hS14.cell (i := 3) rfl rfl | exact hS14.cell (i := 4) rfl rfl | exact hS14.cell (i := 5) rfl rfl | exact hS14.cell (i := 6) rfl rfl | exact hS14.cell (i := 7) rfl rfl | assumption)) ?_
        refine l_q rfl rfl (q_indexAddr (e := 23) (m := 1) rfl rfl (by kernel_rfl) (by kernel_rfl) (by first | decide | omega) (by first | decide | omega)) ?_
        refine l_q rfl rfl (q_load1 rfl (by kernel_rfl) xx) ?_
        first | refine l_q rfl rfl (q_assignI rfl) ?_ | refine l_q rfl rfl (q_assign rfl) ?_
        refine l_nil ?_
        refine hK20 _ _ ?_
        refine wp_region_lit ?_
        refine l_q rfl rfl (q_fieldAddr (ft := 37) (o := 1) rfl (by kernel_rfl)) ?_
        refine l_q rfl rfl (q_load1 rfl (by kernel_rfl) (by first | exact hS14.cell (i := 0) rfl rfl | exact hS14.cell (i := 1) rfl rfl | exact hS14.cell (i := 2) rfl rfl | exact hS14.cell (i := 3) rfl rfl | exact hS14.cell (i := 4) rfl rfl | exact hS14.cell (i := 5) rfl rfl | exact hS14.cell (i := 6) rfl rfl | exact hS14.cell (i := 7) rfl rfl | assumption)) ?_
        refine l_q rfl rfl (q_indexAddr (e := 3) (m := 1) rfl rfl (by kernel_rfl) (by kernel_rfl) (by first | decide | omega) (by first | decide | omega)) ?_
        refine l_q rfl rfl (q_load1 rfl (by kernel_rfl) yx) ?_
        first | refine l_q rfl rfl (q_assignI rfl) ?_ | refine l_q rfl rfl (q_assign rfl) ?_
        refine l_nil ?_
        refine hK17 _ _ ?_
        refine wp_seq_k (fun K21 hK21 => ?_)
        refine r_any (by kernel_rfl) hS14 (fun w22 hS22 => ?_)
        clear hS14
        refine o_pure (i := 0) (fun _ _ => trivial) rfl rfl (by kernel_rfl) (goes0 rfl) (QOk.then (QOk.inBlock (QOk.then (QOk.then (QOk.inBlock (QOk.then QOk.body)))))) (fun w => q_move rfl) ?_
        refine o_pure (i := 2) (fun _ _ => trivial) rfl rfl (by kernel_rfl) (goes0 rfl) (QOk.then (QOk.inBlock (QOk.then (QOk.then (QOk.inBlock (QOk.then QOk.body)))))) (fun w => q_move rfl) ?_
        refine o_held (i := 4) [5, 6] (fun _ _ => trivial) rfl rfl (by kernel_rfl) (goes0 rfl) (QOk.then (QOk.inBlock (QOk.then (QOk.then (QOk.inBlock (QOk.then QOk.body)))))) (q_loadA (m := 3) rfl (by kernel_rfl) (by kernel_rfl) (by first | exact hS22.blk (i := 0) rfl | exact hS22.blk (i := 1) rfl | exact hS22.blk (i := 2) rfl | exact hS22.blk (i := 3) rfl | exact hS22.blk (i := 4) rfl | exact hS22.blk (i := 5) rfl | exact hS22.blk (i := 6) rfl | exact hS22.blk (i := 7) rfl | assumption) rfl rfl) ?_
        refine o_eff (i := 1) (by kernel_rfl) rfl (goes0 rfl) (fun K hK => ?_)
        refine e_call (by kernel_rfl) (Codes_ok re _ _ (by first | decide | omega) (hl.keep id hS22) (pool_er hS22 (i := 1) rfl hr1)) rfl (after_N hS22 (fun v23 G23 w23 hv23 hS23 => ?_))
        clear hS22; subst hv23; obtain ⟨pa, pc, rfl⟩ := own_slice (hS23.sl (i := 0) rfl)
        refine hK _ _ ⟨trivial, fun _ _ => by first | exact q_loadA (m := 3) rfl (by kernel_rfl) (by kernel_rfl) (by first | exact hS23.blk (i := 0) rfl | exact hS23.blk (i := 1) rfl | exact hS23.blk (i := 2) rfl | exact hS23.blk (i := 3) rfl | exact hS23.blk (i := 4) rfl | exact hS23.blk (i := 5) rfl | exact hS23.blk (i := 6) rfl | exact hS23.blk (i := 7) rfl | assumption) rfl rfl⟩ ?_; clear hK K
        refine o_eff (i := 3) (by kernel_rfl) rfl (goes0 rfl) (fun K hK => ?_)
        refine e_call (by kernel_rfl) (Places_ok re _ _ (by first | decide | omega) (hl.keep id hS23) (pool_er hS23 (i := 2) rfl hr1)) rfl (after_N hS23 (fun v24 G24 w24 hv24 hS24 => ?_))
        clear hS23; subst hv24; obtain ⟨oa, oc, rfl⟩ := own_slice (hS24.sl (i := 0) rfl)
        refine hK _ _ ⟨trivial, fun _ _ => by first | exact q_loadA (m := 3) rfl (by kernel_rfl) (by kernel_rfl) (by first | exact hS24.blk (i := 0) rfl | exact hS24.blk (i := 1) rfl | exact hS24.blk (i := 2) rfl | exact hS24.blk (i := 3) rfl | exact hS24.blk (i := 4) rfl | exact hS24.blk (i := 5) rfl | exact hS24.blk (i := 6) rfl | exact hS24.blk (i := 7) rfl | assumption) rfl rfl⟩ ?_; clear hK K
        refine o_eff (i := 5) (by kernel_rfl) rfl (goes0 rfl) (fun K hK => ?_)
        have hso := own_SlR (hS24.sl (i := 0) rfl); rw [iv_places_eq] at hso
        have hsp := own_SlR (hS24.sl (i := 1) rfl); rw [iv_codes_eq] at hsp
        refine e_call (by kernel_rfl) (rSame_ok re _ _ _ _ _ _ _ _ (by omega) _ hsp hso (pool_slr hS24 (i := 3) rfl hr2) (pool_slr hS24 (i := 3) rfl hr3)) rfl (after_R hS24 (fun v25 w25 hv25 hS25 => ?_))
        clear hS24; replace hv25 := hv25.symm; subst hv25
        refine hK _ _ ⟨trivial, fun h => absurd h (by decide)⟩ ?_; clear hK K
        first | refine o_pure (i := 6) (fun j w => ⟨(fun _ _ => trivial) j w, fun _ h => h⟩) rfl rfl (by kernel_rfl) (goes0 rfl) (QOk.then (QOk.inBlock (QOk.then (QOk.then (QOk.inBlock (QOk.then QOk.body)))))) (fun w => q_assignB rfl) ?_ | refine o_pure (i := 6) (fun j w => ⟨(fun _ _ => trivial) j w, fun _ h => h⟩) rfl rfl (by kernel_rfl) (goes0 rfl) (QOk.then (QOk.inBlock (QOk.then (QOk.then (QOk.inBlock (QOk.then QOk.body)))))) (fun w => q_assign rfl) ?_
        refine o_done (by kernel_rfl) ?_
        refine hK21 _ _ ?_
        refine wp_seq_k (fun K26 hK26 => ?_)
        refine r_any (by kernel_rfl) hS25 (fun w27 hS27 => ?_)
        clear hS25
        first | refine o_pure (i := 0) (fun _ _ => trivial) rfl rfl (by kernel_rfl) (goes0 rfl) (QOk.then (QOk.inBlock (QOk.then (QOk.then (QOk.inBlock (QOk.then QOk.body)))))) (fun w => q_moveB rfl) ?_ | refine o_pure (i := 0) (fun _ _ => trivial) rfl rfl (by kernel_rfl) (goes0 rfl) (QOk.then (QOk.inBlock (QOk.then (QOk.then (QOk.inBlock (QOk.then QOk.body)))))) (fun w => q_move rfl) ?_
        refine o_pure (i := 1) (fun _ _ => trivial) rfl rfl (by kernel_rfl) (goes0 rfl) (QOk.then (QOk.inBlock (QOk.then (QOk.then (QOk.inBlock (QOk.then QOk.body)))))) (fun w => q_not rfl) ?_
        first | refine o_pure (i := 2) (fun _ _ => trivial) rfl rfl (by kernel_rfl) (goes0 rfl) (QOk.then (QOk.inBlock (QOk.then (QOk.then (QOk.inBlock (QOk.then QOk.body)))))) (fun w => q_moveB rfl) ?_ | refine o_pure (i := 2) (fun _ _ => trivial) rfl rfl (by kernel_rfl) (goes0 rfl) (QOk.then (QOk.inBlock (QOk.then (QOk.then (QOk.inBlock (QOk.then QOk.body)))))) (fun w => q_move rfl) ?_
        refine o_pure (i := 3) (fun _ _ => trivial) rfl rfl (by kernel_rfl) (goes1 rfl rfl rfl) (QOk.then (QOk.inBlock (QOk.then (QOk.then (QOk.inBlock (QOk.then QOk.body)))))) (fun w => q_move rfl) ?_
        first | refine o_pure (i := 5) (fun _ _ => trivial) rfl rfl (by kernel_rfl) (goes1 rfl rfl rfl) (QOk.then (QOk.inBlock (QOk.then (QOk.then (QOk.inBlock (QOk.then QOk.body)))))) (fun w => q_moveI rfl) ?_ | refine o_pure (i := 5) (fun _ _ => trivial) rfl rfl (by kernel_rfl) (goes1 rfl rfl rfl) (QOk.then (QOk.inBlock (QOk.then (QOk.then (QOk.inBlock (QOk.then QOk.body)))))) (fun w => q_move rfl) ?_
        refine o_eff (i := 4) (by kernel_rfl) rfl (goes1 rfl rfl rfl) (fun K hK => ?_)
        refine e_call (by kernel_rfl) (Code_ok re hr4 _ _ (hl.keep id hS27) (pool_er hS27 (i := 3) rfl hr1)) rfl (after_R hS27 (fun v28 w28 hv28 hS28 => ?_))
        clear hS27; replace hv28 := hv28.symm; subst hv28
        refine hK _ _ trivial ?_; clear hK K
        refine o_pure (i := 6) (fun _ _ => trivial) rfl rfl (by kernel_rfl) (goes1 rfl rfl rfl) (QOk.then (QOk.inBlock (QOk.then (QOk.then (QOk.inBlock (QOk.then QOk.body)))))) (fun w => q_neq rfl rfl) ?_
        refine o_pure (i := 7) (fun _ _ => trivial) rfl rfl (by kernel_rfl) (goes0 rfl) (QOk.then (QOk.inBlock (QOk.then (QOk.then (QOk.inBlock (QOk.then QOk.body)))))) (fun w => q_pickF rfl rfl rfl) ?_
        first | refine o_pure (i := 8) (fun _ _ => trivial) rfl rfl (by kernel_rfl) (goes0 rfl) (QOk.then (QOk.inBlock (QOk.then (QOk.then (QOk.inBlock (QOk.then QOk.body)))))) (fun w => q_moveB rfl) ?_ | refine o_pure (i := 8) (fun _ _ => trivial) rfl rfl (by kernel_rfl) (goes0 rfl) (QOk.then (QOk.inBlock (QOk.then (QOk.then (QOk.inBlock (QOk.then QOk.body)))))) (fun w => q_move rfl) ?_
        refine o_pure (i := 9) (fun _ _ => trivial) rfl rfl (by kernel_rfl) (goes1 rfl rfl (decide_eq_false (fun hh => hh hcz))) (QOk.then (QOk.inBlock (QOk.then (QOk.then (QOk.inBlock (QOk.then QOk.body)))))) (fun w => q_move rfl) ?_
        first | refine o_pure (i := 11) (fun _ _ => trivial) rfl rfl (by kernel_rfl) (goes1 rfl rfl (decide_eq_false (fun hh => hh hcz))) (QOk.then (QOk.inBlock (QOk.then (QOk.then (QOk.inBlock (QOk.then QOk.body)))))) (fun w => q_moveI rfl) ?_ | refine o_pure (i := 11) (fun _ _ => trivial) rfl rfl (by kernel_rfl) (goes1 rfl rfl (decide_eq_false (fun hh => hh hcz))) (QOk.then (QOk.inBlock (QOk.then (QOk.then (QOk.inBlock (QOk.then QOk.body)))))) (fun w => q_move rfl) ?_
        refine o_eff (i := 10) (by kernel_rfl) rfl (goes1 rfl rfl (decide_eq_false (fun hh => hh hcz))) (fun K hK => ?_)
        refine e_call (by kernel_rfl) (At_ok re hr4 _ _ (hl.keep id hS28) (pool_er hS28 (i := 3) rfl hr1)) rfl (after_R hS28 (fun v29 w29 hv29 hS29 => ?_))
        clear hS28; replace hv29 := hv29.symm; subst hv29
        refine hK _ _ trivial ?_; clear hK K
        refine o_pure (i := 12) (fun _ _ => trivial) rfl rfl (by kernel_rfl) (goes1 rfl rfl (decide_eq_false (fun hh => hh hcz))) (QOk.then (QOk.inBlock (QOk.then (QOk.then (QOk.inBlock (QOk.then QOk.body)))))) (fun w => q_neq rfl rfl) ?_
        refine o_pure (i := 13) (fun _ _ => trivial) rfl rfl (by kernel_rfl) (goes0 rfl) (QOk.then (QOk.inBlock (QOk.then (QOk.then (QOk.inBlock (QOk.then QOk.body)))))) (fun w => q_pickF rfl (decide_eq_false (fun hh => hh hcz)) rfl) ?_
        first | refine o_pure (i := 14) (fun _ _ => trivial) rfl rfl (by kernel_rfl) (goes0 rfl) (QOk.then (QOk.inBlock (QOk.then (QOk.then (QOk.inBlock (QOk.then QOk.body)))))) (fun w => q_moveB rfl) ?_ | refine o_pure (i := 14) (fun _ _ => trivial) rfl rfl (by kernel_rfl) (goes0 rfl) (QOk.then (QOk.inBlock (QOk.then (QOk.then (QOk.inBlock (QOk.then QOk.body)))))) (fun w => q_move rfl) ?_
        refine o_pure (i := 15) (fun _ _ => trivial) rfl rfl (by kernel_rfl) (goes1 rfl rfl (decide_eq_false (fun hh => hh hpz))) (QOk.then (QOk.inBlock (QOk.then (QOk.then (QOk.inBlock (QOk.then QOk.body)))))) (fun w => q_move rfl) ?_
        refine o_pure (i := 17) (fun _ _ => trivial) rfl rfl (by kernel_rfl) (goes1 rfl rfl (decide_eq_false (fun hh => hh hpz))) (QOk.then (QOk.inBlock (QOk.then (QOk.then (QOk.inBlock (QOk.then QOk.body)))))) (fun w => q_fieldAddr (ft := 3) (o := 2) rfl (by kernel_rfl)) ?_
        refine o_held (i := 18) [19, 20, 21, 22, 23, 24, 25, 26, 27, 28, 29, 30, 31, 32, 33, 34, 35, 36, 37, 38] (fun _ _ => trivial) rfl rfl (by kernel_rfl) (goes1 rfl rfl (decide_eq_false (fun hh => hh hpz))) (QOk.then (QOk.inBlock (QOk.then (QOk.then (QOk.inBlock (QOk.then QOk.body)))))) (q_load1 rfl (by kernel_rfl) (by first | exact hS29.cell (i := 0) rfl rfl | exact hS29.cell (i := 1) rfl rfl | exact hS29.cell (i := 2) rfl rfl | exact hS29.cell (i := 3) rfl rfl | exact hS29.cell (i := 4) rfl rfl | exact hS29.cell (i := 5) rfl rfl | exact hS29.cell (i := 6) rfl rfl | exact hS29.cell (i := 7) rfl rfl | assumption)) ?_
        refine o_eff (i := 16) (by kernel_rfl) rfl (goes1 rfl rfl (decide_eq_false (fun hh => hh hpz))) (fun K hK => ?_)
        refine e_call (by kernel_rfl) (Deep_ok re _ _ (by omega) (pool_er hS29 (i := 3) rfl hr1)) rfl (after_R hS29 (fun v30 w30 hv30 hS30 => ?_))
        clear hS29; replace hv30 := hv30.symm; subst hv30
        refine hK _ _ ⟨trivial, fun _ _ => by first | exact q_load1 rfl (by kernel_rfl) (by first | exact hS30.cell (i := 0) rfl rfl | exact hS30.cell (i := 1) rfl rfl | exact hS30.cell (i := 2) rfl rfl | exact hS30.cell (i := 3) rfl rfl | exact hS30.cell (i := 4) rfl rfl | exact hS30.cell (i := 5) rfl rfl | exact hS30.cell (i := 6) rfl rfl | exact hS30.cell (i := 7) rfl rfl | assumption)⟩ ?_; clear hK K
        refine o_pure (i := 19) (fun j w => ⟨(fun _ _ => trivial) j w, fun _ h => h⟩) rfl rfl (by kernel_rfl) (goes1 rfl rfl (decide_eq_false (fun hh => hh hpz))) (QOk.then (QOk.inBlock (QOk.then (QOk.then (QOk.inBlock (QOk.then QOk.body)))))) (fun w => q_neq rfl rfl) ?_
        refine o_pure (i := 20) (fun j w => ⟨(fun _ _ => trivial) j w, fun _ h => h⟩) rfl rfl (by kernel_rfl) (goes0 rfl) (QOk.then (QOk.inBlock (QOk.then (QOk.then (QOk.inBlock (QOk.then QOk.body)))))) (fun w => q_pickF rfl (decide_eq_false (fun hh => hh hpz)) rfl) ?_
        first | refine o_pure (i := 21) (fun j w => ⟨(fun _ _ => trivial) j w, fun _ h => h⟩) rfl rfl (by kernel_rfl) (goes0 rfl) (QOk.then (QOk.inBlock (QOk.then (QOk.then (QOk.inBlock (QOk.then QOk.body)))))) (fun w => q_moveB rfl) ?_ | refine o_pure (i := 21) (fun j w => ⟨(fun _ _ => trivial) j w, fun _ h => h⟩) rfl rfl (by kernel_rfl) (goes0 rfl) (QOk.then (QOk.inBlock (QOk.then (QOk.then (QOk.inBlock (QOk.then QOk.body)))))) (fun w => q_move rfl) ?_
        refine o_pure (i := 22) (fun j w => ⟨(fun _ _ => trivial) j w, fun _ h => h⟩) rfl rfl (by kernel_rfl) (goes1 rfl rfl (decide_eq_false (fun hh => hh rfl))) (QOk.then (QOk.inBlock (QOk.then (QOk.then (QOk.inBlock (QOk.then QOk.body)))))) (fun w => q_move rfl) ?_
        first | refine o_pure (i := 23) (fun j w => ⟨(fun _ _ => trivial) j w, fun _ h => h⟩) rfl rfl (by kernel_rfl) (goes1 rfl rfl (decide_eq_false (fun hh => hh rfl))) (QOk.then (QOk.inBlock (QOk.then (QOk.then (QOk.inBlock (QOk.then QOk.body)))))) (fun w => q_moveI rfl) ?_ | refine o_pure (i := 23) (fun j w => ⟨(fun _ _ => trivial) j w, fun _ h => h⟩) rfl rfl (by kernel_rfl) (goes1 rfl rfl (decide_eq_false (fun hh => hh rfl))) (QOk.then (QOk.inBlock (QOk.then (QOk.then (QOk.inBlock (QOk.then QOk.body)))))) (fun w => q_move rfl) ?_
        refine o_held (i := 25) [27, 28, 29, 30, 31, 32, 33, 34, 35, 36, 37, 38] (fun j w => ⟨(fun _ _ => trivial) j w, fun _ h => h⟩) rfl rfl (by kernel_rfl) (goes1 rfl rfl (decide_eq_false (fun hh => hh rfl))) (QOk.then (QOk.inBlock (QOk.then (QOk.then (QOk.inBlock (QOk.then QOk.body)))))) (q_loadA (m := 3) rfl (by kernel_rfl) (by kernel_rfl) (by first | exact hS30.blk (i := 0) rfl | exact hS30.blk (i := 1) rfl | exact hS30.blk (i := 2) rfl | exact hS30.blk (i := 3) rfl | exact hS30.blk (i := 4) rfl | exact hS30.blk (i := 5) rfl | exact hS30.blk (i := 6) rfl | exact hS30.blk (i := 7) rfl | assumption) rfl rfl) ?_
        first | refine o_pure (i := 26) (fun j w => ⟨(fun j w => ⟨(fun _ _ => trivial) j w, fun _ h => h⟩) j w, fun _ h => h⟩) rfl rfl (by kernel_rfl) (goes1 rfl rfl (decide_eq_false (fun hh => hh rfl))) (QOk.then (QOk.inBlock (QOk.then (QOk.then (QOk.inBlock (QOk.then QOk.body)))))) (fun w => q_moveI rfl) ?_ | refine o_pure (i := 26) (fun j w => ⟨(fun j w => ⟨(fun _ _ => trivial) j w, fun _ h => h⟩) j w, fun _ h => h⟩) rfl rfl (by kernel_rfl) (goes1 rfl rfl (decide_eq_false (fun hh => hh rfl))) (QOk.then (QOk.inBlock (QOk.then (QOk.then (QOk.inBlock (QOk.then QOk.body)))))) (fun w => q_move rfl) ?_
        refine o_eff (i := 24) (by kernel_rfl) rfl (goes1 rfl rfl (decide_eq_false (fun hh => hh rfl))) (fun K hK => ?_)
        refine e_call (by kernel_rfl) (Has_ok c re _ _ hr4 (hl.keep id hS30) (pool_er hS30 (i := 3) rfl hr1)) rfl (after_R hS30 (fun v31 w31 hv31 hS31 => ?_))
        clear hS30; replace hv31 := hv31.symm; subst hv31
        refine hK _ _ ⟨⟨trivial, fun h => absurd h (by decide)⟩, fun _ _ => by first | exact q_loadA (m := 3) rfl (by kernel_rfl) (by kernel_rfl) (by first | exact hS31.blk (i := 0) rfl | exact hS31.blk (i := 1) rfl | exact hS31.blk (i := 2) rfl | exact hS31.blk (i := 3) rfl | exact hS31.blk (i := 4) rfl | exact hS31.blk (i := 5) rfl | exact hS31.blk (i := 6) rfl | exact hS31.blk (i := 7) rfl | assumption) rfl rfl⟩ ?_; clear hK K
        refine o_eff (i := 27) (by kernel_rfl) rfl (goes1 rfl rfl (decide_eq_false (fun hh => hh rfl))) (fun K hK => ?_)
        refine e_call (by kernel_rfl) (rHas_ok re _ _ _ _ (by omega) c _ (pool_slr hS31 (i := 3) rfl hr2)) rfl (after_R hS31 (fun v32 w32 hv32 hS32 => ?_))
        clear hS31; replace hv32 := hv32.symm; subst hv32
        refine hK _ _ ⟨⟨trivial, fun h => absurd h (by decide)⟩, fun h => absurd h (by decide)⟩ ?_; clear hK K
        refine o_pure (i := 28) (fun j w => ⟨(fun j w => ⟨(fun _ _ => trivial) j w, fun _ h => h⟩) j w, fun _ h => h⟩) rfl rfl (by kernel_rfl) (goes1 rfl rfl (decide_eq_false (fun hh => hh rfl))) (QOk.then (QOk.inBlock (QOk.then (QOk.then (QOk.inBlock (QOk.then QOk.body)))))) (fun w => q_bool_neq rfl rfl (by kernel_rfl)) ?_
        refine o_pure (i := 29) (fun j w => ⟨(fun j w => ⟨(fun _ _ => trivial) j w, fun _ h => h⟩) j w, fun _ h => h⟩) rfl rfl (by kernel_rfl) (goes0 rfl) (QOk.then (QOk.inBlock (QOk.then (QOk.then (QOk.inBlock (QOk.then QOk.body)))))) (fun w => q_pickF rfl (decide_eq_false (fun hh => hh rfl)) rfl) ?_
        first | refine o_pure (i := 30) (fun j w => ⟨(fun j w => ⟨(fun _ _ => trivial) j w, fun _ h => h⟩) j w, fun _ h => h⟩) rfl rfl (by kernel_rfl) (goes0 rfl) (QOk.then (QOk.inBlock (QOk.then (QOk.then (QOk.inBlock (QOk.then QOk.body)))))) (fun w => q_moveB rfl) ?_ | refine o_pure (i := 30) (fun j w => ⟨(fun j w => ⟨(fun _ _ => trivial) j w, fun _ h => h⟩) j w, fun _ h => h⟩) rfl rfl (by kernel_rfl) (goes0 rfl) (QOk.then (QOk.inBlock (QOk.then (QOk.then (QOk.inBlock (QOk.then QOk.body)))))) (fun w => q_move rfl) ?_
        refine o_pure (i := 31) (fun j w => ⟨(fun j w => ⟨(fun _ _ => trivial) j w, fun _ h => h⟩) j w, fun _ h => h⟩) rfl rfl (by kernel_rfl) (goes1 rfl rfl (neq_false rfl)) (QOk.then (QOk.inBlock (QOk.then (QOk.then (QOk.inBlock (QOk.then QOk.body)))))) (fun w => q_move rfl) ?_
        first | refine o_pure (i := 32) (fun j w => ⟨(fun j w => ⟨(fun _ _ => trivial) j w, fun _ h => h⟩) j w, fun _ h => h⟩) rfl rfl (by kernel_rfl) (goes1 rfl rfl (neq_false rfl)) (QOk.then (QOk.inBlock (QOk.then (QOk.then (QOk.inBlock (QOk.then QOk.body)))))) (fun w => q_ieq0 rfl (by kernel_rfl)) ?_ | refine o_pure (i := 32) (fun j w => ⟨(fun j w => ⟨(fun _ _ => trivial) j w, fun _ h => h⟩) j w, fun _ h => h⟩) rfl rfl (by kernel_rfl) (goes1 rfl rfl (neq_false rfl)) (QOk.then (QOk.inBlock (QOk.then (QOk.then (QOk.inBlock (QOk.then QOk.body)))))) (fun w => q_ieq1 rfl (by kernel_rfl)) ?_ | refine o_pure (i := 32) (fun j w => ⟨(fun j w => ⟨(fun _ _ => trivial) j w, fun _ h => h⟩) j w, fun _ h => h⟩) rfl rfl (by kernel_rfl) (goes1 rfl rfl (neq_false rfl)) (QOk.then (QOk.inBlock (QOk.then (QOk.then (QOk.inBlock (QOk.then QOk.body)))))) (fun w => q_ieq rfl (by assumption) (by kernel_rfl)) ?_
        refine o_pure (i := 33) (fun j w => ⟨(fun j w => ⟨(fun _ _ => trivial) j w, fun _ h => h⟩) j w, fun _ h => h⟩) rfl rfl (by kernel_rfl) (goes1 rfl rfl (neq_false rfl)) (QOk.then (QOk.inBlock (QOk.then (QOk.then (QOk.inBlock (QOk.then QOk.body)))))) (fun w => q_fieldAddr (ft := 30) (o := 0) rfl (by kernel_rfl)) ?_
        refine o_held (i := 34) [35, 36, 37, 38] (fun j w => ⟨(fun j w => ⟨(fun _ _ => trivial) j w, fun _ h => h⟩) j w, fun _ h => h⟩) rfl rfl (by kernel_rfl) (goes1 rfl rfl (neq_false rfl)) (QOk.then (QOk.inBlock (QOk.then (QOk.then (QOk.inBlock (QOk.then QOk.body)))))) (q_load1 rfl (by kernel_rfl) (by first | exact hS32.cell (i := 0) rfl rfl | exact hS32.cell (i := 1) rfl rfl | exact hS32.cell (i := 2) rfl rfl | exact hS32.cell (i := 3) rfl rfl | exact hS32.cell (i := 4) rfl rfl | exact hS32.cell (i := 5) rfl rfl | exact hS32.cell (i := 6) rfl rfl | exact hS32.cell (i := 7) rfl rfl | assumption)) ?_
        refine o_pure (i := 35) (fun j w => ⟨(fun j w => ⟨(fun j w => ⟨(fun _ _ => trivial) j w, fun _ h => h⟩) j w, fun _ h => h⟩) j w, fun _ h => h⟩) rfl rfl (by kernel_rfl) (goes1 rfl rfl (neq_false rfl)) (QOk.then (QOk.inBlock (QOk.then (QOk.then (QOk.inBlock (QOk.then QOk.body)))))) (fun w => q_lenSl (e := 23) rfl (by kernel_rfl)) ?_
        refine o_pure (i := 36) (fun j w => ⟨(fun j w => ⟨(fun j w => ⟨(fun _ _ => trivial) j w, fun _ h => h⟩) j w, fun _ h => h⟩) j w, fun _ h => h⟩) rfl rfl (by kernel_rfl) (goes1 rfl rfl (neq_false rfl)) (QOk.then (QOk.inBlock (QOk.then (QOk.then (QOk.inBlock (QOk.then QOk.body)))))) (fun w => q_eql rfl rfl) ?_
        refine o_pure (i := 37) (fun j w => ⟨(fun j w => ⟨(fun j w => ⟨(fun _ _ => trivial) j w, fun _ h => h⟩) j w, fun _ h => h⟩) j w, fun _ h => h⟩) rfl rfl (by kernel_rfl) (goes1 rfl rfl (neq_false rfl)) (QOk.then (QOk.inBlock (QOk.then (QOk.then (QOk.inBlock (QOk.then QOk.body)))))) (fun w => q_bool_neq rfl rfl (by kernel_rfl)) ?_
        refine o_pure (i := 38) (fun j w => ⟨(fun j w => ⟨(fun j w => ⟨(fun _ _ => trivial) j w, fun _ h => h⟩) j w, fun _ h => h⟩) j w, fun _ h => h⟩) rfl rfl (by kernel_rfl) (goes0 rfl) (QOk.then (QOk.inBlock (QOk.then (QOk.then (QOk.inBlock (QOk.then QOk.body)))))) (fun w => q_pickF rfl (neq_false rfl) rfl) ?_
        refine o_done (by kernel_rfl) ?_
        refine hK26 _ _ ?_
        refine c_condF rfl (neq_false (nil_len hr4 hrn)) ?_
        refine wp_skip ?_
        refine hK10 _ _ ?_
        refine wp_region_lit ?_
        first | refine l_q rfl rfl (q_moveI rfl) ?_ | refine l_q rfl rfl (q_move rfl) ?_
        first | refine l_q rfl rfl (q_addx rfl rfl (by first | decide | omega) (by first | decide | omega)) ?_ | refine l_q rfl rfl (q_add rfl rfl) ?_
        first | refine l_q rfl rfl (q_assignI rfl) ?_ | refine l_q rfl rfl (q_assign rfl) ?_
        refine l_nil ?_
        refine hK6 _ _ (came ((i + 1, ())) (by repeat' (first | exact Agree.refl _ _ | refine Agree.up ?_ rfl | refine Agree.hav2 ?_ rfl | refine Agree.ups2 ?_ rfl)) (by repeat' (first | exact trivial | refine ⟨by first | rfl | exact int_succ _, ?_⟩)) ?_)
        exact ⟨⟨hS32.sub (by repeat' (first | exact List.Sublist.refl _ | exact List.nil_sublist _ | apply List.Sublist.cons_cons | apply List.Sublist.cons)), by (show i + 1 ≤ m); omega⟩, by (show m - (i + 1) < m - i); omega⟩
      ·
        have hc19b := hc19
        try simp only [decide_eq_true_eq, decide_eq_false_iff_not, Bool.not_eq_true', Bool.not_eq_false', Bool.and_eq_true, Bool.or_eq_true, Int.not_lt, Int.not_le, ne_eq, Decidable.not_not] at hc19
        have h0 := hc19
        have h1 : re.list = [] := List.eq_nil_of_length_eq_zero (by omega)
        have hcz : cod re = 0 := by rw [cod, Er.first_eq, h1]; rfl
        have hpz : plc re = -1 := by rw [plc, Er.first_eq, h1]; rfl
        refine wp_skip ?_
        refine hK17 _ _ ?_
        refine wp_seq_k (fun K34 hK34 => ?_)
        refine r_any (by kernel_rfl) hS14 (fun w35 hS35 => ?_)
        clear hS14
        refine o_pure (i := 0) (fun _ _ => trivial) rfl rfl (by kernel_rfl) (goes0 rfl) (QOk.then (QOk.inBlock (QOk.then (QOk.then (QOk.inBlock (QOk.then QOk.body)))))) (fun w => q_move rfl) ?_
        refine o_pure (i := 2) (fun _ _ => trivial) rfl rfl (by kernel_rfl) (goes0 rfl) (QOk.then (QOk.inBlock (QOk.then (QOk.then (QOk.inBlock (QOk.then QOk.body)))))) (fun w => q_move rfl) ?_
        refine o_held (i := 4) [5, 6] (fun _ _ => trivial) rfl rfl (by kernel_rfl) (goes0 rfl) (QOk.then (QOk.inBlock (QOk.then (QOk.then (QOk.inBlock (QOk.then QOk.body)))))) (q_loadA (m := 3) rfl (by kernel_rfl) (by kernel_rfl) (by first | exact hS35.blk (i := 0) rfl | exact hS35.blk (i := 1) rfl | exact hS35.blk (i := 2) rfl | exact hS35.blk (i := 3) rfl | exact hS35.blk (i := 4) rfl | exact hS35.blk (i := 5) rfl | exact hS35.blk (i := 6) rfl | exact hS35.blk (i := 7) rfl | assumption) rfl rfl) ?_
        refine o_eff (i := 1) (by kernel_rfl) rfl (goes0 rfl) (fun K hK => ?_)
        refine e_call (by kernel_rfl) (Codes_ok re _ _ (by first | decide | omega) (hl.keep id hS35) (pool_er hS35 (i := 1) rfl hr1)) rfl (after_N hS35 (fun v36 G36 w36 hv36 hS36 => ?_))
        clear hS35; subst hv36; obtain ⟨pa, pc, rfl⟩ := own_slice (hS36.sl (i := 0) rfl)
        refine hK _ _ ⟨trivial, fun _ _ => by first | exact q_loadA (m := 3) rfl (by kernel_rfl) (by kernel_rfl) (by first | exact hS36.blk (i := 0) rfl | exact hS36.blk (i := 1) rfl | exact hS36.blk (i := 2) rfl | exact hS36.blk (i := 3) rfl | exact hS36.blk (i := 4) rfl | exact hS36.blk (i := 5) rfl | exact hS36.blk (i := 6) rfl | exact hS36.blk (i := 7) rfl | assumption) rfl rfl⟩ ?_; clear hK K
        refine o_eff (i := 3) (by kernel_rfl) rfl (goes0 rfl) (fun K hK => ?_)
        refine e_call (by kernel_rfl) (Places_ok re _ _ (by first | decide | omega) (hl.keep id hS36) (pool_er hS36 (i := 2) rfl hr1)) rfl (after_N hS36 (fun v37 G37 w37 hv37 hS37 => ?_))
        clear hS36; subst hv37; obtain ⟨oa, oc, rfl⟩ := own_slice (hS37.sl (i := 0) rfl)
        refine hK _ _ ⟨trivial, fun _ _ => by first | exact q_loadA (m := 3) rfl (by kernel_rfl) (by kernel_rfl) (by first | exact hS37.blk (i := 0) rfl | exact hS37.blk (i := 1) rfl | exact hS37.blk (i := 2) rfl | exact hS37.blk (i := 3) rfl | exact hS37.blk (i := 4) rfl | exact hS37.blk (i := 5) rfl | exact hS37.blk (i := 6) rfl | exact hS37.blk (i := 7) rfl | assumption) rfl rfl⟩ ?_; clear hK K
        refine o_eff (i := 5) (by kernel_rfl) rfl (goes0 rfl) (fun K hK => ?_)
        have hso := own_SlR (hS37.sl (i := 0) rfl); rw [iv_places_eq] at hso
        have hsp := own_SlR (hS37.sl (i := 1) rfl); rw [iv_codes_eq] at hsp
        refine e_call (by kernel_rfl) (rSame_ok re _ _ _ _ _ _ _ _ (by omega) _ hsp hso (pool_slr hS37 (i := 3) rfl hr2) (pool_slr hS37 (i := 3) rfl hr3)) rfl (after_R hS37 (fun v38 w38 hv38 hS38 => ?_))
        clear hS37; replace hv38 := hv38.symm; subst hv38
        refine hK _ _ ⟨trivial, fun h => absurd h (by decide)⟩ ?_; clear hK K
        first | refine o_pure (i := 6) (fun j w => ⟨(fun _ _ => trivial) j w, fun _ h => h⟩) rfl rfl (by kernel_rfl) (goes0 rfl) (QOk.then (QOk.inBlock (QOk.then (QOk.then (QOk.inBlock (QOk.then QOk.body)))))) (fun w => q_assignB rfl) ?_ | refine o_pure (i := 6) (fun j w => ⟨(fun _ _ => trivial) j w, fun _ h => h⟩) rfl rfl (by kernel_rfl) (goes0 rfl) (QOk.then (QOk.inBlock (QOk.then (QOk.then (QOk.inBlock (QOk.then QOk.body)))))) (fun w => q_assign rfl) ?_
        refine o_done (by kernel_rfl) ?_
        refine hK34 _ _ ?_
        refine wp_seq_k (fun K39 hK39 => ?_)
        refine r_any (by kernel_rfl) hS38 (fun w40 hS40 => ?_)
        clear hS38
        first | refine o_pure (i := 0) (fun _ _ => trivial) rfl rfl (by kernel_rfl) (goes0 rfl) (QOk.then (QOk.inBlock (QOk.then (QOk.then (QOk.inBlock (QOk.then QOk.body)))))) (fun w => q_moveB rfl) ?_ | refine o_pure (i := 0) (fun _ _ => trivial) rfl rfl (by kernel_rfl) (goes0 rfl) (QOk.then (QOk.inBlock (QOk.then (QOk.then (QOk.inBlock (QOk.then QOk.body)))))) (fun w => q_move rfl) ?_
        refine o_pure (i := 1) (fun _ _ => trivial) rfl rfl (by kernel_rfl) (goes0 rfl) (QOk.then (QOk.inBlock (QOk.then (QOk.then (QOk.inBlock (QOk.then QOk.body)))))) (fun w => q_not rfl) ?_
        first | refine o_pure (i := 2) (fun _ _ => trivial) rfl rfl (by kernel_rfl) (goes0 rfl) (QOk.then (QOk.inBlock (QOk.then (QOk.then (QOk.inBlock (QOk.then QOk.body)))))) (fun w => q_moveB rfl) ?_ | refine o_pure (i := 2) (fun _ _ => trivial) rfl rfl (by kernel_rfl) (goes0 rfl) (QOk.then (QOk.inBlock (QOk.then (QOk.then (QOk.inBlock (QOk.then QOk.body)))))) (fun w => q_move rfl) ?_
        refine o_pure (i := 3) (fun _ _ => trivial) rfl rfl (by kernel_rfl) (goes1 rfl rfl rfl) (QOk.then (QOk.inBlock (QOk.then (QOk.then (QOk.inBlock (QOk.then QOk.body)))))) (fun w => q_move rfl) ?_
        first | refine o_pure (i := 5) (fun _ _ => trivial) rfl rfl (by kernel_rfl) (goes1 rfl rfl rfl) (QOk.then (QOk.inBlock (QOk.then (QOk.then (QOk.inBlock (QOk.then QOk.body)))))) (fun w => q_moveI rfl) ?_ | refine o_pure (i := 5) (fun _ _ => trivial) rfl rfl (by kernel_rfl) (goes1 rfl rfl rfl) (QOk.then (QOk.inBlock (QOk.then (QOk.then (QOk.inBlock (QOk.then QOk.body)))))) (fun w => q_move rfl) ?_
        refine o_eff (i := 4) (by kernel_rfl) rfl (goes1 rfl rfl rfl) (fun K hK => ?_)
        refine e_call (by kernel_rfl) (Code_ok re hr4 _ _ (hl.keep id hS40) (pool_er hS40 (i := 3) rfl hr1)) rfl (after_R hS40 (fun v41 w41 hv41 hS41 => ?_))
        clear hS40; replace hv41 := hv41.symm; subst hv41
        refine hK _ _ trivial ?_; clear hK K
        refine o_pure (i := 6) (fun _ _ => trivial) rfl rfl (by kernel_rfl) (goes1 rfl rfl rfl) (QOk.then (QOk.inBlock (QOk.then (QOk.then (QOk.inBlock (QOk.then QOk.body)))))) (fun w => q_neq rfl rfl) ?_
        refine o_pure (i := 7) (fun _ _ => trivial) rfl rfl (by kernel_rfl) (goes0 rfl) (QOk.then (QOk.inBlock (QOk.then (QOk.then (QOk.inBlock (QOk.then QOk.body)))))) (fun w => q_pickF rfl rfl rfl) ?_
        first | refine o_pure (i := 8) (fun _ _ => trivial) rfl rfl (by kernel_rfl) (goes0 rfl) (QOk.then (QOk.inBlock (QOk.then (QOk.then (QOk.inBlock (QOk.then QOk.body)))))) (fun w => q_moveB rfl) ?_ | refine o_pure (i := 8) (fun _ _ => trivial) rfl rfl (by kernel_rfl) (goes0 rfl) (QOk.then (QOk.inBlock (QOk.then (QOk.then (QOk.inBlock (QOk.then QOk.body)))))) (fun w => q_move rfl) ?_
        refine o_pure (i := 9) (fun _ _ => trivial) rfl rfl (by kernel_rfl) (goes1 rfl rfl (decide_eq_false (fun hh => hh hcz))) (QOk.then (QOk.inBlock (QOk.then (QOk.then (QOk.inBlock (QOk.then QOk.body)))))) (fun w => q_move rfl) ?_
        first | refine o_pure (i := 11) (fun _ _ => trivial) rfl rfl (by kernel_rfl) (goes1 rfl rfl (decide_eq_false (fun hh => hh hcz))) (QOk.then (QOk.inBlock (QOk.then (QOk.then (QOk.inBlock (QOk.then QOk.body)))))) (fun w => q_moveI rfl) ?_ | refine o_pure (i := 11) (fun _ _ => trivial) rfl rfl (by kernel_rfl) (goes1 rfl rfl (decide_eq_false (fun hh => hh hcz))) (QOk.then (QOk.inBlock (QOk.then (QOk.then (QOk.inBlock (QOk.then QOk.body)))))) (fun w => q_move rfl) ?_
        refine o_eff (i := 10) (by kernel_rfl) rfl (goes1 rfl rfl (decide_eq_false (fun hh => hh hcz))) (fun K hK => ?_)
        refine e_call (by kernel_rfl) (At_ok re hr4 _ _ (hl.keep id hS41) (pool_er hS41 (i := 3) rfl hr1)) rfl (after_R hS41 (fun v42 w42 hv42 hS42 => ?_))
        clear hS41; replace hv42 := hv42.symm; subst hv42
        refine hK _ _ trivial ?_; clear hK K
        refine o_pure (i := 12) (fun _ _ => trivial) rfl rfl (by kernel_rfl) (goes1 rfl rfl (decide_eq_false (fun hh => hh hcz))) (QOk.then (QOk.inBlock (QOk.then (QOk.then (QOk.inBlock (QOk.then QOk.body)))))) (fun w => q_neq rfl rfl) ?_
        refine o_pure (i := 13) (fun _ _ => trivial) rfl rfl (by kernel_rfl) (goes0 rfl) (QOk.then (QOk.inBlock (QOk.then (QOk.then (QOk.inBlock (QOk.then QOk.body)))))) (fun w => q_pickF rfl (decide_eq_false (fun hh => hh hcz)) rfl) ?_
        first | refine o_pure (i := 14) (fun _ _ => trivial) rfl rfl (by kernel_rfl) (goes0 rfl) (QOk.then (QOk.inBlock (QOk.then (QOk.then (QOk.inBlock (QOk.then QOk.body)))))) (fun w => q_moveB rfl) ?_ | refine o_pure (i := 14) (fun _ _ => trivial) rfl rfl (by kernel_rfl) (goes0 rfl) (QOk.then (QOk.inBlock (QOk.then (QOk.then (QOk.inBlock (QOk.then QOk.body)))))) (fun w => q_move rfl) ?_
        refine o_pure (i := 15) (fun _ _ => trivial) rfl rfl (by kernel_rfl) (goes1 rfl rfl (decide_eq_false (fun hh => hh hpz))) (QOk.then (QOk.inBlock (QOk.then (QOk.then (QOk.inBlock (QOk.then QOk.body)))))) (fun w => q_move rfl) ?_
        refine o_pure (i := 17) (fun _ _ => trivial) rfl rfl (by kernel_rfl) (goes1 rfl rfl (decide_eq_false (fun hh => hh hpz))) (QOk.then (QOk.inBlock (QOk.then (QOk.then (QOk.inBlock (QOk.then QOk.body)))))) (fun w => q_fieldAddr (ft := 3) (o := 2) rfl (by kernel_rfl)) ?_
        refine o_held (i := 18) [19, 20, 21, 22, 23, 24, 25, 26, 27, 28, 29, 30, 31, 32, 33, 34, 35, 36, 37, 38] (fun _ _ => trivial) rfl rfl (by kernel_rfl) (goes1 rfl rfl (decide_eq_false (fun hh => hh hpz))) (QOk.then (QOk.inBlock (QOk.then (QOk.then (QOk.inBlock (QOk.then QOk.body)))))) (q_load1 rfl (by kernel_rfl) (by first | exact hS42.cell (i := 0) rfl rfl | exact hS42.cell (i := 1) rfl rfl | exact hS42.cell (i := 2) rfl rfl | exact hS42.cell (i := 3) rfl rfl | exact hS42.cell (i := 4) rfl rfl | exact hS42.cell (i := 5) rfl rfl | exact hS42.cell (i := 6) rfl rfl | exact hS42.cell (i := 7) rfl rfl | assumption)) ?_
        refine o_eff (i := 16) (by kernel_rfl) rfl (goes1 rfl rfl (decide_eq_false (fun hh => hh hpz))) (fun K hK => ?_)
        refine e_call (by kernel_rfl) (Deep_ok re _ _ (by omega) (pool_er hS42 (i := 3) rfl hr1)) rfl (after_R hS42 (fun v43 w43 hv43 hS43 => ?_))
        clear hS42; replace hv43 := hv43.symm; subst hv43
        refine hK _ _ ⟨trivial, fun _ _ => by first | exact q_load1 rfl (by kernel_rfl) (by first | exact hS43.cell (i := 0) rfl rfl | exact hS43.cell (i := 1) rfl rfl | exact hS43.cell (i := 2) rfl rfl | exact hS43.cell (i := 3) rfl rfl | exact hS43.cell (i := 4) rfl rfl | exact hS43.cell (i := 5) rfl rfl | exact hS43.cell (i := 6) rfl rfl | exact hS43.cell (i := 7) rfl rfl | assumption)⟩ ?_; clear hK K
        refine o_pure (i := 19) (fun j w => ⟨(fun _ _ => trivial) j w, fun _ h => h⟩) rfl rfl (by kernel_rfl) (goes1 rfl rfl (decide_eq_false (fun hh => hh hpz))) (QOk.then (QOk.inBlock (QOk.then (QOk.then (QOk.inBlock (QOk.then QOk.body)))))) (fun w => q_neq rfl rfl) ?_
        refine o_pure (i := 20) (fun j w => ⟨(fun _ _ => trivial) j w, fun _ h => h⟩) rfl rfl (by kernel_rfl) (goes0 rfl) (QOk.then (QOk.inBlock (QOk.then (QOk.then (QOk.inBlock (QOk.then QOk.body)))))) (fun w => q_pickF rfl (decide_eq_false (fun hh => hh hpz)) rfl) ?_
        first | refine o_pure (i := 21) (fun j w => ⟨(fun _ _ => trivial) j w, fun _ h => h⟩) rfl rfl (by kernel_rfl) (goes0 rfl) (QOk.then (QOk.inBlock (QOk.then (QOk.then (QOk.inBlock (QOk.then QOk.body)))))) (fun w => q_moveB rfl) ?_ | refine o_pure (i := 21) (fun j w => ⟨(fun _ _ => trivial) j w, fun _ h => h⟩) rfl rfl (by kernel_rfl) (goes0 rfl) (QOk.then (QOk.inBlock (QOk.then (QOk.then (QOk.inBlock (QOk.then QOk.body)))))) (fun w => q_move rfl) ?_
        refine o_pure (i := 22) (fun j w => ⟨(fun _ _ => trivial) j w, fun _ h => h⟩) rfl rfl (by kernel_rfl) (goes1 rfl rfl (decide_eq_false (fun hh => hh rfl))) (QOk.then (QOk.inBlock (QOk.then (QOk.then (QOk.inBlock (QOk.then QOk.body)))))) (fun w => q_move rfl) ?_
        first | refine o_pure (i := 23) (fun j w => ⟨(fun _ _ => trivial) j w, fun _ h => h⟩) rfl rfl (by kernel_rfl) (goes1 rfl rfl (decide_eq_false (fun hh => hh rfl))) (QOk.then (QOk.inBlock (QOk.then (QOk.then (QOk.inBlock (QOk.then QOk.body)))))) (fun w => q_moveI rfl) ?_ | refine o_pure (i := 23) (fun j w => ⟨(fun _ _ => trivial) j w, fun _ h => h⟩) rfl rfl (by kernel_rfl) (goes1 rfl rfl (decide_eq_false (fun hh => hh rfl))) (QOk.then (QOk.inBlock (QOk.then (QOk.then (QOk.inBlock (QOk.then QOk.body)))))) (fun w => q_move rfl) ?_
        refine o_held (i := 25) [27, 28, 29, 30, 31, 32, 33, 34, 35, 36, 37, 38] (fun j w => ⟨(fun _ _ => trivial) j w, fun _ h => h⟩) rfl rfl (by kernel_rfl) (goes1 rfl rfl (decide_eq_false (fun hh => hh rfl))) (QOk.then (QOk.inBlock (QOk.then (QOk.then (QOk.inBlock (QOk.then QOk.body)))))) (q_loadA (m := 3) rfl (by kernel_rfl) (by kernel_rfl) (by first | exact hS43.blk (i := 0) rfl | exact hS43.blk (i := 1) rfl | exact hS43.blk (i := 2) rfl | exact hS43.blk (i := 3) rfl | exact hS43.blk (i := 4) rfl | exact hS43.blk (i := 5) rfl | exact hS43.blk (i := 6) rfl | exact hS43.blk (i := 7) rfl | assumption) rfl rfl) ?_
        first | refine o_pure (i := 26) (fun j w => ⟨(fun j w => ⟨(fun _ _ => trivial) j w, fun _ h => h⟩) j w, fun _ h => h⟩) rfl rfl (by kernel_rfl) (goes1 rfl rfl (decide_eq_false (fun hh => hh rfl))) (QOk.then (QOk.inBlock (QOk.then (QOk.then (QOk.inBlock (QOk.then QOk.body)))))) (fun w => q_moveI rfl) ?_ | refine o_pure (i := 26) (fun j w => ⟨(fun j w => ⟨(fun _ _ => trivial) j w, fun _ h => h⟩) j w, fun _ h => h⟩) rfl rfl (by kernel_rfl) (goes1 rfl rfl (decide_eq_false (fun hh => hh rfl))) (QOk.then (QOk.inBlock (QOk.then (QOk.then (QOk.inBlock (QOk.then QOk.body)))))) (fun w => q_move rfl) ?_
        refine o_eff (i := 24) (by kernel_rfl) rfl (goes1 rfl rfl (decide_eq_false (fun hh => hh rfl))) (fun K hK => ?_)
        refine e_call (by kernel_rfl) (Has_ok c re _ _ hr4 (hl.keep id hS43) (pool_er hS43 (i := 3) rfl hr1)) rfl (after_R hS43 (fun v44 w44 hv44 hS44 => ?_))
        clear hS43; replace hv44 := hv44.symm; subst hv44
        refine hK _ _ ⟨⟨trivial, fun h => absurd h (by decide)⟩, fun _ _ => by first | exact q_loadA (m := 3) rfl (by kernel_rfl) (by kernel_rfl) (by first | exact hS44.blk (i := 0) rfl | exact hS44.blk (i := 1) rfl | exact hS44.blk (i := 2) rfl | exact hS44.blk (i := 3) rfl | exact hS44.blk (i := 4) rfl | exact hS44.blk (i := 5) rfl | exact hS44.blk (i := 6) rfl | exact hS44.blk (i := 7) rfl | assumption) rfl rfl⟩ ?_; clear hK K
        refine o_eff (i := 27) (by kernel_rfl) rfl (goes1 rfl rfl (decide_eq_false (fun hh => hh rfl))) (fun K hK => ?_)
        refine e_call (by kernel_rfl) (rHas_ok re _ _ _ _ (by omega) c _ (pool_slr hS44 (i := 3) rfl hr2)) rfl (after_R hS44 (fun v45 w45 hv45 hS45 => ?_))
        clear hS44; replace hv45 := hv45.symm; subst hv45
        refine hK _ _ ⟨⟨trivial, fun h => absurd h (by decide)⟩, fun h => absurd h (by decide)⟩ ?_; clear hK K
        refine o_pure (i := 28) (fun j w => ⟨(fun j w => ⟨(fun _ _ => trivial) j w, fun _ h => h⟩) j w, fun _ h => h⟩) rfl rfl (by kernel_rfl) (goes1 rfl rfl (decide_eq_false (fun hh => hh rfl))) (QOk.then (QOk.inBlock (QOk.then (QOk.then (QOk.inBlock (QOk.then QOk.body)))))) (fun w => q_bool_neq rfl rfl (by kernel_rfl)) ?_
        refine o_pure (i := 29) (fun j w => ⟨(fun j w => ⟨(fun _ _ => trivial) j w, fun _ h => h⟩) j w, fun _ h => h⟩) rfl rfl (by kernel_rfl) (goes0 rfl) (QOk.then (QOk.inBlock (QOk.then (QOk.then (QOk.inBlock (QOk.then QOk.body)))))) (fun w => q_pickF rfl (decide_eq_false (fun hh => hh rfl)) rfl) ?_
        first | refine o_pure (i := 30) (fun j w => ⟨(fun j w => ⟨(fun _ _ => trivial) j w, fun _ h => h⟩) j w, fun _ h => h⟩) rfl rfl (by kernel_rfl) (goes0 rfl) (QOk.then (QOk.inBlock (QOk.then (QOk.then (QOk.inBlock (QOk.then QOk.body)))))) (fun w => q_moveB rfl) ?_ | refine o_pure (i := 30) (fun j w => ⟨(fun j w => ⟨(fun _ _ => trivial) j w, fun _ h => h⟩) j w, fun _ h => h⟩) rfl rfl (by kernel_rfl) (goes0 rfl) (QOk.then (QOk.inBlock (QOk.then (QOk.then (QOk.inBlock (QOk.then QOk.body)))))) (fun w => q_move rfl) ?_
        refine o_pure (i := 31) (fun j w => ⟨(fun j w => ⟨(fun _ _ => trivial) j w, fun _ h => h⟩) j w, fun _ h => h⟩) rfl rfl (by kernel_rfl) (goes1 rfl rfl (neq_false rfl)) (QOk.then (QOk.inBlock (QOk.then (QOk.then (QOk.inBlock (QOk.then QOk.body)))))) (fun w => q_move rfl) ?_
        first | refine o_pure (i := 32) (fun j w => ⟨(fun j w => ⟨(fun _ _ => trivial) j w, fun _ h => h⟩) j w, fun _ h => h⟩) rfl rfl (by kernel_rfl) (goes1 rfl rfl (neq_false rfl)) (QOk.then (QOk.inBlock (QOk.then (QOk.then (QOk.inBlock (QOk.then QOk.body)))))) (fun w => q_ieq0 rfl (by kernel_rfl)) ?_ | refine o_pure (i := 32) (fun j w => ⟨(fun j w => ⟨(fun _ _ => trivial) j w, fun _ h => h⟩) j w, fun _ h => h⟩) rfl rfl (by kernel_rfl) (goes1 rfl rfl (neq_false rfl)) (QOk.then (QOk.inBlock (QOk.then (QOk.then (QOk.inBlock (QOk.then QOk.body)))))) (fun w => q_ieq1 rfl (by kernel_rfl)) ?_ | refine o_pure (i := 32) (fun j w => ⟨(fun j w => ⟨(fun _ _ => trivial) j w, fun _ h => h⟩) j w, fun _ h => h⟩) rfl rfl (by kernel_rfl) (goes1 rfl rfl (neq_false rfl)) (QOk.then (QOk.inBlock (QOk.then (QOk.then (QOk.inBlock (QOk.then QOk.body)))))) (fun w => q_ieq rfl (by assumption) (by kernel_rfl)) ?_
        refine o_pure (i := 33) (fun j w => ⟨(fun j w => ⟨(fun _ _ => trivial) j w, fun _ h => h⟩) j w, fun _ h => h⟩) rfl rfl (by kernel_rfl) (goes1 rfl rfl (neq_false rfl)) (QOk.then (QOk.inBlock (QOk.then (QOk.then (QOk.inBlock (QOk.then QOk.body)))))) (fun w => q_fieldAddr (ft := 30) (o := 0) rfl (by kernel_rfl)) ?_
        refine o_held (i := 34) [35, 36, 37, 38] (fun j w => ⟨(fun j w => ⟨(fun _ _ => trivial) j w, fun _ h => h⟩) j w, fun _ h => h⟩) rfl rfl (by kernel_rfl) (goes1 rfl rfl (neq_false rfl)) (QOk.then (QOk.inBlock (QOk.then (QOk.then (QOk.inBlock (QOk.then QOk.body)))))) (q_load1 rfl (by kernel_rfl) (by first | exact hS45.cell (i := 0) rfl rfl | exact hS45.cell (i := 1) rfl rfl | exact hS45.cell (i := 2) rfl rfl | exact hS45.cell (i := 3) rfl rfl | exact hS45.cell (i := 4) rfl rfl | exact hS45.cell (i := 5) rfl rfl | exact hS45.cell (i := 6) rfl rfl | exact hS45.cell (i := 7) rfl rfl | assumption)) ?_
        refine o_pure (i := 35) (fun j w => ⟨(fun j w => ⟨(fun j w => ⟨(fun _ _ => trivial) j w, fun _ h => h⟩) j w, fun _ h => h⟩) j w, fun _ h => h⟩) rfl rfl (by kernel_rfl) (goes1 rfl rfl (neq_false rfl)) (QOk.then (QOk.inBlock (QOk.then (QOk.then (QOk.inBlock (QOk.then QOk.body)))))) (fun w => q_lenSl (e := 23) rfl (by kernel_rfl)) ?_
        refine o_pure (i := 36) (fun j w => ⟨(fun j w => ⟨(fun j w => ⟨(fun _ _ => trivial) j w, fun _ h => h⟩) j w, fun _ h => h⟩) j w, fun _ h => h⟩) rfl rfl (by kernel_rfl) (goes1 rfl rfl (neq_false rfl)) (QOk.then (QOk.inBlock (QOk.then (QOk.then (QOk.inBlock (QOk.then QOk.body)))))) (fun w => q_eql rfl rfl) ?_
        refine o_pure (i := 37) (fun j w => ⟨(fun j w => ⟨(fun j w => ⟨(fun _ _ => trivial) j w, fun _ h => h⟩) j w, fun _ h => h⟩) j w, fun _ h => h⟩) rfl rfl (by kernel_rfl) (goes1 rfl rfl (neq_false rfl)) (QOk.then (QOk.inBlock (QOk.then (QOk.then (QOk.inBlock (QOk.then QOk.body)))))) (fun w => q_bool_neq rfl rfl (by kernel_rfl)) ?_
        refine o_pure (i := 38) (fun j w => ⟨(fun j w => ⟨(fun j w => ⟨(fun _ _ => trivial) j w, fun _ h => h⟩) j w, fun _ h => h⟩) j w, fun _ h => h⟩) rfl rfl (by kernel_rfl) (goes0 rfl) (QOk.then (QOk.inBlock (QOk.then (QOk.then (QOk.inBlock (QOk.then QOk.body)))))) (fun w => q_pickF rfl (neq_false rfl) rfl) ?_
        refine o_done (by kernel_rfl) ?_
        refine hK39 _ _ ?_
        refine c_condF rfl (neq_false (nil_len hr4 hrn)) ?_
        refine wp_skip ?_
        refine hK10 _ _ ?_
        refine wp_region_lit ?_
        first | refine l_q rfl rfl (q_moveI rfl) ?_ | refine l_q rfl rfl (q_move rfl) ?_
        first | refine l_q rfl rfl (q_addx rfl rfl (by first | decide | omega) (by first | decide | omega)) ?_ | refine l_q rfl rfl (q_add rfl rfl) ?_
        first | refine l_q rfl rfl (q_assignI rfl) ?_ | refine l_q rfl rfl (q_assign rfl) ?_
        refine l_nil ?_
        refine hK6 _ _ (came ((i + 1, ())) (by repeat' (first | exact Agree.refl _ _ | refine Agree.up ?_ rfl | refine Agree.hav2 ?_ rfl | refine Agree.ups2 ?_ rfl)) (by repeat' (first | exact trivial | refine ⟨by first | rfl | exact int_succ _, ?_⟩)) ?_)
        exact ⟨⟨hS45.sub (by repeat' (first | exact List.Sublist.refl _ | exact List.nil_sublist _ | apply List.Sublist.cons_cons | apply List.Sublist.cons)), by (show i + 1 ≤ m); omega⟩, by (show m - (i + 1) < m - i); omega⟩
    ·
      have hc9b := hc9
      try simp only [decide_eq_true_eq, decide_eq_false_iff_not, Bool.not_eq_true', Bool.not_eq_false', Bool.and_eq_true, Bool.or_eq_true, Int.not_lt, Int.not_le, ne_eq, Decidable.not_not] at hc9
      refine wp_exit ?_
      refine hK4 _ _ ?_
      refine wp_seq_k (fun K47 hK47 => ?_)
      refine wp_region_lit ?_
      refine l_e rfl (fun K hK => ?_)
      refine e_call (by kernel_rfl) (alive_ok _ (hl.keep id hS6)) rfl (after_R hS6 (fun v48 w48 hv48 hS48 => ?_))
      clear hS6; replace hv48 := hv48.symm; subst hv48
      refine hK _ _ ?_; clear hK K
      first | refine l_q rfl rfl (q_assignB rfl) ?_ | refine l_q rfl rfl (q_assign rfl) ?_
      refine l_nil ?_
      refine hK47 _ _ ?_
      refine wp_ret ?_
      refine c_ret1 rfl rfl ?_
      exact ⟨_, rfl, rfl, hS48.drop⟩

end Go.Proofs.YtdlmcgflgdmjgaaDoor
