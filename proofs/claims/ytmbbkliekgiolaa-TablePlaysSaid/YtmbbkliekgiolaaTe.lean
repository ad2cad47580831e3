/- Package table: an iterator over entries. -/
import Derived.Test.YtmbbkliekgiolaaTd
import Derived.Test.YtmbbkliekgiolaaSv
set_option linter.unusedVariables false
set_option linter.unusedSimpArgs false
namespace Go.Proofs.Ytmbbkliekgiolaa
open Go.RowKit
theorem St.grownBy {w w' : World} {Γ : List Ch} (h : St w (fun _ => False) Γ w') : w.grownBy w' none := ⟨h.os, h.tape, h.output, h.size, fun k hk _ => h.keep k hk id⟩
abbrev ESub (ps : List Pg) := { a : En // a ∈ flat ps }
def encE (ps : List Pg) (x : ESub ps) : Array Value := #[.agg (en x.1).toArray]
/-- The entries ahead of a place. -/
def ent (ps : List Pg) (i k : Nat) : List En := flat (ps.take i) ++ ((ps[i]?.map Pg.es).getD []).take k
section
variable {ps : List Pg} {i k : Nat} {p : Pg} {a : En} {key : List Nat} {X R : List En}
theorem ent_page (hp : ps[i]? = some p) : ent ps (i + 1) 0 = ent ps i p.es.length := by
  unfold ent
  rw [List.take_zero, List.append_nil, hp, List.take_add_one, hp]
  simp [flat]
theorem ent_succ (hp : ps[i]? = some p) (ha : p.es[k]? = some a) : ent ps i (k + 1) = ent ps i k ++ [a] := by
  unfold ent
  rw [hp]
  simp [List.take_add_one, ha]
theorem ent_end (h : ps.length ≤ i) : ent ps i k = flat ps := by
  unfold ent
  rw [List.getElem?_eq_none h, List.take_of_length_le h]; simp
theorem ent_rest (ps : List Pg) (i k : Nat) : ∃ R, flat ps = ent ps i k ++ R := by
  unfold ent
  rcases Nat.lt_or_ge i ps.length with h | h
  · refine ⟨ps[i].es.drop k ++ flat (ps.drop (i + 1)), ?_⟩
    rw [List.getElem?_eq_getElem h]
    simp only [Option.map_some, Option.getD_some]
    rw [List.append_assoc, ← List.append_assoc (List.take k _), List.take_append_drop, ← flat_cons, ← flat_app, ← List.drop_eq_getElem_cons h, List.take_append_drop]
  · exact ⟨[], by rw [List.getElem?_eq_none h, List.take_of_length_le h]; simp⟩
theorem Where.split {fd : Bool} (h : Where ps key i k fd) : ∃ R, flat ps = ent ps i k ++ R ∧ (∀ a ∈ ent ps i k, bl a.kb key = true) ∧ (∀ a ∈ R, bl a.kb key = false) := by
  rcases h with ⟨rfl, rfl, rfl, _⟩ | ⟨A, q, B, E1, E2, rfl, hA, hq, hE, hc, _⟩
  · exact ⟨[], rfl, fun a ha => (by simp [ent, flat] at ha), fun a ha => (by cases ha)⟩
  · have he : ent (A ++ q :: B) i k = flat A ++ E1 := by
      unfold ent
      rw [at_mid hA, ← hA, List.take_left' rfl]
      simp [hq, ← hE]
    refine ⟨E2 ++ flat B, by rw [he, flat_app, flat_cons, hq]; simp, ?_, ?_⟩
    · rw [he]
      intro a ha
      refine hc.lo a.kv ?_
      rcases List.mem_append.1 ha with ha | ha
      · exact List.mem_append_left _ (List.mem_map.2 ⟨a, ha, rfl⟩)
      · exact List.mem_append_right _ (List.mem_map.2 ⟨a, ha, rfl⟩)
    · intro a ha
      refine hc.hi a.kv ?_
      rcases List.mem_append.1 ha with ha | ha
      · exact List.mem_append_left _ (List.mem_map.2 ⟨a, ha, rfl⟩)
      · exact List.mem_append_right _ (List.mem_map.2 ⟨a, ha, rfl⟩)
/-- All entries from a key on; a part of them. -/
def SeqS (ps : List Pg) (key : List Nat) (xs : List (ESub ps)) : Prop := ∃ X, flat ps = X ++ xs.map Subtype.val ∧ (∀ a ∈ X, bl a.kb key = true) ∧ ∀ a ∈ xs.map Subtype.val, bl a.kb key = false
def SeqP (ps : List Pg) (key : List Nat) (pre : List (ESub ps)) : Prop := ∃ X Y, flat ps = X ++ (pre.map Subtype.val ++ Y) ∧ (∀ a ∈ X, bl a.kb key = true) ∧ ∀ a ∈ pre.map Subtype.val ++ Y, bl a.kb key = false
theorem seqS_of {pre : List (ESub ps)} (hR : flat ps = X ++ R) (hlo : ∀ a ∈ X, bl a.kb key = true) (hhi : ∀ a ∈ R, bl a.kb key = false) (he : ent ps i k = X ++ pre.map Subtype.val) (hi : ps.length ≤ i) : SeqS ps key pre := by
  rw [ent_end hi] at he
  have h1 : R = pre.map Subtype.val := List.append_cancel_left (hR.symm.trans he)
  exact ⟨X, he, hlo, by rw [← h1]; exact hhi⟩
theorem seqP_of {pre : List (ESub ps)} (hR : flat ps = X ++ R) (hlo : ∀ a ∈ X, bl a.kb key = true) (hhi : ∀ a ∈ R, bl a.kb key = false) (he : ent ps i k = X ++ pre.map Subtype.val) : SeqP ps key pre := by
  obtain ⟨Y, hY⟩ := ent_rest ps i k
  rw [he, List.append_assoc] at hY
  have h1 : R = pre.map Subtype.val ++ Y := List.append_cancel_left (hR.symm.trans hY)
  exact ⟨X, Y, hY, hlo, by rw [← h1]; exact hhi⟩
theorem ent_len {pre : List (ESub ps)} (he : ent ps i k = X ++ pre.map Subtype.val) : pre.length < (flat ps).length + 1 := by
  obtain ⟨Y, hY⟩ := ent_rest ps i k
  have h1 := congrArg List.length hY
  rw [he] at h1
  simp only [List.length_append, List.length_map] at h1
  omega
end
attribute [local irreducible] Oper.wp Sem.run Code.wp wpList wpAnyO callFunc execOp Calls
attribute [local irreducible] cmpL putA getA dropA lastB ent

def FromPost (ps : List Pg) (key : List Nat) (J Jx : List (ESub ps) → World → Prop) : Ending → World → Prop := fun e W' => (∃ v, e = .returned v) ∧ ((∃ xs, SeqS ps key xs ∧ J xs W') ∨ (∃ pre, SeqP ps key pre ∧ Jx pre W'))
theorem FromPost.all {ps : List Pg} {key : List Nat} {J Jx : List (ESub ps) → World → Prop} {v : Value} {W' : World} {xs : List (ESub ps)} (h : SeqS ps key xs) (hJ : J xs W') : FromPost ps key J Jx (.returned v) W' := ⟨⟨_, rfl⟩, .inl ⟨_, h, hJ⟩⟩
theorem FromPost.stop {ps : List Pg} {key : List Nat} {J Jx : List (ESub ps) → World → Prop} {v : Value} {W' : World} {xs : List (ESub ps)} (h : SeqP ps key xs) (hJ : Jx xs W') : FromPost ps key J Jx (.returned v) W' := ⟨⟨_, rfl⟩, .inr ⟨_, h, hJ⟩⟩
theorem Where.le {ps : List Pg} {key : List Nat} {i k : Nat} {fd : Bool} (h : Where ps key i k fd) : i ≤ ps.length ∧ ∀ p, ps[i]? = some p → k ≤ p.es.length := by
  rcases h with ⟨rfl, rfl, rfl, _⟩ | ⟨A, q, B, E1, E2, rfl, hA, hq, hE, _⟩
  · exact ⟨Nat.le_refl _, fun p hp => Nat.zero_le _⟩
  · refine ⟨by simp; omega, fun p hp => ?_⟩
    rw [at_mid hA] at hp; injection hp with hp; subst hp
    rw [hq, List.length_append]; omega

set_option maxRecDepth 100000 in
theorem from1_ok (k : Nat) (ad : Option Addr) (cap : Nat) (ps : List Pg) (hsz : (flat ps).length ≤ 90000) (key : List Nat) (hkb : Bytes key) (hkl : key.length ≤ 1000000) (ak : Option Addr) (ck : Nat) (gb : Gh) (hTR : TR gb k ad cap ps) (b1 b2 : Nat) (hb1 : gb b1 = some (.cells #[pV k] 25)) (hb2 : gb b2 = some (.cells #[.slice ak key.length ck] 23)) (hKk : SlG gb ak (bv key)) (n l : Nat) (J Jx : List (ESub ps) → World → Prop) (w : World) (hg : Gle gb (hw w)) (hJ : AbidesFrom w.heap.size J) (hY : ∀ pre x W1, J pre W1 → pre.length < (flat ps).length + 1 → YieldAt Fence.wide (n - 1) Try.prog l (encE ps x) W1 fun e W' => (e = .returned (.bool true) ∧ J (pre ++ [x]) W' ∧ Kg gb W1 W') ∨ (e = .returned (.bool false) ∧ Jx (pre ++ [x]) W')) (h0 : J [] w) : Calls Try.prog 84 #[.func (.yield l) #[] #[], .pointer (some ⟨b1, 0, none⟩), .pointer (some ⟨b2, 0, none⟩)] w (FromPost ps key J Jx) := by
  have hS := St.start w
  have hpgs := hTR.ok.pages
  refine c_enter Try.func84 rfl rfl rfl ?_
  refine wp_seq_k (fun K1 hK1 => ?_)
  refine wp_region_lit ?_
  refine l_q rfl rfl (q_load1 rfl (by kernel_rfl) (cell_blk (hg _ _ hb1) rfl)) ?_
  refine l_q rfl rfl (q_load1 rfl (by kernel_rfl) (cell_blk (hg _ _ hb2) rfl)) ?_
  refine l_e rfl (fun K hK => ?_)
  refine e_call (by kernel_rfl) (find_ok k ps key hkb (by first | omega | (simp only [List.length_append, List.length_map, List.length_cons, List.length_nil, List.length_take, List.length_drop, List.length_set] <;> omega)) (by first | omega | (simp only [List.length_append, List.length_map, List.length_cons, List.length_nil, List.length_take, List.length_drop, List.length_set] <;> omega)) _ _ _ _ _ _ (hg _ _ hTR.blk) (fun p hp => (hTR.pgs p hp).mono hg) hTR.ok.pok (hTR.rows.mono hg) (hKk.mono hg)) rfl (after_R hS (fun v2 w2 hv2 hS2 => ?_))
  clear hS
  obtain ⟨i1, k1, fd1, rfl, hw1⟩ := hv2
  have hg2 : Gle gb (hw w2) := Gle.trans hg hS2.base
  have hJ2 := hJ _ _ _ none h0 hS2.grownBy (fun r e => by cases e)
  obtain ⟨R, hR, hlo, hhi⟩ := hw1.split
  refine hK _ _ ?_; clear hK K
  refine l_q rfl rfl (q_move rfl) ?_
  refine l_q rfl rfl (q_extract rfl rfl) ?_
  refine l_q rfl rfl (q_extract rfl rfl) ?_
  refine l_q rfl rfl (q_extract rfl rfl) ?_
  refine l_q rfl rfl (q_assignI rfl) ?_
  refine l_q rfl rfl (q_assignI rfl) ?_
  refine l_q rfl rfl (q_assignB rfl) ?_
  refine l_nil ?_
  refine hK1 _ _ ?_
  refine wp_block ?_
  refine c_loop (τ := Nat × Nat × (List (ESub ps))) [(4, 5), (14, 47)] (fun x => (fun (i : Nat) (k2 : Nat) (pre : List (ESub ps)) => [(4, .int .i64 ((i : Nat) : Int)), (5, .int .i64 ((k2 : Nat) : Int))]) x.1 x.2.1 x.2.2) (fun x w' => (fun (i : Nat) (k2 : Nat) (pre : List (ESub ps)) => St w' (fun _ => False) [] w' ∧ Gle gb (hw w') ∧ J pre w' ∧ i ≤ ps.length ∧ (∀ p, ps[i]? = some p → k2 ≤ p.es.length) ∧ ent ps i k2 = ent ps i1 k1 ++ List.map Subtype.val pre) x.1 x.2.1 x.2.2) (fun x => (fun (i : Nat) (k2 : Nat) (pre : List (ESub ps)) => ps.length - i) x.1 x.2.1 x.2.2) (⟨i1, k1, []⟩) ?_ (by repeat' (first | exact trivial | refine ⟨by first | rfl | exact int_succ _ | assumption, ?_⟩)) (fun x3 j3 w3 hJ3 K3 hK3 => ?_)
  ·
    exact ⟨St.refl _ _, hg2, hJ2, hw1.le.1, hw1.le.2, by rw [List.map_nil, List.append_nil]⟩
  ·
    obtain ⟨i, k2, pre⟩ := x3
    obtain ⟨hS3, hgl, hJl, hi, hkp, hent⟩ := hJ3
    try dsimp only at hS3 hgl hJl hi hkp hent ⊢
    refine wp_seq_k (fun K4 hK4 => ?_)
    refine wp_seq_k (fun K5 hK5 => ?_)
    refine wp_region_lit ?_
    refine l_q rfl rfl (q_moveI rfl) ?_
    refine l_q rfl rfl (q_load1 rfl (by kernel_rfl) (cell_blk (hgl _ _ hb1) rfl)) ?_
    refine l_q rfl rfl (q_nilCheck rfl) ?_
    refine l_q rfl rfl (q_fieldAddr (ft := 105) (o := 0) rfl (by kernel_rfl)) ?_
    refine l_q rfl rfl (q_load1 rfl (by kernel_rfl) (cell_blk (hgl _ _ hTR.blk) rfl)) ?_
    refine l_q rfl rfl (q_lenSl (e := 111) rfl (by kernel_rfl)) ?_
    refine l_q rfl rfl (q_lss rfl rfl) ?_
    refine l_nil ?_
    refine hK5 _ _ ?_
    refine c_cond rfl (fun hc6 => ?_) (fun hc6 => ?_)
    ·
      have hc6b := hc6
      try simp only [decide_eq_true_eq, decide_eq_false_iff_not, Bool.not_eq_true', Bool.not_eq_false', Bool.and_eq_true, Bool.or_eq_true, Int.not_lt, Int.not_le, ne_eq, Decidable.not_not] at hc6
      obtain ⟨p, hp⟩ : ∃ p, ps[i]? = some p := ⟨_, List.getElem?_eq_getElem (by omega)⟩
      have hpf_p := hTR.ok.pok.few _ (List.mem_of_getElem? hp)
      have hpl_p := lt_of_at hp
      have hpg_p := hTR.pgs _ (List.mem_of_getElem? hp)
      refine wp_skip ?_
      refine hK4 _ _ ?_
      refine wp_seq_k (fun K7 hK7 => ?_)
      refine wp_block ?_
      refine wp_seq_k (fun K8 hK8 => ?_)
      refine wp_block ?_
      refine c_loop (τ := Nat × (List (ESub ps))) [(5, 5), (23, 47)] (fun x => (fun (k3 : Nat) (pre2 : List (ESub ps)) => [(5, .int .i64 ((k3 : Nat) : Int))]) x.1 x.2) (fun x w' => (fun (k3 : Nat) (pre2 : List (ESub ps)) => St w' (fun _ => False) [] w' ∧ Gle gb (hw w') ∧ J pre2 w' ∧ k3 ≤ p.es.length ∧ ent ps i k3 = ent ps i1 k1 ++ List.map Subtype.val pre2) x.1 x.2) (fun x => (fun (k3 : Nat) (pre2 : List (ESub ps)) => p.es.length - k3) x.1 x.2) (⟨k2, pre⟩) ?_ (by repeat' (first | exact trivial | refine ⟨by first | rfl | exact int_succ _ | assumption, ?_⟩)) (fun x9 j9 w9 hJ9 K9 hK9 => ?_)
      ·
        exact ⟨St.refl _ _, hgl, hJl, hkp _ hp, hent⟩
      ·
        obtain ⟨k3, pre2⟩ := x9
        obtain ⟨hS9, hgm, hJm, hk3, hent2⟩ := hJ9
        try dsimp only at hS9 hgm hJm hk3 hent2 ⊢
        refine wp_seq_k (fun K10 hK10 => ?_)
        refine wp_seq_k (fun K11 hK11 => ?_)
        refine wp_region_lit ?_
        refine l_q rfl rfl (q_moveI rfl) ?_
        refine l_q rfl rfl (q_load1 rfl (by kernel_rfl) (cell_blk (hgm _ _ hb1) rfl)) ?_
        refine l_q rfl rfl (q_nilCheck rfl) ?_
        refine l_q rfl rfl (q_fieldAddr (ft := 105) (o := 0) rfl (by kernel_rfl)) ?_
        refine l_q rfl rfl (q_load1 rfl (by kernel_rfl) (cell_blk (hgm _ _ hTR.blk) rfl)) ?_
        refine l_q rfl rfl (q_moveI rfl) ?_
        refine l_q rfl rfl (q_ixG (e := 111) (m := 1) (j := i) rfl rfl (by kernel_rfl) (by kernel_rfl) (by first | rfl | omega) (by omega) hTR.rows (by rw [rows_len (c := pg) (m := 1) (fun _ => rfl)]; first | omega | (simp only [List.length_append, List.length_map, List.length_cons, List.length_nil, List.length_take, List.length_drop, List.length_set] <;> omega))) ?_
        refine l_q rfl rfl (q_load1 rfl (by kernel_rfl) (SlG.cell (hTR.rows.mono hgm) (Gle.refl _) (row_at hp (c := pg) (m := 1) (fun _ => rfl) (j := 0) rfl))) ?_
        refine l_q rfl rfl (q_lenSl (e := 41) rfl (by kernel_rfl)) ?_
        refine l_q rfl rfl (q_lss rfl rfl) ?_
        refine l_nil ?_
        refine hK11 _ _ ?_
        refine c_cond rfl (fun hc12 => ?_) (fun hc12 => ?_)
        ·
          have hc12b := hc12
          try simp only [decide_eq_true_eq, decide_eq_false_iff_not, Bool.not_eq_true', Bool.not_eq_false', Bool.and_eq_true, Bool.or_eq_true, Int.not_lt, Int.not_le, ne_eq, Decidable.not_not] at hc12
          obtain ⟨a, ha⟩ : ∃ a, p.es[k3]? = some a := ⟨_, List.getElem?_eq_getElem (by omega)⟩
          have ham : a ∈ flat ps := List.mem_flatMap.2 ⟨p, List.mem_of_getElem? hp, List.mem_of_getElem? ha⟩
          have hae := hTR.ok.ent a ham
          refine wp_skip ?_
          refine hK10 _ _ ?_
          refine wp_seq_k (fun K13 hK13 => ?_)
          refine wp_block ?_
          refine wp_seq_k (fun K14 hK14 => ?_)
          refine wpIn_wide.1 (wpIn_region_lit (F := Fence.wide) (n := n) ?_)
          refine li_q (fun _ => trivial) rfl rfl rfl (q_move rfl) ?_
          refine li_q (fun _ => trivial) rfl rfl rfl (q_load1 rfl (by kernel_rfl) (cell_blk (hgm _ _ hb1) rfl)) ?_
          refine li_q (fun _ => trivial) rfl rfl rfl (q_nilCheck rfl) ?_
          refine li_q (fun _ => trivial) rfl rfl rfl (q_fieldAddr (ft := 105) (o := 0) rfl (by kernel_rfl)) ?_
          refine li_q (fun _ => trivial) rfl rfl rfl (q_load1 rfl (by kernel_rfl) (cell_blk (hgm _ _ hTR.blk) rfl)) ?_
          refine li_q (fun _ => trivial) rfl rfl rfl (q_moveI rfl) ?_
          refine li_q (fun _ => trivial) rfl rfl rfl (q_ixG (e := 111) (m := 1) (j := i) rfl rfl (by kernel_rfl) (by kernel_rfl) (by first | rfl | omega) (by omega) hTR.rows (by rw [rows_len (c := pg) (m := 1) (fun _ => rfl)]; first | omega | (simp only [List.length_append, List.length_map, List.length_cons, List.length_nil, List.length_take, List.length_drop, List.length_set] <;> omega))) ?_
          refine li_q (fun _ => trivial) rfl rfl rfl (q_load1 rfl (by kernel_rfl) (SlG.cell (hTR.rows.mono hgm) (Gle.refl _) (row_at hp (c := pg) (m := 1) (fun _ => rfl) (j := 0) rfl))) ?_
          refine li_q (fun _ => trivial) rfl rfl rfl (q_moveI rfl) ?_
          refine li_q (fun _ => trivial) rfl rfl rfl (q_ixG (e := 41) (m := 2) (j := k3) rfl rfl (by kernel_rfl) (by kernel_rfl) (by first | rfl | omega) (by omega) hpg_p.1 (by rw [rows_len (c := en) (m := 2) (fun _ => rfl)]; first | omega | (simp only [List.length_append, List.length_map, List.length_cons, List.length_nil, List.length_take, List.length_drop, List.length_set] <;> omega))) ?_
          refine li_q (fun _ => trivial) rfl rfl rfl (q_loadGA (m := 2) rfl (by kernel_rfl) (by kernel_rfl) (hpg_p.1.mono hgm) (row_take ha (c := en) (m := 2) (fun _ => rfl)) rfl (by decide)) ?_
          refine li_yield (fun _ => trivial) rfl rfl rfl (hY pre2 ⟨a, ham⟩ _ hJm (ent_len hent2)) (fun e w15 hr15 => ?_)
          rcases hr15 with ⟨rfl, hJ15, hk15⟩ | ⟨rfl, hJ15⟩
          ·
            refine ⟨_, rfl, ?_⟩
            have hS15 := St.refl w15 (fun _ => False)
            have hg15 : Gle gb (hw w15) := hk15 hgm
            refine li_q (fun _ => trivial) rfl rfl rfl (q_not rfl) ?_
            refine li_nil ?_
            refine hK14 _ _ ?_
            refine c_condF rfl rfl ?_
            refine wp_skip ?_
            refine hK13 _ _ ?_
            refine wp_region_lit ?_
            refine l_q rfl rfl (q_moveI rfl) ?_
            refine l_q rfl rfl (q_addx rfl rfl (by first | decide | omega) (by first | decide | omega)) ?_
            refine l_q rfl rfl (q_assignI rfl) ?_
            refine l_nil ?_
            refine hK9 _ _ (came (⟨(k3 + 1), (pre2 ++ [⟨a, ham⟩])⟩) (by repeat' (first | exact Agree.refl _ _ | refine Agree.up ?_ rfl | refine Agree.hav2 ?_ rfl | refine Agree.ups2 ?_ rfl)) (by repeat' (first | exact trivial | refine ⟨by first | rfl | exact int_succ _ | assumption, ?_⟩)) ?_)
            exact ⟨⟨St.refl _ _, hg15, hJ15, (by show k3 + 1 ≤ p.es.length; omega), by (show ent ps i (k3 + 1) = _); rw [ent_succ hp ha, hent2, List.map_append, List.append_assoc]; rfl⟩, by (show p.es.length - (k3 + 1) < p.es.length - k3); omega⟩
          ·
            refine ⟨_, rfl, ?_⟩
            refine li_q (fun _ => trivial) rfl rfl rfl (q_not rfl) ?_
            refine li_nil ?_
            refine hK14 _ _ ?_
            refine c_condT rfl rfl ?_
            refine wp_ret ?_
            refine c_ret0 (fn := Try.f84) rfl ?_
            have hent3 : ent ps i (k3 + 1) = ent ps i1 k1 ++ List.map Subtype.val (pre2 ++ [(⟨a, ham⟩ : ESub ps)]) := by rw [ent_succ hp ha, hent2, List.map_append, List.append_assoc]; rfl
            exact FromPost.stop (seqP_of hR hlo hhi hent3) hJ15
        ·
          have hc12b := hc12
          try simp only [decide_eq_true_eq, decide_eq_false_iff_not, Bool.not_eq_true', Bool.not_eq_false', Bool.and_eq_true, Bool.or_eq_true, Int.not_lt, Int.not_le, ne_eq, Decidable.not_not] at hc12
          refine wp_exit ?_
          refine hK8 _ _ ?_
          refine wp_region_lit ?_
          refine l_q rfl rfl (q_assignI rfl) ?_
          refine l_nil ?_
          refine hK7 _ _ ?_
          refine wp_region_lit ?_
          refine l_q rfl rfl (q_moveI rfl) ?_
          refine l_q rfl rfl (q_addx rfl rfl (by first | decide | omega) (by first | decide | omega)) ?_
          refine l_q rfl rfl (q_assignI rfl) ?_
          refine l_nil ?_
          refine hK3 _ _ (came (⟨(i + 1), 0, pre2⟩) (by repeat' (first | exact Agree.refl _ _ | refine Agree.up ?_ rfl | refine Agree.hav2 ?_ rfl | refine Agree.ups2 ?_ rfl)) (by repeat' (first | exact trivial | refine ⟨by first | rfl | exact int_succ _ | assumption, ?_⟩)) ?_)
          exact ⟨⟨St.refl _ _, hgm, hJm, (by show i + 1 ≤ ps.length; omega), (fun q hq => Nat.zero_le _), by (show ent ps (i + 1) 0 = _); rw [ent_page hp, show p.es.length = k3 from by omega]; exact hent2⟩, by (show ps.length - (i + 1) < ps.length - i); omega⟩
    ·
      have hc6b := hc6
      try simp only [decide_eq_true_eq, decide_eq_false_iff_not, Bool.not_eq_true', Bool.not_eq_false', Bool.and_eq_true, Bool.or_eq_true, Int.not_lt, Int.not_le, ne_eq, Decidable.not_not] at hc6
      refine wp_exit ?_
      refine c_end0 (fn := Try.f84) rfl ?_
      exact FromPost.all (seqS_of hR hlo hhi hent (by omega)) hJl

end Go.Proofs.Ytmbbkliekgiolaa
