/- Package wal: Trim, Append. -/
import Derived.Test.YtmbbkliekgiolaaV4
set_option linter.unusedVariables false
set_option linter.unusedSimpArgs false
namespace Go.Proofs.Ytmbbkliekgiolaa
open Go.RowKit
/-- What W1's Trim leaves and answers. -/
def tri (rs : List Rc) (e : Nat) (z : Int) : Int := if z = (e : Int) then (rs.length : Int) else fIdx rs z
theorem tri_lt (rs : List Rc) (e : Nat) (z : Int) : -1 ≤ tri rs e z ∧ tri rs e z ≤ rs.length := by
  have := fIdx_lt (rs := rs) (z := z)
  unfold tri; split <;> omega
def trE (rs : List Rc) (l : List Nat) (b s : Nat) (z : Int) : Nat := if tri rs (b + l.length) z < 0 then 1 else drE b s z
def trR (rs : List Rc) (l : List Nat) (b s : Nat) (z : Int) : List Rc := if tri rs (b + l.length) z < 0 ∨ drE b s z ≠ 0 then rs else rs.drop (tri rs (b + l.length) z).toNat
def trL (rs : List Rc) (l : List Nat) (b s : Nat) (z : Int) : List Nat := if tri rs (b + l.length) z < 0 then l else drL l b s z
def trB (rs : List Rc) (l : List Nat) (b s : Nat) (z : Int) : Nat := if tri rs (b + l.length) z < 0 then b else drB b s z
def trS (rs : List Rc) (l : List Nat) (b s : Nat) (z : Int) : Nat := if tri rs (b + l.length) z < 0 then s else drS b s z
/-- What W1's Append leaves and answers. -/
def waOk (m : List Nat) : Prop := 1 ≤ m.length ∧ m.length ≤ 4096
instance (m : List Nat) : Decidable (waOk m) := inferInstanceAs (Decidable (_ ∧ _))
def waE (l m : List Nat) : Nat := if waOk m then apE l (fr m) else 1
def waN (l m : List Nat) (b : Nat) : Nat := if waOk m then apN l (fr m) b else 0
def waL (l m : List Nat) : List Nat := if waOk m then apL l (fr m) else l
def waR (R : List (Nat × List Nat)) (l m : List Nat) (b : Nat) : List (Nat × List Nat) := if waOk m ∧ apE l (fr m) = 0 then R ++ [(b + l.length, m)] else R
theorem apE_0 {l m : List Nat} {b : Nat} (h : apE l m = 0) : apN l m b = b + l.length ∧ l.length + m.length ≤ 1048576 := by
  unfold apE at h
  unfold apN
  split at h
  · rename_i hh; exact ⟨if_pos hh, hh⟩
  · cases h
theorem apN_no {l m : List Nat} {b : Nat} (h : apE l m ≠ 0) : apN l m b = 0 := by
  unfold apE at h
  unfold apN
  split at h
  · exact absurd rfl h
  · rename_i hh; exact if_neg hh
attribute [local irreducible] Oper.wp Sem.run Code.wp wpList wpAnyO callFunc execOp Calls
attribute [local irreducible] tri fIdx drE drL drB drS apE apN apL fr

set_option maxRecDepth 100000 in
theorem wTrim_ok (k kd : Nat) (ad : Option Addr) (cap : Nat) (rs : List Rc) (da : Option Addr) (dc : Nat) (l : List Nat) (b s : Nat) (hn : rs.length ≤ 1000000) (hl : Bytes l) (hb : b + l.length ≤ 1000000000) (hs : s ≤ l.length) (z : Int) (hz0 : -9223372036854775808 ≤ z) (hz1 : z ≤ 9223372036854775807) (w : World) (hS : St w (owns [wk k kd ad cap rs, dk kd da dc l b s]) [wk k kd ad cap rs, dk kd da dc l b s] w) : Calls Try.prog 46 #[pV k, .int .i64 z] w (Post w [wk k kd ad cap rs, dk kd da dc l b s] fun v G => ∃ ad' cap' da' dc', v = .int .i64 ((trE rs l b s z : Nat) : Int) ∧ G = [wk k kd ad' cap' (trR rs l b s z), dk kd da' dc' (trL rs l b s z) (trB rs l b s z) (trS rs l b s z)]) := by
  refine c_enter Try.func46 rfl rfl rfl ?_
  refine wp_seq_k (fun K1 hK1 => ?_)
  have hS2 := wk_open hS; clear hS
  refine wp_region_lit ?_
  refine l_q rfl rfl (q_assignI rfl) ?_
  refine l_nil ?_
  refine hK1 _ _ ?_
  refine wp_seq_k (fun K3 hK3 => ?_)
  refine wp_seq_k (fun K4 hK4 => ?_)
  refine wp_region_lit ?_
  refine l_q rfl rfl (q_moveP rfl) ?_
  refine l_q rfl rfl (q_peq rfl (by kernel_rfl)) ?_
  refine l_nil ?_
  refine hK4 _ _ ?_
  refine c_condF rfl rfl ?_
  refine wp_skip ?_
  refine hK3 _ _ ?_
  refine wp_seq_k (fun K6 hK6 => ?_)
  refine wp_region_lit ?_
  refine l_q rfl rfl (q_moveP rfl) ?_
  refine l_q rfl rfl (q_moveI rfl) ?_
  refine l_e rfl (fun K hK => ?_)
  have hS8 := wk_close hS2; clear hS2
  refine e_call (by kernel_rfl) (find_ok _ _ _ _ rs z (by first | omega | (simp only [List.length_append, List.length_map, List.length_cons, List.length_nil, List.length_take, List.length_drop, List.length_set] <;> omega)) _ (St.begin (Γ := [_]) hS8)) rfl (after_M (Γ1 := [_]) hS8 (fun v7 G7 w7 hv7 hS7 => ?_))
  clear hS8
  obtain ⟨rfl, rfl⟩ := hv7
  have hS9 : St _ _ [wk k kd ad cap rs, dk kd da dc l b s] _ := hS7; clear hS7
  refine hK _ _ ?_; clear hK K
  refine l_q rfl rfl (q_assignI rfl) ?_
  refine l_nil ?_
  refine hK6 _ _ ?_
  have hS12 := wk_open hS9; clear hS9
  refine c_cut (τ := Int) [(5, 5), (12, 23)] (fun x => (fun (ti : Int) => [(5, .int .i64 ti)]) x) (fun x w' => (fun (ti : Int) => St w (owns [wk k kd ad cap rs, dk kd da dc l b s]) [.blk k (.cells #[.pointer (some ⟨kd, 0, none⟩), .slice ad rs.length cap] 123), .ow 125 2 ad rs.length cap (List.flatMap rc rs), dk kd da dc l b s] w' ∧ ti = tri rs (b + l.length) z) x) (fun K11 hK11 => ?_) (fun ti j11 w11 hJ11 => ?_)
  ·
    refine wp_seq_k (fun K13 hK13 => ?_)
    refine wp_region_lit ?_
    refine l_q rfl rfl (q_moveI rfl) ?_
    refine l_q rfl rfl (q_moveP rfl) ?_
    refine l_q rfl rfl (q_nilCheck rfl) ?_
    refine l_q rfl rfl (q_fieldAddr (ft := 51) (o := 0) rfl (by kernel_rfl)) ?_
    refine l_q rfl rfl (q_load1 rfl (by kernel_rfl) (hS12.cell (i := 0) rfl rfl)) ?_
    refine l_e rfl (fun K hK => ?_)
    have hS15 := hS12.fr2; clear hS12
    refine e_call (by kernel_rfl) (dEnd_ok _ _ _ _ _ _ hl (by first | omega | (simp; omega)) (by first | omega | (simp; omega)) _ (St.begin (Γ := [_]) hS15)) rfl (after_M (Γ1 := [_]) hS15 (fun v14 G14 w14 hv14 hS14 => ?_))
    clear hS15
    obtain ⟨rfl, rfl⟩ := hv14
    have hS16 : St _ _ [dk kd da dc l b s, .blk k (.cells #[.pointer (some ⟨kd, 0, none⟩), .slice ad rs.length cap] 123), .ow 125 2 ad rs.length cap (List.flatMap rc rs)] _ := hS14; clear hS14
    refine hK _ _ ?_; clear hK K
    refine l_q rfl rfl (q_eql rfl rfl) ?_
    refine l_nil ?_
    refine hK13 _ _ ?_
    refine c_cond rfl (fun hc17 => ?_) (fun hc17 => ?_)
    ·
      have hc17b := hc17
      try simp only [decide_eq_true_eq, decide_eq_false_iff_not, Bool.not_eq_true', Bool.not_eq_false', Bool.and_eq_true, Bool.or_eq_true, Int.not_lt, Int.not_le, ne_eq, Decidable.not_not] at hc17
      refine wp_region_lit ?_
      refine l_q rfl rfl (q_moveP rfl) ?_
      refine l_q rfl rfl (q_nilCheck rfl) ?_
      refine l_q rfl rfl (q_fieldAddr (ft := 121) (o := 1) rfl (by kernel_rfl)) ?_
      refine l_q rfl rfl (q_load1 rfl (by kernel_rfl) (hS16.cell (i := 1) rfl rfl)) ?_
      refine l_q rfl rfl (q_lenSl (e := 125) rfl (by kernel_rfl)) ?_
      refine l_q rfl rfl (q_assignI rfl) ?_
      refine l_nil ?_
      have hS18 := hS16.fr2; clear hS16
      have hS19 := hS18.fr2; clear hS18
      refine hK11 _ _ (came (((rs.length : Nat) : Int)) (by repeat' (first | exact Agree.refl _ _ | refine Agree.up ?_ rfl | refine Agree.hav2 ?_ rfl | refine Agree.ups2 ?_ rfl)) (by repeat' (first | exact trivial | refine ⟨by first | rfl | exact int_succ _ | assumption, ?_⟩)) ?_)
      exact ⟨hS19, by first | (unfold tri; rw [if_pos (by omega)]) | (unfold tri; rw [if_neg (by omega)])⟩
    ·
      have hc17b := hc17
      try simp only [decide_eq_true_eq, decide_eq_false_iff_not, Bool.not_eq_true', Bool.not_eq_false', Bool.and_eq_true, Bool.or_eq_true, Int.not_lt, Int.not_le, ne_eq, Decidable.not_not] at hc17
      refine wp_skip ?_
      have hS20 := hS16.fr2; clear hS16
      have hS21 := hS20.fr2; clear hS20
      refine hK11 _ _ (came ((fIdx rs z)) (by repeat' (first | exact Agree.refl _ _ | refine Agree.up ?_ rfl | refine Agree.hav2 ?_ rfl | refine Agree.ups2 ?_ rfl)) (by repeat' (first | exact trivial | refine ⟨by first | rfl | exact int_succ _ | assumption, ?_⟩)) ?_)
      exact ⟨hS21, by first | (unfold tri; rw [if_pos (by omega)]) | (unfold tri; rw [if_neg (by omega)])⟩
  ·
    obtain ⟨hS11, hti⟩ := hJ11
    try dsimp only at hS11 hti ⊢
    have htl := tri_lt rs (b + l.length) z
    refine wp_seq_k (fun K22 hK22 => ?_)
    refine wp_seq_k (fun K23 hK23 => ?_)
    refine wp_region_lit ?_
    refine l_q rfl rfl (q_moveI rfl) ?_
    refine l_q rfl rfl (q_lss rfl rfl) ?_
    refine l_nil ?_
    refine hK23 _ _ ?_
    refine c_cond rfl (fun hc24 => ?_) (fun hc24 => ?_)
    ·
      have hc24b := hc24
      try simp only [decide_eq_true_eq, decide_eq_false_iff_not, Bool.not_eq_true', Bool.not_eq_false', Bool.and_eq_true, Bool.or_eq_true, Int.not_lt, Int.not_le, ne_eq, Decidable.not_not] at hc24
      have hx : tri rs (b + l.length) z < 0 := by omega
      refine wp_seq_k (fun K25 hK25 => ?_)
      refine wp_region_lit ?_
      refine l_q rfl rfl (q_assignI rfl) ?_
      refine l_nil ?_
      refine hK25 _ _ ?_
      refine wp_ret ?_
      refine c_ret1 rfl rfl ?_
      have hS26 := wk_close hS11; clear hS11
      exact ⟨_, _, rfl, ⟨ad, cap, _, _, by rw [trE, if_pos hx]; rfl, by rw [trR, trL, trB, trS, if_pos hx, if_pos hx, if_pos hx, if_pos (.inl hx)]⟩, hS26⟩
    ·
      have hc24b := hc24
      try simp only [decide_eq_true_eq, decide_eq_false_iff_not, Bool.not_eq_true', Bool.not_eq_false', Bool.and_eq_true, Bool.or_eq_true, Int.not_lt, Int.not_le, ne_eq, Decidable.not_not] at hc24
      have hx : ¬ (tri rs (b + l.length) z < 0) := by omega
      refine wp_skip ?_
      refine hK22 _ _ ?_
      refine wp_seq_k (fun K27 hK27 => ?_)
      refine wp_region_lit ?_
      refine l_q rfl rfl (q_moveP rfl) ?_
      refine l_q rfl rfl (q_nilCheck rfl) ?_
      refine l_q rfl rfl (q_fieldAddr (ft := 51) (o := 0) rfl (by kernel_rfl)) ?_
      refine l_q rfl rfl (q_load1 rfl (by kernel_rfl) (hS11.cell (i := 0) rfl rfl)) ?_
      refine l_q rfl rfl (q_moveI rfl) ?_
      refine l_e rfl (fun K hK => ?_)
      have hS29 := hS11.fr2; clear hS11
      have hF28 := dr_fit (l := l) (b := b) (s := s) z (by first | omega | (simp only [List.length_append, List.length_map, List.length_cons, List.length_nil, List.length_take, List.length_drop, List.length_set] <;> omega))
      refine e_call (by kernel_rfl) (dDropF _ _ _ _ _ _ hl (by first | omega | (simp only [List.length_append, List.length_map, List.length_cons, List.length_nil, List.length_take, List.length_drop, List.length_set] <;> omega)) (by first | omega | (simp only [List.length_append, List.length_map, List.length_cons, List.length_nil, List.length_take, List.length_drop, List.length_set] <;> omega)) _ (by first | omega | (simp only [List.length_append, List.length_map, List.length_cons, List.length_nil, List.length_take, List.length_drop, List.length_set] <;> omega)) (by first | omega | (simp only [List.length_append, List.length_map, List.length_cons, List.length_nil, List.length_take, List.length_drop, List.length_set] <;> omega)) _ (St.begin (Γ := [_]) hS29)) rfl (after_M (Γ1 := [_]) hS29 (fun v28 G28 w28 hv28 hS28 => ?_))
      clear hS29
      obtain ⟨ad28, cp28, rfl, rfl⟩ := hv28
      have hS30 : St _ _ [dk kd ad28 cp28 (drL l b s z) (drB b s z) (drS b s z), .blk k (.cells #[.pointer (some ⟨kd, 0, none⟩), .slice ad rs.length cap] 123), .ow 125 2 ad rs.length cap (List.flatMap rc rs)] _ := hS28; clear hS28
      refine hK _ _ ?_; clear hK K
      refine l_q rfl rfl (q_assignI rfl) ?_
      refine l_nil ?_
      refine hK27 _ _ ?_
      refine wp_seq_k (fun K31 hK31 => ?_)
      refine wp_seq_k (fun K32 hK32 => ?_)
      refine wp_region_lit ?_
      refine l_q rfl rfl (q_moveI rfl) ?_
      refine l_q rfl rfl (q_eql rfl rfl) ?_
      refine l_nil ?_
      refine hK32 _ _ ?_
      refine c_cond rfl (fun hc33 => ?_) (fun hc33 => ?_)
      ·
        have hc33b := hc33
        try simp only [decide_eq_true_eq, decide_eq_false_iff_not, Bool.not_eq_true', Bool.not_eq_false', Bool.and_eq_true, Bool.or_eq_true, Int.not_lt, Int.not_le, ne_eq, Decidable.not_not] at hc33
        have he : drE b s z = 0 := by omega
        refine wp_region_lit ?_
        refine l_q rfl rfl (q_moveP rfl) ?_
        refine l_q rfl rfl (q_moveP rfl) ?_
        refine l_q rfl rfl (q_nilCheck rfl) ?_
        refine l_q rfl rfl (q_fieldAddr (ft := 121) (o := 1) rfl (by kernel_rfl)) ?_
        refine l_q rfl rfl (q_load1 rfl (by kernel_rfl) (hS30.cell (i := 1) rfl rfl)) ?_
        refine l_q rfl rfl (q_moveI rfl) ?_
        have hcp34 := (hS30.owLen (i := 2) rfl).2.1
        refine l_q rfl rfl (q_sliceX (e := 125) (size := 2) (l := (ti).toNat) (h := rs.length) (m := cap) (ad' := (subS ad ((ti).toNat) 2 cap)) (len' := (rs.length - (ti).toNat)) (cap' := (cap - (ti).toNat)) rfl (by kernel_rfl) (by kernel_rfl) rfl rfl ⟨_, int_nat (by omega) rfl⟩ (by omega) (by first | omega | (simp only [List.length_append, List.length_map, List.length_cons, List.length_nil, List.length_take, List.length_drop, List.length_set] <;> omega)) (by first | omega | (simp only [List.length_append, List.length_map, List.length_cons, List.length_nil, List.length_take, List.length_drop, List.length_set] <;> omega)) rfl rfl rfl rfl) ?_
        refine l_e rfl (fun K hK => ?_)
        refine e_call (by kernel_rfl) (cloneR (List.flatMap rc (rs.drop ((ti).toNat))) (rows_one rc_ones) _ _ (rs.length - (ti).toNat) ((rows_len (c := rc) (m := 2) (fun _ => rfl) _).trans (by first | rfl | (simp only [List.length_append, List.length_map, List.length_cons, List.length_nil, List.length_take, List.length_drop, List.length_set]; done) | (simp only [List.length_append, List.length_map, List.length_cons, List.length_nil, List.length_take, List.length_drop, List.length_set]; omega) | omega)) (by first | omega | (simp only [List.length_append, List.length_map, List.length_cons, List.length_nil, List.length_take, List.length_drop, List.length_set] <;> omega)) _ ((fun q => (rows_subD (c := rc) (m := 2) (fun _ => rfl) (by first | omega | (simp only [List.length_append, List.length_map, List.length_cons, List.length_nil, List.length_take, List.length_drop, List.length_set] <;> omega)) (SlG.sub (l := (ti).toNat) (size := 2) (m := cap) (n := rs.length - (ti).toNat) q (by first | omega | (simp only [List.length_append, List.length_map, List.length_cons, List.length_nil, List.length_take, List.length_drop, List.length_set] <;> omega)) (by decide)))) (hS30.owG (i := 2) rfl))) rfl (after_N hS30 (fun v35 G35 w35 hv35 hS35 => ?_))
        clear hS30
        obtain ⟨ad35, cp35, rfl, rfl⟩ := hv35
        have hS36 : St _ _ [.ow 125 2 ad35 (rs.length - (ti).toNat) cp35 (List.flatMap rc (rs.drop ((ti).toNat))), dk kd ad28 cp28 (drL l b s z) (drB b s z) (drS b s z), .blk k (.cells #[.pointer (some ⟨kd, 0, none⟩), .slice ad rs.length cap] 123), .ow 125 2 ad rs.length cap (List.flatMap rc rs)] _ := hS35; clear hS35
        refine hK _ _ ?_; clear hK K
        refine l_q rfl rfl (q_nilCheck rfl) ?_
        refine l_q rfl rfl (q_fieldAddr (ft := 121) (o := 1) rfl (by kernel_rfl)) ?_
        refine l_e rfl (fun K hK => ?_)
        refine e_store1 hS36 rfl rfl (by kernel_rfl) (by first | rfl | assumption) (i := 2) rfl rfl (fun w37 (hS37 : St _ _ [.ow 125 2 ad35 (rs.length - (ti).toNat) cp35 (List.flatMap rc (rs.drop ((ti).toNat))), dk kd ad28 cp28 (drL l b s z) (drB b s z) (drS b s z), .blk k (.cells #[.pointer (some ⟨kd, 0, none⟩), .slice ad35 (rs.length - (ti).toNat) cp35] 123), .ow 125 2 ad rs.length cap (List.flatMap rc rs)] _) => ?_)
        clear hS36
        refine hK _ _ ?_; clear hK K
        refine l_nil ?_
        refine hK31 _ _ ?_
        refine wp_seq_k (fun K38 hK38 => ?_)
        refine wp_region_lit ?_
        refine l_q rfl rfl (q_moveI rfl) ?_
        refine l_q rfl rfl (q_assignI rfl) ?_
        refine l_nil ?_
        refine hK38 _ _ ?_
        refine wp_ret ?_
        refine c_ret1 rfl rfl ?_
        have hS39 : St _ _ [.ow 125 2 ad35 ((rs.drop ((ti).toNat)).length) cp35 (List.flatMap rc (rs.drop ((ti).toNat))), dk kd ad28 cp28 (drL l b s z) (drB b s z) (drS b s z), .blk k (.cells #[.pointer (some ⟨kd, 0, none⟩), .slice ad35 ((rs.drop ((ti).toNat)).length) cp35] 123), .ow 125 2 ad rs.length cap (List.flatMap rc rs)] _ := hS37.cast (by rw [show (rs.drop ((ti).toNat)).length = (rs.length - (ti).toNat) from (by first | omega | (simp only [List.length_append, List.length_map, List.length_cons, List.length_nil, List.length_take, List.length_drop, List.length_set] <;> omega))]); clear hS37
        have hS40 := hS39.fr2; clear hS39
        have hS41 := wk_close hS40; clear hS40
        have hS42 : St _ _ [wk k kd ad35 cp35 (rs.drop ((ti).toNat)), dk kd ad28 cp28 (drL l b s z) (drB b s z) (drS b s z)] _ := hS41.only 2; clear hS41
        exact ⟨_, _, rfl, ⟨_, _, _, _, by rw [trE, if_neg hx]; rfl, by rw [trR, trL, trB, trS, if_neg hx, if_neg hx, if_neg hx, if_neg (fun h => h.elim hx (fun h => h he)), ← hti]⟩, hS42⟩
      ·
        have hc33b := hc33
        try simp only [decide_eq_true_eq, decide_eq_false_iff_not, Bool.not_eq_true', Bool.not_eq_false', Bool.and_eq_true, Bool.or_eq_true, Int.not_lt, Int.not_le, ne_eq, Decidable.not_not] at hc33
        have he : drE b s z ≠ 0 := by omega
        refine wp_skip ?_
        refine hK31 _ _ ?_
        refine wp_seq_k (fun K43 hK43 => ?_)
        refine wp_region_lit ?_
        refine l_q rfl rfl (q_moveI rfl) ?_
        refine l_q rfl rfl (q_assignI rfl) ?_
        refine l_nil ?_
        refine hK43 _ _ ?_
        refine wp_ret ?_
        refine c_ret1 rfl rfl ?_
        have hS44 := hS30.fr2; clear hS30
        have hS45 := hS44.fr2; clear hS44
        have hS46 := wk_close hS45; clear hS45
        exact ⟨_, _, rfl, ⟨ad, cap, _, _, by rw [trE, if_neg hx]; rfl, by rw [trR, trL, trB, trS, if_neg hx, if_neg hx, if_neg hx, if_pos (.inr he)]⟩, hS46⟩

set_option maxHeartbeats 1000000 in
set_option maxRecDepth 100000 in
theorem wAppend_ok (k kd : Nat) (ad : Option Addr) (cap : Nat) (rs : List Rc) (da : Option Addr) (dc : Nat) (l : List Nat) (b s : Nat) (g : Gh) (hn : rs.length ≤ 1000000) (hl : Bytes l) (hb : b + l.length ≤ 1000000000) (hs : s ≤ l.length) (hR : RsOk g rs) (g2 : Gh) (m : List Nat) (hm : Bytes m) (am : Option Addr) (cm : Nat) (hml : m.length ≤ 1000000) (hM : SlG g2 am (bv m)) (w : World) (hg : Rog [wk k kd ad cap rs, dk kd da dc l b s, .fz g] w g2) (hS : St w (owns [wk k kd ad cap rs, dk kd da dc l b s, .fz g]) [wk k kd ad cap rs, dk kd da dc l b s, .fz g] w) : Calls Try.prog 31 #[pV k, .slice am m.length cm] w (Post w [wk k kd ad cap rs, dk kd da dc l b s, .fz g] fun v G => ∃ ad' cap' rs' da' dc' g', v = .tuple #[.int .i64 ((waN l m b : Nat) : Int), .int .i64 ((waE l m : Nat) : Int)] ∧ G = [wk k kd ad' cap' rs', dk kd da' dc' (waL l m) b s, .fz g'] ∧ Gle g g' ∧ RsOk g' rs' ∧ rs'.map Rc.abs = waR (rs.map Rc.abs) l m b) := by
  refine c_enter Try.func31 rfl rfl rfl ?_
  refine wp_seq_k (fun K1 hK1 => ?_)
  have hS2 := wk_open hS; clear hS
  refine wp_region_lit ?_
  refine l_q rfl rfl (q_assignI rfl) ?_
  refine l_q rfl rfl (q_assignI rfl) ?_
  refine l_nil ?_
  refine hK1 _ _ ?_
  refine wp_seq_k (fun K3 hK3 => ?_)
  refine wp_seq_k (fun K4 hK4 => ?_)
  refine wp_region_lit ?_
  refine l_q rfl rfl (q_moveP rfl) ?_
  refine l_q rfl rfl (q_peq rfl (by kernel_rfl)) ?_
  refine l_q rfl rfl (q_moveB rfl) ?_
  refine l_on rfl rfl rfl ?_
  refine l_q rfl rfl (q_moveS rfl) ?_
  refine l_on rfl rfl rfl ?_
  refine l_q rfl rfl (q_lenSl (e := 5) rfl (by kernel_rfl)) ?_
  refine l_on rfl rfl rfl ?_
  refine l_q rfl rfl (q_eql rfl rfl) ?_
  refine l_q rfl rfl (q_pickF rfl rfl rfl) ?_
  refine l_q rfl rfl (q_moveB rfl) ?_
  refine g_splitL (t := 15) rfl (fun hg5 => ?_) (fun hg5 => ?_)
  ·
    have hg5b := hg5
    try simp only [decide_eq_true_eq, decide_eq_false_iff_not, Bool.not_eq_true', Bool.not_eq_false', Bool.and_eq_true, Bool.or_eq_true, Int.not_lt, Int.not_le, ne_eq, Decidable.not_not] at hg5
    have hx : ¬ waOk m := by unfold waOk; omega
    refine l_off rfl rfl rfl hg5b ?_
    refine l_off rfl rfl rfl hg5b ?_
    refine l_off rfl rfl rfl hg5b ?_
    refine l_q rfl rfl (q_pickT rfl hg5b rfl) ?_
    refine l_nil ?_
    refine hK4 _ _ ?_
    refine c_condT rfl rfl ?_
    refine wp_seq_k (fun K7 hK7 => ?_)
    refine wp_region_lit ?_
    refine l_q rfl rfl (q_assignI rfl) ?_
    refine l_q rfl rfl (q_assignI rfl) ?_
    refine l_nil ?_
    refine hK7 _ _ ?_
    refine wp_ret ?_
    refine c_ret2 rfl rfl rfl ?_
    have hS8 := wk_close hS2; clear hS2
    exact ⟨_, _, rfl, ⟨ad, cap, rs, _, _, g, by rw [waE, waN, if_neg hx, if_neg hx]; rfl, by rw [waL, if_neg hx], Gle.refl g, hR, by rw [waR, if_neg (fun h => hx h.1)]⟩, hS8⟩
  ·
    have hg5b := hg5
    try simp only [decide_eq_true_eq, decide_eq_false_iff_not, Bool.not_eq_true', Bool.not_eq_false', Bool.and_eq_true, Bool.or_eq_true, Int.not_lt, Int.not_le, ne_eq, Decidable.not_not] at hg5
    refine l_on rfl rfl hg5b ?_
    refine l_q rfl rfl (q_moveS rfl) ?_
    refine l_on rfl rfl hg5b ?_
    refine l_q rfl rfl (q_lenSl (e := 5) rfl (by kernel_rfl)) ?_
    refine l_on rfl rfl hg5b ?_
    refine l_q rfl rfl (q_gtr rfl rfl) ?_
    refine l_q rfl rfl (q_pickF rfl hg5b rfl) ?_
    refine l_nil ?_
    refine hK4 _ _ ?_
    refine c_cond rfl (fun hc9 => ?_) (fun hc9 => ?_)
    ·
      have hc9b := hc9
      try simp only [decide_eq_true_eq, decide_eq_false_iff_not, Bool.not_eq_true', Bool.not_eq_false', Bool.and_eq_true, Bool.or_eq_true, Int.not_lt, Int.not_le, ne_eq, Decidable.not_not] at hc9
      have hx : ¬ waOk m := by unfold waOk; omega
      refine wp_seq_k (fun K10 hK10 => ?_)
      refine wp_region_lit ?_
      refine l_q rfl rfl (q_assignI rfl) ?_
      refine l_q rfl rfl (q_assignI rfl) ?_
      refine l_nil ?_
      refine hK10 _ _ ?_
      refine wp_ret ?_
      refine c_ret2 rfl rfl rfl ?_
      have hS11 := wk_close hS2; clear hS2
      exact ⟨_, _, rfl, ⟨ad, cap, rs, _, _, g, by rw [waE, waN, if_neg hx, if_neg hx]; rfl, by rw [waL, if_neg hx], Gle.refl g, hR, by rw [waR, if_neg (fun h => hx h.1)]⟩, hS11⟩
    ·
      have hc9b := hc9
      try simp only [decide_eq_true_eq, decide_eq_false_iff_not, Bool.not_eq_true', Bool.not_eq_false', Bool.and_eq_true, Bool.or_eq_true, Int.not_lt, Int.not_le, ne_eq, Decidable.not_not] at hc9
      have hx : waOk m := by unfold waOk; omega
      have hx' := hx
      unfold waOk at hx'
      have hfl := fr_len m
      refine wp_skip ?_
      refine hK3 _ _ ?_
      refine wp_seq_k (fun K12 hK12 => ?_)
      refine r_any (by kernel_rfl) hS2 (fun w13 hS13 => ?_)
      clear hS2
      refine o_pure (i := 0) (fun _ _ => trivial) rfl rfl (by kernel_rfl) (goes0 rfl) (QOk.then QOk.body) (fun w => q_moveP rfl) ?_
      refine o_pure (i := 1) (fun _ _ => trivial) rfl rfl (by kernel_rfl) (goes0 rfl) (QOk.then QOk.body) (fun w => q_nilCheck rfl) ?_
      refine o_pure (i := 2) (fun _ _ => trivial) rfl rfl (by kernel_rfl) (goes0 rfl) (QOk.then QOk.body) (fun w => q_fieldAddr (ft := 51) (o := 0) rfl (by kernel_rfl)) ?_
      refine o_held (i := 3) [6, 7, 8, 9, 10, 11] (fun _ _ => trivial) rfl rfl (by kernel_rfl) (goes0 rfl) (QOk.then QOk.body) (q_load1 rfl (by kernel_rfl) (hS13.cell (i := 0) rfl rfl)) ?_
      refine o_pure (i := 4) (fun j w => ⟨(fun _ _ => trivial) j w, fun _ h => h⟩) rfl rfl (by kernel_rfl) (goes0 rfl) (QOk.then QOk.body) (fun w => q_moveS rfl) ?_
      refine o_eff (i := 5) (by kernel_rfl) rfl (goes0 rfl) (fun K hK => ?_)
      have hB14 := fr_bytes hm
      refine e_call (by kernel_rfl) (frame_ok m hm m.length (by first | omega | (simp only [List.length_append, List.length_map, List.length_cons, List.length_nil, List.length_take, List.length_drop, List.length_set] <;> omega)) (by first | omega | (simp only [List.length_append, List.length_map, List.length_cons, List.length_nil, List.length_take, List.length_drop, List.length_set] <;> omega)) (by first | omega | (simp only [List.length_append, List.length_map, List.length_cons, List.length_nil, List.length_take, List.length_drop, List.length_set] <;> omega)) _ _ _ (hM.mono (hg.le hS13))) rfl (after_N hS13 (fun v14 G14 w14 hv14 hS14 => ?_))
      clear hS13
      obtain ⟨ad14, cp14, rfl, rfl⟩ := hv14
      have hS15 : St _ _ [.ow 5 1 ad14 ((fr m).length) cp14 (bv (fr m)), .blk k (.cells #[.pointer (some ⟨kd, 0, none⟩), .slice ad rs.length cap] 123), .ow 125 2 ad rs.length cap (List.flatMap rc rs), dk kd da dc l b s, .fz g] _ := hS14; clear hS14
      refine hK _ _ ⟨trivial, fun _ _ => by first | exact q_load1 rfl (by kernel_rfl) (hS15.cell (i := 1) rfl rfl)⟩ ?_; clear hK K
      refine o_eff (i := 6) (by kernel_rfl) rfl (goes0 rfl) (fun K hK => ?_)
      have hS17 := hS15.fr3; clear hS15
      obtain ⟨g18, hg18, hG18⟩ := St.rogO (Γ1 := [_]) (i := 0) hS17 rfl
      refine e_call (by kernel_rfl) (dAppend_ok _ _ _ _ _ _ hl (by first | omega | (simp only [List.length_append, List.length_map, List.length_cons, List.length_nil, List.length_take, List.length_drop, List.length_set] <;> omega)) (by first | omega | (simp only [List.length_append, List.length_map, List.length_cons, List.length_nil, List.length_take, List.length_drop, List.length_set] <;> omega)) _ _ (fr m) hB14 _ _ hG18 _ hg18 (by first | omega | (simp only [List.length_append, List.length_map, List.length_cons, List.length_nil, List.length_take, List.length_drop, List.length_set] <;> omega)) (by first | omega | (simp only [List.length_append, List.length_map, List.length_cons, List.length_nil, List.length_take, List.length_drop, List.length_set] <;> omega)) (St.begin (Γ := [_]) hS17)) rfl (after_M (Γ1 := [_]) hS17 (fun v16 G16 w16 hv16 hS16 => ?_))
      clear hS17
      obtain ⟨ad16, cp16, rfl, rfl⟩ := hv16
      have hS19 : St _ _ [dk kd ad16 cp16 (apL l (fr m)) b s, .ow 5 1 ad14 ((fr m).length) cp14 (bv (fr m)), .blk k (.cells #[.pointer (some ⟨kd, 0, none⟩), .slice ad rs.length cap] 123), .ow 125 2 ad rs.length cap (List.flatMap rc rs), .fz g] _ := hS16; clear hS16
      have hB16 : Bytes (apL l (fr m)) := apL_bytes hl hB14
      have hL16 := apL_len l (fr m)
      refine hK _ _ ⟨trivial, fun h => absurd h (by decide)⟩ ?_; clear hK K
      refine o_pure (i := 7) (fun j w => ⟨(fun _ _ => trivial) j w, fun _ h => h⟩) rfl rfl (by kernel_rfl) (goes0 rfl) (QOk.then QOk.body) (fun w => q_move rfl) ?_
      refine o_pure (i := 8) (fun j w => ⟨(fun _ _ => trivial) j w, fun _ h => h⟩) rfl rfl (by kernel_rfl) (goes0 rfl) (QOk.then QOk.body) (fun w => q_extract rfl rfl) ?_
      refine o_pure (i := 9) (fun j w => ⟨(fun _ _ => trivial) j w, fun _ h => h⟩) rfl rfl (by kernel_rfl) (goes0 rfl) (QOk.then QOk.body) (fun w => q_extract rfl rfl) ?_
      refine o_pure (i := 10) (fun j w => ⟨(fun _ _ => trivial) j w, fun _ h => h⟩) rfl rfl (by kernel_rfl) (goes0 rfl) (QOk.then QOk.body) (fun w => q_assignI rfl) ?_
      refine o_pure (i := 11) (fun j w => ⟨(fun _ _ => trivial) j w, fun _ h => h⟩) rfl rfl (by kernel_rfl) (goes0 rfl) (QOk.then QOk.body) (fun w => q_assignI rfl) ?_
      refine o_done (by kernel_rfl) ?_
      refine hK12 _ _ ?_
      refine wp_seq_k (fun K20 hK20 => ?_)
      refine wp_seq_k (fun K21 hK21 => ?_)
      refine wp_region_lit ?_
      refine l_q rfl rfl (q_moveI rfl) ?_
      refine l_q rfl rfl (q_neq rfl rfl) ?_
      refine l_nil ?_
      refine hK21 _ _ ?_
      refine c_cond rfl (fun hc22 => ?_) (fun hc22 => ?_)
      ·
        have hc22b := hc22
        try simp only [decide_eq_true_eq, decide_eq_false_iff_not, Bool.not_eq_true', Bool.not_eq_false', Bool.and_eq_true, Bool.or_eq_true, Int.not_lt, Int.not_le, ne_eq, Decidable.not_not] at hc22
        have he : apE l (fr m) ≠ 0 := by omega
        refine wp_seq_k (fun K23 hK23 => ?_)
        refine wp_region_lit ?_
        refine l_q rfl rfl (q_moveI rfl) ?_
        refine l_q rfl rfl (q_assignI rfl) ?_
        refine l_q rfl rfl (q_assignI rfl) ?_
        refine l_nil ?_
        refine hK23 _ _ ?_
        refine wp_ret ?_
        refine c_ret2 rfl rfl rfl ?_
        have hS24 := hS19.fr3; clear hS19
        have hS25 := hS24.fr3; clear hS24
        have hS26 := wk_close hS25; clear hS25
        have hS27 := hS26.fr3; clear hS26
        have hS28 := hS27.fr2; clear hS27
        have hS29 := hS28.fr2; clear hS28
        have hS30 : St _ _ [wk k kd ad cap rs, dk kd ad16 cp16 (apL l (fr m)) b s, .fz g] _ := hS29.only 3; clear hS29
        exact ⟨_, _, rfl, ⟨ad, cap, rs, _, _, g, by rw [waE, waN, if_pos hx, if_pos hx, apN_no he]; rfl, by rw [waL, if_pos hx], Gle.refl g, hR, by rw [waR, if_neg (fun h => he h.2)]⟩, hS30⟩
      ·
        have hc22b := hc22
        try simp only [decide_eq_true_eq, decide_eq_false_iff_not, Bool.not_eq_true', Bool.not_eq_false', Bool.and_eq_true, Bool.or_eq_true, Int.not_lt, Int.not_le, ne_eq, Decidable.not_not] at hc22
        have he : apE l (fr m) = 0 := by omega
        obtain ⟨hN, hroom⟩ := apE_0 (b := b) he
        refine wp_skip ?_
        refine hK20 _ _ ?_
        refine wp_seq_k (fun K31 hK31 => ?_)
        refine r_any (by kernel_rfl) hS19 (fun w32 hS32 => ?_)
        clear hS19
        refine o_pure (i := 0) (fun _ _ => trivial) rfl rfl (by kernel_rfl) (goes0 rfl) (QOk.then QOk.body) (fun w => q_moveP rfl) ?_
        refine o_pure (i := 1) (fun _ _ => trivial) rfl rfl (by kernel_rfl) (goes0 rfl) (QOk.then QOk.body) (fun w => q_moveP rfl) ?_
        refine o_pure (i := 2) (fun _ _ => trivial) rfl rfl (by kernel_rfl) (goes0 rfl) (QOk.then QOk.body) (fun w => q_nilCheck rfl) ?_
        refine o_pure (i := 3) (fun _ _ => trivial) rfl rfl (by kernel_rfl) (goes0 rfl) (QOk.then QOk.body) (fun w => q_fieldAddr (ft := 121) (o := 1) rfl (by kernel_rfl)) ?_
        refine o_held (i := 4) [10, 11, 12, 13] (fun _ _ => trivial) rfl rfl (by kernel_rfl) (goes0 rfl) (QOk.then QOk.body) (q_load1 rfl (by kernel_rfl) (hS32.cell (i := 2) rfl rfl)) ?_
        refine o_pure (i := 5) (fun j w => ⟨(fun _ _ => trivial) j w, fun _ h => h⟩) rfl rfl (by kernel_rfl) (goes0 rfl) (QOk.then QOk.body) (fun w => q_moveI rfl) ?_
        refine o_pure (i := 6) (fun j w => ⟨(fun _ _ => trivial) j w, fun _ h => h⟩) rfl rfl (by kernel_rfl) (goes0 rfl) (QOk.then QOk.body) (fun w => q_moveS rfl) ?_
        refine o_eff (i := 7) (by kernel_rfl) rfl (goes0 rfl) (fun K hK => ?_)
        refine e_call (by kernel_rfl) (Clone_ok m _ _ m.length (by first | omega | (simp only [List.length_append, List.length_map, List.length_cons, List.length_nil, List.length_take, List.length_drop, List.length_set] <;> omega)) (by first | omega | (simp only [List.length_append, List.length_map, List.length_cons, List.length_nil, List.length_take, List.length_drop, List.length_set] <;> omega)) _ (hM.mono (hg.le hS32))) rfl (after_N hS32 (fun v33 G33 w33 hv33 hS33 => ?_))
        clear hS32
        obtain ⟨ad33, cp33, rfl, rfl⟩ := hv33
        have hS34 : St _ _ [.ow 5 1 ad33 m.length cp33 (bv m), dk kd ad16 cp16 (apL l (fr m)) b s, .ow 5 1 ad14 ((fr m).length) cp14 (bv (fr m)), .blk k (.cells #[.pointer (some ⟨kd, 0, none⟩), .slice ad rs.length cap] 123), .ow 125 2 ad rs.length cap (List.flatMap rc rs), .fz g] _ := hS33; clear hS33
        refine hK _ _ ⟨trivial, fun _ _ => by first | exact q_load1 rfl (by kernel_rfl) (hS34.cell (i := 3) rfl rfl)⟩ ?_; clear hK K
        refine o_pure (i := 8) (fun j w => ⟨(fun _ _ => trivial) j w, fun _ h => h⟩) rfl rfl (by kernel_rfl) (goes0 rfl) (QOk.then QOk.body) (fun w => q_build (ps := [(0, 1), (1, 1)]) (zv := .agg #[.int .i64 0, .slice none 0 0]) (by kernel_rfl) (by kernel_rfl) rfl (by repeat' (first | exact trivial | refine ⟨fun _ => by first | rfl | assumption | exact one_if (by assumption), ?_⟩ | refine ⟨fun ⟨_, h⟩ => by simp at h, ?_⟩)) rfl) ?_
        refine o_eff (i := 9) (by kernel_rfl) rfl (goes0 rfl) (fun K hK => ?_)
        have hS35 := hS34.fr5; clear hS34
        have hS36 := hS35.fr1; clear hS35
        obtain ⟨g37, hle37, hfz37, hS37⟩ := hS36.freezeOw; clear hS36
        refine e_buildSliceA (e := 125) (m := 2) (zv := .agg #[.int .i64 0, .slice none 0 0]) hS37 (by kernel_rfl) (by kernel_rfl) (by kernel_rfl) rfl rfl rfl rfl (fun b38 w38 (hS38 : St _ _ [.blk b38 (.cells #[.int .i64 (((apN l (fr m) b) : Nat) : Int), .slice ad33 m.length cp33] 125), .fz g37, dk kd ad16 cp16 (apL l (fr m)) b s, .ow 5 1 ad14 ((fr m).length) cp14 (bv (fr m)), .blk k (.cells #[.pointer (some ⟨kd, 0, none⟩), .slice ad rs.length cap] 123), .ow 125 2 ad rs.length cap (List.flatMap rc rs)] _) => ?_)
        clear hS37
        have hS38o : St _ _ [.ow 125 2 (some ⟨b38, 0, none⟩) 1 1 (List.flatMap rc [Rc.mk (apN l (fr m) b) ad33 cp33 m]), .fz g37, dk kd ad16 cp16 (apL l (fr m)) b s, .ow 5 1 ad14 ((fr m).length) cp14 (bv (fr m)), .blk k (.cells #[.pointer (some ⟨kd, 0, none⟩), .slice ad rs.length cap] 123), .ow 125 2 ad rs.length cap (List.flatMap rc rs)] _ := hS38.blkOw' (i := 0) (m := 1) (size := 2) (xs := List.flatMap rc [Rc.mk (apN l (fr m) b) ad33 cp33 m]) rfl rfl rfl (by decide); clear hS38
        refine hK _ _ ⟨trivial, fun _ _ => by first | exact q_load1 rfl (by kernel_rfl) (hS38o.cell (i := 4) rfl rfl)⟩ ?_; clear hK K
        refine o_eff (i := 10) (by kernel_rfl) rfl (goes0 rfl) (fun K hK => ?_)
        refine e_app (e := 125) (size := 2) (bytes := 32) (i := 5) (m' := (rs ++ [Rc.mk (apN l (fr m) b) ad33 cp33 m]).length) (by kernel_rfl) hS38o rfl rfl rfl (SlG.src (e := 125) (by kernel_rfl) (hS38o.owG (i := 0) rfl) ((rows_len (c := rc) (m := 2) (fun _ => rfl) _).trans (by first | rfl | (simp only [List.length_append, List.length_map, List.length_cons, List.length_nil, List.length_take, List.length_drop, List.length_set]; done) | (simp only [List.length_append, List.length_map, List.length_cons, List.length_nil, List.length_take, List.length_drop, List.length_set]; omega) | omega)) (by decide) (rows_one rc_ones)) (by first | omega | (simp only [List.length_append, List.length_map, List.length_cons, List.length_nil, List.length_take, List.length_drop, List.length_set]; omega) | (simp; done)) rows_app (by first | omega | (simp only [maxLen, List.length_append, List.length_map, List.length_cons, List.length_nil, List.length_take, List.length_drop, List.length_set] <;> omega) | (simp only [maxLen]; omega)) (by first | omega | (simp only [List.length_append, List.length_map, List.length_cons, List.length_nil, List.length_take, List.length_drop, List.length_set] <;> omega)) (fun ad39 cp39 w39 (hS39 : St _ _ [.ow 125 2 (some ⟨b38, 0, none⟩) 1 1 (List.flatMap rc [Rc.mk (apN l (fr m) b) ad33 cp33 m]), .fz g37, dk kd ad16 cp16 (apL l (fr m)) b s, .ow 5 1 ad14 ((fr m).length) cp14 (bv (fr m)), .blk k (.cells #[.pointer (some ⟨kd, 0, none⟩), .slice ad rs.length cap] 123), .ow 125 2 ad39 ((rs ++ [Rc.mk (apN l (fr m) b) ad33 cp33 m]).length) cp39 (List.flatMap rc (rs ++ [Rc.mk (apN l (fr m) b) ad33 cp33 m]))] _) => ?_)
        clear hS38o
        refine hK _ _ ⟨trivial, fun h => absurd h (by decide)⟩ ?_; clear hK K
        refine o_pure (i := 11) (fun j w => ⟨(fun _ _ => trivial) j w, fun _ h => h⟩) rfl rfl (by kernel_rfl) (goes0 rfl) (QOk.then QOk.body) (fun w => q_nilCheck rfl) ?_
        refine o_pure (i := 12) (fun j w => ⟨(fun _ _ => trivial) j w, fun _ h => h⟩) rfl rfl (by kernel_rfl) (goes0 rfl) (QOk.then QOk.body) (fun w => q_fieldAddr (ft := 121) (o := 1) rfl (by kernel_rfl)) ?_
        refine o_eff (i := 13) (by kernel_rfl) rfl (goes0 rfl) (fun K hK => ?_)
        refine e_store1 hS39 rfl rfl (by kernel_rfl) (by first | rfl | assumption) (i := 4) rfl rfl (fun w40 (hS40 : St _ _ [.ow 125 2 (some ⟨b38, 0, none⟩) 1 1 (List.flatMap rc [Rc.mk (apN l (fr m) b) ad33 cp33 m]), .fz g37, dk kd ad16 cp16 (apL l (fr m)) b s, .ow 5 1 ad14 ((fr m).length) cp14 (bv (fr m)), .blk k (.cells #[.pointer (some ⟨kd, 0, none⟩), .slice ad39 ((rs ++ [Rc.mk (apN l (fr m) b) ad33 cp33 m]).length) cp39] 123), .ow 125 2 ad39 ((rs ++ [Rc.mk (apN l (fr m) b) ad33 cp33 m]).length) cp39 (List.flatMap rc (rs ++ [Rc.mk (apN l (fr m) b) ad33 cp33 m]))] _) => ?_)
        clear hS39
        refine hK _ _ ⟨trivial, fun h => absurd h (by decide)⟩ ?_; clear hK K
        refine o_done (by kernel_rfl) ?_
        refine hK31 _ _ ?_
        refine wp_seq_k (fun K41 hK41 => ?_)
        refine wp_region_lit ?_
        refine l_q rfl rfl (q_moveI rfl) ?_
        refine l_q rfl rfl (q_assignI rfl) ?_
        refine l_q rfl rfl (q_assignI rfl) ?_
        refine l_nil ?_
        refine hK41 _ _ ?_
        refine wp_ret ?_
        refine c_ret2 rfl rfl rfl ?_
        have hS42 := hS40.fr5; clear hS40
        have hS43 := hS42.fr5; clear hS42
        have hS44 := wk_close hS43; clear hS43
        have hS45 := hS44.fr2; clear hS44
        have hS46 := hS45.fr3; clear hS45
        have hS47 := hS46.fr2; clear hS46
        have hS48 : St _ _ [wk k kd ad39 cp39 (rs ++ [Rc.mk (apN l (fr m) b) ad33 cp33 m]), dk kd ad16 cp16 (apL l (fr m)) b s, .fz g37] _ := hS47.only 3; clear hS47
        exact ⟨_, _, rfl, ⟨_, _, _, _, _, g37, by rw [waE, waN, if_pos hx, if_pos hx, he]; rfl, by rw [waL, if_pos hx], hle37, (hR.mono hle37).app (RsOk.one ⟨hfz37, hm, hx'.2, (show apN l (fr m) b ≤ 2000000000 by omega), hx'.1⟩), by rw [waR, if_pos ⟨hx, he⟩, List.map_append, hN]; rfl⟩, hS48⟩

end Go.Proofs.Ytmbbkliekgiolaa
