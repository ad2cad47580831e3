/- law07: WalNumbers. -/
import Derived.Test.YtmbbkliekgiolaaVg
set_option linter.unusedVariables false
set_option linter.unusedSimpArgs false
namespace Go.Proofs.Ytmbbkliekgiolaa
open Go.RowKit
def sv (l : List Nat) : List Value := [.string (bs l)]
theorem sv_ones : ∀ l : List Nat, AllOne (sv l) := fun _ => ⟨rfl, trivial⟩
/-- The numbers and the records that were there, and from which on they are. -/
def NInv (R : List (Nat × List Nat)) (e : Nat) (nn : List Int) (rr : List (List Nat)) (fr : Nat) : Prop :=
  R.map (fun r => ((r.1 : Nat) : Int)) = nn.drop fr ∧ R.map (·.2) = rr.drop fr ∧ fr ≤ nn.length ∧ rr.length = nn.length ∧ nn.Pairwise (· < ·) ∧ (∀ x ∈ nn, x < ((e : Nat) : Int)) ∧ ∀ x ∈ rr, Bytes x
theorem NInv.bytes {R : List (Nat × List Nat)} {e : Nat} {nn : List Int} {rr : List (List Nat)} {fr : Nat} (h : NInv R e nn rr fr) : ∀ x ∈ rr, Bytes x := h.2.2.2.2.2.2
theorem NInv.rl {R : List (Nat × List Nat)} {e : Nat} {nn : List Int} {rr : List (List Nat)} {fr : Nat} (h : NInv R e nn rr fr) : rr.length = nn.length ∧ fr ≤ nn.length := ⟨h.2.2.2.1, h.2.2.1⟩
theorem NInv.lt {R : List (Nat × List Nat)} {e : Nat} {nn : List Int} {rr : List (List Nat)} {fr : Nat} (h : NInv R e nn rr fr) : ∀ x ∈ nn, x < ((e : Nat) : Int) := h.2.2.2.2.2.1
theorem NInv.start : NInv [] 0 [] [] 0 := ⟨rfl, rfl, Nat.le_refl _, rfl, .nil, (fun _ h => by cases h), (fun _ h => by cases h)⟩
theorem NInv.start0 {rs : List Rc} (h : rs.map Rc.abs = []) : NInv (rs.map Rc.abs) (0 + ([] : List Nat).length) [] [] 0 := h ▸ NInv.start
theorem NInv.len {R : List (Nat × List Nat)} {e : Nat} {nn : List Int} {rr : List (List Nat)} {fr : Nat} (h : NInv R e nn rr fr) : R.length + fr = nn.length := by
  have := congrArg List.length h.1
  rw [List.length_map, List.length_drop] at this
  have := h.2.2.1; omega
theorem NInv.up {R : List (Nat × List Nat)} {e e' : Nat} {nn : List Int} {rr : List (List Nat)} {fr : Nat} (h : NInv R e nn rr fr) (he : e ≤ e') : NInv R e' nn rr fr :=
  ⟨h.1, h.2.1, h.2.2.1, h.2.2.2.1, h.2.2.2.2.1, fun x hx => by have := h.2.2.2.2.2.1 x hx; omega, h.bytes⟩
theorem NInv.app {R : List (Nat × List Nat)} {e e' : Nat} {nn : List Int} {rr : List (List Nat)} {fr : Nat} {m : List Nat} (h : NInv R e nn rr fr) (hm : Bytes m) (he : e < e') : NInv (R ++ [(e, m)]) e' (nn ++ [((e : Nat) : Int)]) (rr ++ [m]) fr := by
  obtain ⟨h1, h2, h3, h4, h5, h6, h7⟩ := h
  refine ⟨?_, ?_, ?_, ?_, ?_, ?_, ?_⟩
  · rw [List.map_append, h1, List.drop_append_of_le_length h3]; rfl
  · rw [List.map_append, h2, List.drop_append_of_le_length (by omega)]; rfl
  · rw [List.length_append]; omega
  · rw [List.length_append, List.length_append, h4]; rfl
  · rw [List.pairwise_append]
    exact ⟨h5, List.pairwise_singleton .., fun a ha b hb => by rw [List.mem_singleton] at hb; subst hb; exact h6 a ha⟩
  · intro x hx
    rcases List.mem_append.1 hx with hx | hx
    · have := h6 x hx; omega
    · rw [List.mem_singleton] at hx; subst hx; omega
  · intro x hx
    rcases List.mem_append.1 hx with hx | hx
    · exact h7 x hx
    · rw [List.mem_singleton] at hx; subst hx; exact hm
theorem NInv.drop {R : List (Nat × List Nat)} {e k : Nat} {nn : List Int} {rr : List (List Nat)} {fr : Nat} (h : NInv R e nn rr fr) (hk : k ≤ R.length) : NInv (R.drop k) e nn rr (fr + k) := by
  have hl := h.len
  obtain ⟨h1, h2, h3, h4, h5, h6, h7⟩ := h
  refine ⟨?_, ?_, by omega, h4, h5, h6, h7⟩
  · rw [List.map_drop, h1, List.drop_drop]
  · rw [List.map_drop, h2, List.drop_drop]
theorem wa_yes {l m : List Nat} {b : Nat} {R : List (Nat × List Nat)} (h : waE l m = 0) : waN l m b = b + l.length ∧ waR R l m b = R ++ [(b + l.length, m)] ∧ (waL l m).length = l.length + m.length + 5 := by
  unfold waE at h
  by_cases hw : waOk m
  · rw [if_pos hw] at h
    have hf : l.length + (fr m).length ≤ 1048576 := (apE_0 (b := 0) h).2
    refine ⟨?_, ?_, ?_⟩
    · rw [waN, if_pos hw]; exact (apE_0 h).1
    · rw [waR, if_pos ⟨hw, h⟩]
    · rw [waL, if_pos hw, apL, if_pos hf, List.length_append, fr_len]; omega
  · rw [if_neg hw] at h; cases h
theorem wa_no {l m : List Nat} {b : Nat} {R : List (Nat × List Nat)} (h : waE l m ≠ 0) : waR R l m b = R ∧ waL l m = l := by
  unfold waE at h
  by_cases hw : waOk m
  · rw [if_pos hw] at h
    refine ⟨if_neg (fun q => h q.2), ?_⟩
    rw [waL, if_pos hw]
    unfold apE at h
    unfold apL
    split at h
    · exact absurd rfl h
    · rename_i hh; exact if_neg hh
  · exact ⟨if_neg (fun q => hw q.1), if_neg hw⟩
theorem NInv.wa {R R' : List (Nat × List Nat)} {b : Nat} {l m : List Nat} {nn : List Int} {rr : List (List Nat)} {fr : Nat} (h : NInv R (b + l.length) nn rr fr) (h0 : waE l m = 0) (hm : Bytes m) (hR : R' = waR R l m b) : NInv R' (b + (waL l m).length) (nn ++ [((waN l m b : Nat) : Int)]) (rr ++ [m]) fr := by
  obtain ⟨e1, e2, e3⟩ := wa_yes (b := b) (R := R) h0
  rw [hR, e1, e2]
  exact h.app hm (by omega)
theorem NInv.wa0 {R R' : List (Nat × List Nat)} {b : Nat} {l m : List Nat} {nn : List Int} {rr : List (List Nat)} {fr : Nat} (h : NInv R (b + l.length) nn rr fr) (h0 : waE l m ≠ 0) (hR : R' = waR R l m b) : NInv R' (b + (waL l m).length) nn rr fr := by
  obtain ⟨e1, e2⟩ := wa_no (b := b) (R := R) h0
  rw [hR, e1, e2]; exact h
theorem NInv.at {rs : List Rc} {e : Nat} {nn : List Int} {rr : List (List Nat)} {fr k : Nat} {x : Int} (h : NInv (rs.map Rc.abs) e nn rr fr) (hx : nn[fr + k]? = some x) : ∃ r, rs[k]? = some r ∧ ((r.n : Nat) : Int) = x ∧ rr[fr + k]? = some r.b := by
  have h1 : ((rs.map Rc.abs).map (fun r => ((r.1 : Nat) : Int)))[k]? = some x := by rw [h.1, List.getElem?_drop]; exact hx
  rw [List.getElem?_map, List.getElem?_map] at h1
  cases hr : rs[k]? with
  | none => rw [hr] at h1; cases h1
  | some r =>
    rw [hr] at h1
    have h2 : ((rs.map Rc.abs).map (·.2))[k]? = some r.b := by rw [List.getElem?_map, List.getElem?_map, hr]; rfl
    rw [h.2.1, List.getElem?_drop] at h2
    exact ⟨r, rfl, by simpa [Rc.abs] using h1, h2⟩
theorem NInv.triA {rs : List Rc} {l : List Nat} {b : Nat} {nn : List Int} {rr : List (List Nat)} {fr k : Nat} {x : Int} (h : NInv (rs.map Rc.abs) (b + l.length) nn rr fr) (hw : Whole l b (rs.map Rc.abs)) (hx : nn[fr + k]? = some x) : tri rs (b + l.length) x = (k : Int) := by
  obtain ⟨r, hr, hn, _⟩ := h.at hx
  have hlt := whole_lt hw r (List.mem_of_getElem? hr)
  unfold tri
  rw [if_neg (by omega)]
  refine fIdx_at hr hn fun j hj q hq e => ?_
  have hp := hw.inc
  have h1 : (rs.map Rc.abs)[j]? = some (q.n, q.b) := by rw [List.getElem?_map, hq]; rfl
  have h2 : (rs.map Rc.abs)[k]? = some (r.n, r.b) := by rw [List.getElem?_map, hr]; rfl
  obtain ⟨hj', hj2⟩ := List.getElem?_eq_some_iff.1 h1
  obtain ⟨hk', hk2⟩ := List.getElem?_eq_some_iff.1 h2
  have := (List.pairwise_iff_getElem.1 hp) j k hj' hk' hj
  rw [hj2, hk2] at this
  simp only at this; omega
theorem NInv.triE {rs : List Rc} {l : List Nat} {b : Nat} {nn : List Int} {rr : List (List Nat)} {fr k : Nat} (h : NInv (rs.map Rc.abs) (b + l.length) nn rr fr) (hk : fr + k = nn.length) : tri rs (b + l.length) ((b + l.length : Nat) : Int) = (k : Int) := by
  have hl := h.len
  rw [List.length_map] at hl
  unfold tri
  rw [if_pos rfl]; omega
theorem NInv.tr {rs : List Rc} {l : List Nat} {b s : Nat} {nn : List Int} {rr : List (List Nat)} {fr k : Nat} {z : Int} (h : NInv (rs.map Rc.abs) (b + l.length) nn rr fr) (hs : s ≤ l.length) (hT : tri rs (b + l.length) z = (k : Int)) (hk : fr + k ≤ nn.length) :
    NInv ((trR rs l b s z).map Rc.abs) (trB rs l b s z + (trL rs l b s z).length) nn rr (if trE rs l b s z = 0 then fr + k else fr) := by
  have hl := h.len
  rw [(tr_fit rs l b s z hs).2]
  unfold trR trE
  have hk0 : ¬ ((k : Int) < 0) := by omega
  rw [hT, if_neg hk0]
  by_cases hd : drE b s z = 0
  · rw [if_neg (show ¬ ((k : Int) < 0 ∨ drE b s z ≠ 0) from fun q => q.elim hk0 (fun q => q hd)), if_pos hd, Int.toNat_natCast, List.map_drop]
    exact h.drop (by omega)
  · rw [if_pos (show (k : Int) < 0 ∨ drE b s z ≠ 0 from .inr hd), if_neg hd]; exact h
theorem NInv.read {rs : List Rc} {l : List Nat} {b e : Nat} {nn : List Int} {rr : List (List Nat)} {fr k : Nat} {x : Int} {y : List Nat} (h : NInv (rs.map Rc.abs) e nn rr fr) (hw : Whole l b (rs.map Rc.abs)) (hx : nn[k]? = some x) :
    decide (((rdE (rs.map Rc.abs) x : Nat) : Int) = 0) = decide (((fr : Nat) : Int) ≤ ((k : Nat) : Int)) := by
  by_cases hk : fr ≤ k
  · rw [decide_eq_true (show ((fr : Nat) : Int) ≤ ((k : Nat) : Int) by omega)]
    obtain ⟨r, hr, hn, hb⟩ := h.at (k := k - fr) (by rw [show fr + (k - fr) = k by omega]; exact hx)
    have := (play_rd hw rfl hr).1
    rw [hn] at this
    rw [this]; rfl
  · rw [decide_eq_false (show ¬ ((fr : Nat) : Int) ≤ ((k : Nat) : Int) by omega)]
    have hno : rdO (rs.map Rc.abs) x = none := by
      unfold rdO
      rw [List.find?_eq_none.2 (fun r hr => ?_)]
      · rfl
      · have h1 : ((r.1 : Nat) : Int) ∈ nn.drop fr := h.1 ▸ List.mem_map_of_mem hr
        obtain ⟨j, hj, hje⟩ := List.mem_iff_getElem.1 h1
        rw [List.getElem_drop] at hje
        rw [List.length_drop] at hj
        obtain ⟨hk', hk2⟩ := List.getElem?_eq_some_iff.1 hx
        have := (List.pairwise_iff_getElem.1 h.2.2.2.2.1) k (fr + j) hk' (by omega) (by omega)
        rw [hk2, hje] at this
        simp only [decide_eq_true_eq]; omega
    refine decide_eq_false ?_
    unfold rdE
    rw [hno]; decide
theorem NInv.readB {rs : List Rc} {l : List Nat} {b e : Nat} {nn : List Int} {rr : List (List Nat)} {fr k : Nat} {x : Int} {y : List Nat} (h : NInv (rs.map Rc.abs) e nn rr fr) (hw : Whole l b (rs.map Rc.abs)) (hx : nn[k]? = some x) (hk : fr ≤ k) (hy : rr[k]? = some y) : rdB (rs.map Rc.abs) x = y := by
  obtain ⟨r, hr, hn, hb⟩ := h.at (k := k - fr) (by rw [show fr + (k - fr) = k by omega]; exact hx)
  rw [show fr + (k - fr) = k by omega, hy] at hb
  injection hb with hb
  have := (play_rd hw rfl hr).2
  rw [hn] at this
  rw [this, hb]
theorem NInv.num {rs : List Rc} {e : Nat} {nn : List Int} {rr : List (List Nat)} {fr k : Nat} {x x' : Int} (h : NInv (rs.map Rc.abs) e nn rr fr) (hx : nn[k]? = some x) (hk : fr ≤ k) (hx' : (nums rs)[k - fr]? = some x') : x' = x := by
  obtain ⟨r, hr, hn, hb⟩ := h.at (k := k - fr) (by rw [show fr + (k - fr) = k by omega]; exact hx)
  rw [num_at hx' hr, hn]
attribute [local irreducible] Oper.wp Sem.run Code.wp wpList wpAnyO callFunc execOp Calls
attribute [local irreducible] scan waE waN waL waR crc cnt rdE rdB fr apE apN apL trE trR trL trB trS tri fIdx numN sameB pwN Whole
attribute [local irreducible] NInv

set_option maxHeartbeats 4000000 in
set_option maxRecDepth 100000 in
theorem walNumbers_ok (acts : List Ac7) (sa : Option Addr) (sc : Nat) (w : World) (hG : SlG (hw w) sa (List.flatMap ac7 acts)) (hok : ∀ a ∈ acts, Ac7Ok w a) : Calls Try.prog 10 #[.slice sa acts.length sc] w (PostR w fun v => v = .bool true) := by
  have hS := St.start w
  refine c_enter Try.func10 rfl rfl rfl ?_
  refine wp_seq_k (fun K1 hK1 => ?_)
  refine wp_region_lit ?_
  refine l_q rfl rfl (q_assignB rfl) ?_
  refine l_nil ?_
  refine hK1 _ _ ?_
  refine wp_seq_k (fun K2 hK2 => ?_)
  have hS3 := hS.fz0; clear hS
  refine wp_region_lit ?_
  refine l_e rfl (fun K hK => ?_)
  refine e_call (by kernel_rfl) (dNew_ok _) rfl (after_N hS3 (fun v4 G4 w4 hv4 hS4 => ?_))
  clear hS3
  obtain ⟨k4, rfl, rfl⟩ := hv4
  have hS5 : St _ _ [dk k4 none 0 [] 0 0, .fz (fun _ => none)] _ := hS4; clear hS4
  refine hK _ _ ?_; clear hK K
  refine l_q rfl rfl (q_assignP rfl) ?_
  refine l_nil ?_
  refine hK2 _ _ ?_
  refine wp_seq_k (fun K6 hK6 => ?_)
  refine wp_region_lit ?_
  refine l_q rfl rfl (q_moveP rfl) ?_
  refine l_e rfl (fun K hK => ?_)
  have hsl7 := scan_le [].length [] 0 (Nat.le_refl _)
  refine e_call (by kernel_rfl) (wOpen_ok _ _ _ _ _ _ _ Bytes.nil (by first | omega | (simp only [List.length_append, List.length_map, List.length_cons, List.length_nil, List.length_take, List.length_drop, List.length_set] <;> omega)) (by first | omega | (simp only [List.length_append, List.length_map, List.length_cons, List.length_nil, List.length_take, List.length_drop, List.length_set] <;> omega)) (by first | omega | (simp only [List.length_append, List.length_map, List.length_cons, List.length_nil, List.length_take, List.length_drop, List.length_set] <;> omega)) _ (St.begin (Γ := [_, _]) hS5)) rfl (after_M (Γ1 := [_, _]) hS5 (fun v7 G7 w7 hv7 hS7 => ?_))
  clear hS5
  obtain ⟨k7, ad7, cp7, rs7, da7, dc7, g7, rfl, rfl, hle7, hrs7, hab7⟩ := hv7
  have hS8 : St _ _ [wk k7 k4 ad7 cp7 rs7, dk k4 da7 dc7 ([].take (scan [] 0).2) 0 ((scan [] 0).2), .fz g7] _ := hS7; clear hS7
  refine hK _ _ ?_; clear hK K
  refine l_q rfl rfl (q_move rfl) ?_
  refine l_q rfl rfl (q_extract rfl rfl) ?_
  refine l_q rfl rfl (q_extract rfl rfl) ?_
  refine l_q rfl rfl (q_assignP rfl) ?_
  have hr0 : rs7.map Rc.abs = [] := by rw [hab7, scan0]
  have hrl : rs7.length = 0 := by have := congrArg List.length hr0; simpa using this
  have hS9 : St _ _ [wk k7 k4 ad7 cp7 rs7, dk k4 da7 dc7 [] 0 0, .fz g7] _ := hS8.cast (by rw [scan0]; rfl); clear hS8
  refine l_q rfl rfl (q_assignI rfl) ?_
  refine l_nil ?_
  refine hK6 _ _ ?_
  refine wp_seq_k (fun K10 hK10 => ?_)
  refine wp_seq_k (fun K11 hK11 => ?_)
  refine wp_region_lit ?_
  refine l_e rfl (fun K hK => ?_)
  refine e_call (by kernel_rfl) (alive7_ok _) rfl (after_R hS9 (fun v12 w12 hv12 hS12 => ?_))
  clear hS9
  obtain rfl := hv12
  refine hK _ _ ?_; clear hK K
  refine l_q rfl rfl (q_not rfl) ?_
  refine l_q rfl rfl (q_moveB rfl) ?_
  refine l_on rfl rfl rfl ?_
  refine l_q rfl rfl (q_moveI rfl) ?_
  refine l_on rfl rfl rfl ?_
  refine l_q rfl rfl (q_neq rfl rfl) ?_
  refine l_q rfl rfl (q_pickF rfl rfl rfl) ?_
  refine l_q rfl rfl (q_moveB rfl) ?_
  refine l_on rfl rfl (by decide) ?_
  refine l_q rfl rfl (q_moveP rfl) ?_
  refine l_on rfl rfl (by decide) ?_
  refine l_q rfl rfl (q_peq rfl (by kernel_rfl)) ?_
  refine l_q rfl rfl (q_pickF rfl (by decide) rfl) ?_
  refine l_nil ?_
  refine hK11 _ _ ?_
  refine c_condF rfl rfl ?_
  refine wp_skip ?_
  refine hK10 _ _ ?_
  refine wp_seq_k (fun K14 hK14 => ?_)
  refine wp_region_lit ?_
  refine l_q rfl rfl (q_assignS rfl) ?_
  refine l_nil ?_
  refine hK14 _ _ ?_
  refine wp_seq_k (fun K15 hK15 => ?_)
  refine wp_region_lit ?_
  refine l_q rfl rfl (q_assignS rfl) ?_
  refine l_nil ?_
  refine hK15 _ _ ?_
  refine wp_seq_k (fun K16 hK16 => ?_)
  refine wp_region_lit ?_
  refine l_q rfl rfl (q_assignI rfl) ?_
  refine l_nil ?_
  refine hK16 _ _ ?_
  refine wp_seq_k (fun K17 hK17 => ?_)
  refine wp_seq_k (fun K18 hK18 => ?_)
  have hS19 : St _ _ [.ow 9 1 none 0 0 (List.flatMap sv []), wk k7 k4 ad7 cp7 rs7, dk k4 da7 dc7 [] 0 0, .fz g7] _ := hS12.ow_nil 9 1; clear hS12
  have hS20 : St _ _ [.ow 3 1 none 0 0 (iv []), .ow 9 1 none 0 0 (List.flatMap sv []), wk k7 k4 ad7 cp7 rs7, dk k4 da7 dc7 [] 0 0, .fz g7] _ := hS19.ow_nil 3 1; clear hS19
  refine wp_region_lit ?_
  refine l_q rfl rfl (q_assignI rfl) ?_
  refine l_nil ?_
  refine hK18 _ _ ?_
  refine wp_block ?_
  have hS21 := hS20.fr1; clear hS20
  have hS22 := hS21.fr1; clear hS21
  have hS23 := hS22.fr4; clear hS22
  have hS24 := hS23.fr4; clear hS23
  have hS25 := hS24.fr4; clear hS24
  refine c_loop (τ := (Option Addr) × (Option Addr) × Nat × Nat × (List Rc) × (List Nat) × Nat × Nat × Gh × (List Int) × (List (List Nat)) × Nat × (Option Addr) × Nat × (Option Addr) × Nat × Nat) [(2, 2), (6, 18), (35, 179)] (fun x => (fun (da : Option Addr) (ad : Option Addr) (dc : Nat) (cap : Nat) (rs : List Rc) (l : List Nat) (b : Nat) (s : Nat) (g : Gh) (nn : List Int) (rr : List (List Nat)) (fr : Nat) (na : Option Addr) (nc : Nat) (ra : Option Addr) (rc_ : Nat) (i : Nat) => [(6, .slice na nn.length nc), (7, .slice ra rr.length rc_), (8, .int .i64 ((fr : Nat) : Int)), (9, .int .i64 ((i : Nat) : Int))]) x.1 x.2.1 x.2.2.1 x.2.2.2.1 x.2.2.2.2.1 x.2.2.2.2.2.1 x.2.2.2.2.2.2.1 x.2.2.2.2.2.2.2.1 x.2.2.2.2.2.2.2.2.1 x.2.2.2.2.2.2.2.2.2.1 x.2.2.2.2.2.2.2.2.2.2.1 x.2.2.2.2.2.2.2.2.2.2.2.1 x.2.2.2.2.2.2.2.2.2.2.2.2.1 x.2.2.2.2.2.2.2.2.2.2.2.2.2.1 x.2.2.2.2.2.2.2.2.2.2.2.2.2.2.1 x.2.2.2.2.2.2.2.2.2.2.2.2.2.2.2.1 x.2.2.2.2.2.2.2.2.2.2.2.2.2.2.2.2) (fun x w' => (fun (da : Option Addr) (ad : Option Addr) (dc : Nat) (cap : Nat) (rs : List Rc) (l : List Nat) (b : Nat) (s : Nat) (g : Gh) (nn : List Int) (rr : List (List Nat)) (fr : Nat) (na : Option Addr) (nc : Nat) (ra : Option Addr) (rc_ : Nat) (i : Nat) => St w (fun _ => False) [wk k7 k4 ad cap rs, dk k4 da dc l b s, .fz g, .ow 3 1 na nn.length nc (iv nn), .ow 9 1 ra rr.length rc_ (List.flatMap sv rr)] w' ∧ i ≤ 40 ∧ QInv g rs l b s (400 * i) ∧ NInv (rs.map Rc.abs) (b + l.length) nn rr fr ∧ nn.length ≤ i) x.1 x.2.1 x.2.2.1 x.2.2.2.1 x.2.2.2.2.1 x.2.2.2.2.2.1 x.2.2.2.2.2.2.1 x.2.2.2.2.2.2.2.1 x.2.2.2.2.2.2.2.2.1 x.2.2.2.2.2.2.2.2.2.1 x.2.2.2.2.2.2.2.2.2.2.1 x.2.2.2.2.2.2.2.2.2.2.2.1 x.2.2.2.2.2.2.2.2.2.2.2.2.1 x.2.2.2.2.2.2.2.2.2.2.2.2.2.1 x.2.2.2.2.2.2.2.2.2.2.2.2.2.2.1 x.2.2.2.2.2.2.2.2.2.2.2.2.2.2.2.1 x.2.2.2.2.2.2.2.2.2.2.2.2.2.2.2.2) (fun x => (fun (da : Option Addr) (ad : Option Addr) (dc : Nat) (cap : Nat) (rs : List Rc) (l : List Nat) (b : Nat) (s : Nat) (g : Gh) (nn : List Int) (rr : List (List Nat)) (fr : Nat) (na : Option Addr) (nc : Nat) (ra : Option Addr) (rc_ : Nat) (i : Nat) => 40 - i) x.1 x.2.1 x.2.2.1 x.2.2.2.1 x.2.2.2.2.1 x.2.2.2.2.2.1 x.2.2.2.2.2.2.1 x.2.2.2.2.2.2.2.1 x.2.2.2.2.2.2.2.2.1 x.2.2.2.2.2.2.2.2.2.1 x.2.2.2.2.2.2.2.2.2.2.1 x.2.2.2.2.2.2.2.2.2.2.2.1 x.2.2.2.2.2.2.2.2.2.2.2.2.1 x.2.2.2.2.2.2.2.2.2.2.2.2.2.1 x.2.2.2.2.2.2.2.2.2.2.2.2.2.2.1 x.2.2.2.2.2.2.2.2.2.2.2.2.2.2.2.1 x.2.2.2.2.2.2.2.2.2.2.2.2.2.2.2.2) (⟨da7, ad7, dc7, cp7, rs7, [], 0, 0, g7, [], [], 0, none, 0, none, 0, 0⟩) ?_ (by repeat' (first | exact trivial | refine ⟨by first | rfl | exact int_succ _ | assumption, ?_⟩)) (fun x26 j26 w26 hJ26 K26 hK26 => ?_)
  ·
    exact ⟨hS25, Nat.zero_le _, QInv.start hr0 hrs7, NInv.start0 hr0, Nat.le_refl _⟩
  ·
    obtain ⟨da, ad, dc, cap, rs, l, b, s, g, nn, rr, fr, na, nc, ra, rc_, i⟩ := x26
    obtain ⟨hS26, hi, hI, hN, hnl⟩ := hJ26
    try dsimp only at hS26 hi hI hN hnl ⊢
    obtain ⟨_, _, hIs, hIn, hIw⟩ := id hI
    have hIlt := whole_lt hIw
    have hIl := whole_len hIw
    have hNl := hN.len
    rw [List.length_map] at hNl
    obtain ⟨hNr, hNf⟩ := hN.rl
    have hnl2 := nums_len rs
    refine wp_seq_k (fun K27 hK27 => ?_)
    refine wp_seq_k (fun K28 hK28 => ?_)
    refine wp_region_lit ?_
    refine l_q rfl rfl (q_moveI rfl) ?_
    refine l_q rfl rfl (q_moveS rfl) ?_
    refine l_q rfl rfl (q_lenSl (e := 78) rfl (by kernel_rfl)) ?_
    refine l_q rfl rfl (q_lss rfl rfl) ?_
    refine l_q rfl rfl (q_moveB rfl) ?_
    refine g_splitL (t := 39) rfl (fun hg29 => ?_) (fun hg29 => ?_)
    ·
      have hg29b := hg29
      try simp only [decide_eq_true_eq, decide_eq_false_iff_not, Bool.not_eq_true', Bool.not_eq_false', Bool.and_eq_true, Bool.or_eq_true, Int.not_lt, Int.not_le, ne_eq, Decidable.not_not] at hg29
      refine l_on rfl rfl hg29b ?_
      refine l_q rfl rfl (q_moveI rfl) ?_
      refine l_on rfl rfl hg29b ?_
      refine l_q rfl rfl (q_lss rfl rfl) ?_
      refine l_q rfl rfl (q_pickT rfl hg29b rfl) ?_
      refine l_nil ?_
      refine hK28 _ _ ?_
      refine c_cond rfl (fun hc30 => ?_) (fun hc30 => ?_)
      ·
        have hc30b := hc30
        try simp only [decide_eq_true_eq, decide_eq_false_iff_not, Bool.not_eq_true', Bool.not_eq_false', Bool.and_eq_true, Bool.or_eq_true, Int.not_lt, Int.not_le, ne_eq, Decidable.not_not] at hc30
        refine wp_skip ?_
        refine hK27 _ _ ?_
        refine wp_seq_k (fun K31 hK31 => ?_)
        refine wp_block ?_
        refine wp_seq_k (fun K32 hK32 => ?_)
        refine wp_region_lit ?_
        refine l_q rfl rfl (q_moveS rfl) ?_
        refine l_q rfl rfl (q_moveI rfl) ?_
        refine l_q rfl rfl (q_ixG (e := 78) (m := 4) (j := i) rfl rfl (by kernel_rfl) (by kernel_rfl) (by first | rfl | omega) (by omega) hG (by rw [rows_len (c := ac7) (m := 4) (fun _ => rfl)]; first | omega | (simp only [List.length_append, List.length_map, List.length_cons, List.length_nil, List.length_take, List.length_drop, List.length_set] <;> omega))) ?_
        obtain ⟨x33, hx33⟩ : ∃ x, (acts)[i]? = some x := ⟨_, List.getElem?_eq_getElem (by first | omega | (simp only [List.length_append, List.length_map, List.length_cons, List.length_nil, List.length_take, List.length_drop, List.length_set] <;> omega) | (simp <;> omega))⟩
        have ha_x33 := hok x33 (List.mem_of_getElem? hx33)
        obtain ⟨⟨hk0_x33, hk1_x33⟩, ⟨hi0_x33, hi1_x33⟩, ⟨hn0_x33, hn1_x33⟩, _⟩ := id ha_x33
        refine l_q rfl rfl (q_loadGA (m := 4) rfl (by kernel_rfl) (by kernel_rfl) (hG.mono hS26.base) (row_take hx33 (c := ac7) (m := 4) (fun _ => rfl)) rfl (by decide)) ?_
        refine l_e rfl (fun K hK => ?_)
        refine e_alloc (zv := .agg #[.int .i64 0, .int .i64 0, .int .i64 0, .slice none 0 0]) hS26 (by kernel_rfl) (fun b34 w34 (hS34 : St _ _ [.blk b34 (.cells #[.int .i64 (0 : Int), .int .i64 (0 : Int), .int .i64 (0 : Int), .slice none 0 0] 78), wk k7 k4 ad cap rs, dk k4 da dc l b s, .fz g, .ow 3 1 na nn.length nc (iv nn), .ow 9 1 ra rr.length rc_ (List.flatMap sv rr)] _) => ?_)
        clear hS26
        refine hK _ _ ?_; clear hK K
        refine l_e rfl (fun K hK => ?_)
        refine e_storeA hS34 rfl rfl (by kernel_rfl) (by repeat' (first | exact trivial | refine ⟨by first | rfl | assumption | exact one_if (by assumption), ?_⟩)) (i := 0) rfl rfl (fun w35 (hS35 : St _ _ [.blk b34 (.cells #[.int .i64 x33.k, .int .i64 x33.i, .int .i64 x33.n, .slice x33.ad x33.b.length x33.cap] 78), wk k7 k4 ad cap rs, dk k4 da dc l b s, .fz g, .ow 3 1 na nn.length nc (iv nn), .ow 9 1 ra rr.length rc_ (List.flatMap sv rr)] _) => ?_)
        clear hS34
        refine hK _ _ ?_; clear hK K
        refine l_nil ?_
        refine hK32 _ _ ?_
        refine c_cut (τ := (Option Addr) × (Option Addr) × Nat × Nat × (List Rc) × (List Nat) × Nat × Nat × Gh × (List Int) × (List (List Nat)) × Nat × (Option Addr) × Nat × (Option Addr) × Nat) [(2, 2), (6, 8), (11, 14), (49, 123)] (fun x => (fun (da : Option Addr) (ad : Option Addr) (dc : Nat) (cap : Nat) (rs : List Rc) (l : List Nat) (b : Nat) (s : Nat) (g : Gh) (nn : List Int) (rr : List (List Nat)) (fr : Nat) (na : Option Addr) (nc : Nat) (ra : Option Addr) (rc_ : Nat) => [(6, .slice na nn.length nc), (7, .slice ra rr.length rc_), (8, .int .i64 ((fr : Nat) : Int))]) x.1 x.2.1 x.2.2.1 x.2.2.2.1 x.2.2.2.2.1 x.2.2.2.2.2.1 x.2.2.2.2.2.2.1 x.2.2.2.2.2.2.2.1 x.2.2.2.2.2.2.2.2.1 x.2.2.2.2.2.2.2.2.2.1 x.2.2.2.2.2.2.2.2.2.2.1 x.2.2.2.2.2.2.2.2.2.2.2.1 x.2.2.2.2.2.2.2.2.2.2.2.2.1 x.2.2.2.2.2.2.2.2.2.2.2.2.2.1 x.2.2.2.2.2.2.2.2.2.2.2.2.2.2.1 x.2.2.2.2.2.2.2.2.2.2.2.2.2.2.2) (fun x w' => (fun (da : Option Addr) (ad : Option Addr) (dc : Nat) (cap : Nat) (rs : List Rc) (l : List Nat) (b : Nat) (s : Nat) (g : Gh) (nn : List Int) (rr : List (List Nat)) (fr : Nat) (na : Option Addr) (nc : Nat) (ra : Option Addr) (rc_ : Nat) => St w (fun _ => False) [wk k7 k4 ad cap rs, dk k4 da dc l b s, .fz g, .ow 3 1 na nn.length nc (iv nn), .ow 9 1 ra rr.length rc_ (List.flatMap sv rr)] w' ∧ QInv g rs l b s (400 * i + 400) ∧ NInv (rs.map Rc.abs) (b + l.length) nn rr fr ∧ nn.length ≤ i + 1) x.1 x.2.1 x.2.2.1 x.2.2.2.1 x.2.2.2.2.1 x.2.2.2.2.2.1 x.2.2.2.2.2.2.1 x.2.2.2.2.2.2.2.1 x.2.2.2.2.2.2.2.2.1 x.2.2.2.2.2.2.2.2.2.1 x.2.2.2.2.2.2.2.2.2.2.1 x.2.2.2.2.2.2.2.2.2.2.2.1 x.2.2.2.2.2.2.2.2.2.2.2.2.1 x.2.2.2.2.2.2.2.2.2.2.2.2.2.1 x.2.2.2.2.2.2.2.2.2.2.2.2.2.2.1 x.2.2.2.2.2.2.2.2.2.2.2.2.2.2.2) (fun K37 hK37 => ?_) (fun x37 j37 w37 hJ37 => ?_)
        ·
          refine wp_seq_k (fun K38 hK38 => ?_)
          refine wp_region_lit ?_
          refine l_q rfl rfl (q_fieldAddr (ft := 3) (o := 0) rfl (by kernel_rfl)) ?_
          refine l_q rfl rfl (q_load1 rfl (by kernel_rfl) (hS35.cell (i := 0) rfl rfl)) ?_
          refine l_nil ?_
          refine hK38 _ _ ?_
          refine wp_block ?_
          refine wp_seq_k (fun K39 hK39 => ?_)
          refine wp_region_lit ?_
          refine l_q rfl rfl (q_eql rfl rfl) ?_
          refine l_q rfl rfl (q_assignB rfl) ?_
          refine l_nil ?_
          refine hK39 _ _ ?_
          refine c_cond rfl (fun hc40 => ?_) (fun hc40 => ?_)
          ·
            have hc40b := hc40
            try simp only [decide_eq_true_eq, decide_eq_false_iff_not, Bool.not_eq_true', Bool.not_eq_false', Bool.and_eq_true, Bool.or_eq_true, Int.not_lt, Int.not_le, ne_eq, Decidable.not_not] at hc40
            refine wp_seq_k (fun K41 hK41 => ?_)
            refine wp_seq_k (fun K42 hK42 => ?_)
            refine wp_region_lit ?_
            refine l_q rfl rfl (q_fieldAddr (ft := 23) (o := 3) rfl (by kernel_rfl)) ?_
            refine l_q rfl rfl (q_load1 rfl (by kernel_rfl) (hS35.cell (i := 0) rfl rfl)) ?_
            refine l_q rfl rfl (q_lenSl (e := 5) rfl (by kernel_rfl)) ?_
            refine l_q rfl rfl (q_gtr rfl rfl) ?_
            refine l_nil ?_
            refine hK42 _ _ ?_
            refine c_cond rfl (fun hc43 => ?_) (fun hc43 => ?_)
            ·
              have hc43b := hc43
              try simp only [decide_eq_true_eq, decide_eq_false_iff_not, Bool.not_eq_true', Bool.not_eq_false', Bool.and_eq_true, Bool.or_eq_true, Int.not_lt, Int.not_le, ne_eq, Decidable.not_not] at hc43
              refine wp_exit ?_
              refine hK31 _ _ ?_
              refine wp_region_lit ?_
              refine l_q rfl rfl (q_moveI rfl) ?_
              refine l_q rfl rfl (q_addx rfl rfl (by first | decide | omega) (by first | decide | omega)) ?_
              refine l_q rfl rfl (q_assignI rfl) ?_
              refine l_nil ?_
              have hS44 := hS35.fr5; clear hS35
              have hS45 := hS44.fr5; clear hS44
              have hS46 := hS45.fr5; clear hS45
              have hS47 := hS46.fr5; clear hS46
              have hS48 := hS47.fr5; clear hS47
              have hS49 : St _ _ [wk k7 k4 ad cap rs, dk k4 da dc l b s, .fz g, .ow 3 1 na nn.length nc (iv nn), .ow 9 1 ra rr.length rc_ (List.flatMap sv rr)] _ := hS48.only 5; clear hS48
              refine hK26 _ _ (came (⟨da, ad, dc, cap, rs, l, b, s, g, nn, rr, fr, na, nc, ra, rc_, (i + 1)⟩) (by repeat' (first | exact Agree.refl _ _ | refine Agree.up ?_ rfl | refine Agree.hav2 ?_ rfl | refine Agree.ups2 ?_ rfl)) (by repeat' (first | exact trivial | refine ⟨by first | rfl | exact int_succ _ | assumption, ?_⟩)) ?_)
              exact ⟨⟨hS49, (by show i + 1 ≤ 40; omega), hI.more (by show _ ≤ 400 * (i + 1); omega), hN, (by show nn.length ≤ i + 1; omega)⟩, by (show 40 - (i + 1) < 40 - i); omega⟩
            ·
              have hc43b := hc43
              try simp only [decide_eq_true_eq, decide_eq_false_iff_not, Bool.not_eq_true', Bool.not_eq_false', Bool.and_eq_true, Bool.or_eq_true, Int.not_lt, Int.not_le, ne_eq, Decidable.not_not] at hc43
              have hbl := hc43
              refine wp_skip ?_
              refine hK41 _ _ ?_
              refine wp_seq_k (fun K50 hK50 => ?_)
              refine wp_region_lit ?_
              refine l_q rfl rfl (q_moveP rfl) ?_
              refine l_q rfl rfl (q_fieldAddr (ft := 23) (o := 3) rfl (by kernel_rfl)) ?_
              refine l_q rfl rfl (q_load1 rfl (by kernel_rfl) (hS35.cell (i := 0) rfl rfl)) ?_
              refine l_e rfl (fun K hK => ?_)
              have hS52 := hS35.fr3; clear hS35
              have hS53 := hS52.fr3; clear hS52
              have hS54 := hS53.fr3; clear hS53
              refine e_call (by kernel_rfl) (wAppend_ok _ _ _ _ _ _ _ _ _ _ _ (by first | omega | (simp only [List.length_append, List.length_map, List.length_cons, List.length_nil, List.length_take, List.length_drop, List.length_set] <;> omega)) hI.2.1 (by first | omega | (simp only [List.length_append, List.length_map, List.length_cons, List.length_nil, List.length_take, List.length_drop, List.length_set] <;> omega)) (by first | omega | (simp only [List.length_append, List.length_map, List.length_cons, List.length_nil, List.length_take, List.length_drop, List.length_set] <;> omega)) hI.1 _ x33.b (hok x33 (List.mem_of_getElem? hx33)).2.2.2.2.1 _ _ (by first | omega | (simp only [List.length_append, List.length_map, List.length_cons, List.length_nil, List.length_take, List.length_drop, List.length_set] <;> omega)) (hok x33 (List.mem_of_getElem? hx33)).2.2.2.1 _ (St.rogB (Γ1 := [_, _, _]) hS54) (St.begin (Γ := [_, _, _]) hS54)) rfl (after_M (Γ1 := [_, _, _]) hS54 (fun v51 G51 w51 hv51 hS51 => ?_))
              clear hS54
              obtain ⟨ad51, cp51, rs51, da51, dc51, g51, rfl, rfl, hle51, hrs51, hab51⟩ := hv51
              have hS55 : St _ _ [wk k7 k4 ad51 cp51 rs51, dk k4 da51 dc51 (waL l x33.b) b s, .fz g51, .blk b34 (.cells #[.int .i64 x33.k, .int .i64 x33.i, .int .i64 x33.n, .slice x33.ad x33.b.length x33.cap] 78), .ow 3 1 na nn.length nc (iv nn), .ow 9 1 ra rr.length rc_ (List.flatMap sv rr)] _ := hS51; clear hS51
              have hL51 := waL_len l x33.b
              refine hK _ _ ?_; clear hK K
              refine l_q rfl rfl (q_move rfl) ?_
              refine l_q rfl rfl (q_extract rfl rfl) ?_
              refine l_q rfl rfl (q_extract rfl rfl) ?_
              refine l_q rfl rfl (q_assignI rfl) ?_
              refine l_q rfl rfl (q_assignI rfl) ?_
              refine l_nil ?_
              refine hK50 _ _ ?_
              refine wp_seq_k (fun K56 hK56 => ?_)
              refine wp_region_lit ?_
              refine l_q rfl rfl (q_moveI rfl) ?_
              refine l_q rfl rfl (q_eql rfl rfl) ?_
              refine l_nil ?_
              refine hK56 _ _ ?_
              refine c_cond rfl (fun hc57 => ?_) (fun hc57 => ?_)
              ·
                have hc57b := hc57
                try simp only [decide_eq_true_eq, decide_eq_false_iff_not, Bool.not_eq_true', Bool.not_eq_false', Bool.and_eq_true, Bool.or_eq_true, Int.not_lt, Int.not_le, ne_eq, Decidable.not_not] at hc57
                have hwE : waE l x33.b = 0 := by omega
                obtain ⟨hw1, _, _⟩ := wa_yes (b := b) (R := []) hwE
                refine wp_seq_k (fun K58 hK58 => ?_)
                refine wp_seq_k (fun K59 hK59 => ?_)
                refine wp_region_lit ?_
                refine l_q rfl rfl (q_moveS rfl) ?_
                refine l_q rfl rfl (q_lenSl (e := 3) rfl (by kernel_rfl)) ?_
                refine l_q rfl rfl (q_gtr rfl rfl) ?_
                refine l_q rfl rfl (q_moveB rfl) ?_
                refine g_splitL (t := 69) rfl (fun hg60 => ?_) (fun hg60 => ?_)
                ·
                  have hg60b := hg60
                  try simp only [decide_eq_true_eq, decide_eq_false_iff_not, Bool.not_eq_true', Bool.not_eq_false', Bool.and_eq_true, Bool.or_eq_true, Int.not_lt, Int.not_le, ne_eq, Decidable.not_not] at hg60
                  refine l_on rfl rfl hg60b ?_
                  refine l_q rfl rfl (q_moveI rfl) ?_
                  refine l_on rfl rfl hg60b ?_
                  refine l_q rfl rfl (q_moveS rfl) ?_
                  refine l_on rfl rfl hg60b ?_
                  refine l_q rfl rfl (q_moveS rfl) ?_
                  refine l_on rfl rfl hg60b ?_
                  refine l_q rfl rfl (q_lenSl (e := 3) rfl (by kernel_rfl)) ?_
                  refine l_on rfl rfl hg60b ?_
                  refine l_q rfl rfl (q_subx rfl rfl (by first | decide | omega) (by first | decide | omega)) ?_
                  refine l_on rfl rfl hg60b ?_
                  refine l_q rfl rfl (q_ixG (e := 3) (m := 1) (j := (nn.length - 1)) rfl rfl (by kernel_rfl) (by kernel_rfl) (by first | rfl | omega) (by omega) (hS55.owG (i := 4) rfl) (by rw [iv_len]; first | omega | (simp only [List.length_append, List.length_map, List.length_cons, List.length_nil, List.length_take, List.length_drop, List.length_set] <;> omega))) ?_
                  refine l_on rfl rfl hg60b ?_
                  obtain ⟨x61, hx61⟩ : ∃ x, (nn)[(nn.length - 1)]? = some x := ⟨_, List.getElem?_eq_getElem (by first | omega | (simp only [List.length_append, List.length_map, List.length_cons, List.length_nil, List.length_take, List.length_drop, List.length_set] <;> omega) | (simp <;> omega))⟩
                  refine l_q rfl rfl (q_load1 rfl (by kernel_rfl) (SlG.cell (hS55.owG (i := 4) rfl) (Gle.refl _) (at1 (iv_at hx61)))) ?_
                  have hlx := hN.lt x61 (List.mem_of_getElem? hx61)
                  refine l_on rfl rfl hg60b ?_
                  refine l_q rfl rfl (q_leq rfl rfl) ?_
                  refine l_q rfl rfl (q_pickT rfl hg60b rfl) ?_
                  refine l_nil ?_
                  refine hK59 _ _ ?_
                  refine c_condF rfl (by first | exact decide_eq_false (by rw [hw1]; omega) | rfl) ?_
                  refine wp_skip ?_
                  refine hK58 _ _ ?_
                  refine wp_seq_k (fun K63 hK63 => ?_)
                  refine wp_region_lit ?_
                  refine l_q rfl rfl (q_moveS rfl) ?_
                  refine l_q rfl rfl (q_moveI rfl) ?_
                  refine l_e rfl (fun K hK => ?_)
                  refine e_buildSlice1 (e := 3) (zv := .int .i64 0) (xs := [.tmp 80]) hS55 (by kernel_rfl) (by kernel_rfl) (by kernel_rfl) rfl rfl rfl rfl (allone (by repeat' (first | exact trivial | refine ⟨by first | rfl | assumption, ?_⟩))) rfl (fun b64 w64 (hS64 : St _ _ [.blk b64 (.cells #[.int .i64 (((waN l x33.b b) : Nat) : Int)] 3), wk k7 k4 ad51 cp51 rs51, dk k4 da51 dc51 (waL l x33.b) b s, .fz g51, .blk b34 (.cells #[.int .i64 x33.k, .int .i64 x33.i, .int .i64 x33.n, .slice x33.ad x33.b.length x33.cap] 78), .ow 3 1 na nn.length nc (iv nn), .ow 9 1 ra rr.length rc_ (List.flatMap sv rr)] _) => ?_)
                  clear hS55
                  have hS64o : St _ _ [.ow 3 1 (some ⟨b64, 0, none⟩) 1 1 (iv [(((waN l x33.b b) : Nat) : Int)]), wk k7 k4 ad51 cp51 rs51, dk k4 da51 dc51 (waL l x33.b) b s, .fz g51, .blk b34 (.cells #[.int .i64 x33.k, .int .i64 x33.i, .int .i64 x33.n, .slice x33.ad x33.b.length x33.cap] 78), .ow 3 1 na nn.length nc (iv nn), .ow 9 1 ra rr.length rc_ (List.flatMap sv rr)] _ := hS64.blkOw' (i := 0) (m := 1) (size := 1) (xs := iv [(((waN l x33.b b) : Nat) : Int)]) rfl rfl rfl (by decide); clear hS64
                  refine hK _ _ ?_; clear hK K
                  refine l_e rfl (fun K hK => ?_)
                  refine e_app (e := 3) (size := 1) (bytes := 8) (i := 5) (m' := (nn ++ [(((waN l x33.b b) : Nat) : Int)]).length) (by kernel_rfl) hS64o rfl rfl rfl (SlG.src (e := 3) (by kernel_rfl) (hS64o.owG (i := 0) rfl) (by first | (simp only [List.length_append, List.length_map, List.length_cons, List.length_nil, List.length_take, List.length_drop, List.length_set, Nat.mul_one]; done) | (simp only [List.length_append, List.length_map, List.length_cons, List.length_nil, List.length_take, List.length_drop, List.length_set]; omega) | rfl | (simp; done)) (by decide) (iv_one _)) (by first | omega | (simp only [List.length_append, List.length_map, List.length_cons, List.length_nil, List.length_take, List.length_drop, List.length_set] <;> omega) | (simp; done)) iv_app (by first | omega | (simp only [maxLen, List.length_append, List.length_map, List.length_cons, List.length_nil, List.length_take, List.length_drop, List.length_set] <;> omega) | (simp only [maxLen]; omega)) (by first | omega | (simp only [List.length_append, List.length_map, List.length_cons, List.length_nil, List.length_take, List.length_drop, List.length_set] <;> omega)) (fun ad65 cp65 w65 (hS65 : St _ _ [.ow 3 1 (some ⟨b64, 0, none⟩) 1 1 (iv [(((waN l x33.b b) : Nat) : Int)]), wk k7 k4 ad51 cp51 rs51, dk k4 da51 dc51 (waL l x33.b) b s, .fz g51, .blk b34 (.cells #[.int .i64 x33.k, .int .i64 x33.i, .int .i64 x33.n, .slice x33.ad x33.b.length x33.cap] 78), .ow 3 1 ad65 ((nn ++ [(((waN l x33.b b) : Nat) : Int)]).length) cp65 (iv (nn ++ [(((waN l x33.b b) : Nat) : Int)])), .ow 9 1 ra rr.length rc_ (List.flatMap sv rr)] _) => ?_)
                  clear hS64o
                  refine hK _ _ ?_; clear hK K
                  refine l_q rfl rfl (q_assignS rfl) ?_
                  refine l_nil ?_
                  refine hK63 _ _ ?_
                  refine wp_region_lit ?_
                  refine l_q rfl rfl (q_moveS rfl) ?_
                  refine l_q rfl rfl (q_fieldAddr (ft := 23) (o := 3) rfl (by kernel_rfl)) ?_
                  refine l_q rfl rfl (q_load1 rfl (by kernel_rfl) (hS65.cell (i := 4) rfl rfl)) ?_
                  refine l_q rfl rfl (q_convBS (l := x33.b) rfl ((hok x33 (List.mem_of_getElem? hx33)).2.2.2.1.mono hS65.base) (by first | omega | (simp only [List.length_append, List.length_map, List.length_cons, List.length_nil, List.length_take, List.length_drop, List.length_set] <;> omega)) (by kernel_rfl) (by kernel_rfl)) ?_
                  refine l_e rfl (fun K hK => ?_)
                  refine e_buildSlice1 (e := 9) (zv := .string ⟨#[]⟩) (xs := [.tmp 86]) hS65 (by kernel_rfl) (by kernel_rfl) (by kernel_rfl) rfl rfl rfl rfl (allone (by repeat' (first | exact trivial | refine ⟨by first | rfl | assumption, ?_⟩))) rfl (fun b66 w66 (hS66 : St _ _ [.blk b66 (.cells #[_] 9), .ow 3 1 (some ⟨b64, 0, none⟩) 1 1 (iv [(((waN l x33.b b) : Nat) : Int)]), wk k7 k4 ad51 cp51 rs51, dk k4 da51 dc51 (waL l x33.b) b s, .fz g51, .blk b34 (.cells #[.int .i64 x33.k, .int .i64 x33.i, .int .i64 x33.n, .slice x33.ad x33.b.length x33.cap] 78), .ow 3 1 ad65 ((nn ++ [(((waN l x33.b b) : Nat) : Int)]).length) cp65 (iv (nn ++ [(((waN l x33.b b) : Nat) : Int)])), .ow 9 1 ra rr.length rc_ (List.flatMap sv rr)] _) => ?_)
                  clear hS65
                  have hS66o : St _ _ [.ow 9 1 (some ⟨b66, 0, none⟩) 1 1 (List.flatMap sv [x33.b]), .ow 3 1 (some ⟨b64, 0, none⟩) 1 1 (iv [(((waN l x33.b b) : Nat) : Int)]), wk k7 k4 ad51 cp51 rs51, dk k4 da51 dc51 (waL l x33.b) b s, .fz g51, .blk b34 (.cells #[.int .i64 x33.k, .int .i64 x33.i, .int .i64 x33.n, .slice x33.ad x33.b.length x33.cap] 78), .ow 3 1 ad65 ((nn ++ [(((waN l x33.b b) : Nat) : Int)]).length) cp65 (iv (nn ++ [(((waN l x33.b b) : Nat) : Int)])), .ow 9 1 ra rr.length rc_ (List.flatMap sv rr)] _ := hS66.blkOw' (i := 0) (m := 1) (size := 1) (xs := List.flatMap sv [x33.b]) rfl rfl rfl (by decide); clear hS66
                  refine hK _ _ ?_; clear hK K
                  refine l_e rfl (fun K hK => ?_)
                  refine e_app (e := 9) (size := 1) (bytes := 16) (i := 7) (m' := (rr ++ [x33.b]).length) (by kernel_rfl) hS66o rfl rfl rfl (SlG.src (e := 9) (by kernel_rfl) (hS66o.owG (i := 0) rfl) ((rows_len (c := sv) (m := 1) (fun _ => rfl) _).trans (by first | rfl | (simp only [List.length_append, List.length_map, List.length_cons, List.length_nil, List.length_take, List.length_drop, List.length_set]; done) | (simp only [List.length_append, List.length_map, List.length_cons, List.length_nil, List.length_take, List.length_drop, List.length_set]; omega) | omega)) (by decide) (rows_one sv_ones)) (by first | omega | (simp only [List.length_append, List.length_map, List.length_cons, List.length_nil, List.length_take, List.length_drop, List.length_set] <;> omega) | (simp; done)) rows_app (by first | omega | (simp only [maxLen, List.length_append, List.length_map, List.length_cons, List.length_nil, List.length_take, List.length_drop, List.length_set] <;> omega) | (simp only [maxLen]; omega)) (by first | omega | (simp only [List.length_append, List.length_map, List.length_cons, List.length_nil, List.length_take, List.length_drop, List.length_set] <;> omega)) (fun ad67 cp67 w67 (hS67 : St _ _ [.ow 9 1 (some ⟨b66, 0, none⟩) 1 1 (List.flatMap sv [x33.b]), .ow 3 1 (some ⟨b64, 0, none⟩) 1 1 (iv [(((waN l x33.b b) : Nat) : Int)]), wk k7 k4 ad51 cp51 rs51, dk k4 da51 dc51 (waL l x33.b) b s, .fz g51, .blk b34 (.cells #[.int .i64 x33.k, .int .i64 x33.i, .int .i64 x33.n, .slice x33.ad x33.b.length x33.cap] 78), .ow 3 1 ad65 ((nn ++ [(((waN l x33.b b) : Nat) : Int)]).length) cp65 (iv (nn ++ [(((waN l x33.b b) : Nat) : Int)])), .ow 9 1 ad67 ((rr ++ [x33.b]).length) cp67 (List.flatMap sv (rr ++ [x33.b]))] _) => ?_)
                  clear hS66o
                  refine hK _ _ ?_; clear hK K
                  refine l_q rfl rfl (q_assignS rfl) ?_
                  refine l_nil ?_
                  have hS68 := hS67.fr7; clear hS67
                  have hS69 := hS68.fr7; clear hS68
                  have hS70 := hS69.fr6; clear hS69
                  have hS71 := hS70.fr6; clear hS70
                  have hS72 := hS71.fr6; clear hS71
                  have hS73 : St _ _ [wk k7 k4 ad51 cp51 rs51, dk k4 da51 dc51 (waL l x33.b) b s, .fz g51, .ow 3 1 ad65 ((nn ++ [(((waN l x33.b b) : Nat) : Int)]).length) cp65 (iv (nn ++ [(((waN l x33.b b) : Nat) : Int)])), .ow 9 1 ad67 ((rr ++ [x33.b]).length) cp67 (List.flatMap sv (rr ++ [x33.b]))] _ := hS72.only 5; clear hS72
                  refine hK37 _ _ (came (⟨da51, ad51, dc51, cp51, rs51, (waL l x33.b), b, s, g51, (nn ++ [(((waN l x33.b b) : Nat) : Int)]), (rr ++ [x33.b]), fr, ad65, cp65, ad67, cp67⟩) (by repeat' (first | exact Agree.refl _ _ | refine Agree.up ?_ rfl | refine Agree.hav2 ?_ rfl | refine Agree.ups2 ?_ rfl)) (by repeat' (first | exact trivial | refine ⟨by first | rfl | exact int_succ _ | assumption, ?_⟩)) ?_)
                  exact ⟨hS73, hI.appended hrs51 hab51 (hok x33 (List.mem_of_getElem? hx33)).2.2.2.2.1 (by show _ ≤ 400 * i + 400; omega), hN.wa hwE (hok x33 (List.mem_of_getElem? hx33)).2.2.2.2.1 hab51, (by rw [List.length_append]; simp only [List.length_cons, List.length_nil]; omega)⟩
                ·
                  have hg60b := hg60
                  try simp only [decide_eq_true_eq, decide_eq_false_iff_not, Bool.not_eq_true', Bool.not_eq_false', Bool.and_eq_true, Bool.or_eq_true, Int.not_lt, Int.not_le, ne_eq, Decidable.not_not] at hg60
                  refine l_off rfl rfl rfl hg60b ?_
                  refine l_off rfl rfl rfl hg60b ?_
                  refine l_off rfl rfl rfl hg60b ?_
                  refine l_off rfl rfl rfl hg60b ?_
                  refine l_off rfl rfl rfl hg60b ?_
                  refine l_off rfl rfl rfl hg60b ?_
                  refine l_off rfl rfl rfl hg60b ?_
                  refine l_off rfl rfl rfl hg60b ?_
                  refine l_q rfl rfl (q_pickF rfl hg60b rfl) ?_
                  refine l_nil ?_
                  refine hK59 _ _ ?_
                  refine c_condF rfl (by first | exact decide_eq_false (by rw [hw1]; omega) | rfl) ?_
                  refine wp_skip ?_
                  refine hK58 _ _ ?_
                  refine wp_seq_k (fun K75 hK75 => ?_)
                  refine wp_region_lit ?_
                  refine l_q rfl rfl (q_moveS rfl) ?_
                  refine l_q rfl rfl (q_moveI rfl) ?_
                  refine l_e rfl (fun K hK => ?_)
                  refine e_buildSlice1 (e := 3) (zv := .int .i64 0) (xs := [.tmp 80]) hS55 (by kernel_rfl) (by kernel_rfl) (by kernel_rfl) rfl rfl rfl rfl (allone (by repeat' (first | exact trivial | refine ⟨by first | rfl | assumption, ?_⟩))) rfl (fun b76 w76 (hS76 : St _ _ [.blk b76 (.cells #[.int .i64 (((waN l x33.b b) : Nat) : Int)] 3), wk k7 k4 ad51 cp51 rs51, dk k4 da51 dc51 (waL l x33.b) b s, .fz g51, .blk b34 (.cells #[.int .i64 x33.k, .int .i64 x33.i, .int .i64 x33.n, .slice x33.ad x33.b.length x33.cap] 78), .ow 3 1 na nn.length nc (iv nn), .ow 9 1 ra rr.length rc_ (List.flatMap sv rr)] _) => ?_)
                  clear hS55
                  have hS76o : St _ _ [.ow 3 1 (some ⟨b76, 0, none⟩) 1 1 (iv [(((waN l x33.b b) : Nat) : Int)]), wk k7 k4 ad51 cp51 rs51, dk k4 da51 dc51 (waL l x33.b) b s, .fz g51, .blk b34 (.cells #[.int .i64 x33.k, .int .i64 x33.i, .int .i64 x33.n, .slice x33.ad x33.b.length x33.cap] 78), .ow 3 1 na nn.length nc (iv nn), .ow 9 1 ra rr.length rc_ (List.flatMap sv rr)] _ := hS76.blkOw' (i := 0) (m := 1) (size := 1) (xs := iv [(((waN l x33.b b) : Nat) : Int)]) rfl rfl rfl (by decide); clear hS76
                  refine hK _ _ ?_; clear hK K
                  refine l_e rfl (fun K hK => ?_)
                  refine e_app (e := 3) (size := 1) (bytes := 8) (i := 5) (m' := (nn ++ [(((waN l x33.b b) : Nat) : Int)]).length) (by kernel_rfl) hS76o rfl rfl rfl (SlG.src (e := 3) (by kernel_rfl) (hS76o.owG (i := 0) rfl) (by first | (simp only [List.length_append, List.length_map, List.length_cons, List.length_nil, List.length_take, List.length_drop, List.length_set, Nat.mul_one]; done) | (simp only [List.length_append, List.length_map, List.length_cons, List.length_nil, List.length_take, List.length_drop, List.length_set]; omega) | rfl | (simp; done)) (by decide) (iv_one _)) (by first | omega | (simp only [List.length_append, List.length_map, List.length_cons, List.length_nil, List.length_take, List.length_drop, List.length_set] <;> omega) | (simp; done)) iv_app (by first | omega | (simp only [maxLen, List.length_append, List.length_map, List.length_cons, List.length_nil, List.length_take, List.length_drop, List.length_set] <;> omega) | (simp only [maxLen]; omega)) (by first | omega | (simp only [List.length_append, List.length_map, List.length_cons, List.length_nil, List.length_take, List.length_drop, List.length_set] <;> omega)) (fun ad77 cp77 w77 (hS77 : St _ _ [.ow 3 1 (some ⟨b76, 0, none⟩) 1 1 (iv [(((waN l x33.b b) : Nat) : Int)]), wk k7 k4 ad51 cp51 rs51, dk k4 da51 dc51 (waL l x33.b) b s, .fz g51, .blk b34 (.cells #[.int .i64 x33.k, .int .i64 x33.i, .int .i64 x33.n, .slice x33.ad x33.b.length x33.cap] 78), .ow 3 1 ad77 ((nn ++ [(((waN l x33.b b) : Nat) : Int)]).length) cp77 (iv (nn ++ [(((waN l x33.b b) : Nat) : Int)])), .ow 9 1 ra rr.length rc_ (List.flatMap sv rr)] _) => ?_)
                  clear hS76o
                  refine hK _ _ ?_; clear hK K
                  refine l_q rfl rfl (q_assignS rfl) ?_
                  refine l_nil ?_
                  refine hK75 _ _ ?_
                  refine wp_region_lit ?_
                  refine l_q rfl rfl (q_moveS rfl) ?_
                  refine l_q rfl rfl (q_fieldAddr (ft := 23) (o := 3) rfl (by kernel_rfl)) ?_
                  refine l_q rfl rfl (q_load1 rfl (by kernel_rfl) (hS77.cell (i := 4) rfl rfl)) ?_
                  refine l_q rfl rfl (q_convBS (l := x33.b) rfl ((hok x33 (List.mem_of_getElem? hx33)).2.2.2.1.mono hS77.base) (by first | omega | (simp only [List.length_append, List.length_map, List.length_cons, List.length_nil, List.length_take, List.length_drop, List.length_set] <;> omega)) (by kernel_rfl) (by kernel_rfl)) ?_
                  refine l_e rfl (fun K hK => ?_)
                  refine e_buildSlice1 (e := 9) (zv := .string ⟨#[]⟩) (xs := [.tmp 86]) hS77 (by kernel_rfl) (by kernel_rfl) (by kernel_rfl) rfl rfl rfl rfl (allone (by repeat' (first | exact trivial | refine ⟨by first | rfl | assumption, ?_⟩))) rfl (fun b78 w78 (hS78 : St _ _ [.blk b78 (.cells #[_] 9), .ow 3 1 (some ⟨b76, 0, none⟩) 1 1 (iv [(((waN l x33.b b) : Nat) : Int)]), wk k7 k4 ad51 cp51 rs51, dk k4 da51 dc51 (waL l x33.b) b s, .fz g51, .blk b34 (.cells #[.int .i64 x33.k, .int .i64 x33.i, .int .i64 x33.n, .slice x33.ad x33.b.length x33.cap] 78), .ow 3 1 ad77 ((nn ++ [(((waN l x33.b b) : Nat) : Int)]).length) cp77 (iv (nn ++ [(((waN l x33.b b) : Nat) : Int)])), .ow 9 1 ra rr.length rc_ (List.flatMap sv rr)] _) => ?_)
                  clear hS77
                  have hS78o : St _ _ [.ow 9 1 (some ⟨b78, 0, none⟩) 1 1 (List.flatMap sv [x33.b]), .ow 3 1 (some ⟨b76, 0, none⟩) 1 1 (iv [(((waN l x33.b b) : Nat) : Int)]), wk k7 k4 ad51 cp51 rs51, dk k4 da51 dc51 (waL l x33.b) b s, .fz g51, .blk b34 (.cells #[.int .i64 x33.k, .int .i64 x33.i, .int .i64 x33.n, .slice x33.ad x33.b.length x33.cap] 78), .ow 3 1 ad77 ((nn ++ [(((waN l x33.b b) : Nat) : Int)]).length) cp77 (iv (nn ++ [(((waN l x33.b b) : Nat) : Int)])), .ow 9 1 ra rr.length rc_ (List.flatMap sv rr)] _ := hS78.blkOw' (i := 0) (m := 1) (size := 1) (xs := List.flatMap sv [x33.b]) rfl rfl rfl (by decide); clear hS78
                  refine hK _ _ ?_; clear hK K
                  refine l_e rfl (fun K hK => ?_)
                  refine e_app (e := 9) (size := 1) (bytes := 16) (i := 7) (m' := (rr ++ [x33.b]).length) (by kernel_rfl) hS78o rfl rfl rfl (SlG.src (e := 9) (by kernel_rfl) (hS78o.owG (i := 0) rfl) ((rows_len (c := sv) (m := 1) (fun _ => rfl) _).trans (by first | rfl | (simp only [List.length_append, List.length_map, List.length_cons, List.length_nil, List.length_take, List.length_drop, List.length_set]; done) | (simp only [List.length_append, List.length_map, List.length_cons, List.length_nil, List.length_take, List.length_drop, List.length_set]; omega) | omega)) (by decide) (rows_one sv_ones)) (by first | omega | (simp only [List.length_append, List.length_map, List.length_cons, List.length_nil, List.length_take, List.length_drop, List.length_set] <;> omega) | (simp; done)) rows_app (by first | omega | (simp only [maxLen, List.length_append, List.length_map, List.length_cons, List.length_nil, List.length_take, List.length_drop, List.length_set] <;> omega) | (simp only [maxLen]; omega)) (by first | omega | (simp only [List.length_append, List.length_map, List.length_cons, List.length_nil, List.length_take, List.length_drop, List.length_set] <;> omega)) (fun ad79 cp79 w79 (hS79 : St _ _ [.ow 9 1 (some ⟨b78, 0, none⟩) 1 1 (List.flatMap sv [x33.b]), .ow 3 1 (some ⟨b76, 0, none⟩) 1 1 (iv [(((waN l x33.b b) : Nat) : Int)]), wk k7 k4 ad51 cp51 rs51, dk k4 da51 dc51 (waL l x33.b) b s, .fz g51, .blk b34 (.cells #[.int .i64 x33.k, .int .i64 x33.i, .int .i64 x33.n, .slice x33.ad x33.b.length x33.cap] 78), .ow 3 1 ad77 ((nn ++ [(((waN l x33.b b) : Nat) : Int)]).length) cp77 (iv (nn ++ [(((waN l x33.b b) : Nat) : Int)])), .ow 9 1 ad79 ((rr ++ [x33.b]).length) cp79 (List.flatMap sv (rr ++ [x33.b]))] _) => ?_)
                  clear hS78o
                  refine hK _ _ ?_; clear hK K
                  refine l_q rfl rfl (q_assignS rfl) ?_
                  refine l_nil ?_
                  have hS80 := hS79.fr7; clear hS79
                  have hS81 := hS80.fr7; clear hS80
                  have hS82 := hS81.fr6; clear hS81
                  have hS83 := hS82.fr6; clear hS82
                  have hS84 := hS83.fr6; clear hS83
                  have hS85 : St _ _ [wk k7 k4 ad51 cp51 rs51, dk k4 da51 dc51 (waL l x33.b) b s, .fz g51, .ow 3 1 ad77 ((nn ++ [(((waN l x33.b b) : Nat) : Int)]).length) cp77 (iv (nn ++ [(((waN l x33.b b) : Nat) : Int)])), .ow 9 1 ad79 ((rr ++ [x33.b]).length) cp79 (List.flatMap sv (rr ++ [x33.b]))] _ := hS84.only 5; clear hS84
                  refine hK37 _ _ (came (⟨da51, ad51, dc51, cp51, rs51, (waL l x33.b), b, s, g51, (nn ++ [(((waN l x33.b b) : Nat) : Int)]), (rr ++ [x33.b]), fr, ad77, cp77, ad79, cp79⟩) (by repeat' (first | exact Agree.refl _ _ | refine Agree.up ?_ rfl | refine Agree.hav2 ?_ rfl | refine Agree.ups2 ?_ rfl)) (by repeat' (first | exact trivial | refine ⟨by first | rfl | exact int_succ _ | assumption, ?_⟩)) ?_)
                  exact ⟨hS85, hI.appended hrs51 hab51 (hok x33 (List.mem_of_getElem? hx33)).2.2.2.2.1 (by show _ ≤ 400 * i + 400; omega), hN.wa hwE (hok x33 (List.mem_of_getElem? hx33)).2.2.2.2.1 hab51, (by rw [List.length_append]; simp only [List.length_cons, List.length_nil]; omega)⟩
              ·
                have hc57b := hc57
                try simp only [decide_eq_true_eq, decide_eq_false_iff_not, Bool.not_eq_true', Bool.not_eq_false', Bool.and_eq_true, Bool.or_eq_true, Int.not_lt, Int.not_le, ne_eq, Decidable.not_not] at hc57
                have hwE : waE l x33.b ≠ 0 := by omega
                refine wp_skip ?_
                have hS86 := hS55.fr5; clear hS55
                have hS87 := hS86.fr5; clear hS86
                have hS88 := hS87.fr4; clear hS87
                have hS89 := hS88.fr4; clear hS88
                have hS90 := hS89.fr4; clear hS89
                have hS91 : St _ _ [wk k7 k4 ad51 cp51 rs51, dk k4 da51 dc51 (waL l x33.b) b s, .fz g51, .ow 3 1 na nn.length nc (iv nn), .ow 9 1 ra rr.length rc_ (List.flatMap sv rr)] _ := hS90.only 5; clear hS90
                refine hK37 _ _ (came (⟨da51, ad51, dc51, cp51, rs51, (waL l x33.b), b, s, g51, nn, rr, fr, na, nc, ra, rc_⟩) (by repeat' (first | exact Agree.refl _ _ | refine Agree.up ?_ rfl | refine Agree.hav2 ?_ rfl | refine Agree.ups2 ?_ rfl)) (by repeat' (first | exact trivial | refine ⟨by first | rfl | exact int_succ _ | assumption, ?_⟩)) ?_)
                exact ⟨hS91, hI.appended hrs51 hab51 (hok x33 (List.mem_of_getElem? hx33)).2.2.2.2.1 (by show _ ≤ 400 * i + 400; omega), hN.wa0 hwE hab51, (by show nn.length ≤ i + 1; omega)⟩
          ·
            have hc40b := hc40
            try simp only [decide_eq_true_eq, decide_eq_false_iff_not, Bool.not_eq_true', Bool.not_eq_false', Bool.and_eq_true, Bool.or_eq_true, Int.not_lt, Int.not_le, ne_eq, Decidable.not_not] at hc40
            refine wp_seq_k (fun K92 hK92 => ?_)
            refine wp_region_lit ?_
            refine l_q rfl rfl (q_eql rfl rfl) ?_
            refine l_q rfl rfl (q_assignB rfl) ?_
            refine l_nil ?_
            refine hK92 _ _ ?_
            refine c_cond rfl (fun hc93 => ?_) (fun hc93 => ?_)
            ·
              have hc93b := hc93
              try simp only [decide_eq_true_eq, decide_eq_false_iff_not, Bool.not_eq_true', Bool.not_eq_false', Bool.and_eq_true, Bool.or_eq_true, Int.not_lt, Int.not_le, ne_eq, Decidable.not_not] at hc93
              refine wp_region_lit ?_
              refine l_q rfl rfl (q_moveP rfl) ?_
              refine l_e rfl (fun K hK => ?_)
              have hS95 := hS35.fr2; clear hS35
              have hS96 := hS95.fr2; clear hS95
              refine e_call (by kernel_rfl) (wSync_ok _ _ _ _ _ _ _ _ _ _ _ (St.begin (Γ := [_, _]) hS96)) rfl (after_M (Γ1 := [_, _]) hS96 (fun v94 G94 w94 hv94 hS94 => ?_))
              clear hS96
              obtain ⟨rfl, rfl⟩ := hv94
              have hS97 : St _ _ [wk k7 k4 ad cap rs, dk k4 da dc l b l.length, .blk b34 (.cells #[.int .i64 x33.k, .int .i64 x33.i, .int .i64 x33.n, .slice x33.ad x33.b.length x33.cap] 78), .fz g, .ow 3 1 na nn.length nc (iv nn), .ow 9 1 ra rr.length rc_ (List.flatMap sv rr)] _ := hS94; clear hS94
              refine hK _ _ ?_; clear hK K
              refine l_nil ?_
              have hS98 := hS97.fr5; clear hS97
              have hS99 := hS98.fr5; clear hS98
              have hS100 := hS99.fr5; clear hS99
              have hS101 := hS100.fr4; clear hS100
              have hS102 := hS101.fr4; clear hS101
              have hS103 : St _ _ [wk k7 k4 ad cap rs, dk k4 da dc l b l.length, .fz g, .ow 3 1 na nn.length nc (iv nn), .ow 9 1 ra rr.length rc_ (List.flatMap sv rr)] _ := hS102.only 5; clear hS102
              refine hK37 _ _ (came (⟨da, ad, dc, cap, rs, l, b, l.length, g, nn, rr, fr, na, nc, ra, rc_⟩) (by repeat' (first | exact Agree.refl _ _ | refine Agree.up ?_ rfl | refine Agree.hav2 ?_ rfl | refine Agree.ups2 ?_ rfl)) (by repeat' (first | exact trivial | refine ⟨by first | rfl | exact int_succ _ | assumption, ?_⟩)) ?_)
              exact ⟨hS103, hI.synced.more (by show _ ≤ 400 * i + 400; omega), hN, (by show nn.length ≤ i + 1; omega)⟩
            ·
              have hc93b := hc93
              try simp only [decide_eq_true_eq, decide_eq_false_iff_not, Bool.not_eq_true', Bool.not_eq_false', Bool.and_eq_true, Bool.or_eq_true, Int.not_lt, Int.not_le, ne_eq, Decidable.not_not] at hc93
              refine wp_seq_k (fun K104 hK104 => ?_)
              refine wp_region_lit ?_
              refine l_q rfl rfl (q_eql rfl rfl) ?_
              refine l_q rfl rfl (q_assignB rfl) ?_
              refine l_nil ?_
              refine hK104 _ _ ?_
              refine c_cond rfl (fun hc105 => ?_) (fun hc105 => ?_)
              ·
                have hc105b := hc105
                try simp only [decide_eq_true_eq, decide_eq_false_iff_not, Bool.not_eq_true', Bool.not_eq_false', Bool.and_eq_true, Bool.or_eq_true, Int.not_lt, Int.not_le, ne_eq, Decidable.not_not] at hc105
                refine wp_seq_k (fun K106 hK106 => ?_)
                refine wp_region_lit ?_
                refine l_q rfl rfl (q_fieldAddr (ft := 3) (o := 1) rfl (by kernel_rfl)) ?_
                refine l_q rfl rfl (q_load1 rfl (by kernel_rfl) (hS35.cell (i := 0) rfl rfl)) ?_
                refine l_q rfl rfl (q_moveS rfl) ?_
                refine l_q rfl rfl (q_lenSl (e := 3) rfl (by kernel_rfl)) ?_
                refine l_q rfl rfl (q_moveI rfl) ?_
                refine l_q rfl rfl (q_subx rfl rfl (by first | decide | omega) (by first | decide | omega)) ?_
                refine l_q rfl rfl (q_addx rfl rfl (by first | decide | omega) (by first | decide | omega)) ?_
                refine l_e rfl (fun K hK => ?_)
                refine e_callA (by kernel_rfl) (pickR_ok x33.i ((nn.length - fr) + 1) (by omega) (by omega) _) (show _ = [.int .i64 x33.i, .int .i64 ((((nn.length : Nat) : Int) - ((fr : Nat) : Int)) + (1 : Int))] from rfl) (by rw [show ((((nn.length - fr) + 1) : Nat) : Int) = ((((nn.length : Nat) : Int) - ((fr : Nat) : Int)) + (1 : Int)) from by omega]) (after_R hS35 (fun v107 w107 hv107 hS107 => ?_))
                clear hS35
                obtain rfl := hv107
                refine hK _ _ ?_; clear hK K
                have hpl := pickN_lt x33.i (n := nn.length - fr + 1) (by omega)
                refine l_q rfl rfl (q_assignI rfl) ?_
                refine l_nil ?_
                refine hK106 _ _ ?_
                refine wp_seq_k (fun K108 hK108 => ?_)
                refine wp_region_lit ?_
                refine l_q rfl rfl (q_moveP rfl) ?_
                refine l_e rfl (fun K hK => ?_)
                have hS110 := hS107.fr2; clear hS107
                refine e_call (by kernel_rfl) (dEnd_ok _ _ _ _ _ _ hI.2.1 (by first | omega | (simp; omega)) (by first | omega | (simp; omega)) _ (St.begin (Γ := [_]) hS110)) rfl (after_M (Γ1 := [_]) hS110 (fun v109 G109 w109 hv109 hS109 => ?_))
                clear hS110
                obtain ⟨rfl, rfl⟩ := hv109
                have hS111 : St _ _ [dk k4 da dc l b s, .blk b34 (.cells #[.int .i64 x33.k, .int .i64 x33.i, .int .i64 x33.n, .slice x33.ad x33.b.length x33.cap] 78), wk k7 k4 ad cap rs, .fz g, .ow 3 1 na nn.length nc (iv nn), .ow 9 1 ra rr.length rc_ (List.flatMap sv rr)] _ := hS109; clear hS109
                refine hK _ _ ?_; clear hK K
                refine l_q rfl rfl (q_assignI rfl) ?_
                refine l_nil ?_
                refine hK108 _ _ ?_
                refine wp_seq_k (fun K112 hK112 => ?_)
                refine wp_seq_k (fun K113 hK113 => ?_)
                refine wp_region_lit ?_
                refine l_q rfl rfl (q_moveI rfl) ?_
                refine l_q rfl rfl (q_moveI rfl) ?_
                refine l_q rfl rfl (q_addx rfl rfl (by first | decide | omega) (by first | decide | omega)) ?_
                refine l_q rfl rfl (q_moveS rfl) ?_
                refine l_q rfl rfl (q_lenSl (e := 3) rfl (by kernel_rfl)) ?_
                refine l_q rfl rfl (q_lss rfl rfl) ?_
                refine l_nil ?_
                refine hK113 _ _ ?_
                refine c_cond rfl (fun hc114 => ?_) (fun hc114 => ?_)
                ·
                  have hc114b := hc114
                  try simp only [decide_eq_true_eq, decide_eq_false_iff_not, Bool.not_eq_true', Bool.not_eq_false', Bool.and_eq_true, Bool.or_eq_true, Int.not_lt, Int.not_le, ne_eq, Decidable.not_not] at hc114
                  refine wp_region_lit ?_
                  refine l_q rfl rfl (q_moveS rfl) ?_
                  refine l_q rfl rfl (q_moveI rfl) ?_
                  refine l_q rfl rfl (q_moveI rfl) ?_
                  refine l_q rfl rfl (q_addx rfl rfl (by first | decide | omega) (by first | decide | omega)) ?_
                  refine l_q rfl rfl (q_ixG (e := 3) (m := 1) (j := (fr + (pickN x33.i ((nn.length - fr) + 1)))) rfl rfl (by kernel_rfl) (by kernel_rfl) (by first | rfl | omega) (by omega) (hS111.owG (i := 4) rfl) (by rw [iv_len]; first | omega | (simp only [List.length_append, List.length_map, List.length_cons, List.length_nil, List.length_take, List.length_drop, List.length_set] <;> omega))) ?_
                  obtain ⟨x115, hx115⟩ : ∃ x, (nn)[(fr + (pickN x33.i ((nn.length - fr) + 1)))]? = some x := ⟨_, List.getElem?_eq_getElem (by first | omega | (simp only [List.length_append, List.length_map, List.length_cons, List.length_nil, List.length_take, List.length_drop, List.length_set] <;> omega) | (simp <;> omega))⟩
                  refine l_q rfl rfl (q_load1 rfl (by kernel_rfl) (SlG.cell (hS111.owG (i := 4) rfl) (Gle.refl _) (at1 (iv_at hx115)))) ?_
                  have hT := hN.triA hIw hx115
                  have hlx := hN.lt x115 (List.mem_of_getElem? hx115)
                  obtain ⟨q0, _, hq0, _⟩ := hN.at hx115
                  refine l_q rfl rfl (q_assignI rfl) ?_
                  refine l_nil ?_
                  refine hK112 _ _ ?_
                  refine wp_seq_k (fun K116 hK116 => ?_)
                  refine wp_region_lit ?_
                  refine l_q rfl rfl (q_moveP rfl) ?_
                  refine l_q rfl rfl (q_moveI rfl) ?_
                  refine l_e rfl (fun K hK => ?_)
                  have hF117 := tr_fit rs l b s x115 (by first | omega | (simp only [List.length_append, List.length_map, List.length_cons, List.length_nil, List.length_take, List.length_drop, List.length_set] <;> omega))
                  have hRt117 := trR_ok hI.1 l b s x115 
                  have hS118 := hS111.fr2; clear hS111
                  refine e_call (by kernel_rfl) (wTrim_ok _ _ _ _ _ _ _ _ _ _ (by first | omega | (simp only [List.length_append, List.length_map, List.length_cons, List.length_nil, List.length_take, List.length_drop, List.length_set] <;> omega)) hI.2.1 (by first | omega | (simp only [List.length_append, List.length_map, List.length_cons, List.length_nil, List.length_take, List.length_drop, List.length_set] <;> omega)) (by first | omega | (simp only [List.length_append, List.length_map, List.length_cons, List.length_nil, List.length_take, List.length_drop, List.length_set] <;> omega)) _ (by first | omega | (simp only [List.length_append, List.length_map, List.length_cons, List.length_nil, List.length_take, List.length_drop, List.length_set] <;> omega)) (by first | omega | (simp only [List.length_append, List.length_map, List.length_cons, List.length_nil, List.length_take, List.length_drop, List.length_set] <;> omega)) _ (St.begin (Γ := [_, _]) hS118)) rfl (after_M (Γ1 := [_, _]) hS118 (fun v117 G117 w117 hv117 hS117 => ?_))
                  clear hS118
                  obtain ⟨ad117, cp117, da117, dc117, rfl, rfl⟩ := hv117
                  have hS119 : St _ _ [wk k7 k4 ad117 cp117 (trR rs l b s x115), dk k4 da117 dc117 (trL rs l b s x115) (trB rs l b s x115) (trS rs l b s x115), .blk b34 (.cells #[.int .i64 x33.k, .int .i64 x33.i, .int .i64 x33.n, .slice x33.ad x33.b.length x33.cap] 78), .fz g, .ow 3 1 na nn.length nc (iv nn), .ow 9 1 ra rr.length rc_ (List.flatMap sv rr)] _ := hS117; clear hS117
                  refine hK _ _ ?_; clear hK K
                  have hNt := hN.tr (s := s) hIs hT (by omega)
                  have hrw : trE rs l b s x115 = trE rs l b s x115 := rfl
                  refine l_q rfl rfl (q_eql rfl rfl) ?_
                  refine l_nil ?_
                  refine hK116 _ _ ?_
                  refine c_cond rfl (fun hc120 => ?_) (fun hc120 => ?_)
                  ·
                    have hc120b := hc120
                    try simp only [decide_eq_true_eq, decide_eq_false_iff_not, Bool.not_eq_true', Bool.not_eq_false', Bool.and_eq_true, Bool.or_eq_true, Int.not_lt, Int.not_le, ne_eq, Decidable.not_not] at hc120
                    rw [if_pos (by omega)] at hNt
                    refine wp_region_lit ?_
                    refine l_q rfl rfl (q_moveI rfl) ?_
                    refine l_q rfl rfl (q_moveI rfl) ?_
                    refine l_q rfl rfl (q_addx rfl rfl (by first | decide | omega) (by first | decide | omega)) ?_
                    refine l_q rfl rfl (q_assignI rfl) ?_
                    refine l_nil ?_
                    have hS121 := hS119.fr5; clear hS119
                    have hS122 := hS121.fr5; clear hS121
                    have hS123 := hS122.fr5; clear hS122
                    have hS124 := hS123.fr4; clear hS123
                    have hS125 := hS124.fr4; clear hS124
                    have hS126 : St _ _ [wk k7 k4 ad117 cp117 (trR rs l b s x115), dk k4 da117 dc117 (trL rs l b s x115) (trB rs l b s x115) (trS rs l b s x115), .fz g, .ow 3 1 na nn.length nc (iv nn), .ow 9 1 ra rr.length rc_ (List.flatMap sv rr)] _ := hS125.only 5; clear hS125
                    refine hK37 _ _ (came (⟨da117, ad117, dc117, cp117, (trR rs l b s x115), (trL rs l b s x115), (trB rs l b s x115), (trS rs l b s x115), g, nn, rr, (fr + (pickN x33.i ((nn.length - fr) + 1))), na, nc, ra, rc_⟩) (by repeat' (first | exact Agree.refl _ _ | refine Agree.up ?_ rfl | refine Agree.hav2 ?_ rfl | refine Agree.ups2 ?_ rfl)) (by repeat' (first | exact trivial | refine ⟨by first | rfl | exact int_succ _ | assumption, ?_⟩)) ?_)
                    exact ⟨hS126, hI.trimmed.more (by show _ ≤ 400 * i + 400; omega), hNt, (by show nn.length ≤ i + 1; omega)⟩
                  ·
                    have hc120b := hc120
                    try simp only [decide_eq_true_eq, decide_eq_false_iff_not, Bool.not_eq_true', Bool.not_eq_false', Bool.and_eq_true, Bool.or_eq_true, Int.not_lt, Int.not_le, ne_eq, Decidable.not_not] at hc120
                    rw [if_neg (by omega)] at hNt
                    refine wp_skip ?_
                    have hS127 := hS119.fr5; clear hS119
                    have hS128 := hS127.fr5; clear hS127
                    have hS129 := hS128.fr5; clear hS128
                    have hS130 := hS129.fr4; clear hS129
                    have hS131 := hS130.fr4; clear hS130
                    have hS132 : St _ _ [wk k7 k4 ad117 cp117 (trR rs l b s x115), dk k4 da117 dc117 (trL rs l b s x115) (trB rs l b s x115) (trS rs l b s x115), .fz g, .ow 3 1 na nn.length nc (iv nn), .ow 9 1 ra rr.length rc_ (List.flatMap sv rr)] _ := hS131.only 5; clear hS131
                    refine hK37 _ _ (came (⟨da117, ad117, dc117, cp117, (trR rs l b s x115), (trL rs l b s x115), (trB rs l b s x115), (trS rs l b s x115), g, nn, rr, fr, na, nc, ra, rc_⟩) (by repeat' (first | exact Agree.refl _ _ | refine Agree.up ?_ rfl | refine Agree.hav2 ?_ rfl | refine Agree.ups2 ?_ rfl)) (by repeat' (first | exact trivial | refine ⟨by first | rfl | exact int_succ _ | assumption, ?_⟩)) ?_)
                    exact ⟨hS132, hI.trimmed.more (by show _ ≤ 400 * i + 400; omega), hNt, (by show nn.length ≤ i + 1; omega)⟩
                ·
                  have hc114b := hc114
                  try simp only [decide_eq_true_eq, decide_eq_false_iff_not, Bool.not_eq_true', Bool.not_eq_false', Bool.and_eq_true, Bool.or_eq_true, Int.not_lt, Int.not_le, ne_eq, Decidable.not_not] at hc114
                  have hT := hN.triE (k := (pickN x33.i ((nn.length - fr) + 1))) (by omega)
                  refine wp_skip ?_
                  refine hK112 _ _ ?_
                  refine wp_seq_k (fun K133 hK133 => ?_)
                  refine wp_region_lit ?_
                  refine l_q rfl rfl (q_moveP rfl) ?_
                  refine l_q rfl rfl (q_moveI rfl) ?_
                  refine l_e rfl (fun K hK => ?_)
                  have hF134 := tr_fit rs l b s (((b + l.length) : Nat) : Int) (by first | omega | (simp only [List.length_append, List.length_map, List.length_cons, List.length_nil, List.length_take, List.length_drop, List.length_set] <;> omega))
                  have hRt134 := trR_ok hI.1 l b s (((b + l.length) : Nat) : Int) 
                  have hS135 := hS111.fr2; clear hS111
                  refine e_call (by kernel_rfl) (wTrim_ok _ _ _ _ _ _ _ _ _ _ (by first | omega | (simp only [List.length_append, List.length_map, List.length_cons, List.length_nil, List.length_take, List.length_drop, List.length_set] <;> omega)) hI.2.1 (by first | omega | (simp only [List.length_append, List.length_map, List.length_cons, List.length_nil, List.length_take, List.length_drop, List.length_set] <;> omega)) (by first | omega | (simp only [List.length_append, List.length_map, List.length_cons, List.length_nil, List.length_take, List.length_drop, List.length_set] <;> omega)) _ (by first | omega | (simp only [List.length_append, List.length_map, List.length_cons, List.length_nil, List.length_take, List.length_drop, List.length_set] <;> omega)) (by first | omega | (simp only [List.length_append, List.length_map, List.length_cons, List.length_nil, List.length_take, List.length_drop, List.length_set] <;> omega)) _ (St.begin (Γ := [_, _]) hS135)) rfl (after_M (Γ1 := [_, _]) hS135 (fun v134 G134 w134 hv134 hS134 => ?_))
                  clear hS135
                  obtain ⟨ad134, cp134, da134, dc134, rfl, rfl⟩ := hv134
                  have hS136 : St _ _ [wk k7 k4 ad134 cp134 (trR rs l b s (((b + l.length) : Nat) : Int)), dk k4 da134 dc134 (trL rs l b s (((b + l.length) : Nat) : Int)) (trB rs l b s (((b + l.length) : Nat) : Int)) (trS rs l b s (((b + l.length) : Nat) : Int)), .blk b34 (.cells #[.int .i64 x33.k, .int .i64 x33.i, .int .i64 x33.n, .slice x33.ad x33.b.length x33.cap] 78), .fz g, .ow 3 1 na nn.length nc (iv nn), .ow 9 1 ra rr.length rc_ (List.flatMap sv rr)] _ := hS134; clear hS134
                  refine hK _ _ ?_; clear hK K
                  have hNt := hN.tr (s := s) hIs hT (by omega)
                  have hrw : trE rs l b s (((b + l.length) : Nat) : Int) = trE rs l b s (((b + l.length) : Nat) : Int) := rfl
                  refine l_q rfl rfl (q_eql rfl rfl) ?_
                  refine l_nil ?_
                  refine hK133 _ _ ?_
                  refine c_cond rfl (fun hc137 => ?_) (fun hc137 => ?_)
                  ·
                    have hc137b := hc137
                    try simp only [decide_eq_true_eq, decide_eq_false_iff_not, Bool.not_eq_true', Bool.not_eq_false', Bool.and_eq_true, Bool.or_eq_true, Int.not_lt, Int.not_le, ne_eq, Decidable.not_not] at hc137
                    rw [if_pos (by omega)] at hNt
                    refine wp_region_lit ?_
                    refine l_q rfl rfl (q_moveI rfl) ?_
                    refine l_q rfl rfl (q_moveI rfl) ?_
                    refine l_q rfl rfl (q_addx rfl rfl (by first | decide | omega) (by first | decide | omega)) ?_
                    refine l_q rfl rfl (q_assignI rfl) ?_
                    refine l_nil ?_
                    have hS138 := hS136.fr5; clear hS136
                    have hS139 := hS138.fr5; clear hS138
                    have hS140 := hS139.fr5; clear hS139
                    have hS141 := hS140.fr4; clear hS140
                    have hS142 := hS141.fr4; clear hS141
                    have hS143 : St _ _ [wk k7 k4 ad134 cp134 (trR rs l b s (((b + l.length) : Nat) : Int)), dk k4 da134 dc134 (trL rs l b s (((b + l.length) : Nat) : Int)) (trB rs l b s (((b + l.length) : Nat) : Int)) (trS rs l b s (((b + l.length) : Nat) : Int)), .fz g, .ow 3 1 na nn.length nc (iv nn), .ow 9 1 ra rr.length rc_ (List.flatMap sv rr)] _ := hS142.only 5; clear hS142
                    refine hK37 _ _ (came (⟨da134, ad134, dc134, cp134, (trR rs l b s (((b + l.length) : Nat) : Int)), (trL rs l b s (((b + l.length) : Nat) : Int)), (trB rs l b s (((b + l.length) : Nat) : Int)), (trS rs l b s (((b + l.length) : Nat) : Int)), g, nn, rr, (fr + (pickN x33.i ((nn.length - fr) + 1))), na, nc, ra, rc_⟩) (by repeat' (first | exact Agree.refl _ _ | refine Agree.up ?_ rfl | refine Agree.hav2 ?_ rfl | refine Agree.ups2 ?_ rfl)) (by repeat' (first | exact trivial | refine ⟨by first | rfl | exact int_succ _ | assumption, ?_⟩)) ?_)
                    exact ⟨hS143, hI.trimmed.more (by show _ ≤ 400 * i + 400; omega), hNt, (by show nn.length ≤ i + 1; omega)⟩
                  ·
                    have hc137b := hc137
                    try simp only [decide_eq_true_eq, decide_eq_false_iff_not, Bool.not_eq_true', Bool.not_eq_false', Bool.and_eq_true, Bool.or_eq_true, Int.not_lt, Int.not_le, ne_eq, Decidable.not_not] at hc137
                    rw [if_neg (by omega)] at hNt
                    refine wp_skip ?_
                    have hS144 := hS136.fr5; clear hS136
                    have hS145 := hS144.fr5; clear hS144
                    have hS146 := hS145.fr5; clear hS145
                    have hS147 := hS146.fr4; clear hS146
                    have hS148 := hS147.fr4; clear hS147
                    have hS149 : St _ _ [wk k7 k4 ad134 cp134 (trR rs l b s (((b + l.length) : Nat) : Int)), dk k4 da134 dc134 (trL rs l b s (((b + l.length) : Nat) : Int)) (trB rs l b s (((b + l.length) : Nat) : Int)) (trS rs l b s (((b + l.length) : Nat) : Int)), .fz g, .ow 3 1 na nn.length nc (iv nn), .ow 9 1 ra rr.length rc_ (List.flatMap sv rr)] _ := hS148.only 5; clear hS148
                    refine hK37 _ _ (came (⟨da134, ad134, dc134, cp134, (trR rs l b s (((b + l.length) : Nat) : Int)), (trL rs l b s (((b + l.length) : Nat) : Int)), (trB rs l b s (((b + l.length) : Nat) : Int)), (trS rs l b s (((b + l.length) : Nat) : Int)), g, nn, rr, fr, na, nc, ra, rc_⟩) (by repeat' (first | exact Agree.refl _ _ | refine Agree.up ?_ rfl | refine Agree.hav2 ?_ rfl | refine Agree.ups2 ?_ rfl)) (by repeat' (first | exact trivial | refine ⟨by first | rfl | exact int_succ _ | assumption, ?_⟩)) ?_)
                    exact ⟨hS149, hI.trimmed.more (by show _ ≤ 400 * i + 400; omega), hNt, (by show nn.length ≤ i + 1; omega)⟩
              ·
                have hc105b := hc105
                try simp only [decide_eq_true_eq, decide_eq_false_iff_not, Bool.not_eq_true', Bool.not_eq_false', Bool.and_eq_true, Bool.or_eq_true, Int.not_lt, Int.not_le, ne_eq, Decidable.not_not] at hc105
                refine wp_skip ?_
                have hS150 := hS35.fr5; clear hS35
                have hS151 := hS150.fr5; clear hS150
                have hS152 := hS151.fr5; clear hS151
                have hS153 := hS152.fr5; clear hS152
                have hS154 := hS153.fr5; clear hS153
                have hS155 : St _ _ [wk k7 k4 ad cap rs, dk k4 da dc l b s, .fz g, .ow 3 1 na nn.length nc (iv nn), .ow 9 1 ra rr.length rc_ (List.flatMap sv rr)] _ := hS154.only 5; clear hS154
                refine hK37 _ _ (came (⟨da, ad, dc, cap, rs, l, b, s, g, nn, rr, fr, na, nc, ra, rc_⟩) (by repeat' (first | exact Agree.refl _ _ | refine Agree.up ?_ rfl | refine Agree.hav2 ?_ rfl | refine Agree.ups2 ?_ rfl)) (by repeat' (first | exact trivial | refine ⟨by first | rfl | exact int_succ _ | assumption, ?_⟩)) ?_)
                exact ⟨hS155, hI.more (by show _ ≤ 400 * i + 400; omega), hN, (by show nn.length ≤ i + 1; omega)⟩
        ·
          obtain ⟨da, ad, dc, cap, rs, l, b, s, g, nn, rr, fr, na, nc, ra, rc_⟩ := x37
          obtain ⟨hS37, hI, hN, hnl⟩ := hJ37
          try dsimp only at hS37 hI hN hnl ⊢
          obtain ⟨_, _, hIs, hIn, hIw⟩ := id hI
          have hIlt := whole_lt hIw
          have hIl := whole_len hIw
          have hNl := hN.len
          rw [List.length_map] at hNl
          obtain ⟨hNr, hNf⟩ := hN.rl
          have hnl2 := nums_len rs
          refine wp_seq_k (fun K156 hK156 => ?_)
          refine wp_region_lit ?_
          refine l_q rfl rfl (q_moveP rfl) ?_
          refine l_e rfl (fun K hK => ?_)
          refine e_call (by kernel_rfl) (wNumbers_ok _ _ _ _ _ (by first | omega | (simp only [List.length_append, List.length_map, List.length_cons, List.length_nil, List.length_take, List.length_drop, List.length_set] <;> omega)) _ (St.begin (Γ := [_]) hS37)) rfl (after_M (Γ1 := [_]) hS37 (fun v157 G157 w157 hv157 hS157 => ?_))
          clear hS37
          obtain ⟨ad157, cp157, rfl, rfl⟩ := hv157
          have hS158 : St _ _ [.ow 3 1 ad157 rs.length cp157 (iv (nums rs)), wk k7 k4 ad cap rs, dk k4 da dc l b s, .fz g, .ow 3 1 na nn.length nc (iv nn), .ow 9 1 ra rr.length rc_ (List.flatMap sv rr)] _ := hS157; clear hS157
          refine hK _ _ ?_; clear hK K
          refine l_q rfl rfl (q_assignS rfl) ?_
          refine l_nil ?_
          refine hK156 _ _ ?_
          refine wp_seq_k (fun K159 hK159 => ?_)
          refine wp_seq_k (fun K160 hK160 => ?_)
          refine wp_region_lit ?_
          refine l_q rfl rfl (q_moveS rfl) ?_
          refine l_q rfl rfl (q_lenSl (e := 3) rfl (by kernel_rfl)) ?_
          refine l_q rfl rfl (q_moveS rfl) ?_
          refine l_q rfl rfl (q_lenSl (e := 3) rfl (by kernel_rfl)) ?_
          refine l_q rfl rfl (q_moveI rfl) ?_
          refine l_q rfl rfl (q_subx rfl rfl (by first | decide | omega) (by first | decide | omega)) ?_
          refine l_q rfl rfl (q_neq rfl rfl) ?_
          refine l_nil ?_
          refine hK160 _ _ ?_
          refine c_condF rfl (decide_eq_false (by simp; omega)) ?_
          refine wp_skip ?_
          refine hK159 _ _ ?_
          refine wp_seq_k (fun K162 hK162 => ?_)
          refine wp_region_lit ?_
          refine l_q rfl rfl (q_assignI rfl) ?_
          refine l_nil ?_
          refine hK162 _ _ ?_
          refine wp_block ?_
          have hS163 := hS158.fr5; clear hS158
          have hS164 := hS163.fr5; clear hS163
          have hS165 := hS164.fr5; clear hS164
          have hS166 := hS165.fr5; clear hS165
          have hS167 := hS166.fr5; clear hS166
          refine c_loop (τ := Nat) [(2, 2), (16, 18), (133, 179)] (fun x => (fun (k : Nat) => [(16, .int .i64 ((k : Nat) : Int))]) x) (fun x w' => (fun (k : Nat) => St w (fun _ => False) [wk k7 k4 ad cap rs, dk k4 da dc l b s, .fz g, .ow 3 1 na nn.length nc (iv nn), .ow 9 1 ra rr.length rc_ (List.flatMap sv rr), .ow 3 1 ad157 rs.length cp157 (iv (nums rs))] w' ∧ k ≤ nn.length) x) (fun x => (fun (k : Nat) => nn.length - k) x) (0) ?_ (by repeat' (first | exact trivial | refine ⟨by first | rfl | exact int_succ _ | assumption, ?_⟩)) (fun k j168 w168 hJ168 K168 hK168 => ?_)
          ·
            exact ⟨hS167, Nat.zero_le _⟩
          ·
            obtain ⟨hS168, hk⟩ := hJ168
            try dsimp only at hS168 hk ⊢
            refine wp_seq_k (fun K169 hK169 => ?_)
            refine wp_seq_k (fun K170 hK170 => ?_)
            refine wp_region_lit ?_
            refine l_q rfl rfl (q_moveI rfl) ?_
            refine l_q rfl rfl (q_moveS rfl) ?_
            refine l_q rfl rfl (q_lenSl (e := 3) rfl (by kernel_rfl)) ?_
            refine l_q rfl rfl (q_lss rfl rfl) ?_
            refine l_nil ?_
            refine hK170 _ _ ?_
            refine c_cond rfl (fun hc171 => ?_) (fun hc171 => ?_)
            ·
              have hc171b := hc171
              try simp only [decide_eq_true_eq, decide_eq_false_iff_not, Bool.not_eq_true', Bool.not_eq_false', Bool.and_eq_true, Bool.or_eq_true, Int.not_lt, Int.not_le, ne_eq, Decidable.not_not] at hc171
              refine wp_skip ?_
              refine hK169 _ _ ?_
              refine wp_seq_k (fun K172 hK172 => ?_)
              refine wp_block ?_
              refine wp_seq_k (fun K173 hK173 => ?_)
              refine wp_region_lit ?_
              refine l_q rfl rfl (q_moveP rfl) ?_
              refine l_q rfl rfl (q_moveS rfl) ?_
              refine l_q rfl rfl (q_moveI rfl) ?_
              refine l_q rfl rfl (q_ixG (e := 3) (m := 1) (j := k) rfl rfl (by kernel_rfl) (by kernel_rfl) (by first | rfl | omega) (by omega) (hS168.owG (i := 3) rfl) (by rw [iv_len]; first | omega | (simp only [List.length_append, List.length_map, List.length_cons, List.length_nil, List.length_take, List.length_drop, List.length_set] <;> omega))) ?_
              obtain ⟨x174, hx174⟩ : ∃ x, (nn)[k]? = some x := ⟨_, List.getElem?_eq_getElem (by first | omega | (simp only [List.length_append, List.length_map, List.length_cons, List.length_nil, List.length_take, List.length_drop, List.length_set] <;> omega) | (simp <;> omega))⟩
              refine l_q rfl rfl (q_load1 rfl (by kernel_rfl) (SlG.cell (hS168.owG (i := 3) rfl) (Gle.refl _) (at1 (iv_at hx174)))) ?_
              refine l_e rfl (fun K hK => ?_)
              have hS176 := hS168.fr2; clear hS168
              have hS177 := hS176.fr1; clear hS176
              refine e_call (by kernel_rfl) (wRead_ok _ _ _ _ _ _ (by first | omega | (simp only [List.length_append, List.length_map, List.length_cons, List.length_nil, List.length_take, List.length_drop, List.length_set] <;> omega)) hI.1 _ _ (St.begin (Γ := [_, _]) hS177)) rfl (after_M (Γ1 := [_, _]) hS177 (fun v175 G175 w175 hv175 hS175 => ?_))
              clear hS177
              obtain ⟨ad175, cp175, rfl, rfl⟩ := hv175
              have hS178 : St _ _ [.ow 5 1 ad175 ((rdB (List.map Rc.abs rs) x174).length) cp175 (bv (rdB (List.map Rc.abs rs) x174)), wk k7 k4 ad cap rs, .fz g, dk k4 da dc l b s, .ow 3 1 na nn.length nc (iv nn), .ow 9 1 ra rr.length rc_ (List.flatMap sv rr), .ow 3 1 ad157 rs.length cp157 (iv (nums rs))] _ := hS175; clear hS175
              refine hK _ _ ?_; clear hK K
              have hre := hN.read (y := []) hIw hx174
              refine l_q rfl rfl (q_move rfl) ?_
              refine l_q rfl rfl (q_extract rfl rfl) ?_
              refine l_q rfl rfl (q_extract rfl rfl) ?_
              refine l_q rfl rfl (q_assignS rfl) ?_
              refine l_q rfl rfl (q_assignI rfl) ?_
              refine l_nil ?_
              refine hK173 _ _ ?_
              refine wp_seq_k (fun K179 hK179 => ?_)
              refine r_any (by kernel_rfl) hS178 (fun w180 hS180 => ?_)
              clear hS178
              refine o_pure (i := 0) (fun _ _ => trivial) rfl rfl (by kernel_rfl) (goes0 rfl) (QOk.then (QOk.inBlock (QOk.then (QOk.then (QOk.inBlock (QOk.inBlock (QOk.then (QOk.then (QOk.inBlock (QOk.then QOk.body)))))))))) (fun w => q_moveI rfl) ?_
              refine o_pure (i := 1) (fun _ _ => trivial) rfl rfl (by kernel_rfl) (goes0 rfl) (QOk.then (QOk.inBlock (QOk.then (QOk.then (QOk.inBlock (QOk.inBlock (QOk.then (QOk.then (QOk.inBlock (QOk.then QOk.body)))))))))) (fun w => q_eql rfl rfl) ?_
              refine o_pure (i := 2) (fun _ _ => trivial) rfl rfl (by kernel_rfl) (goes0 rfl) (QOk.then (QOk.inBlock (QOk.then (QOk.then (QOk.inBlock (QOk.inBlock (QOk.then (QOk.then (QOk.inBlock (QOk.then QOk.body)))))))))) (fun w => q_moveI rfl) ?_
              refine o_pure (i := 3) (fun _ _ => trivial) rfl rfl (by kernel_rfl) (goes0 rfl) (QOk.then (QOk.inBlock (QOk.then (QOk.then (QOk.inBlock (QOk.inBlock (QOk.then (QOk.then (QOk.inBlock (QOk.then QOk.body)))))))))) (fun w => q_moveI rfl) ?_
              refine o_pure (i := 4) (fun _ _ => trivial) rfl rfl (by kernel_rfl) (goes0 rfl) (QOk.then (QOk.inBlock (QOk.then (QOk.then (QOk.inBlock (QOk.inBlock (QOk.then (QOk.then (QOk.inBlock (QOk.then QOk.body)))))))))) (fun w => q_geq rfl rfl) ?_
              refine o_pure (i := 5) (fun _ _ => trivial) rfl rfl (by kernel_rfl) (goes0 rfl) (QOk.then (QOk.inBlock (QOk.then (QOk.then (QOk.inBlock (QOk.inBlock (QOk.then (QOk.then (QOk.inBlock (QOk.then QOk.body)))))))))) (fun w => q_bool_neq rfl rfl (by kernel_rfl)) ?_
              refine o_pure (i := 6) (fun _ _ => trivial) rfl rfl (by kernel_rfl) (goes0 rfl) (QOk.then (QOk.inBlock (QOk.then (QOk.then (QOk.inBlock (QOk.inBlock (QOk.then (QOk.then (QOk.inBlock (QOk.then QOk.body)))))))))) (fun w => q_moveB rfl) ?_
              refine o_pure (i := 7) (fun _ _ => trivial) rfl rfl (by kernel_rfl) (goes1 rfl rfl (by rw [hre]; simp)) (QOk.then (QOk.inBlock (QOk.then (QOk.then (QOk.inBlock (QOk.inBlock (QOk.then (QOk.then (QOk.inBlock (QOk.then QOk.body)))))))))) (fun w => q_moveI rfl) ?_
              refine o_pure (i := 8) (fun _ _ => trivial) rfl rfl (by kernel_rfl) (goes1 rfl rfl (by rw [hre]; simp)) (QOk.then (QOk.inBlock (QOk.then (QOk.then (QOk.inBlock (QOk.inBlock (QOk.then (QOk.then (QOk.inBlock (QOk.then QOk.body)))))))))) (fun w => q_eql rfl rfl) ?_
              refine o_pure (i := 9) (fun _ _ => trivial) rfl rfl (by kernel_rfl) (goes1 rfl rfl (by rw [hre]; simp)) (QOk.then (QOk.inBlock (QOk.then (QOk.then (QOk.inBlock (QOk.inBlock (QOk.then (QOk.then (QOk.inBlock (QOk.then QOk.body)))))))))) (fun w => q_moveB rfl) ?_
              refine g_splitO (t := 157) rfl (fun hg182 => ?_) (fun hg182 => ?_)
              ·
                have hg182b := hg182
                try simp only [decide_eq_true_eq, decide_eq_false_iff_not, Bool.not_eq_true', Bool.not_eq_false', Bool.and_eq_true, Bool.or_eq_true, Int.not_lt, Int.not_le, ne_eq, Decidable.not_not] at hg182
                have hfk : fr ≤ k := by have hh := hre; rw [decide_eq_true hg182] at hh; have := of_decide_eq_true hh.symm; omega
                refine o_pure (i := 10) (fun _ _ => trivial) rfl rfl (by kernel_rfl) (goes1 rfl rfl hg182b) (QOk.then (QOk.inBlock (QOk.then (QOk.then (QOk.inBlock (QOk.inBlock (QOk.then (QOk.then (QOk.inBlock (QOk.then QOk.body)))))))))) (fun w => q_moveS rfl) ?_
                refine o_held (i := 11) [16, 17, 18, 19, 20, 21, 22, 23, 24, 25, 26, 27, 28, 29, 30, 31] (fun _ _ => trivial) rfl rfl (by kernel_rfl) (goes1 rfl rfl hg182b) (QOk.then (QOk.inBlock (QOk.then (QOk.then (QOk.inBlock (QOk.inBlock (QOk.then (QOk.then (QOk.inBlock (QOk.then QOk.body)))))))))) (q_convBS (l := (rdB (List.map Rc.abs rs) x174)) rfl (hS180.owG (i := 0) rfl) (by first | omega | (simp only [List.length_append, List.length_map, List.length_cons, List.length_nil, List.length_take, List.length_drop, List.length_set] <;> omega)) (by kernel_rfl) (by kernel_rfl)) ?_
                refine o_pure (i := 12) (fun j w => ⟨(fun _ _ => trivial) j w, fun _ h => h⟩) rfl rfl (by kernel_rfl) (goes1 rfl rfl hg182b) (QOk.then (QOk.inBlock (QOk.then (QOk.then (QOk.inBlock (QOk.inBlock (QOk.then (QOk.then (QOk.inBlock (QOk.then QOk.body)))))))))) (fun w => q_moveS rfl) ?_
                refine o_pure (i := 13) (fun j w => ⟨(fun _ _ => trivial) j w, fun _ h => h⟩) rfl rfl (by kernel_rfl) (goes1 rfl rfl hg182b) (QOk.then (QOk.inBlock (QOk.then (QOk.then (QOk.inBlock (QOk.inBlock (QOk.then (QOk.then (QOk.inBlock (QOk.then QOk.body)))))))))) (fun w => q_moveI rfl) ?_
                refine o_pure (i := 14) (fun j w => ⟨(fun _ _ => trivial) j w, fun _ h => h⟩) rfl rfl (by kernel_rfl) (goes1 rfl rfl hg182b) (QOk.then (QOk.inBlock (QOk.then (QOk.then (QOk.inBlock (QOk.inBlock (QOk.then (QOk.then (QOk.inBlock (QOk.then QOk.body)))))))))) (fun w => q_ixG (e := 9) (m := 1) (j := k) rfl rfl (by kernel_rfl) (by kernel_rfl) (by first | rfl | omega) (by omega) (hS180.owG (i := 5) rfl) (by rw [rows_len (c := sv) (m := 1) (fun _ => rfl)]; first | omega | (simp only [List.length_append, List.length_map, List.length_cons, List.length_nil, List.length_take, List.length_drop, List.length_set] <;> omega))) ?_
                obtain ⟨x183, hx183⟩ : ∃ x, (rr)[k]? = some x := ⟨_, List.getElem?_eq_getElem (by first | omega | (simp only [List.length_append, List.length_map, List.length_cons, List.length_nil, List.length_take, List.length_drop, List.length_set] <;> omega) | (simp <;> omega))⟩
                refine o_held (i := 15) [16, 17, 18, 19, 20, 21, 22, 23, 24, 25, 26, 27, 28, 29, 30, 31] (fun j w => ⟨(fun _ _ => trivial) j w, fun _ h => h⟩) rfl rfl (by kernel_rfl) (goes1 rfl rfl hg182b) (QOk.then (QOk.inBlock (QOk.then (QOk.then (QOk.inBlock (QOk.inBlock (QOk.then (QOk.then (QOk.inBlock (QOk.then QOk.body)))))))))) (q_load1 rfl (by kernel_rfl) (SlG.cell (hS180.owG (i := 5) rfl) (Gle.refl _) (row_at hx183 (c := sv) (m := 1) (fun _ => rfl) (j := 0) rfl))) ?_
                refine o_pure (i := 16) (fun j w => ⟨(fun j w => ⟨(fun _ _ => trivial) j w, fun _ h => h⟩) j w, fun _ h => h⟩) rfl rfl (by kernel_rfl) (goes1 rfl rfl hg182b) (QOk.then (QOk.inBlock (QOk.then (QOk.then (QOk.inBlock (QOk.inBlock (QOk.then (QOk.then (QOk.inBlock (QOk.then QOk.body)))))))))) (fun w => q_str_neq (l := (rdB (List.map Rc.abs rs) x174)) (m := x183) rfl rfl (rdB_bytes hI.1 _) (hN.bytes x183 (List.mem_of_getElem? hx183))) ?_
                have hrb := hN.readB hIw hx174 hfk hx183
                refine o_pure (i := 17) (fun j w => ⟨(fun j w => ⟨(fun _ _ => trivial) j w, fun _ h => h⟩) j w, fun _ h => h⟩) rfl rfl (by kernel_rfl) (goes1 rfl rfl hg182b) (QOk.then (QOk.inBlock (QOk.then (QOk.then (QOk.inBlock (QOk.inBlock (QOk.then (QOk.then (QOk.inBlock (QOk.then QOk.body)))))))))) (fun w => q_moveB rfl) ?_
                refine o_pure (i := 18) (fun j w => ⟨(fun j w => ⟨(fun _ _ => trivial) j w, fun _ h => h⟩) j w, fun _ h => h⟩) rfl rfl (by kernel_rfl) (goes1 rfl rfl (by rw [hrb]; simp)) (QOk.then (QOk.inBlock (QOk.then (QOk.then (QOk.inBlock (QOk.inBlock (QOk.then (QOk.then (QOk.inBlock (QOk.then QOk.body)))))))))) (fun w => q_moveS rfl) ?_
                refine o_pure (i := 19) (fun j w => ⟨(fun j w => ⟨(fun _ _ => trivial) j w, fun _ h => h⟩) j w, fun _ h => h⟩) rfl rfl (by kernel_rfl) (goes1 rfl rfl (by rw [hrb]; simp)) (QOk.then (QOk.inBlock (QOk.then (QOk.then (QOk.inBlock (QOk.inBlock (QOk.then (QOk.then (QOk.inBlock (QOk.then QOk.body)))))))))) (fun w => q_moveI rfl) ?_
                refine o_pure (i := 20) (fun j w => ⟨(fun j w => ⟨(fun _ _ => trivial) j w, fun _ h => h⟩) j w, fun _ h => h⟩) rfl rfl (by kernel_rfl) (goes1 rfl rfl (by rw [hrb]; simp)) (QOk.then (QOk.inBlock (QOk.then (QOk.then (QOk.inBlock (QOk.inBlock (QOk.then (QOk.then (QOk.inBlock (QOk.then QOk.body)))))))))) (fun w => q_moveI rfl) ?_
                refine o_pure (i := 21) (fun j w => ⟨(fun j w => ⟨(fun _ _ => trivial) j w, fun _ h => h⟩) j w, fun _ h => h⟩) rfl rfl (by kernel_rfl) (goes1 rfl rfl (by rw [hrb]; simp)) (QOk.then (QOk.inBlock (QOk.then (QOk.then (QOk.inBlock (QOk.inBlock (QOk.then (QOk.then (QOk.inBlock (QOk.then QOk.body)))))))))) (fun w => q_subx rfl rfl (by first | decide | omega) (by first | decide | omega)) ?_
                refine o_pure (i := 22) (fun j w => ⟨(fun j w => ⟨(fun _ _ => trivial) j w, fun _ h => h⟩) j w, fun _ h => h⟩) rfl rfl (by kernel_rfl) (goes1 rfl rfl (by rw [hrb]; simp)) (QOk.then (QOk.inBlock (QOk.then (QOk.then (QOk.inBlock (QOk.inBlock (QOk.then (QOk.then (QOk.inBlock (QOk.then QOk.body)))))))))) (fun w => q_ixG (e := 3) (m := 1) (j := (k - fr)) rfl rfl (by kernel_rfl) (by kernel_rfl) (by first | rfl | omega) (by omega) (hS180.owG (i := 6) rfl) (by rw [iv_len]; first | omega | (simp only [List.length_append, List.length_map, List.length_cons, List.length_nil, List.length_take, List.length_drop, List.length_set] <;> omega))) ?_
                obtain ⟨x185, hx185⟩ : ∃ x, ((nums rs))[(k - fr)]? = some x := ⟨_, List.getElem?_eq_getElem (by first | omega | (simp only [List.length_append, List.length_map, List.length_cons, List.length_nil, List.length_take, List.length_drop, List.length_set] <;> omega) | (simp <;> omega))⟩
                refine o_held (i := 23) [28, 29, 30, 31] (fun j w => ⟨(fun j w => ⟨(fun _ _ => trivial) j w, fun _ h => h⟩) j w, fun _ h => h⟩) rfl rfl (by kernel_rfl) (goes1 rfl rfl (by rw [hrb]; simp)) (QOk.then (QOk.inBlock (QOk.then (QOk.then (QOk.inBlock (QOk.inBlock (QOk.then (QOk.then (QOk.inBlock (QOk.then QOk.body)))))))))) (q_load1 rfl (by kernel_rfl) (SlG.cell (hS180.owG (i := 6) rfl) (Gle.refl _) (at1 (iv_at hx185)))) ?_
                refine o_pure (i := 24) (fun j w => ⟨(fun j w => ⟨(fun j w => ⟨(fun _ _ => trivial) j w, fun _ h => h⟩) j w, fun _ h => h⟩) j w, fun _ h => h⟩) rfl rfl (by kernel_rfl) (goes1 rfl rfl (by rw [hrb]; simp)) (QOk.then (QOk.inBlock (QOk.then (QOk.then (QOk.inBlock (QOk.inBlock (QOk.then (QOk.then (QOk.inBlock (QOk.then QOk.body)))))))))) (fun w => q_moveS rfl) ?_
                refine o_pure (i := 25) (fun j w => ⟨(fun j w => ⟨(fun j w => ⟨(fun _ _ => trivial) j w, fun _ h => h⟩) j w, fun _ h => h⟩) j w, fun _ h => h⟩) rfl rfl (by kernel_rfl) (goes1 rfl rfl (by rw [hrb]; simp)) (QOk.then (QOk.inBlock (QOk.then (QOk.then (QOk.inBlock (QOk.inBlock (QOk.then (QOk.then (QOk.inBlock (QOk.then QOk.body)))))))))) (fun w => q_moveI rfl) ?_
                refine o_pure (i := 26) (fun j w => ⟨(fun j w => ⟨(fun j w => ⟨(fun _ _ => trivial) j w, fun _ h => h⟩) j w, fun _ h => h⟩) j w, fun _ h => h⟩) rfl rfl (by kernel_rfl) (goes1 rfl rfl (by rw [hrb]; simp)) (QOk.then (QOk.inBlock (QOk.then (QOk.then (QOk.inBlock (QOk.inBlock (QOk.then (QOk.then (QOk.inBlock (QOk.then QOk.body)))))))))) (fun w => q_ixG (e := 3) (m := 1) (j := k) rfl rfl (by kernel_rfl) (by kernel_rfl) (by first | rfl | omega) (by omega) (hS180.owG (i := 4) rfl) (by rw [iv_len]; first | omega | (simp only [List.length_append, List.length_map, List.length_cons, List.length_nil, List.length_take, List.length_drop, List.length_set] <;> omega))) ?_
                refine o_held (i := 27) [28, 29, 30, 31] (fun j w => ⟨(fun j w => ⟨(fun j w => ⟨(fun _ _ => trivial) j w, fun _ h => h⟩) j w, fun _ h => h⟩) j w, fun _ h => h⟩) rfl rfl (by kernel_rfl) (goes1 rfl rfl (by rw [hrb]; simp)) (QOk.then (QOk.inBlock (QOk.then (QOk.then (QOk.inBlock (QOk.inBlock (QOk.then (QOk.then (QOk.inBlock (QOk.then QOk.body)))))))))) (q_load1 rfl (by kernel_rfl) (SlG.cell (hS180.owG (i := 4) rfl) (Gle.refl _) (at1 (iv_at hx174)))) ?_
                have hnx := hN.num hx174 hfk hx185
                refine o_pure (i := 28) (fun j w => ⟨(fun j w => ⟨(fun j w => ⟨(fun j w => ⟨(fun _ _ => trivial) j w, fun _ h => h⟩) j w, fun _ h => h⟩) j w, fun _ h => h⟩) j w, fun _ h => h⟩) rfl rfl (by kernel_rfl) (goes1 rfl rfl (by rw [hrb]; simp)) (QOk.then (QOk.inBlock (QOk.then (QOk.then (QOk.inBlock (QOk.inBlock (QOk.then (QOk.then (QOk.inBlock (QOk.then QOk.body)))))))))) (fun w => q_neq rfl rfl) ?_
                refine o_pure (i := 29) (fun j w => ⟨(fun j w => ⟨(fun j w => ⟨(fun j w => ⟨(fun _ _ => trivial) j w, fun _ h => h⟩) j w, fun _ h => h⟩) j w, fun _ h => h⟩) j w, fun _ h => h⟩) rfl rfl (by kernel_rfl) (goes1 rfl rfl hg182b) (QOk.then (QOk.inBlock (QOk.then (QOk.then (QOk.inBlock (QOk.inBlock (QOk.then (QOk.then (QOk.inBlock (QOk.then QOk.body)))))))))) (fun w => q_pickF rfl (by rw [hrb]; simp) rfl) ?_
                refine o_pure (i := 30) (fun j w => ⟨(fun j w => ⟨(fun j w => ⟨(fun j w => ⟨(fun _ _ => trivial) j w, fun _ h => h⟩) j w, fun _ h => h⟩) j w, fun _ h => h⟩) j w, fun _ h => h⟩) rfl rfl (by kernel_rfl) (goes1 rfl rfl (by rw [hre]; simp)) (QOk.then (QOk.inBlock (QOk.then (QOk.then (QOk.inBlock (QOk.inBlock (QOk.then (QOk.then (QOk.inBlock (QOk.then QOk.body)))))))))) (fun w => q_pickT rfl hg182b rfl) ?_
                refine o_pure (i := 31) (fun j w => ⟨(fun j w => ⟨(fun j w => ⟨(fun j w => ⟨(fun _ _ => trivial) j w, fun _ h => h⟩) j w, fun _ h => h⟩) j w, fun _ h => h⟩) j w, fun _ h => h⟩) rfl rfl (by kernel_rfl) (goes0 rfl) (QOk.then (QOk.inBlock (QOk.then (QOk.then (QOk.inBlock (QOk.inBlock (QOk.then (QOk.then (QOk.inBlock (QOk.then QOk.body)))))))))) (fun w => q_pickF rfl (by rw [hre]; simp) rfl) ?_
                refine o_done (by kernel_rfl) ?_
                refine hK179 _ _ ?_
                refine c_condF rfl (by first | exact decide_eq_false (by rw [hnx]; simp) | rfl) ?_
                refine wp_skip ?_
                refine hK172 _ _ ?_
                refine wp_region_lit ?_
                refine l_q rfl rfl (q_moveI rfl) ?_
                refine l_q rfl rfl (q_addx rfl rfl (by first | decide | omega) (by first | decide | omega)) ?_
                refine l_q rfl rfl (q_assignI rfl) ?_
                refine l_nil ?_
                have hS187 := hS180.fr6; clear hS180
                have hS188 := hS187.fr6; clear hS187
                have hS189 := hS188.fr6; clear hS188
                have hS190 := hS189.fr5; clear hS189
                have hS191 := hS190.fr6; clear hS190
                have hS192 := hS191.fr6; clear hS191
                have hS193 : St _ _ [wk k7 k4 ad cap rs, dk k4 da dc l b s, .fz g, .ow 3 1 na nn.length nc (iv nn), .ow 9 1 ra rr.length rc_ (List.flatMap sv rr), .ow 3 1 ad157 rs.length cp157 (iv (nums rs))] _ := hS192.only 6; clear hS192
                refine hK168 _ _ (came ((k + 1)) (by repeat' (first | exact Agree.refl _ _ | refine Agree.up ?_ rfl | refine Agree.hav2 ?_ rfl | refine Agree.ups2 ?_ rfl)) (by repeat' (first | exact trivial | refine ⟨by first | rfl | exact int_succ _ | assumption, ?_⟩)) ?_)
                exact ⟨⟨hS193, (by show k + 1 ≤ nn.length; omega)⟩, by (show nn.length - (k + 1) < nn.length - k); omega⟩
              ·
                have hg182b := hg182
                try simp only [decide_eq_true_eq, decide_eq_false_iff_not, Bool.not_eq_true', Bool.not_eq_false', Bool.and_eq_true, Bool.or_eq_true, Int.not_lt, Int.not_le, ne_eq, Decidable.not_not] at hg182
                refine o_off (i := 10) (fun _ _ => trivial) rfl rfl (by kernel_rfl) rfl rfl hg182b (QOk.then (QOk.inBlock (QOk.then (QOk.then (QOk.inBlock (QOk.inBlock (QOk.then (QOk.then (QOk.inBlock (QOk.then QOk.body)))))))))) ?_
                refine o_off (i := 11) (fun _ _ => trivial) rfl rfl (by kernel_rfl) rfl rfl hg182b (QOk.then (QOk.inBlock (QOk.then (QOk.then (QOk.inBlock (QOk.inBlock (QOk.then (QOk.then (QOk.inBlock (QOk.then QOk.body)))))))))) ?_
                refine o_off (i := 12) (fun _ _ => trivial) rfl rfl (by kernel_rfl) rfl rfl hg182b (QOk.then (QOk.inBlock (QOk.then (QOk.then (QOk.inBlock (QOk.inBlock (QOk.then (QOk.then (QOk.inBlock (QOk.then QOk.body)))))))))) ?_
                refine o_off (i := 13) (fun _ _ => trivial) rfl rfl (by kernel_rfl) rfl rfl hg182b (QOk.then (QOk.inBlock (QOk.then (QOk.then (QOk.inBlock (QOk.inBlock (QOk.then (QOk.then (QOk.inBlock (QOk.then QOk.body)))))))))) ?_
                refine o_off (i := 14) (fun _ _ => trivial) rfl rfl (by kernel_rfl) rfl rfl hg182b (QOk.then (QOk.inBlock (QOk.then (QOk.then (QOk.inBlock (QOk.inBlock (QOk.then (QOk.then (QOk.inBlock (QOk.then QOk.body)))))))))) ?_
                refine o_off (i := 15) (fun _ _ => trivial) rfl rfl (by kernel_rfl) rfl rfl hg182b (QOk.then (QOk.inBlock (QOk.then (QOk.then (QOk.inBlock (QOk.inBlock (QOk.then (QOk.then (QOk.inBlock (QOk.then QOk.body)))))))))) ?_
                refine o_off (i := 16) (fun _ _ => trivial) rfl rfl (by kernel_rfl) rfl rfl hg182b (QOk.then (QOk.inBlock (QOk.then (QOk.then (QOk.inBlock (QOk.inBlock (QOk.then (QOk.then (QOk.inBlock (QOk.then QOk.body)))))))))) ?_
                refine o_off (i := 17) (fun _ _ => trivial) rfl rfl (by kernel_rfl) rfl rfl hg182b (QOk.then (QOk.inBlock (QOk.then (QOk.then (QOk.inBlock (QOk.inBlock (QOk.then (QOk.then (QOk.inBlock (QOk.then QOk.body)))))))))) ?_
                refine o_offN (i := 18) (fun _ _ => trivial) rfl rfl (by kernel_rfl) rfl rfl (QOk.then (QOk.inBlock (QOk.then (QOk.then (QOk.inBlock (QOk.inBlock (QOk.then (QOk.then (QOk.inBlock (QOk.then QOk.body)))))))))) ?_
                refine o_offN (i := 19) (fun _ _ => trivial) rfl rfl (by kernel_rfl) rfl rfl (QOk.then (QOk.inBlock (QOk.then (QOk.then (QOk.inBlock (QOk.inBlock (QOk.then (QOk.then (QOk.inBlock (QOk.then QOk.body)))))))))) ?_
                refine o_offN (i := 20) (fun _ _ => trivial) rfl rfl (by kernel_rfl) rfl rfl (QOk.then (QOk.inBlock (QOk.then (QOk.then (QOk.inBlock (QOk.inBlock (QOk.then (QOk.then (QOk.inBlock (QOk.then QOk.body)))))))))) ?_
                refine o_offN (i := 21) (fun _ _ => trivial) rfl rfl (by kernel_rfl) rfl rfl (QOk.then (QOk.inBlock (QOk.then (QOk.then (QOk.inBlock (QOk.inBlock (QOk.then (QOk.then (QOk.inBlock (QOk.then QOk.body)))))))))) ?_
                refine o_offN (i := 22) (fun _ _ => trivial) rfl rfl (by kernel_rfl) rfl rfl (QOk.then (QOk.inBlock (QOk.then (QOk.then (QOk.inBlock (QOk.inBlock (QOk.then (QOk.then (QOk.inBlock (QOk.then QOk.body)))))))))) ?_
                refine o_offN (i := 23) (fun _ _ => trivial) rfl rfl (by kernel_rfl) rfl rfl (QOk.then (QOk.inBlock (QOk.then (QOk.then (QOk.inBlock (QOk.inBlock (QOk.then (QOk.then (QOk.inBlock (QOk.then QOk.body)))))))))) ?_
                refine o_offN (i := 24) (fun _ _ => trivial) rfl rfl (by kernel_rfl) rfl rfl (QOk.then (QOk.inBlock (QOk.then (QOk.then (QOk.inBlock (QOk.inBlock (QOk.then (QOk.then (QOk.inBlock (QOk.then QOk.body)))))))))) ?_
                refine o_offN (i := 25) (fun _ _ => trivial) rfl rfl (by kernel_rfl) rfl rfl (QOk.then (QOk.inBlock (QOk.then (QOk.then (QOk.inBlock (QOk.inBlock (QOk.then (QOk.then (QOk.inBlock (QOk.then QOk.body)))))))))) ?_
                refine o_offN (i := 26) (fun _ _ => trivial) rfl rfl (by kernel_rfl) rfl rfl (QOk.then (QOk.inBlock (QOk.then (QOk.then (QOk.inBlock (QOk.inBlock (QOk.then (QOk.then (QOk.inBlock (QOk.then QOk.body)))))))))) ?_
                refine o_offN (i := 27) (fun _ _ => trivial) rfl rfl (by kernel_rfl) rfl rfl (QOk.then (QOk.inBlock (QOk.then (QOk.then (QOk.inBlock (QOk.inBlock (QOk.then (QOk.then (QOk.inBlock (QOk.then QOk.body)))))))))) ?_
                refine o_offN (i := 28) (fun _ _ => trivial) rfl rfl (by kernel_rfl) rfl rfl (QOk.then (QOk.inBlock (QOk.then (QOk.then (QOk.inBlock (QOk.inBlock (QOk.then (QOk.then (QOk.inBlock (QOk.then QOk.body)))))))))) ?_
                refine o_off (i := 29) (fun _ _ => trivial) rfl rfl (by kernel_rfl) rfl rfl hg182b (QOk.then (QOk.inBlock (QOk.then (QOk.then (QOk.inBlock (QOk.inBlock (QOk.then (QOk.then (QOk.inBlock (QOk.then QOk.body)))))))))) ?_
                refine o_pure (i := 30) (fun _ _ => trivial) rfl rfl (by kernel_rfl) (goes1 rfl rfl (by rw [hre]; simp)) (QOk.then (QOk.inBlock (QOk.then (QOk.then (QOk.inBlock (QOk.inBlock (QOk.then (QOk.then (QOk.inBlock (QOk.then QOk.body)))))))))) (fun w => q_pickF rfl hg182b rfl) ?_
                refine o_pure (i := 31) (fun _ _ => trivial) rfl rfl (by kernel_rfl) (goes0 rfl) (QOk.then (QOk.inBlock (QOk.then (QOk.then (QOk.inBlock (QOk.inBlock (QOk.then (QOk.then (QOk.inBlock (QOk.then QOk.body)))))))))) (fun w => q_pickF rfl (by rw [hre]; simp) rfl) ?_
                refine o_done (by kernel_rfl) ?_
                refine hK179 _ _ ?_
                refine c_condF rfl (by first | exact decide_eq_false (by rw [hnx]; simp) | rfl) ?_
                refine wp_skip ?_
                refine hK172 _ _ ?_
                refine wp_region_lit ?_
                refine l_q rfl rfl (q_moveI rfl) ?_
                refine l_q rfl rfl (q_addx rfl rfl (by first | decide | omega) (by first | decide | omega)) ?_
                refine l_q rfl rfl (q_assignI rfl) ?_
                refine l_nil ?_
                have hS195 := hS180.fr6; clear hS180
                have hS196 := hS195.fr6; clear hS195
                have hS197 := hS196.fr6; clear hS196
                have hS198 := hS197.fr5; clear hS197
                have hS199 := hS198.fr6; clear hS198
                have hS200 := hS199.fr6; clear hS199
                have hS201 : St _ _ [wk k7 k4 ad cap rs, dk k4 da dc l b s, .fz g, .ow 3 1 na nn.length nc (iv nn), .ow 9 1 ra rr.length rc_ (List.flatMap sv rr), .ow 3 1 ad157 rs.length cp157 (iv (nums rs))] _ := hS200.only 6; clear hS200
                refine hK168 _ _ (came ((k + 1)) (by repeat' (first | exact Agree.refl _ _ | refine Agree.up ?_ rfl | refine Agree.hav2 ?_ rfl | refine Agree.ups2 ?_ rfl)) (by repeat' (first | exact trivial | refine ⟨by first | rfl | exact int_succ _ | assumption, ?_⟩)) ?_)
                exact ⟨⟨hS201, (by show k + 1 ≤ nn.length; omega)⟩, by (show nn.length - (k + 1) < nn.length - k); omega⟩
            ·
              have hc171b := hc171
              try simp only [decide_eq_true_eq, decide_eq_false_iff_not, Bool.not_eq_true', Bool.not_eq_false', Bool.and_eq_true, Bool.or_eq_true, Int.not_lt, Int.not_le, ne_eq, Decidable.not_not] at hc171
              refine wp_exit ?_
              refine hK31 _ _ ?_
              refine wp_region_lit ?_
              refine l_q rfl rfl (q_moveI rfl) ?_
              refine l_q rfl rfl (q_addx rfl rfl (by first | decide | omega) (by first | decide | omega)) ?_
              refine l_q rfl rfl (q_assignI rfl) ?_
              refine l_nil ?_
              have hS202 : St _ _ [wk k7 k4 ad cap rs, dk k4 da dc l b s, .fz g, .ow 3 1 na nn.length nc (iv nn), .ow 9 1 ra rr.length rc_ (List.flatMap sv rr)] _ := hS168.only 5; clear hS168
              refine hK26 _ _ (came (⟨da, ad, dc, cap, rs, l, b, s, g, nn, rr, fr, na, nc, ra, rc_, (i + 1)⟩) (by repeat' (first | exact Agree.refl _ _ | refine Agree.up ?_ rfl | refine Agree.hav2 ?_ rfl | refine Agree.ups2 ?_ rfl)) (by repeat' (first | exact trivial | refine ⟨by first | rfl | exact int_succ _ | assumption, ?_⟩)) ?_)
              exact ⟨⟨hS202, (by show i + 1 ≤ 40; omega), hI.more (by show _ ≤ 400 * (i + 1); omega), hN, (by show nn.length ≤ i + 1; omega)⟩, by (show 40 - (i + 1) < 40 - i); omega⟩
      ·
        have hc30b := hc30
        try simp only [decide_eq_true_eq, decide_eq_false_iff_not, Bool.not_eq_true', Bool.not_eq_false', Bool.and_eq_true, Bool.or_eq_true, Int.not_lt, Int.not_le, ne_eq, Decidable.not_not] at hc30
        refine wp_exit ?_
        refine hK17 _ _ ?_
        refine wp_seq_k (fun K203 hK203 => ?_)
        refine wp_region_lit ?_
        refine l_q rfl rfl (q_assignB rfl) ?_
        refine l_nil ?_
        refine hK203 _ _ ?_
        refine wp_ret ?_
        refine c_ret1 rfl rfl ?_
        exact ⟨_, rfl, rfl, hS26.drop⟩
    ·
      have hg29b := hg29
      try simp only [decide_eq_true_eq, decide_eq_false_iff_not, Bool.not_eq_true', Bool.not_eq_false', Bool.and_eq_true, Bool.or_eq_true, Int.not_lt, Int.not_le, ne_eq, Decidable.not_not] at hg29
      refine l_off rfl rfl rfl hg29b ?_
      refine l_off rfl rfl rfl hg29b ?_
      refine l_q rfl rfl (q_pickF rfl hg29b rfl) ?_
      refine l_nil ?_
      refine hK28 _ _ ?_
      refine c_condF rfl rfl ?_
      refine wp_exit ?_
      refine hK17 _ _ ?_
      refine wp_seq_k (fun K205 hK205 => ?_)
      refine wp_region_lit ?_
      refine l_q rfl rfl (q_assignB rfl) ?_
      refine l_nil ?_
      refine hK205 _ _ ?_
      refine wp_ret ?_
      refine c_ret1 rfl rfl ?_
      exact ⟨_, rfl, rfl, hS26.drop⟩

end Go.Proofs.Ytmbbkliekgiolaa
