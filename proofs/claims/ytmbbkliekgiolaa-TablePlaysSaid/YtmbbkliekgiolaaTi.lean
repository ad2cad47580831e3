/- law08: its live question; no table. -/
import Derived.Test.YtmbbkliekgiolaaTh
set_option linter.unusedVariables false
set_option linter.unusedSimpArgs false
namespace Go.Proofs.Ytmbbkliekgiolaa
open Go.RowKit
theorem ab_len (ps : List Pg) : (ab ps).length = (flat ps).length := List.length_map _
theorem putA_len (L : List KV) (k r : List Nat) : (putA L k r).length ≤ L.length + 1 := by
  unfold putA
  rw [List.length_append, List.length_cons]
  have h1 : ∀ L : List KV, (L.filter fun a => bl a.1 k).length + (L.filter fun a => bl k a.1).length ≤ L.length := by
    intro L
    induction L with
    | nil => simp
    | cons a L ih =>
      rw [List.filter_cons, List.filter_cons, List.length_cons]
      cases h1 : bl a.1 k with
      | true => rw [bl_asym h1]; simp; omega
      | false => cases h2 : bl k a.1 <;> simp <;> omega
  exact Nat.succ_le_succ (h1 L)
theorem flat_put {ps ps' : List Pg} {k r : List Nat} (h : ab ps' = putA (ab ps) k r) : (flat ps').length ≤ (flat ps).length + 1 := by
  rw [← ab_len, ← ab_len, h]; exact putA_len _ _ _
theorem flat_drop {ps ps' : List Pg} {k : List Nat} (h : ab ps' = dropA (ab ps) k) : (flat ps').length ≤ (flat ps).length := by
  rw [← ab_len, ← ab_len, h]; exact List.length_filter_le _ _
theorem TOk.nil {g : Gh} : TOk g [] := ⟨⟨fun p hp => (by cases hp), List.Pairwise.nil⟩, fun a ha => (by cases ha)⟩
theorem KB.eok {g : Gh} {es : List En} (h : ∀ a ∈ es, EOk g a) : KB (es.map En.kv) := fun c hc => by
  obtain ⟨a, ha, rfl⟩ := List.mem_map.1 hc
  have := h a ha
  exact ⟨this.1.2.1, this.1.2.2.2⟩
def Fit (c : KV) : Prop := Bytes c.1 ∧ Bytes c.2 ∧ c.1.length ≤ 1000000 ∧ c.2.length ≤ 1000000
theorem TOk.fit {g : Gh} {ps : List Pg} (hT : TOk g ps) {c : KV} (h : c ∈ ab ps) : Fit c := by
  obtain ⟨p, hp, a, ha, rfl⟩ := mem_ab h
  have := hT.ent a (List.mem_flatMap.2 ⟨p, hp, ha⟩)
  exact ⟨this.1.2.1, this.1.2.2.2, this.2.1, this.2.2⟩
theorem range_fit {g : Gh} {ps : List Pg} {es : List En} {fr to : List Nat} {n : Nat} (hT : TOk g ps) (h : es.map En.kv = rangeB (ab ps) fr to n) : ∀ a ∈ es, Fit a.kv := fun a ha => by
  have h1 : a.kv ∈ rangeB (ab ps) fr to n := by rw [← h]; exact List.mem_map.2 ⟨a, ha, rfl⟩
  exact hT.fit (List.mem_filter.1 (List.mem_of_mem_take h1)).1
theorem range_len {ps : List Pg} {es : List En} {fr to : List Nat} {n : Nat} (h : es.map En.kv = rangeB (ab ps) fr to n) : es.length ≤ (flat ps).length := by
  have h1 := congrArg List.length h
  rw [List.length_map] at h1
  rw [h1, ← ab_len]
  unfold rangeB
  rw [List.length_take]
  exact Nat.le_trans (Nat.min_le_right _ _) (List.length_filter_le _ _)
theorem LastR.fit {g : Gh} {ps : List Pg} {to : List Nat} {a : En} {is : Bool} (h : LastR (lastB (ab ps) to) a is) (hT : TOk g ps) : Bytes a.kb ∧ Bytes a.rb ∧ a.kb.length ≤ 1000000 ∧ a.rb.length ≤ 1000000 := by
  unfold LastR at h
  cases hl : lastB (ab ps) to with
  | none => rw [hl] at h; obtain ⟨_, rfl⟩ := h; exact ⟨Bytes.nil, Bytes.nil, Nat.zero_le _, Nat.zero_le _⟩
  | some c =>
    rw [hl] at h
    obtain ⟨_, h1, h2⟩ := h
    have hm : c ∈ ab ps := by
      unfold lastB at hl
      split at hl
      · exact List.mem_of_getLast? hl
      · exact (List.mem_filter.1 (List.mem_of_getLast? hl)).1
    rw [h1, h2]
    exact hT.fit hm
section
variable {w0 w : World} {D : Nat → Prop} {Γ : List Ch}
theorem St.epkFz : ∀ {es : List En} {g : Gh} {Γ : List Ch}, St w0 D (.fz g :: (epk es ++ Γ)) w → (∀ a ∈ es, Fit a.kv) → ∃ g', Gle g g' ∧ (∀ a ∈ es, EOk g' a) ∧ St w0 D (.fz g' :: Γ) w
  | [], g, Γ, h, _ => ⟨g, Gle.refl g, fun a ha => (by cases ha), h⟩
  | a :: es, g, Γ, h, hf => by
    have h1 : St w0 D (.fz g :: .ow 5 1 a.ka a.kb.length a.kc (bv a.kb) :: .ow 5 1 a.ra a.rb.length a.rc (bv a.rb) :: (epk es ++ Γ)) w := h
    obtain ⟨g1, hl1, hs1, h2⟩ := (h1.fr1).freezeOw
    obtain ⟨g2, hl2, hs2, h3⟩ := (h2.fr1).freezeOw
    obtain ⟨g3, hl3, hs3, h4⟩ := St.epkFz h3 (fun x hx => hf x (.tail _ hx))
    have hfa := hf a (.head _)
    refine ⟨g3, hl1.trans (hl2.trans hl3), fun x hx => ?_, h4⟩
    cases hx with
    | head => exact ⟨⟨hs1.mono (hl2.trans hl3), hfa.1, hs2.mono hl3, hfa.2.1⟩, hfa.2.2.1, hfa.2.2.2⟩
    | tail _ hx => exact hs3 x hx
theorem St.rngFz {es : List En} {oad : Option Addr} {m ocap : Nat} (h : St w0 D (.ow 41 2 oad m ocap (List.flatMap en es) :: .pk (epk es) :: Γ) w) (hf : ∀ a ∈ es, Fit a.kv) : ∃ g', SlG g' oad (List.flatMap en es) ∧ (∀ a ∈ es, EOk g' a) ∧ St w0 D (.fz g' :: Γ) w := by
  obtain ⟨g1, hl1, hs1, h2⟩ := (h.fz0.fr1).freezeOw
  have h3 : St w0 D (.fz g1 :: (epk es ++ Γ)) w := by
    have h4 : St w0 D (epk es ++ (.fz g1 :: Γ)) w := (h2.fr1).unpk
    exact h4.perm (List.perm_middle)
  obtain ⟨g2, hl2, hs2, h5⟩ := St.epkFz h3 hf
  exact ⟨g2, hs1.mono hl2, hs2, h5⟩
end
theorem kv_at {es : List En} {L : List KV} {i : Nat} {x : En} {c : KV} (h : es.map En.kv = L) (hx : es[i]? = some x) (hc : L[i]? = some c) : x.kb = c.1 ∧ x.rb = c.2 := by
  rw [← h, List.getElem?_map, hx] at hc
  injection hc with hc
  subst hc; exact ⟨rfl, rfl⟩
attribute [local irreducible] Oper.wp Sem.run Code.wp wpList wpAnyO callFunc execOp Calls
attribute [local irreducible] cmpL putA getA dropA lastB ent inB rangeB

set_option maxHeartbeats 1000000 in
set_option maxRecDepth 100000 in
theorem alive8_ok (w : World) : Calls Try.prog 14 #[] w (PostR w fun v => v = .bool true) := by
  have hS := St.start w
  refine c_enter Try.func14 rfl rfl rfl ?_
  refine wp_seq_k (fun K1 hK1 => ?_)
  refine wp_region_lit ?_
  refine l_q rfl rfl (q_assignB rfl) ?_
  refine l_nil ?_
  refine hK1 _ _ ?_
  refine wp_seq_k (fun K2 hK2 => ?_)
  refine wp_region_lit ?_
  refine l_e rfl (fun K hK => ?_)
  have hS4 := hS.fz0; clear hS
  refine e_call (by kernel_rfl) (tnew_ok _) rfl (after_N hS4 (fun v3 G3 w3 hv3 hS3 => ?_))
  clear hS4
  obtain ⟨k3, rfl, rfl⟩ := hv3
  have hS5 : St _ _ [tb k3 none 0 ([] : List Pg), .fz (fun _ => none)] _ := hS3; clear hS3
  have hT3 : TOk (fun _ => none) [] := TOk.nil
  have hfl3 : (flat ([] : List Pg)).length ≤ 0 := Nat.le_refl _
  refine hK _ _ ?_; clear hK K
  refine l_q rfl rfl (q_assignP rfl) ?_
  refine l_nil ?_
  refine hK2 _ _ ?_
  refine wp_seq_k (fun K6 hK6 => ?_)
  refine wp_seq_k (fun K7 hK7 => ?_)
  refine wp_region_lit ?_
  refine l_q rfl rfl (q_moveP rfl) ?_
  refine l_q rfl rfl (q_peq rfl (by kernel_rfl)) ?_
  refine l_nil ?_
  refine hK7 _ _ ?_
  refine c_condF rfl rfl ?_
  refine wp_skip ?_
  refine hK6 _ _ ?_
  refine wp_seq_k (fun K9 hK9 => ?_)
  refine wp_region_lit ?_
  refine l_q rfl rfl (q_moveP rfl) ?_
  refine l_e rfl (fun K hK => ?_)
  refine e_buildSlice1 (e := 5) (zv := .int .u8 0) (xs := [_]) hS5 (by kernel_rfl) (by kernel_rfl) (by kernel_rfl) rfl rfl rfl rfl (allone (by repeat' (first | exact trivial | refine ⟨by first | rfl | assumption, ?_⟩))) rfl (fun b10 w10 (hS10 : St _ _ [.blk b10 (.cells #[.int .u8 (98 : Int)] 5), tb k3 none 0 ([] : List Pg), .fz (fun _ => none)] _) => ?_)
  clear hS5
  have hB10 : Bytes [98] := by intro q hq; simp only [List.mem_cons, List.not_mem_nil, or_false] at hq; omega
  have hS10o : St _ _ [.ow 5 1 (some ⟨b10, 0, none⟩) 1 1 (bv [98]), tb k3 none 0 ([] : List Pg), .fz (fun _ => none)] _ := hS10.blkOw' (i := 0) (m := 1) (size := 1) (xs := bv [98]) rfl rfl rfl (by decide); clear hS10
  refine hK _ _ ?_; clear hK K
  refine l_e rfl (fun K hK => ?_)
  refine e_convSS (i := 0) hS10o rfl rfl (by kernel_rfl) (by omega) (fun g11 w11 hsb11 (hS11 : St _ _ [.fz g11, tb k3 none 0 ([] : List Pg), .fz (fun _ => none)] _) => ?_)
  clear hS10o
  refine hK _ _ ?_; clear hK K
  refine l_e rfl (fun K hK => ?_)
  refine e_buildSlice1 (e := 5) (zv := .int .u8 0) (xs := [_]) hS11 (by kernel_rfl) (by kernel_rfl) (by kernel_rfl) rfl rfl rfl rfl (allone (by repeat' (first | exact trivial | refine ⟨by first | rfl | assumption, ?_⟩))) rfl (fun b12 w12 (hS12 : St _ _ [.blk b12 (.cells #[.int .u8 (50 : Int)] 5), .fz g11, tb k3 none 0 ([] : List Pg), .fz (fun _ => none)] _) => ?_)
  clear hS11
  have hB12 : Bytes [50] := by intro q hq; simp only [List.mem_cons, List.not_mem_nil, or_false] at hq; omega
  have hS12o : St _ _ [.ow 5 1 (some ⟨b12, 0, none⟩) 1 1 (bv [50]), .fz g11, tb k3 none 0 ([] : List Pg), .fz (fun _ => none)] _ := hS12.blkOw' (i := 0) (m := 1) (size := 1) (xs := bv [50]) rfl rfl rfl (by decide); clear hS12
  refine hK _ _ ?_; clear hK K
  refine l_e rfl (fun K hK => ?_)
  refine e_convSS (i := 0) hS12o rfl rfl (by kernel_rfl) (by omega) (fun g13 w13 hsb13 (hS13 : St _ _ [.fz g13, .fz g11, tb k3 none 0 ([] : List Pg), .fz (fun _ => none)] _) => ?_)
  clear hS12o
  refine hK _ _ ?_; clear hK K
  refine l_e rfl (fun K hK => ?_)
  have hS15 := hS13.fr3; clear hS13
  have hS16 := hS15.fr3; clear hS15
  refine e_call (by kernel_rfl) (put_ok k3 _ _ ([] : List Pg) _ hT3 (by first | omega | (simp only [List.length_append, List.length_map, List.length_cons, List.length_nil, List.length_take, List.length_drop, List.length_set] <;> omega)) [98] [50] hB10 hB12 (by first | omega | (simp only [List.length_append, List.length_map, List.length_cons, List.length_nil, List.length_take, List.length_drop, List.length_set] <;> omega)) (by first | omega | (simp only [List.length_append, List.length_map, List.length_cons, List.length_nil, List.length_take, List.length_drop, List.length_set] <;> omega)) 1 1 (by first | omega | (simp only [List.length_append, List.length_map, List.length_cons, List.length_nil, List.length_take, List.length_drop, List.length_set] <;> omega)) (by first | omega | (simp only [List.length_append, List.length_map, List.length_cons, List.length_nil, List.length_take, List.length_drop, List.length_set] <;> omega)) _ _ _ _ _ _ hsb11 hsb13 _ (St.rogF (Γ1 := [_, _]) (i := 1) hS16 rfl) (St.rogF (Γ1 := [_, _]) (i := 0) hS16 rfl) (St.begin (Γ := [_, _]) hS16)) rfl (after_M (Γ1 := [_, _]) hS16 (fun v14 G14 w14 hv14 hS14 => ?_))
  clear hS16
  obtain ⟨ad14, cp14, ps14, g14, oa14, on14, oc14, rfl, rfl, hle14, hT14, hab14, hold14⟩ := hv14
  have hS17 : St _ _ [tb k3 ad14 cp14 ps14, .fz g14, .fz g13, .fz g11] _ := hS14; clear hS14
  have hfl14 := flat_put hab14
  have hon14 := hold14.2.2.2
  have hoe14 := hold14.1
  refine hK _ _ ?_; clear hK K
  refine l_nil ?_
  refine hK9 _ _ ?_
  refine wp_seq_k (fun K18 hK18 => ?_)
  refine wp_region_lit ?_
  refine l_q rfl rfl (q_moveP rfl) ?_
  refine l_e rfl (fun K hK => ?_)
  refine e_buildSlice1 (e := 5) (zv := .int .u8 0) (xs := [_]) hS17 (by kernel_rfl) (by kernel_rfl) (by kernel_rfl) rfl rfl rfl rfl (allone (by repeat' (first | exact trivial | refine ⟨by first | rfl | assumption, ?_⟩))) rfl (fun b19 w19 (hS19 : St _ _ [.blk b19 (.cells #[.int .u8 (97 : Int)] 5), tb k3 ad14 cp14 ps14, .fz g14, .fz g13, .fz g11] _) => ?_)
  clear hS17
  have hB19 : Bytes [97] := by intro q hq; simp only [List.mem_cons, List.not_mem_nil, or_false] at hq; omega
  have hS19o : St _ _ [.ow 5 1 (some ⟨b19, 0, none⟩) 1 1 (bv [97]), tb k3 ad14 cp14 ps14, .fz g14, .fz g13, .fz g11] _ := hS19.blkOw' (i := 0) (m := 1) (size := 1) (xs := bv [97]) rfl rfl rfl (by decide); clear hS19
  refine hK _ _ ?_; clear hK K
  refine l_e rfl (fun K hK => ?_)
  refine e_convSS (i := 0) hS19o rfl rfl (by kernel_rfl) (by omega) (fun g20 w20 hsb20 (hS20 : St _ _ [.fz g20, tb k3 ad14 cp14 ps14, .fz g14, .fz g13, .fz g11] _) => ?_)
  clear hS19o
  refine hK _ _ ?_; clear hK K
  refine l_e rfl (fun K hK => ?_)
  refine e_buildSlice1 (e := 5) (zv := .int .u8 0) (xs := [_]) hS20 (by kernel_rfl) (by kernel_rfl) (by kernel_rfl) rfl rfl rfl rfl (allone (by repeat' (first | exact trivial | refine ⟨by first | rfl | assumption, ?_⟩))) rfl (fun b21 w21 (hS21 : St _ _ [.blk b21 (.cells #[.int .u8 (49 : Int)] 5), .fz g20, tb k3 ad14 cp14 ps14, .fz g14, .fz g13, .fz g11] _) => ?_)
  clear hS20
  have hB21 : Bytes [49] := by intro q hq; simp only [List.mem_cons, List.not_mem_nil, or_false] at hq; omega
  have hS21o : St _ _ [.ow 5 1 (some ⟨b21, 0, none⟩) 1 1 (bv [49]), .fz g20, tb k3 ad14 cp14 ps14, .fz g14, .fz g13, .fz g11] _ := hS21.blkOw' (i := 0) (m := 1) (size := 1) (xs := bv [49]) rfl rfl rfl (by decide); clear hS21
  refine hK _ _ ?_; clear hK K
  refine l_e rfl (fun K hK => ?_)
  refine e_convSS (i := 0) hS21o rfl rfl (by kernel_rfl) (by omega) (fun g22 w22 hsb22 (hS22 : St _ _ [.fz g22, .fz g20, tb k3 ad14 cp14 ps14, .fz g14, .fz g13, .fz g11] _) => ?_)
  clear hS21o
  refine hK _ _ ?_; clear hK K
  refine l_e rfl (fun K hK => ?_)
  have hS24 := hS22.fr3; clear hS22
  have hS25 := hS24.fr3; clear hS24
  refine e_call (by kernel_rfl) (put_ok k3 _ _ ps14 _ hT14 (by first | omega | (simp only [List.length_append, List.length_map, List.length_cons, List.length_nil, List.length_take, List.length_drop, List.length_set] <;> omega)) [97] [49] hB19 hB21 (by first | omega | (simp only [List.length_append, List.length_map, List.length_cons, List.length_nil, List.length_take, List.length_drop, List.length_set] <;> omega)) (by first | omega | (simp only [List.length_append, List.length_map, List.length_cons, List.length_nil, List.length_take, List.length_drop, List.length_set] <;> omega)) 1 1 (by first | omega | (simp only [List.length_append, List.length_map, List.length_cons, List.length_nil, List.length_take, List.length_drop, List.length_set] <;> omega)) (by first | omega | (simp only [List.length_append, List.length_map, List.length_cons, List.length_nil, List.length_take, List.length_drop, List.length_set] <;> omega)) _ _ _ _ _ _ hsb20 hsb22 _ (St.rogF (Γ1 := [_, _]) (i := 1) hS25 rfl) (St.rogF (Γ1 := [_, _]) (i := 0) hS25 rfl) (St.begin (Γ := [_, _]) hS25)) rfl (after_M (Γ1 := [_, _]) hS25 (fun v23 G23 w23 hv23 hS23 => ?_))
  clear hS25
  obtain ⟨ad23, cp23, ps23, g23, oa23, on23, oc23, rfl, rfl, hle23, hT23, hab23, hold23⟩ := hv23
  have hS26 : St _ _ [tb k3 ad23 cp23 ps23, .fz g23, .fz g22, .fz g20, .fz g13, .fz g11] _ := hS23; clear hS23
  have hfl23 := flat_put hab23
  have hon23 := hold23.2.2.2
  have hoe23 := hold23.1
  refine hK _ _ ?_; clear hK K
  refine l_nil ?_
  refine hK18 _ _ ?_
  refine wp_seq_k (fun K27 hK27 => ?_)
  refine wp_region_lit ?_
  refine l_q rfl rfl (q_moveP rfl) ?_
  refine l_e rfl (fun K hK => ?_)
  refine e_buildSlice1 (e := 5) (zv := .int .u8 0) (xs := [_]) hS26 (by kernel_rfl) (by kernel_rfl) (by kernel_rfl) rfl rfl rfl rfl (allone (by repeat' (first | exact trivial | refine ⟨by first | rfl | assumption, ?_⟩))) rfl (fun b28 w28 (hS28 : St _ _ [.blk b28 (.cells #[.int .u8 (98 : Int)] 5), tb k3 ad23 cp23 ps23, .fz g23, .fz g22, .fz g20, .fz g13, .fz g11] _) => ?_)
  clear hS26
  have hB28 : Bytes [98] := by intro q hq; simp only [List.mem_cons, List.not_mem_nil, or_false] at hq; omega
  have hS28o : St _ _ [.ow 5 1 (some ⟨b28, 0, none⟩) 1 1 (bv [98]), tb k3 ad23 cp23 ps23, .fz g23, .fz g22, .fz g20, .fz g13, .fz g11] _ := hS28.blkOw' (i := 0) (m := 1) (size := 1) (xs := bv [98]) rfl rfl rfl (by decide); clear hS28
  refine hK _ _ ?_; clear hK K
  refine l_e rfl (fun K hK => ?_)
  refine e_convSS (i := 0) hS28o rfl rfl (by kernel_rfl) (by omega) (fun g29 w29 hsb29 (hS29 : St _ _ [.fz g29, tb k3 ad23 cp23 ps23, .fz g23, .fz g22, .fz g20, .fz g13, .fz g11] _) => ?_)
  clear hS28o
  refine hK _ _ ?_; clear hK K
  refine l_e rfl (fun K hK => ?_)
  refine e_buildSlice1 (e := 5) (zv := .int .u8 0) (xs := [_]) hS29 (by kernel_rfl) (by kernel_rfl) (by kernel_rfl) rfl rfl rfl rfl (allone (by repeat' (first | exact trivial | refine ⟨by first | rfl | assumption, ?_⟩))) rfl (fun b30 w30 (hS30 : St _ _ [.blk b30 (.cells #[.int .u8 (51 : Int)] 5), .fz g29, tb k3 ad23 cp23 ps23, .fz g23, .fz g22, .fz g20, .fz g13, .fz g11] _) => ?_)
  clear hS29
  have hB30 : Bytes [51] := by intro q hq; simp only [List.mem_cons, List.not_mem_nil, or_false] at hq; omega
  have hS30o : St _ _ [.ow 5 1 (some ⟨b30, 0, none⟩) 1 1 (bv [51]), .fz g29, tb k3 ad23 cp23 ps23, .fz g23, .fz g22, .fz g20, .fz g13, .fz g11] _ := hS30.blkOw' (i := 0) (m := 1) (size := 1) (xs := bv [51]) rfl rfl rfl (by decide); clear hS30
  refine hK _ _ ?_; clear hK K
  refine l_e rfl (fun K hK => ?_)
  refine e_convSS (i := 0) hS30o rfl rfl (by kernel_rfl) (by omega) (fun g31 w31 hsb31 (hS31 : St _ _ [.fz g31, .fz g29, tb k3 ad23 cp23 ps23, .fz g23, .fz g22, .fz g20, .fz g13, .fz g11] _) => ?_)
  clear hS30o
  refine hK _ _ ?_; clear hK K
  refine l_e rfl (fun K hK => ?_)
  have hS33 := hS31.fr3; clear hS31
  have hS34 := hS33.fr3; clear hS33
  refine e_call (by kernel_rfl) (put_ok k3 _ _ ps23 _ hT23 (by first | omega | (simp only [List.length_append, List.length_map, List.length_cons, List.length_nil, List.length_take, List.length_drop, List.length_set] <;> omega)) [98] [51] hB28 hB30 (by first | omega | (simp only [List.length_append, List.length_map, List.length_cons, List.length_nil, List.length_take, List.length_drop, List.length_set] <;> omega)) (by first | omega | (simp only [List.length_append, List.length_map, List.length_cons, List.length_nil, List.length_take, List.length_drop, List.length_set] <;> omega)) 1 1 (by first | omega | (simp only [List.length_append, List.length_map, List.length_cons, List.length_nil, List.length_take, List.length_drop, List.length_set] <;> omega)) (by first | omega | (simp only [List.length_append, List.length_map, List.length_cons, List.length_nil, List.length_take, List.length_drop, List.length_set] <;> omega)) _ _ _ _ _ _ hsb29 hsb31 _ (St.rogF (Γ1 := [_, _]) (i := 1) hS34 rfl) (St.rogF (Γ1 := [_, _]) (i := 0) hS34 rfl) (St.begin (Γ := [_, _]) hS34)) rfl (after_M (Γ1 := [_, _]) hS34 (fun v32 G32 w32 hv32 hS32 => ?_))
  clear hS34
  obtain ⟨ad32, cp32, ps32, g32, oa32, on32, oc32, rfl, rfl, hle32, hT32, hab32, hold32⟩ := hv32
  have hS35 : St _ _ [tb k3 ad32 cp32 ps32, .fz g32, .fz g31, .fz g29, .fz g22, .fz g20, .fz g13, .fz g11] _ := hS32; clear hS32
  have hfl32 := flat_put hab32
  have hon32 := hold32.2.2.2
  have hoe32 := hold32.1
  refine hK _ _ ?_; clear hK K
  refine l_q rfl rfl (q_move rfl) ?_
  refine l_q rfl rfl (q_extract rfl rfl) ?_
  refine l_q rfl rfl (q_extract rfl rfl) ?_
  refine l_q rfl rfl (q_assignS rfl) ?_
  refine l_q rfl rfl (q_assignB rfl) ?_
  refine l_nil ?_
  refine hK27 _ _ ?_
  refine wp_seq_k (fun K36 hK36 => ?_)
  refine wp_region_lit ?_
  refine l_q rfl rfl (q_moveP rfl) ?_
  refine l_e rfl (fun K hK => ?_)
  refine e_call (by kernel_rfl) (range_ok k3 _ _ ps32 [] [] Bytes.nil Bytes.nil (by first | omega | (simp only [List.length_append, List.length_map, List.length_cons, List.length_nil, List.length_take, List.length_drop, List.length_set] <;> omega)) (by first | omega | (simp only [List.length_append, List.length_map, List.length_cons, List.length_nil, List.length_take, List.length_drop, List.length_set] <;> omega)) 0 0 (by first | omega | (simp only [List.length_append, List.length_map, List.length_cons, List.length_nil, List.length_take, List.length_drop, List.length_set] <;> omega)) (by first | omega | (simp only [List.length_append, List.length_map, List.length_cons, List.length_nil, List.length_take, List.length_drop, List.length_set] <;> omega)) (9 : Int) (by first | decide | omega) (by first | decide | omega) _ _ _ _ (by first | omega | (simp only [List.length_append, List.length_map, List.length_cons, List.length_nil, List.length_take, List.length_drop, List.length_set] <;> omega)) _ (hS35.tr (i := 0) (j := 1) rfl rfl hT32) SlG.nil SlG.nil) rfl (after_N hS35 (fun v37 G37 w37 hv37 hS37 => ?_))
  clear hS35
  obtain ⟨ra37, rc37, es37, rfl, rfl, heq37⟩ := hv37
  have hS38 : St _ _ [.ow 41 2 ra37 es37.length rc37 (List.flatMap en es37), .pk (epk es37), tb k3 ad32 cp32 ps32, .fz g32, .fz g31, .fz g29, .fz g22, .fz g20, .fz g13, .fz g11] _ := hS37; clear hS37
  have hfit37 := range_fit hT32 heq37
  have hel37 : es37.length ≤ (flat ps32).length := range_len heq37
  obtain ⟨gx37, hxs37, hxe37, hS37x⟩ := hS38.rngFz hfit37; clear hS38
  refine hK _ _ ?_; clear hK K
  refine l_q rfl rfl (q_assignS rfl) ?_
  refine l_nil ?_
  refine hK36 _ _ ?_
  refine wp_seq_k (fun K39 hK39 => ?_)
  have hv1 : ab ps14 = [([98], [50])] := by rw [hab14]; decide +kernel
  have hv2 : ab ps23 = [([97], [49]), ([98], [50])] := by rw [hab23, hv1]; decide +kernel
  have hv3 : ab ps32 = [([97], [49]), ([98], [51])] := by rw [hab32, hv2]; decide +kernel
  have hve : es37.map En.kv = [([97], [49]), ([98], [51])] := by rw [heq37, hv3]; decide +kernel
  have hvl : es37.length = 2 := by have := congrArg List.length hve; simpa using this
  have hvf : (flat ps32).length = 2 := by rw [← ab_len, hv3]; rfl
  refine wp_region_lit ?_
  refine l_q rfl rfl (q_moveB rfl) ?_
  refine l_q rfl rfl (q_moveB rfl) ?_
  refine l_on rfl rfl (by rw [hv2]; decide +kernel) ?_
  refine l_q rfl rfl (q_moveS rfl) ?_
  refine l_on rfl rfl (by rw [hv2]; decide +kernel) ?_
  refine l_q rfl rfl (q_convBS (l := ((getA (ab ps23) [98]).getD [])) rfl (hold32.2.1.mono (hS37x.fz (i := 2) rfl)) (by first | omega | (simp only [List.length_append, List.length_map, List.length_cons, List.length_nil, List.length_take, List.length_drop, List.length_set] <;> omega)) (by kernel_rfl) (by kernel_rfl)) ?_
  refine l_on rfl rfl (by rw [hv2]; decide +kernel) ?_
  refine l_q rfl rfl (q_str_eql (l := ((getA (ab ps23) [98]).getD [])) (m := [50]) rfl rfl hold32.2.2.1 (by decide : Bytes [50])) ?_
  refine l_q rfl rfl (q_pickT rfl (by rw [hv2]; decide +kernel) rfl) ?_
  refine l_q rfl rfl (q_moveB rfl) ?_
  refine l_on rfl rfl (decide_eq_true (by rw [hv2]; decide +kernel)) ?_
  refine l_q rfl rfl (q_moveS rfl) ?_
  refine l_on rfl rfl (decide_eq_true (by rw [hv2]; decide +kernel)) ?_
  refine l_q rfl rfl (q_lenSl (e := 41) rfl (by kernel_rfl)) ?_
  refine l_on rfl rfl (decide_eq_true (by rw [hv2]; decide +kernel)) ?_
  refine l_q rfl rfl (q_eql rfl rfl) ?_
  refine l_q rfl rfl (q_pickT rfl (decide_eq_true (by rw [hv2]; decide +kernel)) rfl) ?_
  refine l_q rfl rfl (q_moveB rfl) ?_
  refine l_on rfl rfl (decide_eq_true (by rw [hvl]; rfl)) ?_
  refine l_q rfl rfl (q_moveS rfl) ?_
  refine l_on rfl rfl (decide_eq_true (by rw [hvl]; rfl)) ?_
  refine l_q rfl rfl (q_ixG (e := 41) (m := 2) (j := 0) rfl rfl (by kernel_rfl) (by kernel_rfl) (by first | rfl | omega) (by omega) hxs37 (by rw [rows_len (c := en) (m := 2) (fun _ => rfl)]; first | omega | (simp only [List.length_append, List.length_map, List.length_cons, List.length_nil, List.length_take, List.length_drop, List.length_set] <;> omega))) ?_
  refine l_on rfl rfl (decide_eq_true (by rw [hvl]; rfl)) ?_
  refine l_q rfl rfl (q_fieldG (ft := 23) (o := 0) rfl (by kernel_rfl)) ?_
  refine l_on rfl rfl (decide_eq_true (by rw [hvl]; rfl)) ?_
  obtain ⟨x43, hx43⟩ : ∃ x, (es37)[0]? = some x := ⟨_, List.getElem?_eq_getElem (by first | omega | (simp only [List.length_append, List.length_map, List.length_cons, List.length_nil, List.length_take, List.length_drop, List.length_set] <;> omega) | (simp <;> omega))⟩
  have hxl_x43 := (hxe37 x43 (List.mem_of_getElem? hx43)).2
  refine l_q rfl rfl (q_load1 rfl (by kernel_rfl) (SlG.cell (hxs37.mono (hS37x.fz (i := 0) rfl)) (Gle.refl _) (row_at hx43 (c := en) (m := 2) (fun _ => rfl) (j := 0) rfl))) ?_
  refine l_on rfl rfl (decide_eq_true (by rw [hvl]; rfl)) ?_
  refine l_q rfl rfl (q_convBS (l := x43.kb) rfl ((hxe37 x43 (List.mem_of_getElem? hx43)).1.1.mono (hS37x.fz (i := 0) rfl)) (by first | omega | (simp only [List.length_append, List.length_map, List.length_cons, List.length_nil, List.length_take, List.length_drop, List.length_set] <;> omega)) (by kernel_rfl) (by kernel_rfl)) ?_
  refine l_on rfl rfl (decide_eq_true (by rw [hvl]; rfl)) ?_
  refine l_q rfl rfl (q_str_eql (l := x43.kb) (m := [97]) rfl rfl (hxe37 x43 (List.mem_of_getElem? hx43)).1.2.1 (by decide : Bytes [97])) ?_
  refine l_q rfl rfl (q_pickT rfl (decide_eq_true (by rw [hvl]; rfl)) rfl) ?_
  refine l_q rfl rfl (q_moveB rfl) ?_
  refine l_on rfl rfl (decide_eq_true (kv_at hve hx43 rfl).1) ?_
  refine l_q rfl rfl (q_moveS rfl) ?_
  refine l_on rfl rfl (decide_eq_true (kv_at hve hx43 rfl).1) ?_
  refine l_q rfl rfl (q_ixG (e := 41) (m := 2) (j := 1) rfl rfl (by kernel_rfl) (by kernel_rfl) (by first | rfl | omega) (by omega) hxs37 (by rw [rows_len (c := en) (m := 2) (fun _ => rfl)]; first | omega | (simp only [List.length_append, List.length_map, List.length_cons, List.length_nil, List.length_take, List.length_drop, List.length_set] <;> omega))) ?_
  refine l_on rfl rfl (decide_eq_true (kv_at hve hx43 rfl).1) ?_
  refine l_q rfl rfl (q_fieldG (ft := 23) (o := 1) rfl (by kernel_rfl)) ?_
  refine l_on rfl rfl (decide_eq_true (kv_at hve hx43 rfl).1) ?_
  obtain ⟨x45, hx45⟩ : ∃ x, (es37)[1]? = some x := ⟨_, List.getElem?_eq_getElem (by first | omega | (simp only [List.length_append, List.length_map, List.length_cons, List.length_nil, List.length_take, List.length_drop, List.length_set] <;> omega) | (simp <;> omega))⟩
  have hxl_x45 := (hxe37 x45 (List.mem_of_getElem? hx45)).2
  refine l_q rfl rfl (q_load1 rfl (by kernel_rfl) (SlG.cell (hxs37.mono (hS37x.fz (i := 0) rfl)) (Gle.refl _) (row_at hx45 (c := en) (m := 2) (fun _ => rfl) (j := 1) rfl))) ?_
  refine l_on rfl rfl (decide_eq_true (kv_at hve hx43 rfl).1) ?_
  refine l_q rfl rfl (q_convBS (l := x45.rb) rfl ((hxe37 x45 (List.mem_of_getElem? hx45)).1.2.2.1.mono (hS37x.fz (i := 0) rfl)) (by first | omega | (simp only [List.length_append, List.length_map, List.length_cons, List.length_nil, List.length_take, List.length_drop, List.length_set] <;> omega)) (by kernel_rfl) (by kernel_rfl)) ?_
  refine l_on rfl rfl (decide_eq_true (kv_at hve hx43 rfl).1) ?_
  refine l_q rfl rfl (q_str_eql (l := x45.rb) (m := [51]) rfl rfl (hxe37 x45 (List.mem_of_getElem? hx45)).1.2.2.2 (by decide : Bytes [51])) ?_
  refine l_q rfl rfl (q_pickT rfl (decide_eq_true (kv_at hve hx43 rfl).1) rfl) ?_
  refine l_q rfl rfl (q_moveB rfl) ?_
  refine l_on rfl rfl (decide_eq_true (kv_at hve hx45 rfl).2) ?_
  refine l_q rfl rfl (q_moveP rfl) ?_
  refine l_on rfl rfl (decide_eq_true (kv_at hve hx45 rfl).2) ?_
  refine l_e rfl (fun K hK => ?_)
  refine e_call (by kernel_rfl) (tlen_ok k3 _ _ ps32 _ (hS37x.tr (i := 1) (j := 2) rfl rfl hT32)) rfl (after_R hS37x (fun v47 w47 hv47 hS47 => ?_))
  clear hS37x
  obtain rfl := hv47
  refine hK _ _ ?_; clear hK K
  refine l_on rfl rfl (decide_eq_true (kv_at hve hx45 rfl).2) ?_
  refine l_q rfl rfl (q_eql rfl rfl) ?_
  refine l_q rfl rfl (q_pickT rfl (decide_eq_true (kv_at hve hx45 rfl).2) rfl) ?_
  refine l_q rfl rfl (q_assignB rfl) ?_
  refine l_nil ?_
  refine hK39 _ _ ?_
  refine wp_ret ?_
  refine c_ret1 rfl rfl ?_
  exact ⟨_, rfl, congrArg Value.bool (decide_eq_true (by rw [hvf]; rfl)), hS47.drop⟩

set_option maxRecDepth 100000 in
theorem tableNil_ok (k : Int) (ka ra fa ta : Option Addr) (kn kc rn rc fn fc tn tc : Nat) (most : Int) (w : World) : Calls Try.prog 9 #[.agg #[.int .i64 k, .slice ka kn kc, .slice ra rn rc], .agg #[.slice fa fn fc, .slice ta tn tc, .int .i64 most]] w (PostR w fun v => v = .bool true) := by
  have hS := St.start w
  refine c_enter Try.func9 rfl rfl rfl ?_
  refine wp_seq_k (fun K1 hK1 => ?_)
  refine wp_region_lit ?_
  refine l_e rfl (fun K hK => ?_)
  refine e_boxA hS rfl (fun b2 w2 (hS2 : St _ _ [.blk b2 (.cells #[.int .i64 k, .slice ka kn kc, .slice ra rn rc] 67)] _) => ?_)
  clear hS
  refine hK _ _ ?_; clear hK K
  refine l_e rfl (fun K hK => ?_)
  refine e_boxA hS2 rfl (fun b3 w3 (hS3 : St _ _ [.blk b3 (.cells #[.slice fa fn fc, .slice ta tn tc, .int .i64 most] 65), .blk b2 (.cells #[.int .i64 k, .slice ka kn kc, .slice ra rn rc] 67)] _) => ?_)
  clear hS2
  refine hK _ _ ?_; clear hK K
  refine l_q rfl rfl (q_assignB rfl) ?_
  refine l_nil ?_
  refine hK1 _ _ ?_
  refine wp_seq_k (fun K4 hK4 => ?_)
  refine wp_region_lit ?_
  refine l_q rfl rfl (q_assignP rfl) ?_
  refine l_nil ?_
  refine hK4 _ _ ?_
  refine wp_seq_k (fun K5 hK5 => ?_)
  refine wp_region_lit ?_
  refine l_q rfl rfl (q_moveP rfl) ?_
  refine l_q rfl rfl (q_fieldAddr (ft := 23) (o := 1) rfl (by kernel_rfl)) ?_
  refine l_q rfl rfl (q_load1 rfl (by kernel_rfl) (hS3.cell (i := 1) rfl rfl)) ?_
  refine l_q rfl rfl (q_fieldAddr (ft := 23) (o := 2) rfl (by kernel_rfl)) ?_
  refine l_q rfl rfl (q_load1 rfl (by kernel_rfl) (hS3.cell (i := 1) rfl rfl)) ?_
  refine l_e rfl (fun K hK => ?_)
  refine e_call (by kernel_rfl) (put_nil _ _ _ _ _ _ _) rfl (after_R hS3 (fun v6 w6 hv6 hS6 => ?_))
  clear hS3
  obtain rfl := hv6
  refine hK _ _ ?_; clear hK K
  refine l_q rfl rfl (q_move rfl) ?_
  refine l_q rfl rfl (q_extract rfl rfl) ?_
  refine l_q rfl rfl (q_extract rfl rfl) ?_
  refine l_q rfl rfl (q_assignS rfl) ?_
  refine l_q rfl rfl (q_assignB rfl) ?_
  refine l_nil ?_
  refine hK5 _ _ ?_
  refine wp_seq_k (fun K7 hK7 => ?_)
  refine wp_region_lit ?_
  refine l_q rfl rfl (q_moveP rfl) ?_
  refine l_q rfl rfl (q_fieldAddr (ft := 23) (o := 1) rfl (by kernel_rfl)) ?_
  refine l_q rfl rfl (q_load1 rfl (by kernel_rfl) (hS6.cell (i := 1) rfl rfl)) ?_
  refine l_e rfl (fun K hK => ?_)
  refine e_call (by kernel_rfl) (drop_nil _ _ _ _) rfl (after_R hS6 (fun v8 w8 hv8 hS8 => ?_))
  clear hS6
  obtain rfl := hv8
  refine hK _ _ ?_; clear hK K
  refine l_q rfl rfl (q_move rfl) ?_
  refine l_q rfl rfl (q_extract rfl rfl) ?_
  refine l_q rfl rfl (q_extract rfl rfl) ?_
  refine l_q rfl rfl (q_assignS rfl) ?_
  refine l_q rfl rfl (q_assignB rfl) ?_
  refine l_nil ?_
  refine hK7 _ _ ?_
  refine wp_seq_k (fun K9 hK9 => ?_)
  refine wp_region_lit ?_
  refine l_q rfl rfl (q_moveP rfl) ?_
  refine l_q rfl rfl (q_fieldAddr (ft := 23) (o := 1) rfl (by kernel_rfl)) ?_
  refine l_q rfl rfl (q_load1 rfl (by kernel_rfl) (hS8.cell (i := 1) rfl rfl)) ?_
  refine l_e rfl (fun K hK => ?_)
  refine e_call (by kernel_rfl) (get_nil _ _ _ _) rfl (after_R hS8 (fun v10 w10 hv10 hS10 => ?_))
  clear hS8
  obtain rfl := hv10
  refine hK _ _ ?_; clear hK K
  refine l_q rfl rfl (q_move rfl) ?_
  refine l_q rfl rfl (q_extract rfl rfl) ?_
  refine l_q rfl rfl (q_extract rfl rfl) ?_
  refine l_q rfl rfl (q_assignS rfl) ?_
  refine l_q rfl rfl (q_assignB rfl) ?_
  refine l_nil ?_
  refine hK9 _ _ ?_
  refine wp_seq_k (fun K11 hK11 => ?_)
  refine wp_region_lit ?_
  refine l_q rfl rfl (q_moveP rfl) ?_
  refine l_q rfl rfl (q_fieldAddr (ft := 23) (o := 1) rfl (by kernel_rfl)) ?_
  refine l_q rfl rfl (q_load1 rfl (by kernel_rfl) (hS10.cell (i := 0) rfl rfl)) ?_
  refine l_e rfl (fun K hK => ?_)
  refine e_call (by kernel_rfl) (last_nil _ _ _ _) rfl (after_R hS10 (fun v12 w12 hv12 hS12 => ?_))
  clear hS10
  obtain rfl := hv12
  refine hK _ _ ?_; clear hK K
  refine l_q rfl rfl (q_move rfl) ?_
  refine l_q rfl rfl (q_extract rfl rfl) ?_
  refine l_q rfl rfl (q_extract rfl rfl) ?_
  refine l_e rfl (fun K hK => ?_)
  refine e_alloc (zv := .agg #[.slice none 0 0, .slice none 0 0]) hS12 (by kernel_rfl) (fun b13 w13 (hS13 : St _ _ [.blk b13 (.cells #[.slice none 0 0, .slice none 0 0] 41), .blk b3 (.cells #[.slice fa fn fc, .slice ta tn tc, .int .i64 most] 65), .blk b2 (.cells #[.int .i64 k, .slice ka kn kc, .slice ra rn rc] 67)] _) => ?_)
  clear hS12
  refine hK _ _ ?_; clear hK K
  refine l_e rfl (fun K hK => ?_)
  refine e_storeA hS13 rfl rfl (by kernel_rfl) (by repeat' (first | exact trivial | refine ⟨by first | rfl | assumption | exact one_if (by assumption), ?_⟩)) (i := 0) rfl rfl (fun w14 (hS14 : St _ _ [.blk b13 (.cells #[.slice none 0 0, .slice none 0 0] 41), .blk b3 (.cells #[.slice fa fn fc, .slice ta tn tc, .int .i64 most] 65), .blk b2 (.cells #[.int .i64 k, .slice ka kn kc, .slice ra rn rc] 67)] _) => ?_)
  clear hS13
  refine hK _ _ ?_; clear hK K
  refine l_q rfl rfl (q_assignB rfl) ?_
  refine l_nil ?_
  refine hK11 _ _ ?_
  refine wp_seq_k (fun K15 hK15 => ?_)
  refine wp_region_lit ?_
  refine l_e rfl (fun K hK => ?_)
  refine e_call (by kernel_rfl) (alive8_ok _) rfl (after_R hS14 (fun v16 w16 hv16 hS16 => ?_))
  clear hS14
  obtain rfl := hv16
  refine hK _ _ ?_; clear hK K
  refine l_q rfl rfl (q_moveB rfl) ?_
  refine l_on rfl rfl rfl ?_
  refine l_q rfl rfl (q_moveB rfl) ?_
  refine l_on rfl rfl rfl ?_
  refine l_q rfl rfl (q_not rfl) ?_
  refine l_q rfl rfl (q_pickT rfl rfl rfl) ?_
  refine l_q rfl rfl (q_moveB rfl) ?_
  refine l_on rfl rfl rfl ?_
  refine l_q rfl rfl (q_moveB rfl) ?_
  refine l_on rfl rfl rfl ?_
  refine l_q rfl rfl (q_not rfl) ?_
  refine l_q rfl rfl (q_pickT rfl rfl rfl) ?_
  refine l_q rfl rfl (q_moveB rfl) ?_
  refine l_on rfl rfl rfl ?_
  refine l_q rfl rfl (q_moveB rfl) ?_
  refine l_on rfl rfl rfl ?_
  refine l_q rfl rfl (q_not rfl) ?_
  refine l_q rfl rfl (q_pickT rfl rfl rfl) ?_
  refine l_q rfl rfl (q_moveB rfl) ?_
  refine l_on rfl rfl rfl ?_
  refine l_q rfl rfl (q_moveB rfl) ?_
  refine l_on rfl rfl rfl ?_
  refine l_q rfl rfl (q_not rfl) ?_
  refine l_q rfl rfl (q_pickT rfl rfl rfl) ?_
  refine l_q rfl rfl (q_moveB rfl) ?_
  refine l_on rfl rfl rfl ?_
  refine l_q rfl rfl (q_moveP rfl) ?_
  refine l_on rfl rfl rfl ?_
  refine l_q rfl rfl (q_fieldAddr (ft := 23) (o := 0) rfl (by kernel_rfl)) ?_
  refine l_on rfl rfl rfl ?_
  refine l_q rfl rfl (q_load1 rfl (by kernel_rfl) (hS16.cell (i := 1) rfl rfl)) ?_
  refine l_on rfl rfl rfl ?_
  refine l_q rfl rfl (q_fieldAddr (ft := 23) (o := 1) rfl (by kernel_rfl)) ?_
  refine l_on rfl rfl rfl ?_
  refine l_q rfl rfl (q_load1 rfl (by kernel_rfl) (hS16.cell (i := 1) rfl rfl)) ?_
  refine l_on rfl rfl rfl ?_
  refine l_q rfl rfl (q_fieldAddr (ft := 3) (o := 2) rfl (by kernel_rfl)) ?_
  refine l_on rfl rfl rfl ?_
  refine l_q rfl rfl (q_load1 rfl (by kernel_rfl) (hS16.cell (i := 1) rfl rfl)) ?_
  refine l_on rfl rfl rfl ?_
  refine l_e rfl (fun K hK => ?_)
  refine e_call (by kernel_rfl) (range_nil _ _ _ _ _ _ _ _) rfl (after_R hS16 (fun v17 w17 hv17 hS17 => ?_))
  clear hS16
  obtain rfl := hv17
  refine hK _ _ ?_; clear hK K
  refine l_on rfl rfl rfl ?_
  refine l_q rfl rfl (q_lenSl (e := 41) rfl (by kernel_rfl)) ?_
  refine l_on rfl rfl rfl ?_
  refine l_q rfl rfl (q_eql rfl rfl) ?_
  refine l_q rfl rfl (q_pickT rfl rfl rfl) ?_
  refine l_q rfl rfl (q_moveB rfl) ?_
  refine l_on rfl rfl (by decide) ?_
  refine l_q rfl rfl (q_moveP rfl) ?_
  refine l_on rfl rfl (by decide) ?_
  refine l_e rfl (fun K hK => ?_)
  refine e_call (by kernel_rfl) (len_nil _) rfl (after_R hS17 (fun v18 w18 hv18 hS18 => ?_))
  clear hS17
  obtain rfl := hv18
  refine hK _ _ ?_; clear hK K
  refine l_on rfl rfl (by decide) ?_
  refine l_q rfl rfl (q_eql rfl rfl) ?_
  refine l_q rfl rfl (q_pickT rfl (by decide) rfl) ?_
  refine l_q rfl rfl (q_moveB rfl) ?_
  refine l_on rfl rfl (by decide) ?_
  refine l_q rfl rfl (q_moveP rfl) ?_
  refine l_on rfl rfl (by decide) ?_
  refine l_e rfl (fun K hK => ?_)
  refine e_call (by kernel_rfl) (copy_nil _) rfl (after_R hS18 (fun v19 w19 hv19 hS19 => ?_))
  clear hS18
  obtain rfl := hv19
  refine hK _ _ ?_; clear hK K
  refine l_on rfl rfl (by decide) ?_
  refine l_q rfl rfl (q_peq rfl (by kernel_rfl)) ?_
  refine l_q rfl rfl (q_pickT rfl (by decide) rfl) ?_
  refine l_q rfl rfl (q_assignB rfl) ?_
  refine l_nil ?_
  refine hK15 _ _ ?_
  refine wp_ret ?_
  refine c_ret1 rfl rfl ?_
  exact ⟨_, rfl, rfl, hS19.drop⟩

end Go.Proofs.Ytmbbkliekgiolaa
