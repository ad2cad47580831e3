/- Package table: from, Range. -/
import Derived.Test.YtmbbkliekgiolaaTe
import Derived.Test.YtmbbkliekgiolaaSz
set_option linter.unusedVariables false
set_option linter.unusedSimpArgs false
namespace Go.Proofs.Ytmbbkliekgiolaa
open Go.RowKit
/-- Does a key lie ahead of 'to'? -/
def inB (to : List Nat) (c : KV) : Bool := decide (to = []) || bl c.1 to
/-- What a range is. -/
def rangeB (L : List KV) (fr to : List Nat) (most : Nat) : List KV := (L.filter fun c => !bl c.1 fr && inB to c).take most
def epk (es : List En) : List Ch := es.flatMap fun a => [.ow 5 1 a.ka a.kb.length a.kc (bv a.kb), .ow 5 1 a.ra a.rb.length a.rc (bv a.rb)]
theorem epk_isC {es : List En} : ∀ c ∈ epk es, IsC c := fun c hc => by
  obtain ⟨a, _, hc⟩ := List.mem_flatMap.1 hc
  simp only [List.mem_cons, List.not_mem_nil, or_false] at hc
  rcases hc with rfl | rfl <;> exact isC_ow
theorem epk_snoc {w0 w : World} {D : Nat → Prop} {c1 c2 : Ch} {es : List En} {a : En} (h : St w0 D [c1, c2, .ow 5 1 a.ka a.kb.length a.kc (bv a.kb), .ow 5 1 a.ra a.rb.length a.rc (bv a.rb), .pk (epk es)] w) : St w0 D [c1, c2, .pk (epk (es ++ [a]))] w := by
  have h1 : St w0 D (.pk (epk es) :: [c1, c2, .ow 5 1 a.ka a.kb.length a.kc (bv a.kb), .ow 5 1 a.ra a.rb.length a.rc (bv a.rb)]) w := h.fr4
  have h2 := h1.unpk
  have h3 : St w0 D ((epk es ++ [.ow 5 1 a.ka a.kb.length a.kc (bv a.kb), .ow 5 1 a.ra a.rb.length a.rc (bv a.rb)]) ++ [c1, c2]) w := by
    refine h2.perm ?_
    rw [List.append_assoc]
    refine List.Perm.append_left _ ?_
    exact List.perm_append_comm (l₁ := [c1, c2])
  have h4 := h3.pk
  have h5 : epk (es ++ [a]) = epk es ++ [.ow 5 1 a.ka a.kb.length a.kc (bv a.kb), .ow 5 1 a.ra a.rb.length a.rc (bv a.rb)] := by unfold epk; rw [List.flatMap_append]; rfl
  rw [← h5] at h4
  exact ((h4.fr1).fr2).fr1
def RGo (to : List Nat) (most : Nat) (pre out : List KV) : Prop := out = pre ∧ (∀ c ∈ out, inB to c = true) ∧ out.length < most
def RDone (to : List Nat) (most : Nat) (pre out : List KV) : Prop := (∃ x pre0, pre = pre0 ++ [x] ∧ out = pre0 ∧ inB to x = false ∧ out.length < most ∧ ∀ c ∈ out, inB to c = true) ∨ (out = pre ∧ out.length = most ∧ ∀ c ∈ out, inB to c = true)
theorem gx_isC {bo : Nat} (x : Option Addr × Nat × List En) : ∀ c ∈ [.blk bo (.cells #[.slice x.1 x.2.2.length x.2.1] 29), .ow 41 2 x.1 x.2.2.length x.2.1 (List.flatMap en x.2.2), .pk (epk x.2.2)], IsC c := fun c hc => by
  simp only [List.mem_cons, List.not_mem_nil, or_false] at hc
  rcases hc with rfl | rfl | rfl
  · rfl
  · exact isC_ow
  · exact isC_pk epk_isC
theorem gx_isC4 {bo : Nat} {c1 c2 c3 : Ch} (h1 : IsC c1) (h2 : IsC c2) (h3 : IsC c3) {x : Option Addr × Nat × List En} : ∀ c ∈ [c1, c2, c3] ++ [.blk bo (.cells #[.slice x.1 x.2.2.length x.2.1] 29), .ow 41 2 x.1 x.2.2.length x.2.1 (List.flatMap en x.2.2), .pk (epk x.2.2)], IsC c := fun c hc => by
  rcases List.mem_append.1 hc with hc | hc
  · simp only [List.mem_cons, List.not_mem_nil, or_false] at hc
    rcases hc with rfl | rfl | rfl
    · exact h1
    · exact h2
    · exact h3
  · exact gx_isC x c hc
theorem from1_stops {k cap : Nat} {ad : Option Addr} (ps : List Pg) (hsz : (flat ps).length ≤ 90000) (key : List Nat) (hkb : Bytes key) (hkl : key.length ≤ 1000000) {ak : Option Addr} {ck : Nat} {gb : Gh} {WL : World} (hTR : TR gb k ad cap ps) {b1 b2 : Nat} (hb1 : gb b1 = some (.cells #[pV k] 25)) (hb2 : gb b2 = some (.cells #[.slice ak key.length ck] 23)) (hKk : SlG gb ak (bv key))
    (hle : Gle gb (hw WL)) (hlt : ∀ k o, gb k = some o → k < WL.heap.size) : SeqStopsK Fence.wide 2 Try.prog 84 #[.pointer (some ⟨b1, 0, none⟩), .pointer (some ⟨b2, 0, none⟩)] (fun (x : ESub ps) => #[.agg (en x.1).toArray]) (Kg gb) (SeqS ps key) (SeqP ps key) ((flat ps).length + 1) WL := fun l J Jx W hb hJ hJx hY h0 =>
  callsIn_wide.2 (from1_ok k ad cap ps hsz key hkb hkl ak ck gb hTR b1 b2 hb1 hb2 hKk 2 l J Jx W (fun k o h => (hb.block k (hlt k o h)).trans (hle k o h)) hJ hY h0)
section
variable {ps : List Pg} {fr to : List Nat} {most : Nat} {out : List KV}
theorem filt_from {X : List KV} {Y : List KV} (hX : ∀ c ∈ X, bl c.1 fr = true) (hY : ∀ c ∈ Y, bl c.1 fr = false) : (X ++ Y).filter (fun c => !bl c.1 fr && inB to c) = Y.filter (inB to) := by
  rw [List.filter_append, List.filter_eq_nil_iff.2 (fun c hc => by simp [hX c hc]), List.nil_append]
  exact List.filter_congr fun c hc => by simp [hY c hc]
theorem map_kv {l : List (ESub ps)} : (l.map Subtype.val).map En.kv = l.map fun q => q.1.kv := by rw [List.map_map]; rfl
theorem range_all {xs : List (ESub ps)} (hs : Srt (ab ps)) (h : SeqS ps fr xs) (hy : RGo to most (xs.map fun q => q.1.kv) out) : out = rangeB (ab ps) fr to most := by
  obtain ⟨X, hX, hlo, hhi⟩ := h
  obtain ⟨h1, h2, h3⟩ := hy
  unfold rangeB
  have e : ab ps = X.map En.kv ++ xs.map fun q => q.1.kv := (congrArg (List.map En.kv) hX).trans (by rw [List.map_append, map_kv])
  rw [e, filt_from (fun c hc => by obtain ⟨a, ha, rfl⟩ := List.mem_map.1 hc; exact hlo a ha) (fun c hc => by rw [← map_kv] at hc; obtain ⟨a, ha, rfl⟩ := List.mem_map.1 hc; exact hhi a ha), ← h1, List.filter_eq_self.2 h2, List.take_of_length_le (by omega)]
theorem range_stop {pre : List (ESub ps)} (hs : Srt (ab ps)) (h : SeqP ps fr pre) (hy : RDone to most (pre.map fun q => q.1.kv) out) : out = rangeB (ab ps) fr to most := by
  obtain ⟨X, Y, hX, hlo, hhi⟩ := h
  unfold rangeB
  have e : ab ps = X.map En.kv ++ (pre.map (fun q => q.1.kv) ++ Y.map En.kv) := (congrArg (List.map En.kv) hX).trans (by rw [List.map_append, List.map_append, map_kv])
  rw [e] at hs
  rw [e, filt_from (fun c hc => by obtain ⟨a, ha, rfl⟩ := List.mem_map.1 hc; exact hlo a ha) (fun c hc => by
    rw [← map_kv, ← List.map_append] at hc; obtain ⟨a, ha, rfl⟩ := List.mem_map.1 hc; exact hhi a ha)]
  rcases hy with ⟨x, pre0, h1, rfl, h3, h4, h5⟩ | ⟨h1, h2, h3⟩
  · rw [h1] at hs ⊢
    rw [List.append_assoc, List.filter_append, List.filter_eq_self.2 h5]
    have hno : ([x] ++ Y.map En.kv).filter (inB to) = [] := by
      refine List.filter_eq_nil_iff.2 fun c hc => ?_
      have hxt : bl x.1 to = false ∧ to ≠ [] := by
        unfold inB at h3
        simp only [Bool.or_eq_false_iff, decide_eq_false_iff_not] at h3
        exact ⟨h3.2, h3.1⟩
      have hct : bl c.1 to = false := by
        rcases List.mem_append.1 hc with hc | hc
        · rw [List.mem_singleton] at hc; subst hc; exact hxt.1
        · have h6 : bl x.1 c.1 = true := (List.pairwise_append.1 (List.pairwise_append.1 hs).2.1).2.2 x (List.mem_append_right _ (.head _)) c hc
          cases h7 : bl c.1 to with
          | false => rfl
          | true => rw [bl_trans h6 h7] at hxt; cases hxt.1
      simp [inB, hct, hxt.2]
    rw [hno, List.append_nil, List.take_of_length_le (by omega)]
  · rw [← h1, List.filter_append, List.filter_eq_self.2 h3, ← h2, List.take_left' rfl]
end
attribute [local irreducible] Oper.wp Sem.run Code.wp wpList wpAnyO callFunc execOp Calls
attribute [local irreducible] cmpL putA getA dropA lastB ent inB

set_option maxRecDepth 100000 in
theorem from_ok (k : Nat) (af : Option Addr) (nf cf : Nat) (w : World) : Calls Try.prog 59 #[pV k, .slice af nf cf] w (PostN w fun v G => ∃ b1 b2, v = .func (.func 84) #[] #[.pointer (some ⟨b1, 0, none⟩), .pointer (some ⟨b2, 0, none⟩)] ∧ G = [.blk b2 (.cells #[.slice af nf cf] 23), .blk b1 (.cells #[pV k] 25)]) := by
  have hS := St.start w
  refine c_enter Try.func59 rfl rfl rfl ?_
  refine wp_seq_k (fun K1 hK1 => ?_)
  refine wp_region_lit ?_
  refine l_e rfl (fun K hK => ?_)
  refine e_box hS rfl (fun b2 w2 (hS2 : St _ _ [.blk b2 (.cells #[pV k] 25)] _) => ?_)
  clear hS
  refine hK _ _ ?_; clear hK K
  refine l_e rfl (fun K hK => ?_)
  refine e_box hS2 rfl (fun b3 w3 (hS3 : St _ _ [.blk b3 (.cells #[.slice af nf cf] 23), .blk b2 (.cells #[pV k] 25)] _) => ?_)
  clear hS2
  refine hK _ _ ?_; clear hK K
  refine l_q rfl rfl (q_assign rfl) ?_
  refine l_nil ?_
  refine hK1 _ _ ?_
  refine wp_seq_k (fun K4 hK4 => ?_)
  refine wp_region_lit ?_
  refine l_q rfl rfl (q_makeFunc) ?_
  refine l_q rfl rfl (q_assign rfl) ?_
  refine l_nil ?_
  refine hK4 _ _ ?_
  refine wp_ret ?_
  refine c_ret1 rfl rfl ?_
  exact ⟨_, _, rfl, ⟨_, _, rfl, rfl⟩, hS3⟩

set_option maxHeartbeats 4000000 in
set_option maxRecDepth 100000 in
theorem range_ok (k : Nat) (ad : Option Addr) (cap : Nat) (ps : List Pg) (fr to : List Nat) (hfb : Bytes fr) (htb : Bytes to) (hfl : fr.length ≤ 1000000) (htl : to.length ≤ 1000000) (nf nt : Nat) (hnf : fr.length = nf) (hnt : to.length = nt) (most : Int) (hm0 : -9223372036854775808 ≤ most) (hm1 : most ≤ 9223372036854775807) (af at_ : Option Addr) (cf ct : Nat) (hsz : (flat ps).length ≤ 90000) (w : World) (hTR : TR (hw w) k ad cap ps) (hFr : SlG (hw w) af (bv fr)) (hTo : SlG (hw w) at_ (bv to)) : Calls Try.prog 17 #[pV k, .slice af nf cf, .slice at_ nt ct, .int .i64 most] w (PostN w fun v G => ∃ oad ocap es, v = .slice oad es.length ocap ∧ G = [.ow 41 2 oad es.length ocap (List.flatMap en es), .pk (epk es)] ∧ es.map En.kv = rangeB (ab ps) fr to most.toNat) := by
  have hS := St.start w
  subst hnf hnt
  have hpgs := hTR.ok.pages
  refine c_enterM (N := 3) Try.func17 rfl rfl rfl ?_
  refine wp_seq_k (fun K1 hK1 => ?_)
  refine wp_region_lit ?_
  refine l_e rfl (fun K hK => ?_)
  refine e_box hS rfl (fun b2 w2 (hS2 : St _ _ [.blk b2 (.cells #[.slice at_ to.length ct] 23)] _) => ?_)
  clear hS
  refine hK _ _ ?_; clear hK K
  refine l_e rfl (fun K hK => ?_)
  refine e_box hS2 rfl (fun b3 w3 (hS3 : St _ _ [.blk b3 (.cells #[.int .i64 most] 3), .blk b2 (.cells #[.slice at_ to.length ct] 23)] _) => ?_)
  clear hS2
  refine hK _ _ ?_; clear hK K
  refine l_q rfl rfl (q_assignS rfl) ?_
  refine l_nil ?_
  refine hK1 _ _ ?_
  refine wp_seq_k (fun K4 hK4 => ?_)
  refine wp_region_lit ?_
  refine l_e rfl (fun K hK => ?_)
  refine e_alloc (zv := .slice none 0 0) hS3 (by kernel_rfl) (fun b5 w5 (hS5 : St _ _ [.blk b5 (.cells #[.slice none 0 0] 29), .blk b3 (.cells #[.int .i64 most] 3), .blk b2 (.cells #[.slice at_ to.length ct] 23)] _) => ?_)
  clear hS3
  refine hK _ _ ?_; clear hK K
  refine l_nil ?_
  refine hK4 _ _ ?_
  refine wp_seq_k (fun K6 hK6 => ?_)
  refine wp_seq_k (fun K7 hK7 => ?_)
  refine wp_region_lit ?_
  refine l_q rfl rfl (q_moveP rfl) ?_
  refine l_q rfl rfl (q_peq rfl (by kernel_rfl)) ?_
  refine l_q rfl rfl (q_moveB rfl) ?_
  refine l_on rfl rfl rfl ?_
  refine l_q rfl rfl (q_load1 rfl (by kernel_rfl) (hS5.cell (i := 1) rfl rfl)) ?_
  refine l_on rfl rfl rfl ?_
  refine l_q rfl rfl (q_lss rfl rfl) ?_
  refine l_q rfl rfl (q_pickF rfl rfl rfl) ?_
  refine l_nil ?_
  refine hK7 _ _ ?_
  refine c_cond rfl (fun hc8 => ?_) (fun hc8 => ?_)
  ·
    have hc8b := hc8
    try simp only [decide_eq_true_eq, decide_eq_false_iff_not, Bool.not_eq_true', Bool.not_eq_false', Bool.and_eq_true, Bool.or_eq_true, Int.not_lt, Int.not_le, ne_eq, Decidable.not_not] at hc8
    refine wp_seq_k (fun K9 hK9 => ?_)
    refine wp_region_lit ?_
    refine l_q rfl rfl (q_assignS rfl) ?_
    refine l_nil ?_
    refine hK9 _ _ ?_
    refine wp_ret ?_
    refine c_ret1M rfl rfl ?_
    have hS10 : St _ _ [] _ := hS5.only 0; clear hS5
    have hr0 : rangeB (ab ps) fr to most.toNat = [] := by unfold rangeB; rw [show most.toNat = 0 from by omega]; rfl
    exact ⟨_, _, rfl, ⟨none, 0, [], rfl, rfl, hr0.symm⟩, (hS10.drop.pk_nil).ow_nil 41 2⟩
  ·
    have hc8b := hc8
    try simp only [decide_eq_true_eq, decide_eq_false_iff_not, Bool.not_eq_true', Bool.not_eq_false', Bool.and_eq_true, Bool.or_eq_true, Int.not_lt, Int.not_le, ne_eq, Decidable.not_not] at hc8
    refine wp_skip ?_
    refine hK6 _ _ ?_
    refine wp_seq_k (fun K11 hK11 => ?_)
    refine wp_seq_k (fun K12 hK12 => ?_)
    refine wp_region_lit ?_
    refine l_q rfl rfl (q_moveP rfl) ?_
    refine l_q rfl rfl (q_moveS rfl) ?_
    refine l_e rfl (fun K hK => ?_)
    refine e_call (by kernel_rfl) (from_ok _ _ _ _ _) rfl (after_N hS5 (fun v13 G13 w13 hv13 hS13 => ?_))
    clear hS5
    obtain ⟨ba13, bb13, rfl, rfl⟩ := hv13
    have hS14 : St _ _ [.blk bb13 (.cells #[.slice af fr.length cf] 23), .blk ba13 (.cells #[pV k] 25), .blk b5 (.cells #[.slice none 0 0] 29), .blk b3 (.cells #[.int .i64 most] 3), .blk b2 (.cells #[.slice at_ to.length ct] 23)] _ := hS13; clear hS13
    refine hK _ _ ?_; clear hK K
    refine l_nil ?_
    refine hK12 _ _ ?_
    refine wp_block ?_
    have hS15 := hS14.fr2; clear hS14
    have hX0 := St.begin (Γ := [.blk b5 (.cells #[.slice none 0 0] 29)]) hS15
    have hgb := St.gbase hS15 (i := 0) rfl
    have hTRb := hTR.mono hgb
    have hb1 := St.gblk hS15 (i := 0) (j := 2) rfl rfl (by decide)
    have hb2 := St.gblk hS15 (i := 0) (j := 1) rfl rfl (by decide)
    have hbm := St.gblk hS15 (i := 0) (j := 3) rfl rfl (by decide)
    have hbt := St.gblk hS15 (i := 0) (j := 4) rfl rfl (by decide)
    have hI := own_st (α := ESub ps) (w0 := w13) (D := (owns [.blk b5 (.cells #[.slice none 0 0] 29)])) (g := gbx b5 w13) (B := w13.heap.size) (φ := fun (x : Option Addr × Nat × List En) pre => RGo to most.toNat (pre.map fun q => q.1.kv) (x.2.2.map En.kv)) (Γ := fun x => [.blk b5 (.cells #[.slice x.1 x.2.2.length x.2.1] 29), .ow 41 2 x.1 x.2.2.length x.2.1 (List.flatMap en x.2.2), .pk (epk x.2.2)]) (Nat.le_refl _) gbx_lt (fun x W h => h.cels (gx_isC x))
    have hIx := fun c : Code => own_st (α := ESub ps) (w0 := w13) (D := (owns [.blk b5 (.cells #[.slice none 0 0] 29)])) (g := gbx b5 w13) (B := w13.heap.size) (φ := fun (x : Option Addr × Nat × List En) pre => c = .exit 0 ∧ RDone to most.toNat (pre.map fun q => q.1.kv) (x.2.2.map En.kv)) (Γ := fun x => [.blk b5 (.cells #[.slice x.1 x.2.2.length x.2.1] 29), .ow 41 2 x.1 x.2.2.length x.2.1 (List.flatMap en x.2.2), .pk (epk x.2.2)]) (Nat.le_refl _) gbx_lt (fun x W h => h.cels (gx_isC x))
    refine rf_own (t := 10) (α := ESub ps) (gf := 84) (lb := #[.pointer (some ⟨ba13, 0, none⟩), .pointer (some ⟨bb13, 0, none⟩)]) (enc := fun x => .agg (en x.1).toArray) (arr := fun x => (en x.1).toArray) (T := 41) (Kp := Kg (gbx b5 w13)) (S := SeqS ps fr) (Sp := SeqP ps fr) (N := (flat ps).length + 1) rfl (fun args w => run_callFunc (by kernel_rfl : callB Try.prog 84 = true) args) (from1_stops ps hsz fr hfb hfl hTRb hb1 hb2 (hFr.mono hgb) gbx_le gbx_lt) kg_t (fun W l o o' hl => kg_b gbx_lt W l o o' hl) _ _ hI hIx ?_ ?_ ?_ ?_ ?_
    · exact ⟨(none, 0, []), ⟨rfl, (fun c hc => by cases hc), (by show 0 < most.toNat; omega)⟩, ((hX0.pk_nil).ow_nil 41 2).fr2, gbx_le⟩
    · intro l pre x W K ⟨y, hy, hSy, hgy⟩ hK
      have hS0 := St.refl W (fun _ => False)
      refine in_region (nlo_then nlo_false) (by rfl) ?_
      refine l_e rfl (fun K hK => ?_)
      refine e_alloc (zv := .agg #[.slice none 0 0, .slice none 0 0]) hS0 (by kernel_rfl) (fun b16 w16 (hS16 : St _ _ [.blk b16 (.cells #[.slice none 0 0, .slice none 0 0] 41)] _) => ?_)
      clear hS0
      refine hK _ _ ?_; clear hK K
      refine l_e rfl (fun K hK => ?_)
      refine e_storeA hS16 rfl rfl (by kernel_rfl) (by repeat' (first | exact trivial | refine ⟨by first | rfl | assumption | exact one_if (by assumption), ?_⟩)) (i := 0) rfl rfl (fun w17 (hS17 : St _ _ [.blk b16 (.cells #[.slice x.1.ka x.1.kb.length x.1.kc, .slice x.1.ra x.1.rb.length x.1.rc] 41)] _) => ?_)
      clear hS16
      refine hK _ _ ?_; clear hK K
      refine l_nil ?_
      refine hK b16 _ hS17.keepsN (fun q => Gle.trans q hS17.base) ⟨y, hy, hSy.frameR hS17.drop, Gle.trans hgy hS17.base⟩ (hS17.blk (i := 0) rfl)
    · intro l pre x bx W ⟨⟨oad, ocap, es⟩, hy, hSy, hgy⟩ hbx hlt
      dsimp only at hy hSy
      have hS0 := St.refl W (fun _ => False)
      have hxe := hTRb.ok.ent x.1 x.2
      obtain ⟨hg1, hg2, hg3⟩ := hy
      have hel : es.length = pre.length := by have := congrArg List.length hg1; simpa using this
      have hg4 : es.length < most.toNat := by rw [List.length_map] at hg3; exact hg3
      have hbW := hSy.blk (i := 0) rfl
      refine wpIn_block ?_
      refine wpIn_seq_k (fun K18 hK18 => ?_)
      refine wpIn_seq_k (fun K19 hK19 => ?_)
      refine in_region (nlo_then (nlo_then (nlo_block nlo_G))) (by rfl) ?_
      refine l_q rfl rfl (q_load1 rfl (by kernel_rfl) (cell_blk ((Gle.trans hgy hS0.base) _ _ hbt) rfl)) ?_
      refine l_q rfl rfl (q_lenSl (e := 5) rfl (by kernel_rfl)) ?_
      refine l_q rfl rfl (q_gtr rfl rfl) ?_
      refine l_q rfl rfl (q_moveB rfl) ?_
      refine g_splitL (t := 24) rfl (fun hg20 => ?_) (fun hg20 => ?_)
      ·
        have hg20b := hg20
        try simp only [decide_eq_true_eq, decide_eq_false_iff_not, Bool.not_eq_true', Bool.not_eq_false', Bool.and_eq_true, Bool.or_eq_true, Int.not_lt, Int.not_le, ne_eq, Decidable.not_not] at hg20
        have hto0 : to ≠ [] := by rintro rfl; simp at hg20
        refine l_on rfl rfl hg20b ?_
        refine l_q rfl rfl (q_loadA (m := 2) rfl (by kernel_rfl) (by kernel_rfl) (hS0.base _ _ hbx) rfl rfl) ?_
        refine l_on rfl rfl hg20b ?_
        refine l_q rfl rfl (q_load1 rfl (by kernel_rfl) (cell_blk ((Gle.trans hgy hS0.base) _ _ hbt) rfl)) ?_
        refine l_on rfl rfl hg20b ?_
        refine l_e rfl (fun K hK => ?_)
        refine e_call (by kernel_rfl) (ecmp_ok x.1.kb to hxe.1.2.1 htb x.1.kb.length to.length rfl rfl _ _ _ _ _ _ _ _ (hxe.1.1.mono (Gle.trans hgy hS0.base)) ((hTo.mono hgb).mono (Gle.trans hgy hS0.base))) rfl (after_R hS0 (fun v21 w21 hv21 hS21 => ?_))
        clear hS0
        obtain rfl := hv21
        refine hK _ _ ?_; clear hK K
        refine l_on rfl rfl hg20b ?_
        refine l_q rfl rfl (q_geq rfl rfl) ?_
        refine l_q rfl rfl (q_pickT rfl hg20b rfl) ?_
        refine l_nil ?_
        refine hK19 _ _ ?_
        refine ci_cond rfl (fun hc22 => ?_) (fun hc22 => ?_)
        ·
          have hc22b := hc22
          try simp only [decide_eq_true_eq, decide_eq_false_iff_not, Bool.not_eq_true', Bool.not_eq_false', Bool.and_eq_true, Bool.or_eq_true, Int.not_lt, Int.not_le, ne_eq, Decidable.not_not] at hc22
          have hnt : inB to x.1.kv = false := by
            unfold inB
            simp only [Bool.or_eq_false_iff, decide_eq_false_iff_not]
            refine ⟨hto0, ?_⟩
            cases hq : bl x.1.kb to with
            | false => exact hq
            | true => have := cmpL_neg.2 hq; omega
          refine wpIn_exit ?_
          exact And.intro hS21.keepsN ⟨(oad, ocap, es), ⟨rfl, .inl ⟨_, pre.map (fun q => q.1.kv), (by rw [List.map_append]; rfl), hg1, hnt, hg3, hg2⟩⟩, hSy.frameR hS21.drop, Gle.trans hgy hS21.base⟩
        ·
          have hc22b := hc22
          try simp only [decide_eq_true_eq, decide_eq_false_iff_not, Bool.not_eq_true', Bool.not_eq_false', Bool.and_eq_true, Bool.or_eq_true, Int.not_lt, Int.not_le, ne_eq, Decidable.not_not] at hc22
          have hin : inB to x.1.kv = true := by
            have hbt2 : bl x.1.kb to = true := cmpL_neg.1 (by omega)
            unfold inB
            show (decide (to = []) || bl x.1.kb to) = true
            rw [hbt2]; simp
          refine wpIn_skip ?_
          refine hK18 _ _ ?_
          refine wpIn_seq_k (fun K23 hK23 => ?_)
          refine r_anyR (by kernel_rfl) (nlo_then (nlo_block nlo_G)) (by rfl) hS21 (fun w24 hS24 => ?_)
          clear hS21
          refine o_held (i := 0) [4, 5] (fun _ _ => trivial) rfl rfl (by kernel_rfl) (goes0 rfl) (QOk.then (QOk.inBlock QOk.ownG)) (q_load1 rfl (by kernel_rfl) (cell_blk (hS24.base _ _ hbW) rfl)) ?_
          refine o_held (i := 1) [2, 3, 4, 5] (fun j w => ⟨(fun _ _ => trivial) j w, fun _ h => h⟩) rfl rfl (by kernel_rfl) (goes0 rfl) (QOk.then (QOk.inBlock QOk.ownG)) (q_loadA (m := 2) rfl (by kernel_rfl) (by kernel_rfl) (hS24.base _ _ hbx) rfl rfl) ?_
          refine o_eff (i := 2) (by kernel_rfl) rfl (goes0 rfl) (fun K hK => ?_)
          refine e_call (by kernel_rfl) (copied_ok x.1 _ (EOk.mono hxe (Gle.trans hgy hS24.base))) rfl (after_N hS24 (fun v25 G25 w25 hv25 hS25 => ?_))
          clear hS24
          obtain ⟨c25, hck25, hcr25, rfl, rfl⟩ := hv25
          have hS26 : St _ _ [.ow 5 1 c25.ka c25.kb.length c25.kc (bv c25.kb), .ow 5 1 c25.ra c25.rb.length c25.rc (bv c25.rb)] _ := hS25; clear hS25
          refine hK _ _ ⟨⟨trivial, fun _ _ => by first | exact q_load1 rfl (by kernel_rfl) (cell_blk (hS26.base _ _ hbW) rfl)⟩, fun h => absurd h (by decide)⟩ ?_; clear hK K
          refine o_eff (i := 3) (by kernel_rfl) rfl (goes0 rfl) (fun K hK => ?_)
          refine e_buildSliceA (e := 41) (m := 2) (zv := .agg #[.slice none 0 0, .slice none 0 0]) hS26 (by kernel_rfl) (by kernel_rfl) (by kernel_rfl) rfl rfl rfl rfl (fun b27 w27 (hS27 : St _ _ [.blk b27 (.cells #[.slice c25.ka c25.kb.length c25.kc, .slice c25.ra c25.rb.length c25.rc] 41), .ow 5 1 c25.ka c25.kb.length c25.kc (bv c25.kb), .ow 5 1 c25.ra c25.rb.length c25.rc (bv c25.rb)] _) => ?_)
          clear hS26
          have hS27o : St _ _ [.ow 41 2 (some ⟨b27, 0, none⟩) 1 1 (List.flatMap en [c25]), .ow 5 1 c25.ka c25.kb.length c25.kc (bv c25.kb), .ow 5 1 c25.ra c25.rb.length c25.rc (bv c25.rb)] _ := hS27.blkOw' (i := 0) (m := 1) (size := 2) (xs := List.flatMap en [c25]) rfl rfl rfl (by decide); clear hS27
          refine hK _ _ ⟨⟨trivial, fun _ _ => by first | exact q_load1 rfl (by kernel_rfl) (cell_blk (hS27o.base _ _ hbW) rfl)⟩, fun h => absurd h (by decide)⟩ ?_; clear hK K
          refine o_eff (i := 4) (by kernel_rfl) rfl (goes0 rfl) (fun K hK => ?_)
          have hA28 := hSy.frameN hS27o
          have hkN := hS27o.keepsN (B := w13.heap.size)
          have hrog := Rog.moreN (rog_of hSy) hS27o
          have hcel := hA28.cels (gx_isC4 (x := (oad, ocap, es)) isC_ow isC_ow isC_ow)
          have hS28 : St _ _ [.ow 41 2 (some ⟨b27, 0, none⟩) 1 1 (List.flatMap en [c25]), .ow 5 1 c25.ka c25.kb.length c25.kc (bv c25.kb), .ow 5 1 c25.ra c25.rb.length c25.rc (bv c25.rb), .blk b5 (.cells #[.slice oad es.length ocap] 29), .ow 41 2 oad es.length ocap (List.flatMap en es), .pk (epk es)] _ := St.begin (F := []) (by rw [List.append_nil]; exact hA28)
          refine e_app (e := 41) (size := 2) (bytes := 48) (i := 4) (m' := (es ++ [c25]).length) (by kernel_rfl) hS28 rfl rfl rfl (SlG.src (e := 41) (by kernel_rfl) (hS28.owG (i := 0) rfl) ((rows_len (c := en) (m := 2) (fun _ => rfl) _).trans (by first | rfl | (simp only [List.length_append, List.length_map, List.length_cons, List.length_nil, List.length_take, List.length_drop, List.length_set]; done) | (simp only [List.length_append, List.length_map, List.length_cons, List.length_nil, List.length_take, List.length_drop, List.length_set]; omega) | omega)) (by decide) (rows_one en_ones)) (by first | omega | (simp only [List.length_append, List.length_map, List.length_cons, List.length_nil, List.length_take, List.length_drop, List.length_set] <;> omega) | (simp; done)) rows_app (by first | omega | (simp only [maxLen, List.length_append, List.length_map, List.length_cons, List.length_nil, List.length_take, List.length_drop, List.length_set] <;> omega) | (simp only [maxLen]; omega)) (by first | omega | (simp only [List.length_append, List.length_map, List.length_cons, List.length_nil, List.length_take, List.length_drop, List.length_set] <;> omega)) (fun ad29 cp29 w29 (hS29 : St _ _ [.ow 41 2 (some ⟨b27, 0, none⟩) 1 1 (List.flatMap en [c25]), .ow 5 1 c25.ka c25.kb.length c25.kc (bv c25.kb), .ow 5 1 c25.ra c25.rb.length c25.rc (bv c25.rb), .blk b5 (.cells #[.slice oad es.length ocap] 29), .ow 41 2 ad29 ((es ++ [c25]).length) cp29 (List.flatMap en (es ++ [c25])), .pk (epk es)] _) => ?_)
          clear hS28
          refine hK _ _ ⟨⟨trivial, fun h => absurd h (by decide)⟩, fun h => absurd h (by decide)⟩ ?_; clear hK K
          refine o_eff (i := 5) (by kernel_rfl) rfl (goes0 rfl) (fun K hK => ?_)
          refine e_store1 hS29 rfl rfl (by kernel_rfl) (by first | rfl | assumption) (i := 3) rfl rfl (fun w30 (hS30 : St _ _ [.ow 41 2 (some ⟨b27, 0, none⟩) 1 1 (List.flatMap en [c25]), .ow 5 1 c25.ka c25.kb.length c25.kc (bv c25.kb), .ow 5 1 c25.ra c25.rb.length c25.rc (bv c25.rb), .blk b5 (.cells #[.slice ad29 ((es ++ [c25]).length) cp29] 29), .ow 41 2 ad29 ((es ++ [c25]).length) cp29 (List.flatMap en (es ++ [c25])), .pk (epk es)] _) => ?_)
          clear hS29
          refine hK _ _ ⟨⟨trivial, fun h => absurd h (by decide)⟩, fun h => absurd h (by decide)⟩ ?_; clear hK K
          refine o_done (by kernel_rfl) ?_
          refine hK23 _ _ ?_
          refine wpIn_seq_k (fun K31 hK31 => ?_)
          refine in_region (nlo_then (nlo_block nlo_G)) (by rfl) ?_
          refine l_q rfl rfl (q_load1 rfl (by kernel_rfl) (hS30.cell (i := 3) rfl rfl)) ?_
          refine l_q rfl rfl (q_lenSl (e := 41) rfl (by kernel_rfl)) ?_
          refine l_q rfl rfl (q_load1 rfl (by kernel_rfl) (cell_blk ((hrog.le hS30) _ _ hbm) rfl)) ?_
          refine l_q rfl rfl (q_eql rfl rfl) ?_
          refine l_nil ?_
          refine hK31 _ _ ?_
          refine ci_cond rfl (fun hc32 => ?_) (fun hc32 => ?_)
          ·
            have hc32b := hc32
            try simp only [decide_eq_true_eq, decide_eq_false_iff_not, Bool.not_eq_true', Bool.not_eq_false', Bool.and_eq_true, Bool.or_eq_true, Int.not_lt, Int.not_le, ne_eq, Decidable.not_not] at hc32
            refine wpIn_exit ?_
            have hS34 := hS30.fr5; clear hS30
            have hS35 := hS34.fr3; clear hS34
            have hS36 := hS35.fr3; clear hS35
            have hS37 := hS36.fr5; clear hS36
            have hS38 := hS37.fr5; clear hS37
            have hS39 : St _ _ [.blk b5 (.cells #[.slice ad29 ((es ++ [c25]).length) cp29] 29), .ow 41 2 ad29 ((es ++ [c25]).length) cp29 (List.flatMap en (es ++ [c25])), .ow 5 1 c25.ka c25.kb.length c25.kc (bv c25.kb), .ow 5 1 c25.ra c25.rb.length c25.rc (bv c25.rb), .pk (epk es)] _ := hS38.only 5; clear hS38
            have hE33 := St.frame (F := []) (by rw [List.append_nil]; exact hA28) hS39
            rw [List.append_nil] at hE33
            have hZ33 := epk_snoc hE33
            have hkZ : KeepsFrom w13.heap.size W _ := hkN.trans (St.keeps hS39 hcel)
            have hkv : (es ++ [c25]).map En.kv = (pre ++ [x]).map (fun q => q.1.kv) := by rw [List.map_append, List.map_append, hg1]; simp [En.kv, hck25, hcr25]
            have hto2 : ∀ c ∈ (es ++ [c25]).map En.kv, inB to c = true := by
              intro c hc
              rw [List.map_append] at hc
              rcases List.mem_append.1 hc with hc | hc
              · exact hg2 c hc
              · simp only [List.map_cons, List.map_nil, List.mem_singleton] at hc; subst hc; simpa [En.kv, inB, hck25] using hin
            exact And.intro hkZ ⟨(_, _, (es ++ [c25])), ⟨rfl, .inr ⟨hkv, (by rw [List.length_map]; show (es ++ [c25]).length = _; omega), hto2⟩⟩, hZ33, hrog.le hS39⟩
          ·
            have hc32b := hc32
            try simp only [decide_eq_true_eq, decide_eq_false_iff_not, Bool.not_eq_true', Bool.not_eq_false', Bool.and_eq_true, Bool.or_eq_true, Int.not_lt, Int.not_le, ne_eq, Decidable.not_not] at hc32
            refine wpIn_skip ?_
            have hS41 := hS30.fr5; clear hS30
            have hS42 := hS41.fr3; clear hS41
            have hS43 := hS42.fr3; clear hS42
            have hS44 := hS43.fr5; clear hS43
            have hS45 := hS44.fr5; clear hS44
            have hS46 : St _ _ [.blk b5 (.cells #[.slice ad29 ((es ++ [c25]).length) cp29] 29), .ow 41 2 ad29 ((es ++ [c25]).length) cp29 (List.flatMap en (es ++ [c25])), .ow 5 1 c25.ka c25.kb.length c25.kc (bv c25.kb), .ow 5 1 c25.ra c25.rb.length c25.rc (bv c25.rb), .pk (epk es)] _ := hS45.only 5; clear hS45
            have hE40 := St.frame (F := []) (by rw [List.append_nil]; exact hA28) hS46
            rw [List.append_nil] at hE40
            have hZ40 := epk_snoc hE40
            have hkZ : KeepsFrom w13.heap.size W _ := hkN.trans (St.keeps hS46 hcel)
            have hkv : (es ++ [c25]).map En.kv = (pre ++ [x]).map (fun q => q.1.kv) := by rw [List.map_append, List.map_append, hg1]; simp [En.kv, hck25, hcr25]
            have hto2 : ∀ c ∈ (es ++ [c25]).map En.kv, inB to c = true := by
              intro c hc
              rw [List.map_append] at hc
              rcases List.mem_append.1 hc with hc | hc
              · exact hg2 c hc
              · simp only [List.map_cons, List.map_nil, List.mem_singleton] at hc; subst hc; simpa [En.kv, inB, hck25] using hin
            exact And.intro hkZ ⟨fun _ => hrog.le hS46, ⟨(_, _, (es ++ [c25])), ⟨hkv, hto2, (by rw [List.length_map]; exact (List.length_append ▸ (show es.length + 1 < most.toNat by have h9 : (es ++ [c25]).length = es.length + 1 := List.length_append; omega)))⟩, hZ40, hrog.le hS46⟩⟩
      ·
        have hg20b := hg20
        try simp only [decide_eq_true_eq, decide_eq_false_iff_not, Bool.not_eq_true', Bool.not_eq_false', Bool.and_eq_true, Bool.or_eq_true, Int.not_lt, Int.not_le, ne_eq, Decidable.not_not] at hg20
        have hin : inB to x.1.kv = true := by unfold inB; rw [show to = [] from List.eq_nil_of_length_eq_zero (by omega)]; rfl
        refine l_off rfl rfl rfl hg20b ?_
        refine l_off rfl rfl rfl hg20b ?_
        refine l_off rfl rfl rfl hg20b ?_
        refine l_off rfl rfl rfl hg20b ?_
        refine l_q rfl rfl (q_pickF rfl hg20b rfl) ?_
        refine l_nil ?_
        refine hK19 _ _ ?_
        refine ci_condF rfl rfl ?_
        refine wpIn_skip ?_
        refine hK18 _ _ ?_
        refine wpIn_seq_k (fun K48 hK48 => ?_)
        refine r_anyR (by kernel_rfl) (nlo_then (nlo_block nlo_G)) (by rfl) hS0 (fun w49 hS49 => ?_)
        clear hS0
        refine o_held (i := 0) [4, 5] (fun _ _ => trivial) rfl rfl (by kernel_rfl) (goes0 rfl) (QOk.then (QOk.inBlock QOk.ownG)) (q_load1 rfl (by kernel_rfl) (cell_blk (hS49.base _ _ hbW) rfl)) ?_
        refine o_held (i := 1) [2, 3, 4, 5] (fun j w => ⟨(fun _ _ => trivial) j w, fun _ h => h⟩) rfl rfl (by kernel_rfl) (goes0 rfl) (QOk.then (QOk.inBlock QOk.ownG)) (q_loadA (m := 2) rfl (by kernel_rfl) (by kernel_rfl) (hS49.base _ _ hbx) rfl rfl) ?_
        refine o_eff (i := 2) (by kernel_rfl) rfl (goes0 rfl) (fun K hK => ?_)
        refine e_call (by kernel_rfl) (copied_ok x.1 _ (EOk.mono hxe (Gle.trans hgy hS49.base))) rfl (after_N hS49 (fun v50 G50 w50 hv50 hS50 => ?_))
        clear hS49
        obtain ⟨c50, hck50, hcr50, rfl, rfl⟩ := hv50
        have hS51 : St _ _ [.ow 5 1 c50.ka c50.kb.length c50.kc (bv c50.kb), .ow 5 1 c50.ra c50.rb.length c50.rc (bv c50.rb)] _ := hS50; clear hS50
        refine hK _ _ ⟨⟨trivial, fun _ _ => by first | exact q_load1 rfl (by kernel_rfl) (cell_blk (hS51.base _ _ hbW) rfl)⟩, fun h => absurd h (by decide)⟩ ?_; clear hK K
        refine o_eff (i := 3) (by kernel_rfl) rfl (goes0 rfl) (fun K hK => ?_)
        refine e_buildSliceA (e := 41) (m := 2) (zv := .agg #[.slice none 0 0, .slice none 0 0]) hS51 (by kernel_rfl) (by kernel_rfl) (by kernel_rfl) rfl rfl rfl rfl (fun b52 w52 (hS52 : St _ _ [.blk b52 (.cells #[.slice c50.ka c50.kb.length c50.kc, .slice c50.ra c50.rb.length c50.rc] 41), .ow 5 1 c50.ka c50.kb.length c50.kc (bv c50.kb), .ow 5 1 c50.ra c50.rb.length c50.rc (bv c50.rb)] _) => ?_)
        clear hS51
        have hS52o : St _ _ [.ow 41 2 (some ⟨b52, 0, none⟩) 1 1 (List.flatMap en [c50]), .ow 5 1 c50.ka c50.kb.length c50.kc (bv c50.kb), .ow 5 1 c50.ra c50.rb.length c50.rc (bv c50.rb)] _ := hS52.blkOw' (i := 0) (m := 1) (size := 2) (xs := List.flatMap en [c50]) rfl rfl rfl (by decide); clear hS52
        refine hK _ _ ⟨⟨trivial, fun _ _ => by first | exact q_load1 rfl (by kernel_rfl) (cell_blk (hS52o.base _ _ hbW) rfl)⟩, fun h => absurd h (by decide)⟩ ?_; clear hK K
        refine o_eff (i := 4) (by kernel_rfl) rfl (goes0 rfl) (fun K hK => ?_)
        have hA53 := hSy.frameN hS52o
        have hkN := hS52o.keepsN (B := w13.heap.size)
        have hrog := Rog.moreN (rog_of hSy) hS52o
        have hcel := hA53.cels (gx_isC4 (x := (oad, ocap, es)) isC_ow isC_ow isC_ow)
        have hS53 : St _ _ [.ow 41 2 (some ⟨b52, 0, none⟩) 1 1 (List.flatMap en [c50]), .ow 5 1 c50.ka c50.kb.length c50.kc (bv c50.kb), .ow 5 1 c50.ra c50.rb.length c50.rc (bv c50.rb), .blk b5 (.cells #[.slice oad es.length ocap] 29), .ow 41 2 oad es.length ocap (List.flatMap en es), .pk (epk es)] _ := St.begin (F := []) (by rw [List.append_nil]; exact hA53)
        refine e_app (e := 41) (size := 2) (bytes := 48) (i := 4) (m' := (es ++ [c50]).length) (by kernel_rfl) hS53 rfl rfl rfl (SlG.src (e := 41) (by kernel_rfl) (hS53.owG (i := 0) rfl) ((rows_len (c := en) (m := 2) (fun _ => rfl) _).trans (by first | rfl | (simp only [List.length_append, List.length_map, List.length_cons, List.length_nil, List.length_take, List.length_drop, List.length_set]; done) | (simp only [List.length_append, List.length_map, List.length_cons, List.length_nil, List.length_take, List.length_drop, List.length_set]; omega) | omega)) (by decide) (rows_one en_ones)) (by first | omega | (simp only [List.length_append, List.length_map, List.length_cons, List.length_nil, List.length_take, List.length_drop, List.length_set] <;> omega) | (simp; done)) rows_app (by first | omega | (simp only [maxLen, List.length_append, List.length_map, List.length_cons, List.length_nil, List.length_take, List.length_drop, List.length_set] <;> omega) | (simp only [maxLen]; omega)) (by first | omega | (simp only [List.length_append, List.length_map, List.length_cons, List.length_nil, List.length_take, List.length_drop, List.length_set] <;> omega)) (fun ad54 cp54 w54 (hS54 : St _ _ [.ow 41 2 (some ⟨b52, 0, none⟩) 1 1 (List.flatMap en [c50]), .ow 5 1 c50.ka c50.kb.length c50.kc (bv c50.kb), .ow 5 1 c50.ra c50.rb.length c50.rc (bv c50.rb), .blk b5 (.cells #[.slice oad es.length ocap] 29), .ow 41 2 ad54 ((es ++ [c50]).length) cp54 (List.flatMap en (es ++ [c50])), .pk (epk es)] _) => ?_)
        clear hS53
        refine hK _ _ ⟨⟨trivial, fun h => absurd h (by decide)⟩, fun h => absurd h (by decide)⟩ ?_; clear hK K
        refine o_eff (i := 5) (by kernel_rfl) rfl (goes0 rfl) (fun K hK => ?_)
        refine e_store1 hS54 rfl rfl (by kernel_rfl) (by first | rfl | assumption) (i := 3) rfl rfl (fun w55 (hS55 : St _ _ [.ow 41 2 (some ⟨b52, 0, none⟩) 1 1 (List.flatMap en [c50]), .ow 5 1 c50.ka c50.kb.length c50.kc (bv c50.kb), .ow 5 1 c50.ra c50.rb.length c50.rc (bv c50.rb), .blk b5 (.cells #[.slice ad54 ((es ++ [c50]).length) cp54] 29), .ow 41 2 ad54 ((es ++ [c50]).length) cp54 (List.flatMap en (es ++ [c50])), .pk (epk es)] _) => ?_)
        clear hS54
        refine hK _ _ ⟨⟨trivial, fun h => absurd h (by decide)⟩, fun h => absurd h (by decide)⟩ ?_; clear hK K
        refine o_done (by kernel_rfl) ?_
        refine hK48 _ _ ?_
        refine wpIn_seq_k (fun K56 hK56 => ?_)
        refine in_region (nlo_then (nlo_block nlo_G)) (by rfl) ?_
        refine l_q rfl rfl (q_load1 rfl (by kernel_rfl) (hS55.cell (i := 3) rfl rfl)) ?_
        refine l_q rfl rfl (q_lenSl (e := 41) rfl (by kernel_rfl)) ?_
        refine l_q rfl rfl (q_load1 rfl (by kernel_rfl) (cell_blk ((hrog.le hS55) _ _ hbm) rfl)) ?_
        refine l_q rfl rfl (q_eql rfl rfl) ?_
        refine l_nil ?_
        refine hK56 _ _ ?_
        refine ci_cond rfl (fun hc57 => ?_) (fun hc57 => ?_)
        ·
          have hc57b := hc57
          try simp only [decide_eq_true_eq, decide_eq_false_iff_not, Bool.not_eq_true', Bool.not_eq_false', Bool.and_eq_true, Bool.or_eq_true, Int.not_lt, Int.not_le, ne_eq, Decidable.not_not] at hc57
          refine wpIn_exit ?_
          have hS59 := hS55.fr5; clear hS55
          have hS60 := hS59.fr3; clear hS59
          have hS61 := hS60.fr3; clear hS60
          have hS62 := hS61.fr5; clear hS61
          have hS63 := hS62.fr5; clear hS62
          have hS64 : St _ _ [.blk b5 (.cells #[.slice ad54 ((es ++ [c50]).length) cp54] 29), .ow 41 2 ad54 ((es ++ [c50]).length) cp54 (List.flatMap en (es ++ [c50])), .ow 5 1 c50.ka c50.kb.length c50.kc (bv c50.kb), .ow 5 1 c50.ra c50.rb.length c50.rc (bv c50.rb), .pk (epk es)] _ := hS63.only 5; clear hS63
          have hE58 := St.frame (F := []) (by rw [List.append_nil]; exact hA53) hS64
          rw [List.append_nil] at hE58
          have hZ58 := epk_snoc hE58
          have hkZ : KeepsFrom w13.heap.size W _ := hkN.trans (St.keeps hS64 hcel)
          have hkv : (es ++ [c50]).map En.kv = (pre ++ [x]).map (fun q => q.1.kv) := by rw [List.map_append, List.map_append, hg1]; simp [En.kv, hck50, hcr50]
          have hto2 : ∀ c ∈ (es ++ [c50]).map En.kv, inB to c = true := by
            intro c hc
            rw [List.map_append] at hc
            rcases List.mem_append.1 hc with hc | hc
            · exact hg2 c hc
            · simp only [List.map_cons, List.map_nil, List.mem_singleton] at hc; subst hc; simpa [En.kv, inB, hck50] using hin
          exact And.intro hkZ ⟨(_, _, (es ++ [c50])), ⟨rfl, .inr ⟨hkv, (by rw [List.length_map]; show (es ++ [c50]).length = _; omega), hto2⟩⟩, hZ58, hrog.le hS64⟩
        ·
          have hc57b := hc57
          try simp only [decide_eq_true_eq, decide_eq_false_iff_not, Bool.not_eq_true', Bool.not_eq_false', Bool.and_eq_true, Bool.or_eq_true, Int.not_lt, Int.not_le, ne_eq, Decidable.not_not] at hc57
          refine wpIn_skip ?_
          have hS66 := hS55.fr5; clear hS55
          have hS67 := hS66.fr3; clear hS66
          have hS68 := hS67.fr3; clear hS67
          have hS69 := hS68.fr5; clear hS68
          have hS70 := hS69.fr5; clear hS69
          have hS71 : St _ _ [.blk b5 (.cells #[.slice ad54 ((es ++ [c50]).length) cp54] 29), .ow 41 2 ad54 ((es ++ [c50]).length) cp54 (List.flatMap en (es ++ [c50])), .ow 5 1 c50.ka c50.kb.length c50.kc (bv c50.kb), .ow 5 1 c50.ra c50.rb.length c50.rc (bv c50.rb), .pk (epk es)] _ := hS70.only 5; clear hS70
          have hE65 := St.frame (F := []) (by rw [List.append_nil]; exact hA53) hS71
          rw [List.append_nil] at hE65
          have hZ65 := epk_snoc hE65
          have hkZ : KeepsFrom w13.heap.size W _ := hkN.trans (St.keeps hS71 hcel)
          have hkv : (es ++ [c50]).map En.kv = (pre ++ [x]).map (fun q => q.1.kv) := by rw [List.map_append, List.map_append, hg1]; simp [En.kv, hck50, hcr50]
          have hto2 : ∀ c ∈ (es ++ [c50]).map En.kv, inB to c = true := by
            intro c hc
            rw [List.map_append] at hc
            rcases List.mem_append.1 hc with hc | hc
            · exact hg2 c hc
            · simp only [List.map_cons, List.map_nil, List.mem_singleton] at hc; subst hc; simpa [En.kv, inB, hck50] using hin
          exact And.intro hkZ ⟨fun _ => hrog.le hS71, ⟨(_, _, (es ++ [c50])), ⟨hkv, hto2, (by rw [List.length_map]; exact (List.length_append ▸ (show es.length + 1 < most.toNat by have h9 : (es ++ [c50]).length = es.length + 1 := List.length_append; omega)))⟩, hZ65, hrog.le hS71⟩⟩
    · intro Dk xs W hDk hs ⟨⟨oad, ocap, es⟩, hy, hSy, hgy⟩ hd
      have hSy : St _ _ [.blk b5 (.cells #[.slice oad es.length ocap] 29), .ow 41 2 oad es.length ocap (List.flatMap en es), .pk (epk es)] _ := hSy
      dsimp only at hy
      refine hK11 _ _ ?_
      refine wp_seq_k (fun Kz hKz => ?_)
      refine wp_region_lit ?_
      refine lm_q rfl rfl (q_load1 rfl (by kernel_rfl) (hSy.cell (i := 0) rfl rfl)) ?_
      refine lm_q rfl rfl (q_assignS rfl) ?_
      refine lm_nil ?_
      refine hKz _ _ ?_
      refine wp_ret ?_
      refine c_ret1K (fn := Try.f17) rfl rfl hd ?_
      have hF := (hSy.abide (hSy.cels (gx_isC (oad, ocap, es))) (grownBy_putObj' W Dk (.deferred none)) (fun r e => by cases e; exact ⟨hDk, _, hd, rfl⟩))
      have hSf : St w (fun _ => False) ([.blk b5 (.cells #[.slice none 0 0] 29)] ++ [_, _, _, _]) w13 := hS15
      have hG := ((St.frame hSf hF).sub ((List.sublist_cons_self _ _).trans (List.Sublist.refl _))).only 2
      have hrg : es.map En.kv = rangeB (ab ps) fr to most.toNat := range_all hTR.ok.pok.srt hs hy
      exact ⟨_, _, rfl, ⟨oad, ocap, es, rfl, rfl, hrg⟩, hG⟩
    · rintro Dk c pre W hDk hs ⟨⟨oad, ocap, es⟩, ⟨rfl, hy⟩, hSy, hgy⟩ hd
      have hSy : St _ _ [.blk b5 (.cells #[.slice oad es.length ocap] 29), .ow 41 2 oad es.length ocap (List.flatMap en es), .pk (epk es)] _ := hSy
      dsimp only at hy
      refine wp_exit ?_
      refine hK11 _ _ ?_
      refine wp_seq_k (fun Kz hKz => ?_)
      refine wp_region_lit ?_
      refine lm_q rfl rfl (q_load1 rfl (by kernel_rfl) (hSy.cell (i := 0) rfl rfl)) ?_
      refine lm_q rfl rfl (q_assignS rfl) ?_
      refine lm_nil ?_
      refine hKz _ _ ?_
      refine wp_ret ?_
      refine c_ret1K (fn := Try.f17) rfl rfl hd ?_
      have hF := (hSy.abide (hSy.cels (gx_isC (oad, ocap, es))) (grownBy_putObj' W Dk (.deferred none)) (fun r e => by cases e; exact ⟨hDk, _, hd, rfl⟩))
      have hSf : St w (fun _ => False) ([.blk b5 (.cells #[.slice none 0 0] 29)] ++ [_, _, _, _]) w13 := hS15
      have hG := ((St.frame hSf hF).sub ((List.sublist_cons_self _ _).trans (List.Sublist.refl _))).only 2
      have hrg : es.map En.kv = rangeB (ab ps) fr to most.toNat := range_stop hTR.ok.pok.srt hs hy
      exact ⟨_, _, rfl, ⟨oad, ocap, es, rfl, rfl, hrg⟩, hG⟩

end Go.Proofs.Ytmbbkliekgiolaa
