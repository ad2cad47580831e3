/- law08: ends. -/
import Derived.Test.YtmbbkliekgiolaaTl
import Derived.Test.YtmbbkliekgiolaaH8
set_option linter.unusedVariables false
set_option linter.unusedSimpArgs false
namespace Go.Proofs.Ytmbbkliekgiolaa
open Go.RowKit
theorem St.epkG {w0 w : World} {D : Nat → Prop} {Γ : List Ch} {es : List En} {i : Nat} (h : St w0 D Γ w) (hi : Γ[i]? = some (.pk (epk es))) : ∀ a ∈ es, SlG (hw w) a.ka (bv a.kb) ∧ SlG (hw w) a.ra (bv a.rb) := by
  have h1 : Sat 0 (fun _ => True) (epk es) w := (h.sat.get hi).1
  have key : ∀ ad m cap xs, Ch.ow 5 1 ad m cap xs ∈ epk es → SlG (hw w) ad xs := fun ad m cap xs hc => by
    have h2 := h1.mem _ hc
    have h3 : St w (fun _ => True) [.ow 5 1 ad m cap xs] w := ⟨rfl, rfl, rfl, Nat.le_refl _, fun _ _ _ => rfl, h2.1, fun k hk => ⟨.inl trivial, (h2.2 k hk).2⟩, fun d hd => (by cases hd), trivial⟩
    exact h3.owG (i := 0) rfl
  intro a ha
  exact ⟨key _ _ _ _ (List.mem_flatMap.2 ⟨a, ha, .head _⟩), key _ _ _ _ (List.mem_flatMap.2 ⟨a, ha, .tail _ (.head _)⟩)⟩
def kp (a : En) : Ch := .ow 5 1 a.ka a.kb.length a.kc (bv a.kb)
theorem epk_mid (A B : List En) (a : En) : epk (A ++ a :: B) = (epk A ++ [kp a]) ++ .ow 5 1 a.ra a.rb.length a.rc (bv a.rb) :: epk B := by
  unfold epk
  rw [List.flatMap_append, List.flatMap_cons]
  simp [kp]
theorem epk_take {w0 w : World} {D : Nat → Prop} {Γ : List Ch} {A B : List En} {a : En} (h : St w0 D (.pk (epk (A ++ a :: B)) :: Γ) w) : St w0 D (.ow 5 1 a.ra a.rb.length a.rc (bv a.rb) :: .pk ((epk A ++ [kp a]) ++ epk B) :: Γ) w := by
  rw [epk_mid] at h; exact h.pkTake
theorem epk_put {w0 w : World} {D : Nat → Prop} {Γ : List Ch} {A B : List En} {a : En} {rl : List Nat} (h : St w0 D (.ow 5 1 a.ra a.rb.length a.rc (bv rl) :: .pk ((epk A ++ [kp a]) ++ epk B) :: Γ) w) (hl : rl.length = a.rb.length) : St w0 D (.pk (epk (A ++ (En.mk a.ka a.kc a.kb a.ra a.rc rl) :: B)) :: Γ) w := by
  rw [epk_mid]
  have h2 : St w0 D (.ow 5 1 a.ra rl.length a.rc (bv rl) :: .pk ((epk A ++ [kp a]) ++ epk B) :: Γ) w := by rw [hl]; exact h
  exact h2.pkPut
theorem en_same {A B : List En} {a : En} {rl : List Nat} (hl : rl.length = a.rb.length) : List.flatMap en (A ++ (En.mk a.ka a.kc a.kb a.ra a.rc rl) :: B) = List.flatMap en (A ++ a :: B) := by
  rw [List.flatMap_append, List.flatMap_append, List.flatMap_cons, List.flatMap_cons]
  simp [en, hl]
section
variable {L : List KV} {key : List Nat} {z : Int}
theorem FindR.is (h : FindR L key z) : (getA L key).isSome = decide (0 ≤ z) := by
  rcases h with ⟨rfl, h⟩ | ⟨i, c, rfl, _, _, h⟩
  · rw [h]; rfl
  · rw [h, decide_eq_true (by omega)]; rfl
theorem FindR.pos (h : FindR L key z) (hz : 0 ≤ z) : ∃ (j : Nat) (c : KV), z = (j : Int) ∧ L[j]? = some c ∧ c.1 = key ∧ getA L key = some c.2 := by
  rcases h with ⟨rfl, _⟩ | h
  · omega
  · exact h
theorem FindR.neg (h : FindR L key z) (hz : z < 0) : getA L key = none := by
  rcases h with ⟨_, h⟩ | ⟨i, c, rfl, _⟩
  · exact h
  · omega
theorem lastB_rng {to : List Nat} {n : Nat} (hn : L.length ≤ n) : lastB L to = (rangeB L [] to n).getLast? := by
  rw [rangeB_full hn]
  by_cases ht : to = []
  · subst ht
    rw [lastB_nil]; congr 1
    exact (List.filter_eq_self.2 fun c _ => pF_nil).symm
  · exact lastB_pF ht
theorem rangeB_le {fr to : List Nat} {n : Nat} : (rangeB L fr to n).length ≤ L.length := by
  unfold rangeB
  rw [List.length_take]
  exact Nat.le_trans (Nat.min_le_right _ _) (List.length_filter_le _ _)
theorem last_is2 {M : List KV} {o : Option KV} {a : En} {is : Bool} (h : LastR o a is) (he : o = M.getLast?) : is = decide (0 < M.length) := by
  subst he
  cases M with
  | nil => exact h.1
  | cons e M =>
    unfold LastR at h
    have : (e :: M).getLast? = some ((e :: M).getLast (by simp)) := List.getLast?_eq_some_getLast _
    rw [this] at h
    rw [h.1]; simp
theorem last_eq2 {M : List KV} {o : Option KV} {a : En} {c : KV} {is : Bool} (h : LastR o a is) (he : o = M.getLast?) (hx : M[M.length - 1]? = some c) : a.kb = c.1 ∧ a.rb = c.2 := by
  have h1 : M.getLast? = some c := by rw [List.getLast?_eq_getElem?]; exact hx
  rw [he, h1] at h
  exact ⟨h.2.1, h.2.2⟩
end
attribute [local irreducible] Oper.wp Sem.run Code.wp wpList wpAnyO callFunc execOp Calls
attribute [local irreducible] cmpL putA getA dropA lastB ent inB rangeB pF fits LastR FindR

set_option maxHeartbeats 1000000 in
set_option maxRecDepth 100000 in
theorem ends_ok (k : Nat) (ad : Option Addr) (cap : Nat) (ps : List Pg) (g : Gh) (al : Option Addr) (cl : Nat) (of : Of8) (hT : TOk g ps) (hsz : (flat ps).length ≤ 150) (hoB : Bytes of.fb) (htB : Bytes of.tb) (hof1 : of.fb.length ≤ 40) (hof2 : of.tb.length ≤ 40) (gf gt : Gh) (hoG : SlG gf of.fa (bv of.fb)) (htG : SlG gt of.ta (bv of.tb)) (w : World) (hgf : Rog [tb k ad cap ps, .fz g, .ow 36 2 al ((ab ps).length) cl (List.flatMap re (ab ps))] w gf) (hgt : Rog [tb k ad cap ps, .fz g, .ow 36 2 al ((ab ps).length) cl (List.flatMap re (ab ps))] w gt) (hS : St w (owns [tb k ad cap ps, .fz g, .ow 36 2 al ((ab ps).length) cl (List.flatMap re (ab ps))]) [tb k ad cap ps, .fz g, .ow 36 2 al ((ab ps).length) cl (List.flatMap re (ab ps))] w) : Calls Try.prog 44 #[pV k, .slice al (ab ps).length cl, .agg (of8 of).toArray] w (Post w [tb k ad cap ps, .fz g, .ow 36 2 al ((ab ps).length) cl (List.flatMap re (ab ps))] fun v G => v = .bool true ∧ G = [tb k ad cap ps, .fz g, .ow 36 2 al ((ab ps).length) cl (List.flatMap re (ab ps))]) := by
  have hal : (ab ps).length ≤ 150 := by rw [ab_len]; exact hsz
  refine c_enter Try.func44 rfl rfl rfl ?_
  refine wp_seq_k (fun K1 hK1 => ?_)
  refine wp_region_lit ?_
  refine l_e rfl (fun K hK => ?_)
  refine e_boxA hS rfl (fun b2 w2 (hS2 : St _ _ [.blk b2 (.cells #[.slice of.fa of.fb.length of.fc, .slice of.ta of.tb.length of.tc, .int .i64 of.most] 65), tb k ad cap ps, .fz g, .ow 36 2 al ((ab ps).length) cl (List.flatMap re (ab ps))] _) => ?_)
  clear hS
  refine hK _ _ ?_; clear hK K
  refine l_q rfl rfl (q_assignB rfl) ?_
  refine l_nil ?_
  refine hK1 _ _ ?_
  refine wp_seq_k (fun K3 hK3 => ?_)
  refine wp_region_lit ?_
  refine l_q rfl rfl (q_moveS rfl) ?_
  refine l_q rfl rfl (q_fieldAddr (ft := 23) (o := 1) rfl (by kernel_rfl)) ?_
  refine l_q rfl rfl (q_load1 rfl (by kernel_rfl) (hS2.cell (i := 0) rfl rfl)) ?_
  refine l_q rfl rfl (q_convBS (l := of.tb) rfl (htG.mono (hgt.le hS2)) (by first | omega | (simp only [List.length_append, List.length_map, List.length_cons, List.length_nil, List.length_take, List.length_drop, List.length_set] <;> omega)) (by kernel_rfl) (by kernel_rfl)) ?_
  refine l_e rfl (fun K hK => ?_)
  refine e_call (by kernel_rfl) (rrange_ok (ab ps) (KB.ofAb hT) (by first | omega | (simp only [List.length_append, List.length_map, List.length_cons, List.length_nil, List.length_take, List.length_drop, List.length_set] <;> omega)) _ _ [] of.tb Bytes.nil htB (150 : Int) (by first | decide | omega) (by first | decide | omega) _ (hS2.owG (i := 3) rfl)) rfl (after_N hS2 (fun v4 G4 w4 hv4 hS4 => ?_))
  clear hS2
  obtain ⟨oa4, oc4, rfl, rfl⟩ := hv4
  have hS5 : St _ _ [.ow 36 2 oa4 ((rangeB (ab ps) [] of.tb ((150 : Int)).toNat).length) oc4 (List.flatMap re (rangeB (ab ps) [] of.tb ((150 : Int)).toNat)), .blk b2 (.cells #[.slice of.fa of.fb.length of.fc, .slice of.ta of.tb.length of.tc, .int .i64 of.most] 65), tb k ad cap ps, .fz g, .ow 36 2 al ((ab ps).length) cl (List.flatMap re (ab ps))] _ := hS4; clear hS4
  refine hK _ _ ?_; clear hK K
  have hml : (rangeB (ab ps) [] of.tb ((150 : Int)).toNat).length ≤ (ab ps).length := rangeB_le
  refine l_q rfl rfl (q_assignS rfl) ?_
  refine l_nil ?_
  refine hK3 _ _ ?_
  refine wp_seq_k (fun K6 hK6 => ?_)
  refine wp_region_lit ?_
  refine l_q rfl rfl (q_moveP rfl) ?_
  refine l_q rfl rfl (q_fieldAddr (ft := 23) (o := 1) rfl (by kernel_rfl)) ?_
  refine l_q rfl rfl (q_load1 rfl (by kernel_rfl) (hS5.cell (i := 1) rfl rfl)) ?_
  refine l_e rfl (fun K hK => ?_)
  refine e_call (by kernel_rfl) (last_ok k _ _ ps of.tb htB (by first | omega | (simp only [List.length_append, List.length_map, List.length_cons, List.length_nil, List.length_take, List.length_drop, List.length_set] <;> omega)) of.tb.length (by first | omega | (simp only [List.length_append, List.length_map, List.length_cons, List.length_nil, List.length_take, List.length_drop, List.length_set] <;> omega)) _ _ (by first | omega | (simp only [List.length_append, List.length_map, List.length_cons, List.length_nil, List.length_take, List.length_drop, List.length_set] <;> omega)) _ (hS5.tr (i := 2) (j := 3) rfl rfl hT) (htG.mono (hgt.le hS5))) rfl (after_N hS5 (fun v7 G7 w7 hv7 hS7 => ?_))
  clear hS5
  obtain ⟨c7, is7, rfl, hl7, rfl⟩ := hv7
  have hS8 : St _ _ [.ow 5 1 c7.ka c7.kb.length c7.kc (bv c7.kb), .ow 5 1 c7.ra c7.rb.length c7.rc (bv c7.rb), .ow 36 2 oa4 ((rangeB (ab ps) [] of.tb ((150 : Int)).toNat).length) oc4 (List.flatMap re (rangeB (ab ps) [] of.tb ((150 : Int)).toNat)), .blk b2 (.cells #[.slice of.fa of.fb.length of.fc, .slice of.ta of.tb.length of.tc, .int .i64 of.most] 65), tb k ad cap ps, .fz g, .ow 36 2 al ((ab ps).length) cl (List.flatMap re (ab ps))] _ := hS7; clear hS7
  have hlb7 := hl7.fit hT
  have hlk7 := hlb7.2.2.1
  have hlr7 := hlb7.2.2.2
  have hlo : lastB (ab ps) of.tb = (rangeB (ab ps) [] of.tb ((150 : Int)).toNat).getLast? := lastB_rng hal
  have his := last_is2 hl7 hlo
  refine hK _ _ ?_; clear hK K
  refine l_q rfl rfl (q_move rfl) ?_
  refine l_q rfl rfl (q_extract rfl rfl) ?_
  refine l_q rfl rfl (q_extract rfl rfl) ?_
  refine l_e rfl (fun K hK => ?_)
  refine e_alloc (zv := .agg #[.slice none 0 0, .slice none 0 0]) hS8 (by kernel_rfl) (fun b9 w9 (hS9 : St _ _ [.blk b9 (.cells #[.slice none 0 0, .slice none 0 0] 41), .ow 5 1 c7.ka c7.kb.length c7.kc (bv c7.kb), .ow 5 1 c7.ra c7.rb.length c7.rc (bv c7.rb), .ow 36 2 oa4 ((rangeB (ab ps) [] of.tb ((150 : Int)).toNat).length) oc4 (List.flatMap re (rangeB (ab ps) [] of.tb ((150 : Int)).toNat)), .blk b2 (.cells #[.slice of.fa of.fb.length of.fc, .slice of.ta of.tb.length of.tc, .int .i64 of.most] 65), tb k ad cap ps, .fz g, .ow 36 2 al ((ab ps).length) cl (List.flatMap re (ab ps))] _) => ?_)
  clear hS8
  refine hK _ _ ?_; clear hK K
  refine l_e rfl (fun K hK => ?_)
  refine e_storeA hS9 rfl rfl (by kernel_rfl) (by repeat' (first | exact trivial | refine ⟨by first | rfl | assumption | exact one_if (by assumption), ?_⟩)) (i := 0) rfl rfl (fun w10 (hS10 : St _ _ [.blk b9 (.cells #[.slice c7.ka c7.kb.length c7.kc, .slice c7.ra c7.rb.length c7.rc] 41), .ow 5 1 c7.ka c7.kb.length c7.kc (bv c7.kb), .ow 5 1 c7.ra c7.rb.length c7.rc (bv c7.rb), .ow 36 2 oa4 ((rangeB (ab ps) [] of.tb ((150 : Int)).toNat).length) oc4 (List.flatMap re (rangeB (ab ps) [] of.tb ((150 : Int)).toNat)), .blk b2 (.cells #[.slice of.fa of.fb.length of.fc, .slice of.ta of.tb.length of.tc, .int .i64 of.most] 65), tb k ad cap ps, .fz g, .ow 36 2 al ((ab ps).length) cl (List.flatMap re (ab ps))] _) => ?_)
  clear hS9
  refine hK _ _ ?_; clear hK K
  refine l_q rfl rfl (q_assignB rfl) ?_
  refine l_nil ?_
  refine hK6 _ _ ?_
  refine wp_seq_k (fun K11 hK11 => ?_)
  refine wp_seq_k (fun K12 hK12 => ?_)
  refine r_any (by kernel_rfl) hS10 (fun w13 hS13 => ?_)
  clear hS10
  refine o_pure (i := 0) (fun _ _ => trivial) rfl rfl (by kernel_rfl) (goes0 rfl) (QOk.then (QOk.then QOk.body)) (fun w => q_moveB rfl) ?_
  refine o_pure (i := 1) (fun _ _ => trivial) rfl rfl (by kernel_rfl) (goes0 rfl) (QOk.then (QOk.then QOk.body)) (fun w => q_moveS rfl) ?_
  refine o_pure (i := 2) (fun _ _ => trivial) rfl rfl (by kernel_rfl) (goes0 rfl) (QOk.then (QOk.then QOk.body)) (fun w => q_lenSl (e := 36) rfl (by kernel_rfl)) ?_
  refine o_pure (i := 3) (fun _ _ => trivial) rfl rfl (by kernel_rfl) (goes0 rfl) (QOk.then (QOk.then QOk.body)) (fun w => q_gtr rfl rfl) ?_
  refine o_pure (i := 4) (fun _ _ => trivial) rfl rfl (by kernel_rfl) (goes0 rfl) (QOk.then (QOk.then QOk.body)) (fun w => q_bool_neq rfl rfl (by kernel_rfl)) ?_
  refine o_pure (i := 5) (fun _ _ => trivial) rfl rfl (by kernel_rfl) (goes0 rfl) (QOk.then (QOk.then QOk.body)) (fun w => q_moveB rfl) ?_
  refine o_pure (i := 6) (fun _ _ => trivial) rfl rfl (by kernel_rfl) (goes1 rfl rfl (by rw [his]; simp only [Bool.not_eq_false', beq_iff_eq, decide_eq_decide]; omega)) (QOk.then (QOk.then QOk.body)) (fun w => q_moveB rfl) ?_
  refine o_pure (i := 7) (fun _ _ => trivial) rfl rfl (by kernel_rfl) (goes1 rfl rfl (by rw [his]; simp only [Bool.not_eq_false', beq_iff_eq, decide_eq_decide]; omega)) (QOk.then (QOk.then QOk.body)) (fun w => q_moveB rfl) ?_
  refine g_splitO (t := 34) rfl (fun hg15 => ?_) (fun hg15 => ?_)
  ·
    have hg15b := hg15
    try simp only [decide_eq_true_eq, decide_eq_false_iff_not, Bool.not_eq_true', Bool.not_eq_false', Bool.and_eq_true, Bool.or_eq_true, Int.not_lt, Int.not_le, ne_eq, Decidable.not_not] at hg15
    have hist : is7 = true := by first | exact hg15 | simpa using hg15
    have hpos : 0 < (rangeB (ab ps) [] of.tb ((150 : Int)).toNat).length := of_decide_eq_true (by rw [← his]; exact hist)
    obtain ⟨cl_, hcl_⟩ : ∃ c, (rangeB (ab ps) [] of.tb ((150 : Int)).toNat)[(rangeB (ab ps) [] of.tb ((150 : Int)).toNat).length - 1]? = some c := ⟨_, List.getElem?_eq_getElem (by omega)⟩
    have hle := last_eq2 hl7 hlo hcl_
    have hBc := (KB.rng (KB.ofAb hT)) cl_ (List.mem_of_getElem? hcl_)
    refine o_pure (i := 8) (fun _ _ => trivial) rfl rfl (by kernel_rfl) (goes1 rfl rfl hg15b) (QOk.then (QOk.then QOk.body)) (fun w => q_fieldAddr (ft := 23) (o := 0) rfl (by kernel_rfl)) ?_
    refine o_held (i := 9) [10, 18, 19, 20, 21, 22, 23, 24, 25, 26, 27, 28, 29, 30, 31, 32, 33] (fun _ _ => trivial) rfl rfl (by kernel_rfl) (goes1 rfl rfl hg15b) (QOk.then (QOk.then QOk.body)) (q_load1 rfl (by kernel_rfl) (hS13.cell (i := 0) rfl rfl)) ?_
    refine o_held (i := 10) [18, 19, 20, 21, 22, 23, 24, 25, 26, 27, 28, 29, 30, 31, 32, 33] (fun j w => ⟨(fun _ _ => trivial) j w, fun _ h => h⟩) rfl rfl (by kernel_rfl) (goes1 rfl rfl hg15b) (QOk.then (QOk.then QOk.body)) (q_convBS (l := c7.kb) rfl (hS13.owG (i := 1) rfl) (by first | omega | (simp only [List.length_append, List.length_map, List.length_cons, List.length_nil, List.length_take, List.length_drop, List.length_set] <;> omega)) (by kernel_rfl) (by kernel_rfl)) ?_
    refine o_pure (i := 11) (fun j w => ⟨(fun j w => ⟨(fun _ _ => trivial) j w, fun _ h => h⟩) j w, fun _ h => h⟩) rfl rfl (by kernel_rfl) (goes1 rfl rfl hg15b) (QOk.then (QOk.then QOk.body)) (fun w => q_moveS rfl) ?_
    refine o_pure (i := 12) (fun j w => ⟨(fun j w => ⟨(fun _ _ => trivial) j w, fun _ h => h⟩) j w, fun _ h => h⟩) rfl rfl (by kernel_rfl) (goes1 rfl rfl hg15b) (QOk.then (QOk.then QOk.body)) (fun w => q_moveS rfl) ?_
    refine o_pure (i := 13) (fun j w => ⟨(fun j w => ⟨(fun _ _ => trivial) j w, fun _ h => h⟩) j w, fun _ h => h⟩) rfl rfl (by kernel_rfl) (goes1 rfl rfl hg15b) (QOk.then (QOk.then QOk.body)) (fun w => q_lenSl (e := 36) rfl (by kernel_rfl)) ?_
    refine o_pure (i := 14) (fun j w => ⟨(fun j w => ⟨(fun _ _ => trivial) j w, fun _ h => h⟩) j w, fun _ h => h⟩) rfl rfl (by kernel_rfl) (goes1 rfl rfl hg15b) (QOk.then (QOk.then QOk.body)) (fun w => q_subx rfl rfl (by first | decide | omega) (by first | decide | omega)) ?_
    refine o_pure (i := 15) (fun j w => ⟨(fun j w => ⟨(fun _ _ => trivial) j w, fun _ h => h⟩) j w, fun _ h => h⟩) rfl rfl (by kernel_rfl) (goes1 rfl rfl hg15b) (QOk.then (QOk.then QOk.body)) (fun w => q_ixG (e := 36) (m := 2) (j := ((rangeB (ab ps) [] of.tb ((150 : Int)).toNat).length - 1)) rfl rfl (by kernel_rfl) (by kernel_rfl) (by first | rfl | omega) (by omega) (hS13.owG (i := 3) rfl) (by rw [rows_len (c := re) (m := 2) (fun _ => rfl)]; first | omega | (simp only [List.length_append, List.length_map, List.length_cons, List.length_nil, List.length_take, List.length_drop, List.length_set] <;> omega))) ?_
    refine o_pure (i := 16) (fun j w => ⟨(fun j w => ⟨(fun _ _ => trivial) j w, fun _ h => h⟩) j w, fun _ h => h⟩) rfl rfl (by kernel_rfl) (goes1 rfl rfl hg15b) (QOk.then (QOk.then QOk.body)) (fun w => q_fieldG (ft := 9) (o := 0) rfl (by kernel_rfl)) ?_
    refine o_held (i := 17) [18, 19, 20, 21, 22, 23, 24, 25, 26, 27, 28, 29, 30, 31, 32, 33] (fun j w => ⟨(fun j w => ⟨(fun _ _ => trivial) j w, fun _ h => h⟩) j w, fun _ h => h⟩) rfl rfl (by kernel_rfl) (goes1 rfl rfl hg15b) (QOk.then (QOk.then QOk.body)) (q_load1 rfl (by kernel_rfl) (SlG.cell (hS13.owG (i := 3) rfl) (Gle.refl _) (row_at hcl_ (c := re) (m := 2) (fun _ => rfl) (j := 0) rfl))) ?_
    refine o_pure (i := 18) (fun j w => ⟨(fun j w => ⟨(fun j w => ⟨(fun _ _ => trivial) j w, fun _ h => h⟩) j w, fun _ h => h⟩) j w, fun _ h => h⟩) rfl rfl (by kernel_rfl) (goes1 rfl rfl hg15b) (QOk.then (QOk.then QOk.body)) (fun w => q_str_neq (l := c7.kb) (m := cl_.1) rfl rfl hlb7.1 hBc.1) ?_
    refine o_pure (i := 19) (fun j w => ⟨(fun j w => ⟨(fun j w => ⟨(fun _ _ => trivial) j w, fun _ h => h⟩) j w, fun _ h => h⟩) j w, fun _ h => h⟩) rfl rfl (by kernel_rfl) (goes1 rfl rfl hg15b) (QOk.then (QOk.then QOk.body)) (fun w => q_moveB rfl) ?_
    refine o_pure (i := 20) (fun j w => ⟨(fun j w => ⟨(fun j w => ⟨(fun _ _ => trivial) j w, fun _ h => h⟩) j w, fun _ h => h⟩) j w, fun _ h => h⟩) rfl rfl (by kernel_rfl) (goes1 rfl rfl (by rw [hle.1]; simp)) (QOk.then (QOk.then QOk.body)) (fun w => q_fieldAddr (ft := 23) (o := 1) rfl (by kernel_rfl)) ?_
    refine o_held (i := 21) [22, 30, 31, 32, 33] (fun j w => ⟨(fun j w => ⟨(fun j w => ⟨(fun _ _ => trivial) j w, fun _ h => h⟩) j w, fun _ h => h⟩) j w, fun _ h => h⟩) rfl rfl (by kernel_rfl) (goes1 rfl rfl (by rw [hle.1]; simp)) (QOk.then (QOk.then QOk.body)) (q_load1 rfl (by kernel_rfl) (hS13.cell (i := 0) rfl rfl)) ?_
    refine o_held (i := 22) [30, 31, 32, 33] (fun j w => ⟨(fun j w => ⟨(fun j w => ⟨(fun j w => ⟨(fun _ _ => trivial) j w, fun _ h => h⟩) j w, fun _ h => h⟩) j w, fun _ h => h⟩) j w, fun _ h => h⟩) rfl rfl (by kernel_rfl) (goes1 rfl rfl (by rw [hle.1]; simp)) (QOk.then (QOk.then QOk.body)) (q_convBS (l := c7.rb) rfl (hS13.owG (i := 2) rfl) (by first | omega | (simp only [List.length_append, List.length_map, List.length_cons, List.length_nil, List.length_take, List.length_drop, List.length_set] <;> omega)) (by kernel_rfl) (by kernel_rfl)) ?_
    refine o_pure (i := 23) (fun j w => ⟨(fun j w => ⟨(fun j w => ⟨(fun j w => ⟨(fun j w => ⟨(fun _ _ => trivial) j w, fun _ h => h⟩) j w, fun _ h => h⟩) j w, fun _ h => h⟩) j w, fun _ h => h⟩) j w, fun _ h => h⟩) rfl rfl (by kernel_rfl) (goes1 rfl rfl (by rw [hle.1]; simp)) (QOk.then (QOk.then QOk.body)) (fun w => q_moveS rfl) ?_
    refine o_pure (i := 24) (fun j w => ⟨(fun j w => ⟨(fun j w => ⟨(fun j w => ⟨(fun j w => ⟨(fun _ _ => trivial) j w, fun _ h => h⟩) j w, fun _ h => h⟩) j w, fun _ h => h⟩) j w, fun _ h => h⟩) j w, fun _ h => h⟩) rfl rfl (by kernel_rfl) (goes1 rfl rfl (by rw [hle.1]; simp)) (QOk.then (QOk.then QOk.body)) (fun w => q_moveS rfl) ?_
    refine o_pure (i := 25) (fun j w => ⟨(fun j w => ⟨(fun j w => ⟨(fun j w => ⟨(fun j w => ⟨(fun _ _ => trivial) j w, fun _ h => h⟩) j w, fun _ h => h⟩) j w, fun _ h => h⟩) j w, fun _ h => h⟩) j w, fun _ h => h⟩) rfl rfl (by kernel_rfl) (goes1 rfl rfl (by rw [hle.1]; simp)) (QOk.then (QOk.then QOk.body)) (fun w => q_lenSl (e := 36) rfl (by kernel_rfl)) ?_
    refine o_pure (i := 26) (fun j w => ⟨(fun j w => ⟨(fun j w => ⟨(fun j w => ⟨(fun j w => ⟨(fun _ _ => trivial) j w, fun _ h => h⟩) j w, fun _ h => h⟩) j w, fun _ h => h⟩) j w, fun _ h => h⟩) j w, fun _ h => h⟩) rfl rfl (by kernel_rfl) (goes1 rfl rfl (by rw [hle.1]; simp)) (QOk.then (QOk.then QOk.body)) (fun w => q_subx rfl rfl (by first | decide | omega) (by first | decide | omega)) ?_
    refine o_pure (i := 27) (fun j w => ⟨(fun j w => ⟨(fun j w => ⟨(fun j w => ⟨(fun j w => ⟨(fun _ _ => trivial) j w, fun _ h => h⟩) j w, fun _ h => h⟩) j w, fun _ h => h⟩) j w, fun _ h => h⟩) j w, fun _ h => h⟩) rfl rfl (by kernel_rfl) (goes1 rfl rfl (by rw [hle.1]; simp)) (QOk.then (QOk.then QOk.body)) (fun w => q_ixG (e := 36) (m := 2) (j := ((rangeB (ab ps) [] of.tb ((150 : Int)).toNat).length - 1)) rfl rfl (by kernel_rfl) (by kernel_rfl) (by first | rfl | omega) (by omega) (hS13.owG (i := 3) rfl) (by rw [rows_len (c := re) (m := 2) (fun _ => rfl)]; first | omega | (simp only [List.length_append, List.length_map, List.length_cons, List.length_nil, List.length_take, List.length_drop, List.length_set] <;> omega))) ?_
    refine o_pure (i := 28) (fun j w => ⟨(fun j w => ⟨(fun j w => ⟨(fun j w => ⟨(fun j w => ⟨(fun _ _ => trivial) j w, fun _ h => h⟩) j w, fun _ h => h⟩) j w, fun _ h => h⟩) j w, fun _ h => h⟩) j w, fun _ h => h⟩) rfl rfl (by kernel_rfl) (goes1 rfl rfl (by rw [hle.1]; simp)) (QOk.then (QOk.then QOk.body)) (fun w => q_fieldG (ft := 9) (o := 1) rfl (by kernel_rfl)) ?_
    refine o_held (i := 29) [30, 31, 32, 33] (fun j w => ⟨(fun j w => ⟨(fun j w => ⟨(fun j w => ⟨(fun j w => ⟨(fun _ _ => trivial) j w, fun _ h => h⟩) j w, fun _ h => h⟩) j w, fun _ h => h⟩) j w, fun _ h => h⟩) j w, fun _ h => h⟩) rfl rfl (by kernel_rfl) (goes1 rfl rfl (by rw [hle.1]; simp)) (QOk.then (QOk.then QOk.body)) (q_load1 rfl (by kernel_rfl) (SlG.cell (hS13.owG (i := 3) rfl) (Gle.refl _) (row_at hcl_ (c := re) (m := 2) (fun _ => rfl) (j := 1) rfl))) ?_
    refine o_pure (i := 30) (fun j w => ⟨(fun j w => ⟨(fun j w => ⟨(fun j w => ⟨(fun j w => ⟨(fun j w => ⟨(fun _ _ => trivial) j w, fun _ h => h⟩) j w, fun _ h => h⟩) j w, fun _ h => h⟩) j w, fun _ h => h⟩) j w, fun _ h => h⟩) j w, fun _ h => h⟩) rfl rfl (by kernel_rfl) (goes1 rfl rfl (by rw [hle.1]; simp)) (QOk.then (QOk.then QOk.body)) (fun w => q_str_neq (l := c7.rb) (m := cl_.2) rfl rfl hlb7.2.1 hBc.2) ?_
    refine o_pure (i := 31) (fun j w => ⟨(fun j w => ⟨(fun j w => ⟨(fun j w => ⟨(fun j w => ⟨(fun j w => ⟨(fun _ _ => trivial) j w, fun _ h => h⟩) j w, fun _ h => h⟩) j w, fun _ h => h⟩) j w, fun _ h => h⟩) j w, fun _ h => h⟩) j w, fun _ h => h⟩) rfl rfl (by kernel_rfl) (goes1 rfl rfl hg15b) (QOk.then (QOk.then QOk.body)) (fun w => q_pickF rfl (by rw [hle.1]; simp) rfl) ?_
    refine o_pure (i := 32) (fun j w => ⟨(fun j w => ⟨(fun j w => ⟨(fun j w => ⟨(fun j w => ⟨(fun j w => ⟨(fun _ _ => trivial) j w, fun _ h => h⟩) j w, fun _ h => h⟩) j w, fun _ h => h⟩) j w, fun _ h => h⟩) j w, fun _ h => h⟩) j w, fun _ h => h⟩) rfl rfl (by kernel_rfl) (goes1 rfl rfl (by rw [his]; simp only [Bool.not_eq_false', beq_iff_eq, decide_eq_decide]; omega)) (QOk.then (QOk.then QOk.body)) (fun w => q_pickT rfl hg15b rfl) ?_
    refine o_pure (i := 33) (fun j w => ⟨(fun j w => ⟨(fun j w => ⟨(fun j w => ⟨(fun j w => ⟨(fun j w => ⟨(fun _ _ => trivial) j w, fun _ h => h⟩) j w, fun _ h => h⟩) j w, fun _ h => h⟩) j w, fun _ h => h⟩) j w, fun _ h => h⟩) j w, fun _ h => h⟩) rfl rfl (by kernel_rfl) (goes0 rfl) (QOk.then (QOk.then QOk.body)) (fun w => q_pickF rfl (by rw [his]; simp only [Bool.not_eq_false', beq_iff_eq, decide_eq_decide]; omega) rfl) ?_
    refine o_done (by kernel_rfl) ?_
    refine hK12 _ _ ?_
    refine c_condF rfl (by rw [hle.2]; simp) ?_
    refine wp_skip ?_
    refine hK11 _ _ ?_
    refine wp_seq_k (fun K18 hK18 => ?_)
    refine wp_seq_k (fun K19 hK19 => ?_)
    refine wp_region_lit ?_
    refine l_q rfl rfl (q_assignI rfl) ?_
    refine l_nil ?_
    refine hK19 _ _ ?_
    refine wp_block ?_
    have hS20 := hS13.fr4; clear hS13
    have hS21 := hS20.fr7; clear hS20
    have hS22 := hS21.fr7; clear hS21
    have hS23 := hS22.fr7; clear hS22
    have hS24 : St _ _ [tb k ad cap ps, .fz g, .ow 36 2 al ((ab ps).length) cl (List.flatMap re (ab ps)), .blk b2 (.cells #[.slice of.fa of.fb.length of.fc, .slice of.ta of.tb.length of.tc, .int .i64 of.most] 65)] _ := hS23.only 4; clear hS23
    refine c_loop (τ := Nat) [(6, 6), (10, 12), (61, 89)] (fun x => (fun (i : Nat) => [(10, .int .i64 ((i : Nat) : Int))]) x) (fun x w' => (fun (i : Nat) => St w (owns [tb k ad cap ps, .fz g, .ow 36 2 al ((ab ps).length) cl (List.flatMap re (ab ps))]) [tb k ad cap ps, .fz g, .ow 36 2 al ((ab ps).length) cl (List.flatMap re (ab ps)), .blk b2 (.cells #[.slice of.fa of.fb.length of.fc, .slice of.ta of.tb.length of.tc, .int .i64 of.most] 65)] w' ∧ i ≤ (ab ps).length) x) (fun x => (fun (i : Nat) => (ab ps).length - i) x) (0) ?_ (by repeat' (first | exact trivial | refine ⟨by first | rfl | exact int_succ _ | assumption, ?_⟩)) (fun i j25 w25 hJ25 K25 hK25 => ?_)
    ·
      exact ⟨hS24, Nat.zero_le _⟩
    ·
      obtain ⟨hS25, hi⟩ := hJ25
      try dsimp only at hS25 hi ⊢
      refine wp_seq_k (fun K26 hK26 => ?_)
      refine wp_seq_k (fun K27 hK27 => ?_)
      refine wp_region_lit ?_
      refine l_q rfl rfl (q_moveI rfl) ?_
      refine l_q rfl rfl (q_moveS rfl) ?_
      refine l_q rfl rfl (q_lenSl (e := 36) rfl (by kernel_rfl)) ?_
      refine l_q rfl rfl (q_lss rfl rfl) ?_
      refine l_nil ?_
      refine hK27 _ _ ?_
      refine c_cond rfl (fun hc28 => ?_) (fun hc28 => ?_)
      ·
        have hc28b := hc28
        try simp only [decide_eq_true_eq, decide_eq_false_iff_not, Bool.not_eq_true', Bool.not_eq_false', Bool.and_eq_true, Bool.or_eq_true, Int.not_lt, Int.not_le, ne_eq, Decidable.not_not] at hc28
        refine wp_skip ?_
        refine hK26 _ _ ?_
        refine wp_seq_k (fun K29 hK29 => ?_)
        refine wp_block ?_
        refine wp_seq_k (fun K30 hK30 => ?_)
        refine wp_region_lit ?_
        refine l_q rfl rfl (q_moveP rfl) ?_
        refine l_q rfl rfl (q_moveS rfl) ?_
        refine l_q rfl rfl (q_moveI rfl) ?_
        refine l_q rfl rfl (q_ixG (e := 36) (m := 2) (j := i) rfl rfl (by kernel_rfl) (by kernel_rfl) (by first | rfl | omega) (by omega) (hS25.owG (i := 2) rfl) (by rw [rows_len (c := re) (m := 2) (fun _ => rfl)]; first | omega | (simp only [List.length_append, List.length_map, List.length_cons, List.length_nil, List.length_take, List.length_drop, List.length_set] <;> omega))) ?_
        refine l_q rfl rfl (q_fieldG (ft := 9) (o := 0) rfl (by kernel_rfl)) ?_
        obtain ⟨x31, hx31⟩ : ∃ x, ((ab ps))[i]? = some x := ⟨_, List.getElem?_eq_getElem (by first | omega | (simp only [List.length_append, List.length_map, List.length_cons, List.length_nil, List.length_take, List.length_drop, List.length_set] <;> omega) | (simp <;> omega))⟩
        refine l_q rfl rfl (q_load1 rfl (by kernel_rfl) (SlG.cell (hS25.owG (i := 2) rfl) (Gle.refl _) (row_at hx31 (c := re) (m := 2) (fun _ => rfl) (j := 0) rfl))) ?_
        have hbx := (hT.fit (List.mem_of_getElem? hx31)).2.2.1
        refine l_e rfl (fun K hK => ?_)
        refine e_convSB (e := 5) (l := x31.1) hS25 rfl (by kernel_rfl) (by kernel_rfl) (by kernel_rfl) ((KB.ofAb hT) x31 (List.mem_of_getElem? hx31)).1 (by first | omega | (simp only [maxLen, List.length_append, List.length_map, List.length_cons, List.length_nil, List.length_take, List.length_drop, List.length_set] <;> omega) | (simp only [maxLen]; omega)) (fun ad32 cp32 g32 w32 hsb32 hcp32 (hS32 : St _ _ [.fz g32, tb k ad cap ps, .fz g, .ow 36 2 al ((ab ps).length) cl (List.flatMap re (ab ps)), .blk b2 (.cells #[.slice of.fa of.fb.length of.fc, .slice of.ta of.tb.length of.tc, .int .i64 of.most] 65)] _) => ?_)
        clear hS25
        refine hK _ _ ?_; clear hK K
        refine l_e rfl (fun K hK => ?_)
        have hgb33 := getL_bytes hT x31.1
        refine e_call (by kernel_rfl) (get_ok k _ _ ps x31.1 ((KB.ofAb hT) x31 (List.mem_of_getElem? hx31)).1 (by first | omega | (simp only [List.length_append, List.length_map, List.length_cons, List.length_nil, List.length_take, List.length_drop, List.length_set] <;> omega)) x31.1.length (by first | omega | (simp only [List.length_append, List.length_map, List.length_cons, List.length_nil, List.length_take, List.length_drop, List.length_set] <;> omega)) _ _ (by first | omega | (simp only [List.length_append, List.length_map, List.length_cons, List.length_nil, List.length_take, List.length_drop, List.length_set] <;> omega)) _ (hS32.tr (i := 1) (j := 2) rfl rfl hT) (hsb32.mono (hS32.fz (i := 0) rfl))) rfl (after_N hS32 (fun v33 G33 w33 hv33 hS33 => ?_))
        clear hS32
        obtain ⟨oa33, oc33, rfl, rfl⟩ := hv33
        have hS34 : St _ _ [.ow 5 1 oa33 (((getA (ab ps) x31.1).getD []).length) oc33 (bv ((getA (ab ps) x31.1).getD [])), .fz g32, tb k ad cap ps, .fz g, .ow 36 2 al ((ab ps).length) cl (List.flatMap re (ab ps)), .blk b2 (.cells #[.slice of.fa of.fb.length of.fc, .slice of.ta of.tb.length of.tc, .int .i64 of.most] 65)] _ := hS33; clear hS33
        have hgx33 : getA (ab ps) x31.1 = some x31.2 := get_at hT.pok.srt hx31
        have hig33 : (getA (ab ps) x31.1).isSome = true := by rw [hgx33]; rfl
        refine hK _ _ ?_; clear hK K
        refine l_q rfl rfl (q_move rfl) ?_
        refine l_q rfl rfl (q_extract rfl rfl) ?_
        refine l_q rfl rfl (q_extract rfl rfl) ?_
        refine l_q rfl rfl (q_assignS rfl) ?_
        refine l_q rfl rfl (q_assignB rfl) ?_
        refine l_nil ?_
        refine hK30 _ _ ?_
        refine wp_seq_k (fun K35 hK35 => ?_)
        refine r_any (by kernel_rfl) hS34 (fun w36 hS36 => ?_)
        clear hS34
        refine o_pure (i := 0) (fun _ _ => trivial) rfl rfl (by kernel_rfl) (goes0 rfl) (QOk.then (QOk.inBlock (QOk.then (QOk.then (QOk.inBlock (QOk.then QOk.body)))))) (fun w => q_moveB rfl) ?_
        refine o_pure (i := 1) (fun _ _ => trivial) rfl rfl (by kernel_rfl) (goes0 rfl) (QOk.then (QOk.inBlock (QOk.then (QOk.then (QOk.inBlock (QOk.then QOk.body)))))) (fun w => q_not rfl) ?_
        refine o_pure (i := 2) (fun _ _ => trivial) rfl rfl (by kernel_rfl) (goes0 rfl) (QOk.then (QOk.inBlock (QOk.then (QOk.then (QOk.inBlock (QOk.then QOk.body)))))) (fun w => q_moveB rfl) ?_
        refine o_pure (i := 3) (fun _ _ => trivial) rfl rfl (by kernel_rfl) (goes1 rfl rfl (by rw [show _ = _ from hig33]; rfl)) (QOk.then (QOk.inBlock (QOk.then (QOk.then (QOk.inBlock (QOk.then QOk.body)))))) (fun w => q_moveS rfl) ?_
        refine o_held (i := 4) [10, 11] (fun _ _ => trivial) rfl rfl (by kernel_rfl) (goes1 rfl rfl (by rw [show _ = _ from hig33]; rfl)) (QOk.then (QOk.inBlock (QOk.then (QOk.then (QOk.inBlock (QOk.then QOk.body)))))) (q_convBS (l := ((getA (ab ps) x31.1).getD [])) rfl (hS36.owG (i := 0) rfl) (by first | omega | (simp only [List.length_append, List.length_map, List.length_cons, List.length_nil, List.length_take, List.length_drop, List.length_set] <;> omega)) (by kernel_rfl) (by kernel_rfl)) ?_
        refine o_pure (i := 5) (fun j w => ⟨(fun _ _ => trivial) j w, fun _ h => h⟩) rfl rfl (by kernel_rfl) (goes1 rfl rfl (by rw [show _ = _ from hig33]; rfl)) (QOk.then (QOk.inBlock (QOk.then (QOk.then (QOk.inBlock (QOk.then QOk.body)))))) (fun w => q_moveS rfl) ?_
        refine o_pure (i := 6) (fun j w => ⟨(fun _ _ => trivial) j w, fun _ h => h⟩) rfl rfl (by kernel_rfl) (goes1 rfl rfl (by rw [show _ = _ from hig33]; rfl)) (QOk.then (QOk.inBlock (QOk.then (QOk.then (QOk.inBlock (QOk.then QOk.body)))))) (fun w => q_moveI rfl) ?_
        refine o_pure (i := 7) (fun j w => ⟨(fun _ _ => trivial) j w, fun _ h => h⟩) rfl rfl (by kernel_rfl) (goes1 rfl rfl (by rw [show _ = _ from hig33]; rfl)) (QOk.then (QOk.inBlock (QOk.then (QOk.then (QOk.inBlock (QOk.then QOk.body)))))) (fun w => q_ixG (e := 36) (m := 2) (j := i) rfl rfl (by kernel_rfl) (by kernel_rfl) (by first | rfl | omega) (by omega) (hS36.owG (i := 4) rfl) (by rw [rows_len (c := re) (m := 2) (fun _ => rfl)]; first | omega | (simp only [List.length_append, List.length_map, List.length_cons, List.length_nil, List.length_take, List.length_drop, List.length_set] <;> omega))) ?_
        refine o_pure (i := 8) (fun j w => ⟨(fun _ _ => trivial) j w, fun _ h => h⟩) rfl rfl (by kernel_rfl) (goes1 rfl rfl (by rw [show _ = _ from hig33]; rfl)) (QOk.then (QOk.inBlock (QOk.then (QOk.then (QOk.inBlock (QOk.then QOk.body)))))) (fun w => q_fieldG (ft := 9) (o := 1) rfl (by kernel_rfl)) ?_
        refine o_held (i := 9) [10, 11] (fun j w => ⟨(fun _ _ => trivial) j w, fun _ h => h⟩) rfl rfl (by kernel_rfl) (goes1 rfl rfl (by rw [show _ = _ from hig33]; rfl)) (QOk.then (QOk.inBlock (QOk.then (QOk.then (QOk.inBlock (QOk.then QOk.body)))))) (q_load1 rfl (by kernel_rfl) (SlG.cell (hS36.owG (i := 4) rfl) (Gle.refl _) (row_at hx31 (c := re) (m := 2) (fun _ => rfl) (j := 1) rfl))) ?_
        refine o_pure (i := 10) (fun j w => ⟨(fun j w => ⟨(fun _ _ => trivial) j w, fun _ h => h⟩) j w, fun _ h => h⟩) rfl rfl (by kernel_rfl) (goes1 rfl rfl (by rw [show _ = _ from hig33]; rfl)) (QOk.then (QOk.inBlock (QOk.then (QOk.then (QOk.inBlock (QOk.then QOk.body)))))) (fun w => q_str_neq (l := ((getA (ab ps) x31.1).getD [])) (m := x31.2) rfl rfl hgb33.1 ((KB.ofAb hT) x31 (List.mem_of_getElem? hx31)).2) ?_
        refine o_pure (i := 11) (fun j w => ⟨(fun j w => ⟨(fun _ _ => trivial) j w, fun _ h => h⟩) j w, fun _ h => h⟩) rfl rfl (by kernel_rfl) (goes0 rfl) (QOk.then (QOk.inBlock (QOk.then (QOk.then (QOk.inBlock (QOk.then QOk.body)))))) (fun w => q_pickF rfl (by rw [show _ = _ from hig33]; rfl) rfl) ?_
        refine o_done (by kernel_rfl) ?_
        refine hK35 _ _ ?_
        refine c_condF rfl (by rw [hgx33]; simp) ?_
        refine wp_skip ?_
        refine hK29 _ _ ?_
        refine wp_region_lit ?_
        refine l_q rfl rfl (q_moveI rfl) ?_
        refine l_q rfl rfl (q_addx rfl rfl (by first | decide | omega) (by first | decide | omega)) ?_
        refine l_q rfl rfl (q_assignI rfl) ?_
        refine l_nil ?_
        have hS38 := hS36.fr5; clear hS36
        have hS39 := hS38.fr5; clear hS38
        have hS40 := hS39.fr5; clear hS39
        have hS41 := hS40.fr5; clear hS40
        have hS42 : St _ _ [tb k ad cap ps, .fz g, .ow 36 2 al ((ab ps).length) cl (List.flatMap re (ab ps)), .blk b2 (.cells #[.slice of.fa of.fb.length of.fc, .slice of.ta of.tb.length of.tc, .int .i64 of.most] 65)] _ := hS41.only 4; clear hS41
        refine hK25 _ _ (came ((i + 1)) (by repeat' (first | exact Agree.refl _ _ | refine Agree.up ?_ rfl | refine Agree.hav2 ?_ rfl | refine Agree.ups2 ?_ rfl)) (by repeat' (first | exact trivial | refine ⟨by first | rfl | exact int_succ _ | assumption, ?_⟩)) ?_)
        exact ⟨⟨hS42, (by show i + 1 ≤ (ab ps).length; omega)⟩, by (show (ab ps).length - (i + 1) < (ab ps).length - i); omega⟩
      ·
        have hc28b := hc28
        try simp only [decide_eq_true_eq, decide_eq_false_iff_not, Bool.not_eq_true', Bool.not_eq_false', Bool.and_eq_true, Bool.or_eq_true, Int.not_lt, Int.not_le, ne_eq, Decidable.not_not] at hc28
        refine wp_exit ?_
        refine hK18 _ _ ?_
        refine wp_seq_k (fun K43 hK43 => ?_)
        refine wp_region_lit ?_
        refine l_q rfl rfl (q_moveP rfl) ?_
        refine l_q rfl rfl (q_fieldAddr (ft := 23) (o := 0) rfl (by kernel_rfl)) ?_
        refine l_q rfl rfl (q_load1 rfl (by kernel_rfl) (hS25.cell (i := 3) rfl rfl)) ?_
        refine l_e rfl (fun K hK => ?_)
        have hgb44 := getL_bytes hT of.fb
        refine e_call (by kernel_rfl) (get_ok k _ _ ps of.fb hoB (by first | omega | (simp only [List.length_append, List.length_map, List.length_cons, List.length_nil, List.length_take, List.length_drop, List.length_set] <;> omega)) of.fb.length (by first | omega | (simp only [List.length_append, List.length_map, List.length_cons, List.length_nil, List.length_take, List.length_drop, List.length_set] <;> omega)) _ _ (by first | omega | (simp only [List.length_append, List.length_map, List.length_cons, List.length_nil, List.length_take, List.length_drop, List.length_set] <;> omega)) _ (hS25.tr (i := 0) (j := 1) rfl rfl hT) (hoG.mono (hgf.le hS25))) rfl (after_N hS25 (fun v44 G44 w44 hv44 hS44 => ?_))
        clear hS25
        obtain ⟨oa44, oc44, rfl, rfl⟩ := hv44
        have hS45 : St _ _ [.ow 5 1 oa44 (((getA (ab ps) of.fb).getD []).length) oc44 (bv ((getA (ab ps) of.fb).getD [])), tb k ad cap ps, .fz g, .ow 36 2 al ((ab ps).length) cl (List.flatMap re (ab ps)), .blk b2 (.cells #[.slice of.fa of.fb.length of.fc, .slice of.ta of.tb.length of.tc, .int .i64 of.most] 65)] _ := hS44; clear hS44
        refine hK _ _ ?_; clear hK K
        refine l_q rfl rfl (q_move rfl) ?_
        refine l_q rfl rfl (q_extract rfl rfl) ?_
        refine l_q rfl rfl (q_extract rfl rfl) ?_
        refine l_q rfl rfl (q_assignS rfl) ?_
        refine l_q rfl rfl (q_assignB rfl) ?_
        refine l_nil ?_
        refine hK43 _ _ ?_
        refine wp_seq_k (fun K46 hK46 => ?_)
        refine wp_region_lit ?_
        refine l_q rfl rfl (q_moveB rfl) ?_
        refine l_q rfl rfl (q_moveS rfl) ?_
        refine l_q rfl rfl (q_fieldAddr (ft := 23) (o := 0) rfl (by kernel_rfl)) ?_
        refine l_q rfl rfl (q_load1 rfl (by kernel_rfl) (hS45.cell (i := 4) rfl rfl)) ?_
        refine l_q rfl rfl (q_convBS (l := of.fb) rfl (hoG.mono (hgf.le hS45)) (by first | omega | (simp only [List.length_append, List.length_map, List.length_cons, List.length_nil, List.length_take, List.length_drop, List.length_set] <;> omega)) (by kernel_rfl) (by kernel_rfl)) ?_
        refine l_e rfl (fun K hK => ?_)
        refine e_call (by kernel_rfl) (rfind_ok (ab ps) (KB.ofAb hT) (by first | omega | (simp only [List.length_append, List.length_map, List.length_cons, List.length_nil, List.length_take, List.length_drop, List.length_set] <;> omega)) _ _ of.fb hoB _ (hS45.owG (i := 3) rfl)) rfl (after_R hS45 (fun v47 w47 hv47 hS47 => ?_))
        clear hS45
        obtain ⟨z47, rfl, hz47⟩ := hv47
        have hfi := hz47.is
        refine hK _ _ ?_; clear hK K
        refine l_q rfl rfl (q_geq rfl rfl) ?_
        refine l_q rfl rfl (q_bool_eql rfl rfl (by kernel_rfl)) ?_
        refine l_q rfl rfl (q_assignB rfl) ?_
        refine l_nil ?_
        refine hK46 _ _ ?_
        refine wp_ret ?_
        refine c_ret1 rfl rfl ?_
        have hS48 := hS47.fr3; clear hS47
        have hS49 := hS48.fr3; clear hS48
        have hS50 := hS49.fr3; clear hS49
        have hS51 : St _ _ [tb k ad cap ps, .fz g, .ow 36 2 al ((ab ps).length) cl (List.flatMap re (ab ps))] _ := hS50.only 3; clear hS50
        exact ⟨_, _, rfl, ⟨congrArg Value.bool (by rw [hfi]; simp), rfl⟩, hS51⟩
  ·
    have hg15b := hg15
    try simp only [decide_eq_true_eq, decide_eq_false_iff_not, Bool.not_eq_true', Bool.not_eq_false', Bool.and_eq_true, Bool.or_eq_true, Int.not_lt, Int.not_le, ne_eq, Decidable.not_not] at hg15
    refine o_off (i := 8) (fun _ _ => trivial) rfl rfl (by kernel_rfl) rfl rfl hg15b (QOk.then (QOk.then QOk.body)) ?_
    refine o_off (i := 9) (fun _ _ => trivial) rfl rfl (by kernel_rfl) rfl rfl hg15b (QOk.then (QOk.then QOk.body)) ?_
    refine o_off (i := 10) (fun _ _ => trivial) rfl rfl (by kernel_rfl) rfl rfl hg15b (QOk.then (QOk.then QOk.body)) ?_
    refine o_off (i := 11) (fun _ _ => trivial) rfl rfl (by kernel_rfl) rfl rfl hg15b (QOk.then (QOk.then QOk.body)) ?_
    refine o_off (i := 12) (fun _ _ => trivial) rfl rfl (by kernel_rfl) rfl rfl hg15b (QOk.then (QOk.then QOk.body)) ?_
    refine o_off (i := 13) (fun _ _ => trivial) rfl rfl (by kernel_rfl) rfl rfl hg15b (QOk.then (QOk.then QOk.body)) ?_
    refine o_off (i := 14) (fun _ _ => trivial) rfl rfl (by kernel_rfl) rfl rfl hg15b (QOk.then (QOk.then QOk.body)) ?_
    refine o_off (i := 15) (fun _ _ => trivial) rfl rfl (by kernel_rfl) rfl rfl hg15b (QOk.then (QOk.then QOk.body)) ?_
    refine o_off (i := 16) (fun _ _ => trivial) rfl rfl (by kernel_rfl) rfl rfl hg15b (QOk.then (QOk.then QOk.body)) ?_
    refine o_off (i := 17) (fun _ _ => trivial) rfl rfl (by kernel_rfl) rfl rfl hg15b (QOk.then (QOk.then QOk.body)) ?_
    refine o_off (i := 18) (fun _ _ => trivial) rfl rfl (by kernel_rfl) rfl rfl hg15b (QOk.then (QOk.then QOk.body)) ?_
    refine o_off (i := 19) (fun _ _ => trivial) rfl rfl (by kernel_rfl) rfl rfl hg15b (QOk.then (QOk.then QOk.body)) ?_
    refine o_offN (i := 20) (fun _ _ => trivial) rfl rfl (by kernel_rfl) rfl rfl (QOk.then (QOk.then QOk.body)) ?_
    refine o_offN (i := 21) (fun _ _ => trivial) rfl rfl (by kernel_rfl) rfl rfl (QOk.then (QOk.then QOk.body)) ?_
    refine o_offN (i := 22) (fun _ _ => trivial) rfl rfl (by kernel_rfl) rfl rfl (QOk.then (QOk.then QOk.body)) ?_
    refine o_offN (i := 23) (fun _ _ => trivial) rfl rfl (by kernel_rfl) rfl rfl (QOk.then (QOk.then QOk.body)) ?_
    refine o_offN (i := 24) (fun _ _ => trivial) rfl rfl (by kernel_rfl) rfl rfl (QOk.then (QOk.then QOk.body)) ?_
    refine o_offN (i := 25) (fun _ _ => trivial) rfl rfl (by kernel_rfl) rfl rfl (QOk.then (QOk.then QOk.body)) ?_
    refine o_offN (i := 26) (fun _ _ => trivial) rfl rfl (by kernel_rfl) rfl rfl (QOk.then (QOk.then QOk.body)) ?_
    refine o_offN (i := 27) (fun _ _ => trivial) rfl rfl (by kernel_rfl) rfl rfl (QOk.then (QOk.then QOk.body)) ?_
    refine o_offN (i := 28) (fun _ _ => trivial) rfl rfl (by kernel_rfl) rfl rfl (QOk.then (QOk.then QOk.body)) ?_
    refine o_offN (i := 29) (fun _ _ => trivial) rfl rfl (by kernel_rfl) rfl rfl (QOk.then (QOk.then QOk.body)) ?_
    refine o_offN (i := 30) (fun _ _ => trivial) rfl rfl (by kernel_rfl) rfl rfl (QOk.then (QOk.then QOk.body)) ?_
    refine o_off (i := 31) (fun _ _ => trivial) rfl rfl (by kernel_rfl) rfl rfl hg15b (QOk.then (QOk.then QOk.body)) ?_
    refine o_pure (i := 32) (fun _ _ => trivial) rfl rfl (by kernel_rfl) (goes1 rfl rfl (by rw [his]; simp only [Bool.not_eq_false', beq_iff_eq, decide_eq_decide]; omega)) (QOk.then (QOk.then QOk.body)) (fun w => q_pickF rfl hg15b rfl) ?_
    refine o_pure (i := 33) (fun _ _ => trivial) rfl rfl (by kernel_rfl) (goes0 rfl) (QOk.then (QOk.then QOk.body)) (fun w => q_pickF rfl (by rw [his]; simp only [Bool.not_eq_false', beq_iff_eq, decide_eq_decide]; omega) rfl) ?_
    refine o_done (by kernel_rfl) ?_
    refine hK12 _ _ ?_
    refine c_condF rfl rfl ?_
    refine wp_skip ?_
    refine hK11 _ _ ?_
    refine wp_seq_k (fun K53 hK53 => ?_)
    refine wp_seq_k (fun K54 hK54 => ?_)
    refine wp_region_lit ?_
    refine l_q rfl rfl (q_assignI rfl) ?_
    refine l_nil ?_
    refine hK54 _ _ ?_
    refine wp_block ?_
    have hS55 := hS13.fr4; clear hS13
    have hS56 := hS55.fr7; clear hS55
    have hS57 := hS56.fr7; clear hS56
    have hS58 := hS57.fr7; clear hS57
    have hS59 : St _ _ [tb k ad cap ps, .fz g, .ow 36 2 al ((ab ps).length) cl (List.flatMap re (ab ps)), .blk b2 (.cells #[.slice of.fa of.fb.length of.fc, .slice of.ta of.tb.length of.tc, .int .i64 of.most] 65)] _ := hS58.only 4; clear hS58
    refine c_loop (τ := Nat) [(6, 6), (10, 12), (61, 89)] (fun x => (fun (i : Nat) => [(10, .int .i64 ((i : Nat) : Int))]) x) (fun x w' => (fun (i : Nat) => St w (owns [tb k ad cap ps, .fz g, .ow 36 2 al ((ab ps).length) cl (List.flatMap re (ab ps))]) [tb k ad cap ps, .fz g, .ow 36 2 al ((ab ps).length) cl (List.flatMap re (ab ps)), .blk b2 (.cells #[.slice of.fa of.fb.length of.fc, .slice of.ta of.tb.length of.tc, .int .i64 of.most] 65)] w' ∧ i ≤ (ab ps).length) x) (fun x => (fun (i : Nat) => (ab ps).length - i) x) (0) ?_ (by repeat' (first | exact trivial | refine ⟨by first | rfl | exact int_succ _ | assumption, ?_⟩)) (fun i j60 w60 hJ60 K60 hK60 => ?_)
    ·
      exact ⟨hS59, Nat.zero_le _⟩
    ·
      obtain ⟨hS60, hi⟩ := hJ60
      try dsimp only at hS60 hi ⊢
      refine wp_seq_k (fun K61 hK61 => ?_)
      refine wp_seq_k (fun K62 hK62 => ?_)
      refine wp_region_lit ?_
      refine l_q rfl rfl (q_moveI rfl) ?_
      refine l_q rfl rfl (q_moveS rfl) ?_
      refine l_q rfl rfl (q_lenSl (e := 36) rfl (by kernel_rfl)) ?_
      refine l_q rfl rfl (q_lss rfl rfl) ?_
      refine l_nil ?_
      refine hK62 _ _ ?_
      refine c_cond rfl (fun hc63 => ?_) (fun hc63 => ?_)
      ·
        have hc63b := hc63
        try simp only [decide_eq_true_eq, decide_eq_false_iff_not, Bool.not_eq_true', Bool.not_eq_false', Bool.and_eq_true, Bool.or_eq_true, Int.not_lt, Int.not_le, ne_eq, Decidable.not_not] at hc63
        refine wp_skip ?_
        refine hK61 _ _ ?_
        refine wp_seq_k (fun K64 hK64 => ?_)
        refine wp_block ?_
        refine wp_seq_k (fun K65 hK65 => ?_)
        refine wp_region_lit ?_
        refine l_q rfl rfl (q_moveP rfl) ?_
        refine l_q rfl rfl (q_moveS rfl) ?_
        refine l_q rfl rfl (q_moveI rfl) ?_
        refine l_q rfl rfl (q_ixG (e := 36) (m := 2) (j := i) rfl rfl (by kernel_rfl) (by kernel_rfl) (by first | rfl | omega) (by omega) (hS60.owG (i := 2) rfl) (by rw [rows_len (c := re) (m := 2) (fun _ => rfl)]; first | omega | (simp only [List.length_append, List.length_map, List.length_cons, List.length_nil, List.length_take, List.length_drop, List.length_set] <;> omega))) ?_
        refine l_q rfl rfl (q_fieldG (ft := 9) (o := 0) rfl (by kernel_rfl)) ?_
        obtain ⟨x66, hx66⟩ : ∃ x, ((ab ps))[i]? = some x := ⟨_, List.getElem?_eq_getElem (by first | omega | (simp only [List.length_append, List.length_map, List.length_cons, List.length_nil, List.length_take, List.length_drop, List.length_set] <;> omega) | (simp <;> omega))⟩
        refine l_q rfl rfl (q_load1 rfl (by kernel_rfl) (SlG.cell (hS60.owG (i := 2) rfl) (Gle.refl _) (row_at hx66 (c := re) (m := 2) (fun _ => rfl) (j := 0) rfl))) ?_
        have hbx := (hT.fit (List.mem_of_getElem? hx66)).2.2.1
        refine l_e rfl (fun K hK => ?_)
        refine e_convSB (e := 5) (l := x66.1) hS60 rfl (by kernel_rfl) (by kernel_rfl) (by kernel_rfl) ((KB.ofAb hT) x66 (List.mem_of_getElem? hx66)).1 (by first | omega | (simp only [maxLen, List.length_append, List.length_map, List.length_cons, List.length_nil, List.length_take, List.length_drop, List.length_set] <;> omega) | (simp only [maxLen]; omega)) (fun ad67 cp67 g67 w67 hsb67 hcp67 (hS67 : St _ _ [.fz g67, tb k ad cap ps, .fz g, .ow 36 2 al ((ab ps).length) cl (List.flatMap re (ab ps)), .blk b2 (.cells #[.slice of.fa of.fb.length of.fc, .slice of.ta of.tb.length of.tc, .int .i64 of.most] 65)] _) => ?_)
        clear hS60
        refine hK _ _ ?_; clear hK K
        refine l_e rfl (fun K hK => ?_)
        have hgb68 := getL_bytes hT x66.1
        refine e_call (by kernel_rfl) (get_ok k _ _ ps x66.1 ((KB.ofAb hT) x66 (List.mem_of_getElem? hx66)).1 (by first | omega | (simp only [List.length_append, List.length_map, List.length_cons, List.length_nil, List.length_take, List.length_drop, List.length_set] <;> omega)) x66.1.length (by first | omega | (simp only [List.length_append, List.length_map, List.length_cons, List.length_nil, List.length_take, List.length_drop, List.length_set] <;> omega)) _ _ (by first | omega | (simp only [List.length_append, List.length_map, List.length_cons, List.length_nil, List.length_take, List.length_drop, List.length_set] <;> omega)) _ (hS67.tr (i := 1) (j := 2) rfl rfl hT) (hsb67.mono (hS67.fz (i := 0) rfl))) rfl (after_N hS67 (fun v68 G68 w68 hv68 hS68 => ?_))
        clear hS67
        obtain ⟨oa68, oc68, rfl, rfl⟩ := hv68
        have hS69 : St _ _ [.ow 5 1 oa68 (((getA (ab ps) x66.1).getD []).length) oc68 (bv ((getA (ab ps) x66.1).getD [])), .fz g67, tb k ad cap ps, .fz g, .ow 36 2 al ((ab ps).length) cl (List.flatMap re (ab ps)), .blk b2 (.cells #[.slice of.fa of.fb.length of.fc, .slice of.ta of.tb.length of.tc, .int .i64 of.most] 65)] _ := hS68; clear hS68
        have hgx68 : getA (ab ps) x66.1 = some x66.2 := get_at hT.pok.srt hx66
        have hig68 : (getA (ab ps) x66.1).isSome = true := by rw [hgx68]; rfl
        refine hK _ _ ?_; clear hK K
        refine l_q rfl rfl (q_move rfl) ?_
        refine l_q rfl rfl (q_extract rfl rfl) ?_
        refine l_q rfl rfl (q_extract rfl rfl) ?_
        refine l_q rfl rfl (q_assignS rfl) ?_
        refine l_q rfl rfl (q_assignB rfl) ?_
        refine l_nil ?_
        refine hK65 _ _ ?_
        refine wp_seq_k (fun K70 hK70 => ?_)
        refine r_any (by kernel_rfl) hS69 (fun w71 hS71 => ?_)
        clear hS69
        refine o_pure (i := 0) (fun _ _ => trivial) rfl rfl (by kernel_rfl) (goes0 rfl) (QOk.then (QOk.inBlock (QOk.then (QOk.then (QOk.inBlock (QOk.then QOk.body)))))) (fun w => q_moveB rfl) ?_
        refine o_pure (i := 1) (fun _ _ => trivial) rfl rfl (by kernel_rfl) (goes0 rfl) (QOk.then (QOk.inBlock (QOk.then (QOk.then (QOk.inBlock (QOk.then QOk.body)))))) (fun w => q_not rfl) ?_
        refine o_pure (i := 2) (fun _ _ => trivial) rfl rfl (by kernel_rfl) (goes0 rfl) (QOk.then (QOk.inBlock (QOk.then (QOk.then (QOk.inBlock (QOk.then QOk.body)))))) (fun w => q_moveB rfl) ?_
        refine o_pure (i := 3) (fun _ _ => trivial) rfl rfl (by kernel_rfl) (goes1 rfl rfl (by rw [show _ = _ from hig68]; rfl)) (QOk.then (QOk.inBlock (QOk.then (QOk.then (QOk.inBlock (QOk.then QOk.body)))))) (fun w => q_moveS rfl) ?_
        refine o_held (i := 4) [10, 11] (fun _ _ => trivial) rfl rfl (by kernel_rfl) (goes1 rfl rfl (by rw [show _ = _ from hig68]; rfl)) (QOk.then (QOk.inBlock (QOk.then (QOk.then (QOk.inBlock (QOk.then QOk.body)))))) (q_convBS (l := ((getA (ab ps) x66.1).getD [])) rfl (hS71.owG (i := 0) rfl) (by first | omega | (simp only [List.length_append, List.length_map, List.length_cons, List.length_nil, List.length_take, List.length_drop, List.length_set] <;> omega)) (by kernel_rfl) (by kernel_rfl)) ?_
        refine o_pure (i := 5) (fun j w => ⟨(fun _ _ => trivial) j w, fun _ h => h⟩) rfl rfl (by kernel_rfl) (goes1 rfl rfl (by rw [show _ = _ from hig68]; rfl)) (QOk.then (QOk.inBlock (QOk.then (QOk.then (QOk.inBlock (QOk.then QOk.body)))))) (fun w => q_moveS rfl) ?_
        refine o_pure (i := 6) (fun j w => ⟨(fun _ _ => trivial) j w, fun _ h => h⟩) rfl rfl (by kernel_rfl) (goes1 rfl rfl (by rw [show _ = _ from hig68]; rfl)) (QOk.then (QOk.inBlock (QOk.then (QOk.then (QOk.inBlock (QOk.then QOk.body)))))) (fun w => q_moveI rfl) ?_
        refine o_pure (i := 7) (fun j w => ⟨(fun _ _ => trivial) j w, fun _ h => h⟩) rfl rfl (by kernel_rfl) (goes1 rfl rfl (by rw [show _ = _ from hig68]; rfl)) (QOk.then (QOk.inBlock (QOk.then (QOk.then (QOk.inBlock (QOk.then QOk.body)))))) (fun w => q_ixG (e := 36) (m := 2) (j := i) rfl rfl (by kernel_rfl) (by kernel_rfl) (by first | rfl | omega) (by omega) (hS71.owG (i := 4) rfl) (by rw [rows_len (c := re) (m := 2) (fun _ => rfl)]; first | omega | (simp only [List.length_append, List.length_map, List.length_cons, List.length_nil, List.length_take, List.length_drop, List.length_set] <;> omega))) ?_
        refine o_pure (i := 8) (fun j w => ⟨(fun _ _ => trivial) j w, fun _ h => h⟩) rfl rfl (by kernel_rfl) (goes1 rfl rfl (by rw [show _ = _ from hig68]; rfl)) (QOk.then (QOk.inBlock (QOk.then (QOk.then (QOk.inBlock (QOk.then QOk.body)))))) (fun w => q_fieldG (ft := 9) (o := 1) rfl (by kernel_rfl)) ?_
        refine o_held (i := 9) [10, 11] (fun j w => ⟨(fun _ _ => trivial) j w, fun _ h => h⟩) rfl rfl (by kernel_rfl) (goes1 rfl rfl (by rw [show _ = _ from hig68]; rfl)) (QOk.then (QOk.inBlock (QOk.then (QOk.then (QOk.inBlock (QOk.then QOk.body)))))) (q_load1 rfl (by kernel_rfl) (SlG.cell (hS71.owG (i := 4) rfl) (Gle.refl _) (row_at hx66 (c := re) (m := 2) (fun _ => rfl) (j := 1) rfl))) ?_
        refine o_pure (i := 10) (fun j w => ⟨(fun j w => ⟨(fun _ _ => trivial) j w, fun _ h => h⟩) j w, fun _ h => h⟩) rfl rfl (by kernel_rfl) (goes1 rfl rfl (by rw [show _ = _ from hig68]; rfl)) (QOk.then (QOk.inBlock (QOk.then (QOk.then (QOk.inBlock (QOk.then QOk.body)))))) (fun w => q_str_neq (l := ((getA (ab ps) x66.1).getD [])) (m := x66.2) rfl rfl hgb68.1 ((KB.ofAb hT) x66 (List.mem_of_getElem? hx66)).2) ?_
        refine o_pure (i := 11) (fun j w => ⟨(fun j w => ⟨(fun _ _ => trivial) j w, fun _ h => h⟩) j w, fun _ h => h⟩) rfl rfl (by kernel_rfl) (goes0 rfl) (QOk.then (QOk.inBlock (QOk.then (QOk.then (QOk.inBlock (QOk.then QOk.body)))))) (fun w => q_pickF rfl (by rw [show _ = _ from hig68]; rfl) rfl) ?_
        refine o_done (by kernel_rfl) ?_
        refine hK70 _ _ ?_
        refine c_condF rfl (by rw [hgx68]; simp) ?_
        refine wp_skip ?_
        refine hK64 _ _ ?_
        refine wp_region_lit ?_
        refine l_q rfl rfl (q_moveI rfl) ?_
        refine l_q rfl rfl (q_addx rfl rfl (by first | decide | omega) (by first | decide | omega)) ?_
        refine l_q rfl rfl (q_assignI rfl) ?_
        refine l_nil ?_
        have hS73 := hS71.fr5; clear hS71
        have hS74 := hS73.fr5; clear hS73
        have hS75 := hS74.fr5; clear hS74
        have hS76 := hS75.fr5; clear hS75
        have hS77 : St _ _ [tb k ad cap ps, .fz g, .ow 36 2 al ((ab ps).length) cl (List.flatMap re (ab ps)), .blk b2 (.cells #[.slice of.fa of.fb.length of.fc, .slice of.ta of.tb.length of.tc, .int .i64 of.most] 65)] _ := hS76.only 4; clear hS76
        refine hK60 _ _ (came ((i + 1)) (by repeat' (first | exact Agree.refl _ _ | refine Agree.up ?_ rfl | refine Agree.hav2 ?_ rfl | refine Agree.ups2 ?_ rfl)) (by repeat' (first | exact trivial | refine ⟨by first | rfl | exact int_succ _ | assumption, ?_⟩)) ?_)
        exact ⟨⟨hS77, (by show i + 1 ≤ (ab ps).length; omega)⟩, by (show (ab ps).length - (i + 1) < (ab ps).length - i); omega⟩
      ·
        have hc63b := hc63
        try simp only [decide_eq_true_eq, decide_eq_false_iff_not, Bool.not_eq_true', Bool.not_eq_false', Bool.and_eq_true, Bool.or_eq_true, Int.not_lt, Int.not_le, ne_eq, Decidable.not_not] at hc63
        refine wp_exit ?_
        refine hK53 _ _ ?_
        refine wp_seq_k (fun K78 hK78 => ?_)
        refine wp_region_lit ?_
        refine l_q rfl rfl (q_moveP rfl) ?_
        refine l_q rfl rfl (q_fieldAddr (ft := 23) (o := 0) rfl (by kernel_rfl)) ?_
        refine l_q rfl rfl (q_load1 rfl (by kernel_rfl) (hS60.cell (i := 3) rfl rfl)) ?_
        refine l_e rfl (fun K hK => ?_)
        have hgb79 := getL_bytes hT of.fb
        refine e_call (by kernel_rfl) (get_ok k _ _ ps of.fb hoB (by first | omega | (simp only [List.length_append, List.length_map, List.length_cons, List.length_nil, List.length_take, List.length_drop, List.length_set] <;> omega)) of.fb.length (by first | omega | (simp only [List.length_append, List.length_map, List.length_cons, List.length_nil, List.length_take, List.length_drop, List.length_set] <;> omega)) _ _ (by first | omega | (simp only [List.length_append, List.length_map, List.length_cons, List.length_nil, List.length_take, List.length_drop, List.length_set] <;> omega)) _ (hS60.tr (i := 0) (j := 1) rfl rfl hT) (hoG.mono (hgf.le hS60))) rfl (after_N hS60 (fun v79 G79 w79 hv79 hS79 => ?_))
        clear hS60
        obtain ⟨oa79, oc79, rfl, rfl⟩ := hv79
        have hS80 : St _ _ [.ow 5 1 oa79 (((getA (ab ps) of.fb).getD []).length) oc79 (bv ((getA (ab ps) of.fb).getD [])), tb k ad cap ps, .fz g, .ow 36 2 al ((ab ps).length) cl (List.flatMap re (ab ps)), .blk b2 (.cells #[.slice of.fa of.fb.length of.fc, .slice of.ta of.tb.length of.tc, .int .i64 of.most] 65)] _ := hS79; clear hS79
        refine hK _ _ ?_; clear hK K
        refine l_q rfl rfl (q_move rfl) ?_
        refine l_q rfl rfl (q_extract rfl rfl) ?_
        refine l_q rfl rfl (q_extract rfl rfl) ?_
        refine l_q rfl rfl (q_assignS rfl) ?_
        refine l_q rfl rfl (q_assignB rfl) ?_
        refine l_nil ?_
        refine hK78 _ _ ?_
        refine wp_seq_k (fun K81 hK81 => ?_)
        refine wp_region_lit ?_
        refine l_q rfl rfl (q_moveB rfl) ?_
        refine l_q rfl rfl (q_moveS rfl) ?_
        refine l_q rfl rfl (q_fieldAddr (ft := 23) (o := 0) rfl (by kernel_rfl)) ?_
        refine l_q rfl rfl (q_load1 rfl (by kernel_rfl) (hS80.cell (i := 4) rfl rfl)) ?_
        refine l_q rfl rfl (q_convBS (l := of.fb) rfl (hoG.mono (hgf.le hS80)) (by first | omega | (simp only [List.length_append, List.length_map, List.length_cons, List.length_nil, List.length_take, List.length_drop, List.length_set] <;> omega)) (by kernel_rfl) (by kernel_rfl)) ?_
        refine l_e rfl (fun K hK => ?_)
        refine e_call (by kernel_rfl) (rfind_ok (ab ps) (KB.ofAb hT) (by first | omega | (simp only [List.length_append, List.length_map, List.length_cons, List.length_nil, List.length_take, List.length_drop, List.length_set] <;> omega)) _ _ of.fb hoB _ (hS80.owG (i := 3) rfl)) rfl (after_R hS80 (fun v82 w82 hv82 hS82 => ?_))
        clear hS80
        obtain ⟨z82, rfl, hz82⟩ := hv82
        have hfi := hz82.is
        refine hK _ _ ?_; clear hK K
        refine l_q rfl rfl (q_geq rfl rfl) ?_
        refine l_q rfl rfl (q_bool_eql rfl rfl (by kernel_rfl)) ?_
        refine l_q rfl rfl (q_assignB rfl) ?_
        refine l_nil ?_
        refine hK81 _ _ ?_
        refine wp_ret ?_
        refine c_ret1 rfl rfl ?_
        have hS83 := hS82.fr3; clear hS82
        have hS84 := hS83.fr3; clear hS83
        have hS85 := hS84.fr3; clear hS84
        have hS86 : St _ _ [tb k ad cap ps, .fz g, .ow 36 2 al ((ab ps).length) cl (List.flatMap re (ab ps))] _ := hS85.only 3; clear hS85
        exact ⟨_, _, rfl, ⟨congrArg Value.bool (by rw [hfi]; simp), rfl⟩, hS86⟩

end Go.Proofs.Ytmbbkliekgiolaa
